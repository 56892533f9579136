/- Feasible, of the program and of the reference. No condition. -/
import Derived.Test.YtjoclfenghenjaaGreatReason
import Derived.Test.YtjoclfenghenjaaGreatSums0
import Derived.Test.YtjoclfenghenjaaGreatToFlat
namespace Go.Proofs.YtjoclfenghenjaaGreat
open Go.ChangeShapes Go.WideShapes Go.ChangeAt Go.RowKit
set_option linter.unusedVariables false
set_option linter.unusedSimpArgs false

def feasP (x : Cluster) (p : Pod) (h : Host) : Bool := reasonR h.name x p == 0
/-- the names of the hosts that a pod fits on -/
def feasL (x : Cluster) (p : Pod) (hs : List Host) : List ByteArray := (hs.filter (feasP x p)).map Host.name
theorem feasL_yes {x : Cluster} {p : Pod} {hs : List Host} {k : Nat} (h : k < hs.length) (hp : feasP x p hs[k] = true) : feasL x p (hs.take (k + 1)) = feasL x p (hs.take k) ++ [hs[k].name] := by
  unfold feasL; rw [List.take_succ_eq_append_getElem h, List.filter_append, List.map_append]; simp [hp]
theorem feasL_no {x : Cluster} {p : Pod} {hs : List Host} {k : Nat} (h : k < hs.length) (hp : feasP x p hs[k] = false) : feasL x p (hs.take (k + 1)) = feasL x p (hs.take k) := by
  unfold feasL; rw [List.take_succ_eq_append_getElem h, List.filter_append, List.map_append]; simp [hp]
theorem feasL_len (x : Cluster) (p : Pod) (hs : List Host) : (feasL x p hs).length ≤ hs.length := by unfold feasL; rw [List.length_map]; exact List.length_filter_le _ _
theorem feasL_take (x : Cluster) (p : Pod) (hs : List Host) (k : Nat) : (feasL x p (hs.take k)).length ≤ k := Nat.le_trans (feasL_len _ _ _) (by rw [List.length_take]; omega)
theorem OwnCells.strw {w : World} {B : Nat} {xs : List ByteArray} {ds : List Value} {s : ByteArray} (h : OwnCells w B xs ds []) (hs : (s.size : Int) ≤ 9223372036854775807) : OwnCells w B (xs ++ [s]) (ds ++ [.string s]) [] :=
  ⟨h.rd.append (.single (rdStr w s hs)), List.nodup_nil, (fun b hb => by cases hb), (fun b hb => by cases hb)⟩
set_option maxRecDepth 100000 in
set_option maxHeartbeats 4000000 in
theorem Feasible_impl (x : Cluster) (p : Pod) (cs ps : List Value) (F G : List Nat) (w : World) (h : rd w x cs F) (h' : rd w p ps G) (hw : (x.wt : Int) ≤ 1048576) (hw' : (p.wt : Int) ≤ 1048576) :
    Calls Tryz.prog 62 #[.agg cs.toArray, .agg ps.toArray] w fun e w' => ∃ A c G, e = .returned (.slice A (feasL x p x.hosts).length c) ∧ Own w' w.heap.size (feasL x p x.hosts) [.slice A (feasL x p x.hosts).length c] G ∧ Below w.heap.size w w' := by
  have hwx : x.wt = wtL Host.wt x.hosts + wtL Placed.wt x.pods := rfl
  have hlen : (x.hosts.length : Int) ≤ 1048576 := by have := wtL_len Host.wt x.hosts; omega
  have HW := Lib.hid hw
  have HWP := Lib.hid hw'
  clear hw hw' hwx
  have hr := h
  have hr' := h'
  obtain ⟨Ahosts, chosts, Fhosts, Apods, cpods, Fpods, hck, hF, hhosts, hpods, hnext, hweightspack, hweightsspread, hweightssoft⟩ := rd_Cluster hr
  obtain ⟨Alabels2, clabels2, Flabels2, Aneeds2, cneeds2, Fneeds2, Atolerances2, ctolerances2, Ftolerances2, hck2, hG, hname2, hlabels2, hcpu2, hmem2, hrank2, hneeds2, htolerances2⟩ := rd_Pod hr'
  subst hck hck2
  clear hF hG hr hr'
  go_enter Tryz.func62, Tryz.ntmps62
  go_wp2_with fail
  obtain ⟨w0, hw0⟩ : ∃ w0, (w.alloc (.cells #[.slice Ahosts x.hosts.length chosts, .slice Apods x.pods.length cpods, .int .i64 x.next, .int .i64 x.weights.pack, .int .i64 x.weights.spread, .int .i64 x.weights.soft] 33)).alloc (.cells #[.string p.name, .slice Alabels2 p.labels.length clabels2, .int .i64 p.cpu, .int .i64 p.mem, .int .i64 p.rank, .slice Aneeds2 p.needs.length cneeds2, .slice Atolerances2 p.tolerances.length ctolerances2] 55) = w0 := ⟨_, rfl⟩
  try rw [hw0]
  have c0 : w0.cell? ⟨w.heap.size, 0, none⟩ = some (.slice Ahosts x.hosts.length chosts) := by rw [← hw0, World.cell?_of_block (heap_alloc_old _ _ (by simp)), cell_of_row _ _ _ _ _ _ (heap_alloc_new w _)]; rfl
  have c1 : w0.cell? ⟨w.heap.size, 1, none⟩ = some (.slice Apods x.pods.length cpods) := by rw [← hw0, World.cell?_of_block (heap_alloc_old _ _ (by simp)), cell_of_row _ _ _ _ _ _ (heap_alloc_new w _)]; rfl
  have c2 : w0.cell? ⟨w.heap.size, 2, none⟩ = some (.int .i64 x.next) := by rw [← hw0, World.cell?_of_block (heap_alloc_old _ _ (by simp)), cell_of_row _ _ _ _ _ _ (heap_alloc_new w _)]; rfl
  have c3 : w0.cell? ⟨w.heap.size, 3, none⟩ = some (.int .i64 x.weights.pack) := by rw [← hw0, World.cell?_of_block (heap_alloc_old _ _ (by simp)), cell_of_row _ _ _ _ _ _ (heap_alloc_new w _)]; rfl
  have c4 : w0.cell? ⟨w.heap.size, 4, none⟩ = some (.int .i64 x.weights.spread) := by rw [← hw0, World.cell?_of_block (heap_alloc_old _ _ (by simp)), cell_of_row _ _ _ _ _ _ (heap_alloc_new w _)]; rfl
  have c5 : w0.cell? ⟨w.heap.size, 5, none⟩ = some (.int .i64 x.weights.soft) := by rw [← hw0, World.cell?_of_block (heap_alloc_old _ _ (by simp)), cell_of_row _ _ _ _ _ _ (heap_alloc_new w _)]; rfl
  have d0 : w0.cell? ⟨w.heap.size + 1, 0, none⟩ = some (.string p.name) := by rw [← hw0]; simp
  have d1 : w0.cell? ⟨w.heap.size + 1, 1, none⟩ = some (.slice Alabels2 p.labels.length clabels2) := by rw [← hw0]; simp
  have d2 : w0.cell? ⟨w.heap.size + 1, 2, none⟩ = some (.int .i64 p.cpu) := by rw [← hw0]; simp
  have d3 : w0.cell? ⟨w.heap.size + 1, 3, none⟩ = some (.int .i64 p.mem) := by rw [← hw0]; simp
  have d4 : w0.cell? ⟨w.heap.size + 1, 4, none⟩ = some (.int .i64 p.rank) := by rw [← hw0]; simp
  have d5 : w0.cell? ⟨w.heap.size + 1, 5, none⟩ = some (.slice Aneeds2 p.needs.length cneeds2) := by rw [← hw0]; simp
  have d6 : w0.cell? ⟨w.heap.size + 1, 6, none⟩ = some (.slice Atolerances2 p.tolerances.length ctolerances2) := by rw [← hw0]; simp
  have hB0 : Below w.heap.size w w0 := by rw [← hw0]; exact ext_alloc (ext_alloc (ext_refl _) _) _
  have hs0 : w0.heap.size = w.heap.size + 1 + 1 := by rw [← hw0]; simp
  have hz0 : w.heap.size < w0.heap.size := by omega
  have hz1 : w.heap.size + 1 < w0.heap.size := by omega
  have HS0 := Lib.hid hs0
  clear hw0 hs0
  go_loopw [5, 12] (fun v i wr => ∃ (k : Nat) (ds : List Value), k ≤ x.hosts.length ∧ i = .int .i64 k ∧ wr.ownsRow w0.heap.size 9 1 v (feasL x p (x.hosts.take k)).length ds ∧ OwnCells w w0.heap.size (feasL x p (x.hosts.take k)) ds [] ∧ Below w0.heap.size w0 wr) (fun _ i _ => x.hosts.length - (intOf i).toNat)
  case atStart =>
    refine ⟨0, [], Nat.zero_le _, rfl, ?_, OwnCells.nil _ _, ext_alloc (ext_refl _) _⟩
    rw [← HS0.out]
    have := World.ownsRow_made (base := w0.heap.size) (e := 9) (size := 1) w0 #[] 0 (by simp) (by unfold maxLen; omega) rfl
    simpa [feasL] using this
  case round =>
    obtain ⟨k, ds, hk, rfl, hown, hcs, hbl⟩ := hrel
    by_cases hlt : k < x.hosts.length
    · obtain ⟨b, o, ck, Fk, rfl, hbF, hbs, hr, hsub, hc⟩ := Sl.get (α := Host) (A := Ahosts) (c := chosts) hhosts hlt
      obtain ⟨Alabels3, clabels3, Flabels3, Ataints3, ctaints3, Ftaints3, hck, hFk, hname3, hlabels3, hcpu3, hmem3, hslots3, htaints3⟩ := rd_Host hr
      subst hck
      have q0 : w.cell? ⟨b, o + k * 6, none⟩ = some (.string x.hosts[k].name) := by exact hc 0 _ rfl
      have q1 : w.cell? ⟨b, o + k * 6 + 1, none⟩ = some (.slice Alabels3 x.hosts[k].labels.length clabels3) := by rw [Nat.add_assoc]; exact hc 1 _ rfl
      have q2 : w.cell? ⟨b, o + k * 6 + 2, none⟩ = some (.int .i64 x.hosts[k].cpu) := by rw [Nat.add_assoc]; exact hc 2 _ rfl
      have q3 : w.cell? ⟨b, o + k * 6 + 3, none⟩ = some (.int .i64 x.hosts[k].mem) := by rw [Nat.add_assoc]; exact hc 3 _ rfl
      have q4 : w.cell? ⟨b, o + k * 6 + 4, none⟩ = some (.int .i64 x.hosts[k].slots) := by rw [Nat.add_assoc]; exact hc 4 _ rfl
      have q5 : w.cell? ⟨b, o + k * 6 + 5, none⟩ = some (.slice Ataints3 x.hosts[k].taints.length ctaints3) := by rw [Nat.add_assoc]; exact hc 5 _ rfl
      clear hc
      have hBr : Below w.heap.size w wr := ext_trans hB0 (hbl.mono (by omega))
      replace q0 := ((bcell hBr).1 b _ hbs).trans q0
      replace q1 := ((bcell hBr).1 b _ hbs).trans q1
      replace q2 := ((bcell hBr).1 b _ hbs).trans q2
      replace q3 := ((bcell hBr).1 b _ hbs).trans q3
      replace q4 := ((bcell hBr).1 b _ hbs).trans q4
      replace q5 := ((bcell hBr).1 b _ hbs).trans q5
      have hbsr : b < wr.heap.size := by have := hBr.size; omega
      have hK := (bcell hbl).1
      replace c0 := (hK _ _ hz0).trans c0
      replace c1 := (hK _ _ hz0).trans c1
      replace c2 := (hK _ _ hz0).trans c2
      replace c3 := (hK _ _ hz0).trans c3
      replace c4 := (hK _ _ hz0).trans c4
      replace c5 := (hK _ _ hz0).trans c5
      replace d0 := (hK _ _ hz1).trans d0
      replace d1 := (hK _ _ hz1).trans d1
      replace d2 := (hK _ _ hz1).trans d2
      replace d3 := (hK _ _ hz1).trans d3
      replace d4 := (hK _ _ hz1).trans d4
      replace d5 := (hK _ _ hz1).trans d5
      replace d6 := (hK _ _ hz1).trans d6
      clear hK
      have hz0r : w.heap.size < wr.heap.size := by have := hbl.size; omega
      have hz1r : w.heap.size + 1 < wr.heap.size := by have := hbl.size; omega
      have hol : (feasL x p (x.hosts.take k)).length ≤ k := feasL_take x p x.hosts k
      cases hp : feasP x p x.hosts[k] with
      | true =>
        have HP := Lib.hid hp
        have HPR := Lib.hid (show (reasonR x.hosts[k].name x p == 0) = true from hp)
        clear hp
        go_wp2_with fail
        first
          | (refine (FitsOn_impl x p _ _ _ _ x.hosts[k].name _ (rd_extT h (by repeat (first | with_reducible exact hBr | with_reducible exact ext_refl _ | with_reducible assumption | with_reducible refine ext_alloc ?_ _ | with_reducible refine ext_trans ?_ (by assumption)))) (rd_extT h' (by repeat (first | with_reducible exact hBr | with_reducible exact ext_refl _ | with_reducible assumption | with_reducible refine ext_alloc ?_ _ | with_reducible refine ext_trans ?_ (by assumption)))) HW.out HWP.out).mono ?_
             rw [HPR.out]
             rintro e wn ⟨rfl, hn⟩)
          | (refine wp_region_grow _ (by kernel_rfl) (by kernel_rfl) (ext_refl _) ?_
             repeat (first
               | (apply inText_skip
                  case hw => rfl
                  simp only [Act.put, List.setIfInBounds_toArray, List.set_cons_zero, List.set_cons_succ])
               | (apply inText_step
                  case hw => rfl
                  case h =>
                    intro wq hq
                    have hcq := (cls_cell hq).1
                    have hfq := (cls_cell hq).2
                    go_simp
                    first
                      | exact ⟨hq, rfl⟩
                      | exact ⟨cls_alloc hq _, rfl⟩
                      | (refine (FitsOn_impl x p _ _ _ _ x.hosts[k].name _ (rd_extT h (by first | exact ext_trans hBr hq | exact ext_trans (ext_alloc hBr _) hq | exact ext_trans hBr hq.out | exact ext_trans (ext_alloc hBr _) hq.out)) (rd_extT h' (by first | exact ext_trans hBr hq | exact ext_trans (ext_alloc hBr _) hq | exact ext_trans hBr hq.out | exact ext_trans (ext_alloc hBr _) hq.out)) HW.out HWP.out).mono ?_; rw [HPR.out]; rintro e w2 ⟨rfl, hb2⟩; exact ⟨rfl, cls_trans hq hb2⟩)
                      | (simp only [↓IntWalk.iteOmega]; exact ⟨hq, rfl⟩)
                  simp only [Act.put, List.setIfInBounds_toArray, List.set_cons_zero, List.set_cons_succ]))
             refine inText_nil ?_
             intro wn hn
             replace hn := hn.out)
        obtain ⟨hcn, hfn⟩ := bcell hn
        first
          | have hzn : wr.heap.size < wn.heap.size := (by have := hn.size; (try simp at this); omega)
          | have hzn : wr.heap.size ≤ wn.heap.size := (by have := hn.size; (try simp at this); omega)
        have hbn : Below w0.heap.size w0 wn := by first | exact ext_trans hbl hn | exact ext_trans (ext_alloc hbl _) hn
        first | have hownn := row_ext hown hn | have hownn := row_ext (hown.alloc _) hn
        go_wp2_with (
          at_builtin
          go_must (refine wpList_append1 elString (by rfl) _ _ (by rfl) _ _ _ _ _ hownn (by rfl) [.string x.hosts[k].name] (by first | rfl | (simp; rfl)) (by rfl) (by simp [Value.oneCell']) (by omega) (by omega) (by have := hbl.size; have := hbn.size; (try simp); omega) ?_)
          intro v2 w2 hown2 hg2 hz2)
        have hb2 : Below w0.heap.size w0 w2 := grown_ext (B := w0.heap.size) hownn hg2 hbn (by have := hbn.size; omega)
        exact ⟨⟨k + 1, _, by omega, by go_num, (by rw [feasL_yes hlt HP.out, List.length_append]; exact hown2), (by rw [feasL_yes hlt HP.out]; exact hcs.strw (sz63 hname3)), hb2⟩, by simp [intOf]; omega⟩
      | false =>
        have HP := Lib.hid hp
        have HPR := Lib.hid (show (reasonR x.hosts[k].name x p == 0) = false from hp)
        clear hp
        go_wp2_with fail
        first
          | (refine (FitsOn_impl x p _ _ _ _ x.hosts[k].name _ (rd_extT h (by repeat (first | with_reducible exact hBr | with_reducible exact ext_refl _ | with_reducible assumption | with_reducible refine ext_alloc ?_ _ | with_reducible refine ext_trans ?_ (by assumption)))) (rd_extT h' (by repeat (first | with_reducible exact hBr | with_reducible exact ext_refl _ | with_reducible assumption | with_reducible refine ext_alloc ?_ _ | with_reducible refine ext_trans ?_ (by assumption)))) HW.out HWP.out).mono ?_
             rw [HPR.out]
             rintro e wn ⟨rfl, hn⟩)
          | (refine wp_region_grow _ (by kernel_rfl) (by kernel_rfl) (ext_refl _) ?_
             repeat (first
               | (apply inText_skip
                  case hw => rfl
                  simp only [Act.put, List.setIfInBounds_toArray, List.set_cons_zero, List.set_cons_succ])
               | (apply inText_step
                  case hw => rfl
                  case h =>
                    intro wq hq
                    have hcq := (cls_cell hq).1
                    have hfq := (cls_cell hq).2
                    go_simp
                    first
                      | exact ⟨hq, rfl⟩
                      | exact ⟨cls_alloc hq _, rfl⟩
                      | (refine (FitsOn_impl x p _ _ _ _ x.hosts[k].name _ (rd_extT h (by first | exact ext_trans hBr hq | exact ext_trans (ext_alloc hBr _) hq | exact ext_trans hBr hq.out | exact ext_trans (ext_alloc hBr _) hq.out)) (rd_extT h' (by first | exact ext_trans hBr hq | exact ext_trans (ext_alloc hBr _) hq | exact ext_trans hBr hq.out | exact ext_trans (ext_alloc hBr _) hq.out)) HW.out HWP.out).mono ?_; rw [HPR.out]; rintro e w2 ⟨rfl, hb2⟩; exact ⟨rfl, cls_trans hq hb2⟩)
                      | (simp only [↓IntWalk.iteOmega]; exact ⟨hq, rfl⟩)
                  simp only [Act.put, List.setIfInBounds_toArray, List.set_cons_zero, List.set_cons_succ]))
             refine inText_nil ?_
             intro wn hn
             replace hn := hn.out)
        obtain ⟨hcn, hfn⟩ := bcell hn
        first
          | have hzn : wr.heap.size < wn.heap.size := (by have := hn.size; (try simp at this); omega)
          | have hzn : wr.heap.size ≤ wn.heap.size := (by have := hn.size; (try simp at this); omega)
        have hbn : Below w0.heap.size w0 wn := by first | exact ext_trans hbl hn | exact ext_trans (ext_alloc hbl _) hn
        first | have hownn := row_ext hown hn | have hownn := row_ext (hown.alloc _) hn
        go_wp2
        exact ⟨⟨k + 1, _, by omega, by go_num, (by rw [feasL_no hlt HP.out]; exact hownn), (by rw [feasL_no hlt HP.out]; exact hcs), hbn⟩, by simp [intOf]; omega⟩
    · have hkl : k = x.hosts.length := by omega
      subst hkl
      rw [List.take_length] at hown hcs
      have hBr : Below w.heap.size w wr := ext_trans hB0 hbl
      obtain ⟨Al, cl, Gl, rfl, hsl⟩ := Own.of_row hown ((OwnCells.keep hcs (fun b hb => by cases hb) hBr.size)) (fun _ _ hb => by cases hb)
      have hol := feasL_len x p x.hosts
      clear hown hcs
      have hK := (bcell hbl).1
      replace c0 := (hK _ _ hz0).trans c0
      replace c1 := (hK _ _ hz0).trans c1
      replace c2 := (hK _ _ hz0).trans c2
      replace c3 := (hK _ _ hz0).trans c3
      replace c4 := (hK _ _ hz0).trans c4
      replace c5 := (hK _ _ hz0).trans c5
      replace d0 := (hK _ _ hz1).trans d0
      replace d1 := (hK _ _ hz1).trans d1
      replace d2 := (hK _ _ hz1).trans d2
      replace d3 := (hK _ _ hz1).trans d3
      replace d4 := (hK _ _ hz1).trans d4
      replace d5 := (hK _ _ hz1).trans d5
      replace d6 := (hK _ _ hz1).trans d6
      clear hK
      go_wp2
      go_ret
      exact ⟨Al, cl, Gl, rfl, hsl.mono (by omega), hBr⟩
set_option maxRecDepth 100000 in
set_option maxHeartbeats 4000000 in
theorem Feasible_spec (x : Cluster) (p : Pod) (cs ps : List Value) (F G : List Nat) (w : World) (h : rd w x cs F) (h' : rd w p ps G) (hw : (x.wt : Int) ≤ 1048576) (hw' : (p.wt : Int) ≤ 1048576) :
    Calls Tryz.prog 57 #[.agg cs.toArray, .agg ps.toArray] w fun e w' => ∃ A c G, e = .returned (.slice A (feasL x p x.hosts).length c) ∧ Own w' w.heap.size (feasL x p x.hosts) [.slice A (feasL x p x.hosts).length c] G ∧ Below w.heap.size w w' := by
  have hwx : x.wt = wtL Host.wt x.hosts + wtL Placed.wt x.pods := rfl
  have hlen : (x.hosts.length : Int) ≤ 1048576 := by have := wtL_len Host.wt x.hosts; omega
  have HW := Lib.hid hw
  have HWP := Lib.hid hw'
  clear hw hw' hwx
  have hr := h
  have hr' := h'
  obtain ⟨Ahosts, chosts, Fhosts, Apods, cpods, Fpods, hck, hF, hhosts, hpods, hnext, hweightspack, hweightsspread, hweightssoft⟩ := rd_Cluster hr
  obtain ⟨Alabels2, clabels2, Flabels2, Aneeds2, cneeds2, Fneeds2, Atolerances2, ctolerances2, Ftolerances2, hck2, hG, hname2, hlabels2, hcpu2, hmem2, hrank2, hneeds2, htolerances2⟩ := rd_Pod hr'
  subst hck hck2
  clear hF hG hr hr'
  go_enter Tryz.func57, Tryz.ntmps57
  go_wp2_with fail
  obtain ⟨w0, hw0⟩ : ∃ w0, (w.alloc (.cells #[.slice Ahosts x.hosts.length chosts, .slice Apods x.pods.length cpods, .int .i64 x.next, .int .i64 x.weights.pack, .int .i64 x.weights.spread, .int .i64 x.weights.soft] 33)).alloc (.cells #[.string p.name, .slice Alabels2 p.labels.length clabels2, .int .i64 p.cpu, .int .i64 p.mem, .int .i64 p.rank, .slice Aneeds2 p.needs.length cneeds2, .slice Atolerances2 p.tolerances.length ctolerances2] 55) = w0 := ⟨_, rfl⟩
  try rw [hw0]
  have c0 : w0.cell? ⟨w.heap.size, 0, none⟩ = some (.slice Ahosts x.hosts.length chosts) := by rw [← hw0, World.cell?_of_block (heap_alloc_old _ _ (by simp)), cell_of_row _ _ _ _ _ _ (heap_alloc_new w _)]; rfl
  have c1 : w0.cell? ⟨w.heap.size, 1, none⟩ = some (.slice Apods x.pods.length cpods) := by rw [← hw0, World.cell?_of_block (heap_alloc_old _ _ (by simp)), cell_of_row _ _ _ _ _ _ (heap_alloc_new w _)]; rfl
  have c2 : w0.cell? ⟨w.heap.size, 2, none⟩ = some (.int .i64 x.next) := by rw [← hw0, World.cell?_of_block (heap_alloc_old _ _ (by simp)), cell_of_row _ _ _ _ _ _ (heap_alloc_new w _)]; rfl
  have c3 : w0.cell? ⟨w.heap.size, 3, none⟩ = some (.int .i64 x.weights.pack) := by rw [← hw0, World.cell?_of_block (heap_alloc_old _ _ (by simp)), cell_of_row _ _ _ _ _ _ (heap_alloc_new w _)]; rfl
  have c4 : w0.cell? ⟨w.heap.size, 4, none⟩ = some (.int .i64 x.weights.spread) := by rw [← hw0, World.cell?_of_block (heap_alloc_old _ _ (by simp)), cell_of_row _ _ _ _ _ _ (heap_alloc_new w _)]; rfl
  have c5 : w0.cell? ⟨w.heap.size, 5, none⟩ = some (.int .i64 x.weights.soft) := by rw [← hw0, World.cell?_of_block (heap_alloc_old _ _ (by simp)), cell_of_row _ _ _ _ _ _ (heap_alloc_new w _)]; rfl
  have d0 : w0.cell? ⟨w.heap.size + 1, 0, none⟩ = some (.string p.name) := by rw [← hw0]; simp
  have d1 : w0.cell? ⟨w.heap.size + 1, 1, none⟩ = some (.slice Alabels2 p.labels.length clabels2) := by rw [← hw0]; simp
  have d2 : w0.cell? ⟨w.heap.size + 1, 2, none⟩ = some (.int .i64 p.cpu) := by rw [← hw0]; simp
  have d3 : w0.cell? ⟨w.heap.size + 1, 3, none⟩ = some (.int .i64 p.mem) := by rw [← hw0]; simp
  have d4 : w0.cell? ⟨w.heap.size + 1, 4, none⟩ = some (.int .i64 p.rank) := by rw [← hw0]; simp
  have d5 : w0.cell? ⟨w.heap.size + 1, 5, none⟩ = some (.slice Aneeds2 p.needs.length cneeds2) := by rw [← hw0]; simp
  have d6 : w0.cell? ⟨w.heap.size + 1, 6, none⟩ = some (.slice Atolerances2 p.tolerances.length ctolerances2) := by rw [← hw0]; simp
  have hB0 : Below w.heap.size w w0 := by rw [← hw0]; exact ext_alloc (ext_alloc (ext_refl _) _) _
  have hs0 : w0.heap.size = w.heap.size + 1 + 1 := by rw [← hw0]; simp
  have hz0 : w.heap.size < w0.heap.size := by omega
  have hz1 : w.heap.size + 1 < w0.heap.size := by omega
  have HS0 := Lib.hid hs0
  clear hw0 hs0
  go_loopw [5, 6] (fun v i wr => ∃ (k : Nat) (ds : List Value), k ≤ x.hosts.length ∧ i = .int .i64 k ∧ wr.ownsRow w0.heap.size 9 1 v (feasL x p (x.hosts.take k)).length ds ∧ OwnCells w w0.heap.size (feasL x p (x.hosts.take k)) ds [] ∧ Below w0.heap.size w0 wr) (fun _ i _ => x.hosts.length - (intOf i).toNat)
  case atStart =>
    refine ⟨0, [], Nat.zero_le _, rfl, ?_, OwnCells.nil _ _, ext_alloc (ext_refl _) _⟩
    rw [← HS0.out]
    have := World.ownsRow_made (base := w0.heap.size) (e := 9) (size := 1) w0 #[] 0 (by simp) (by unfold maxLen; omega) rfl
    simpa [feasL] using this
  case round =>
    obtain ⟨k, ds, hk, rfl, hown, hcs, hbl⟩ := hrel
    by_cases hlt : k < x.hosts.length
    · obtain ⟨b, o, ck, Fk, rfl, hbF, hbs, hr, hsub, hc⟩ := Sl.get (α := Host) (A := Ahosts) (c := chosts) hhosts hlt
      obtain ⟨Alabels3, clabels3, Flabels3, Ataints3, ctaints3, Ftaints3, hck, hFk, hname3, hlabels3, hcpu3, hmem3, hslots3, htaints3⟩ := rd_Host hr
      subst hck
      have q0 : w.cell? ⟨b, o + k * 6, none⟩ = some (.string x.hosts[k].name) := by exact hc 0 _ rfl
      have q1 : w.cell? ⟨b, o + k * 6 + 1, none⟩ = some (.slice Alabels3 x.hosts[k].labels.length clabels3) := by rw [Nat.add_assoc]; exact hc 1 _ rfl
      have q2 : w.cell? ⟨b, o + k * 6 + 2, none⟩ = some (.int .i64 x.hosts[k].cpu) := by rw [Nat.add_assoc]; exact hc 2 _ rfl
      have q3 : w.cell? ⟨b, o + k * 6 + 3, none⟩ = some (.int .i64 x.hosts[k].mem) := by rw [Nat.add_assoc]; exact hc 3 _ rfl
      have q4 : w.cell? ⟨b, o + k * 6 + 4, none⟩ = some (.int .i64 x.hosts[k].slots) := by rw [Nat.add_assoc]; exact hc 4 _ rfl
      have q5 : w.cell? ⟨b, o + k * 6 + 5, none⟩ = some (.slice Ataints3 x.hosts[k].taints.length ctaints3) := by rw [Nat.add_assoc]; exact hc 5 _ rfl
      clear hc
      have hBr : Below w.heap.size w wr := ext_trans hB0 (hbl.mono (by omega))
      replace q0 := ((bcell hBr).1 b _ hbs).trans q0
      replace q1 := ((bcell hBr).1 b _ hbs).trans q1
      replace q2 := ((bcell hBr).1 b _ hbs).trans q2
      replace q3 := ((bcell hBr).1 b _ hbs).trans q3
      replace q4 := ((bcell hBr).1 b _ hbs).trans q4
      replace q5 := ((bcell hBr).1 b _ hbs).trans q5
      have hbsr : b < wr.heap.size := by have := hBr.size; omega
      have hK := (bcell hbl).1
      replace c0 := (hK _ _ hz0).trans c0
      replace c1 := (hK _ _ hz0).trans c1
      replace c2 := (hK _ _ hz0).trans c2
      replace c3 := (hK _ _ hz0).trans c3
      replace c4 := (hK _ _ hz0).trans c4
      replace c5 := (hK _ _ hz0).trans c5
      replace d0 := (hK _ _ hz1).trans d0
      replace d1 := (hK _ _ hz1).trans d1
      replace d2 := (hK _ _ hz1).trans d2
      replace d3 := (hK _ _ hz1).trans d3
      replace d4 := (hK _ _ hz1).trans d4
      replace d5 := (hK _ _ hz1).trans d5
      replace d6 := (hK _ _ hz1).trans d6
      clear hK
      have hz0r : w.heap.size < wr.heap.size := by have := hbl.size; omega
      have hz1r : w.heap.size + 1 < wr.heap.size := by have := hbl.size; omega
      have hol : (feasL x p (x.hosts.take k)).length ≤ k := feasL_take x p x.hosts k
      cases hp : feasP x p x.hosts[k] with
      | true =>
        have HP := Lib.hid hp
        have HPR := Lib.hid (show (reasonR x.hosts[k].name x p == 0) = true from hp)
        clear hp
        go_wp2_with fail
        first
          | (refine (FitsOn_spec x p _ _ _ _ x.hosts[k].name _ (rd_extT h (by repeat (first | with_reducible exact hBr | with_reducible exact ext_refl _ | with_reducible assumption | with_reducible refine ext_alloc ?_ _ | with_reducible refine ext_trans ?_ (by assumption)))) (rd_extT h' (by repeat (first | with_reducible exact hBr | with_reducible exact ext_refl _ | with_reducible assumption | with_reducible refine ext_alloc ?_ _ | with_reducible refine ext_trans ?_ (by assumption)))) HW.out HWP.out).mono ?_
             rw [HPR.out]
             rintro e wn ⟨rfl, hn⟩)
          | (refine wp_region_grow _ (by kernel_rfl) (by kernel_rfl) (ext_refl _) ?_
             repeat (first
               | (apply inText_skip
                  case hw => rfl
                  simp only [Act.put, List.setIfInBounds_toArray, List.set_cons_zero, List.set_cons_succ])
               | (apply inText_step
                  case hw => rfl
                  case h =>
                    intro wq hq
                    have hcq := (cls_cell hq).1
                    have hfq := (cls_cell hq).2
                    go_simp
                    first
                      | exact ⟨hq, rfl⟩
                      | exact ⟨cls_alloc hq _, rfl⟩
                      | (refine (FitsOn_spec x p _ _ _ _ x.hosts[k].name _ (rd_extT h (by first | exact ext_trans hBr hq | exact ext_trans (ext_alloc hBr _) hq | exact ext_trans hBr hq.out | exact ext_trans (ext_alloc hBr _) hq.out)) (rd_extT h' (by first | exact ext_trans hBr hq | exact ext_trans (ext_alloc hBr _) hq | exact ext_trans hBr hq.out | exact ext_trans (ext_alloc hBr _) hq.out)) HW.out HWP.out).mono ?_; rw [HPR.out]; rintro e w2 ⟨rfl, hb2⟩; exact ⟨rfl, cls_trans hq hb2⟩)
                      | (simp only [↓IntWalk.iteOmega]; exact ⟨hq, rfl⟩)
                  simp only [Act.put, List.setIfInBounds_toArray, List.set_cons_zero, List.set_cons_succ]))
             refine inText_nil ?_
             intro wn hn
             replace hn := hn.out)
        obtain ⟨hcn, hfn⟩ := bcell hn
        first
          | have hzn : wr.heap.size < wn.heap.size := (by have := hn.size; (try simp at this); omega)
          | have hzn : wr.heap.size ≤ wn.heap.size := (by have := hn.size; (try simp at this); omega)
        have hbn : Below w0.heap.size w0 wn := by first | exact ext_trans hbl hn | exact ext_trans (ext_alloc hbl _) hn
        first | have hownn := row_ext hown hn | have hownn := row_ext (hown.alloc _) hn
        go_wp2_with (
          at_builtin
          go_must (refine wpList_append1 elString (by rfl) _ _ (by rfl) _ _ _ _ _ hownn (by rfl) [.string x.hosts[k].name] (by first | rfl | (simp; rfl)) (by rfl) (by simp [Value.oneCell']) (by omega) (by omega) (by have := hbl.size; have := hbn.size; (try simp); omega) ?_)
          intro v2 w2 hown2 hg2 hz2)
        have hb2 : Below w0.heap.size w0 w2 := grown_ext (B := w0.heap.size) hownn hg2 hbn (by have := hbn.size; omega)
        exact ⟨⟨k + 1, _, by omega, by go_num, (by rw [feasL_yes hlt HP.out, List.length_append]; exact hown2), (by rw [feasL_yes hlt HP.out]; exact hcs.strw (sz63 hname3)), hb2⟩, by simp [intOf]; omega⟩
      | false =>
        have HP := Lib.hid hp
        have HPR := Lib.hid (show (reasonR x.hosts[k].name x p == 0) = false from hp)
        clear hp
        go_wp2_with fail
        first
          | (refine (FitsOn_spec x p _ _ _ _ x.hosts[k].name _ (rd_extT h (by repeat (first | with_reducible exact hBr | with_reducible exact ext_refl _ | with_reducible assumption | with_reducible refine ext_alloc ?_ _ | with_reducible refine ext_trans ?_ (by assumption)))) (rd_extT h' (by repeat (first | with_reducible exact hBr | with_reducible exact ext_refl _ | with_reducible assumption | with_reducible refine ext_alloc ?_ _ | with_reducible refine ext_trans ?_ (by assumption)))) HW.out HWP.out).mono ?_
             rw [HPR.out]
             rintro e wn ⟨rfl, hn⟩)
          | (refine wp_region_grow _ (by kernel_rfl) (by kernel_rfl) (ext_refl _) ?_
             repeat (first
               | (apply inText_skip
                  case hw => rfl
                  simp only [Act.put, List.setIfInBounds_toArray, List.set_cons_zero, List.set_cons_succ])
               | (apply inText_step
                  case hw => rfl
                  case h =>
                    intro wq hq
                    have hcq := (cls_cell hq).1
                    have hfq := (cls_cell hq).2
                    go_simp
                    first
                      | exact ⟨hq, rfl⟩
                      | exact ⟨cls_alloc hq _, rfl⟩
                      | (refine (FitsOn_spec x p _ _ _ _ x.hosts[k].name _ (rd_extT h (by first | exact ext_trans hBr hq | exact ext_trans (ext_alloc hBr _) hq | exact ext_trans hBr hq.out | exact ext_trans (ext_alloc hBr _) hq.out)) (rd_extT h' (by first | exact ext_trans hBr hq | exact ext_trans (ext_alloc hBr _) hq | exact ext_trans hBr hq.out | exact ext_trans (ext_alloc hBr _) hq.out)) HW.out HWP.out).mono ?_; rw [HPR.out]; rintro e w2 ⟨rfl, hb2⟩; exact ⟨rfl, cls_trans hq hb2⟩)
                      | (simp only [↓IntWalk.iteOmega]; exact ⟨hq, rfl⟩)
                  simp only [Act.put, List.setIfInBounds_toArray, List.set_cons_zero, List.set_cons_succ]))
             refine inText_nil ?_
             intro wn hn
             replace hn := hn.out)
        obtain ⟨hcn, hfn⟩ := bcell hn
        first
          | have hzn : wr.heap.size < wn.heap.size := (by have := hn.size; (try simp at this); omega)
          | have hzn : wr.heap.size ≤ wn.heap.size := (by have := hn.size; (try simp at this); omega)
        have hbn : Below w0.heap.size w0 wn := by first | exact ext_trans hbl hn | exact ext_trans (ext_alloc hbl _) hn
        first | have hownn := row_ext hown hn | have hownn := row_ext (hown.alloc _) hn
        go_wp2
        exact ⟨⟨k + 1, _, by omega, by go_num, (by rw [feasL_no hlt HP.out]; exact hownn), (by rw [feasL_no hlt HP.out]; exact hcs), hbn⟩, by simp [intOf]; omega⟩
    · have hkl : k = x.hosts.length := by omega
      subst hkl
      rw [List.take_length] at hown hcs
      have hBr : Below w.heap.size w wr := ext_trans hB0 hbl
      obtain ⟨Al, cl, Gl, rfl, hsl⟩ := Own.of_row hown ((OwnCells.keep hcs (fun b hb => by cases hb) hBr.size)) (fun _ _ hb => by cases hb)
      have hol := feasL_len x p x.hosts
      clear hown hcs
      have hK := (bcell hbl).1
      replace c0 := (hK _ _ hz0).trans c0
      replace c1 := (hK _ _ hz0).trans c1
      replace c2 := (hK _ _ hz0).trans c2
      replace c3 := (hK _ _ hz0).trans c3
      replace c4 := (hK _ _ hz0).trans c4
      replace c5 := (hK _ _ hz0).trans c5
      replace d0 := (hK _ _ hz1).trans d0
      replace d1 := (hK _ _ hz1).trans d1
      replace d2 := (hK _ _ hz1).trans d2
      replace d3 := (hK _ _ hz1).trans d3
      replace d4 := (hK _ _ hz1).trans d4
      replace d5 := (hK _ _ hz1).trans d5
      replace d6 := (hK _ _ hz1).trans d6
      clear hK
      go_wp2
      go_ret
      exact ⟨Al, cl, Gl, rfl, hsl.mono (by omega), hBr⟩

end Go.Proofs.YtjoclfenghenjaaGreat
