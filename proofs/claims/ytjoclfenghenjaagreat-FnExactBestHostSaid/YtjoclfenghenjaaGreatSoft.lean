/- SoftMark, of the program and of the reference. No condition. -/
import Derived.Test.YtjoclfenghenjaaGreatUntol0
import Derived.Test.YtjoclfenghenjaaGreatSmalls
namespace Go.Proofs.YtjoclfenghenjaaGreat
open Go.ChangeShapes Go.WideShapes Go.ChangeAt Go.RowKit
set_option linter.unusedVariables false
set_option linter.unusedSimpArgs false

def softR (nm : ByteArray) (x : Cluster) (p : Pod) : Int :=
  if idxI (hostatP nm) x.hosts < 0 then 0 else
  match x.hosts[(idxI (hostatP nm) x.hosts).toNat]? with
  | none => 0
  | some h => max 0 (100 - 25 * (untolN p.tolerances 2 h.taints : Int))
theorem softR_no {nm : ByteArray} {x : Cluster} {p : Pod} (h : idxI (hostatP nm) x.hosts = -1) : softR nm x p = 0 := by unfold softR; rw [h]; rfl
theorem softR_yes {nm : ByteArray} {x : Cluster} {p : Pod} {k : Nat} (hk : k < x.hosts.length) (h : idxI (hostatP nm) x.hosts = k) : softR nm x p = max 0 (100 - 25 * (untolN p.tolerances 2 x.hosts[k].taints : Int)) := by
  unfold softR
  rw [h, if_neg (by omega), Int.toNat_natCast, List.getElem?_eq_getElem hk]
set_option maxRecDepth 100000 in
set_option maxHeartbeats 1000000 in
theorem SoftMark_impl (x : Cluster) (p : Pod) (cs ps : List Value) (F G : List Nat) (nm : ByteArray) (w : World) (h : rd w x cs F) (h' : rd w p ps G) (hw : (x.wt : Int) ≤ 1048576) (hw' : (p.wt : Int) ≤ 1048576) :
    Calls Tryz.prog 118 #[.agg cs.toArray, .string nm, .agg ps.toArray] w fun e w' => e = .returned (.int .i64 (softR nm x p)) ∧ Below w.heap.size w w' := by
  have hwx : x.wt = wtL Host.wt x.hosts + wtL Placed.wt x.pods := rfl
  have hwp : p.wt = p.name.size + wtL Label.wt p.labels + wtL Need.wt p.needs + wtL Tolerance.wt p.tolerances := rfl
  have hlen : (x.hosts.length : Int) ≤ 1048576 := by have := wtL_len Host.wt x.hosts; omega
  obtain ⟨htl, hts⟩ := tols_small (xs := p.tolerances) (by omega)
  have HTS := Lib.hid hts
  clear hts
  obtain ⟨Ahosts, chosts, Fhosts, Apods, cpods, Fpods, hck, hF, hhosts, hpods, hnext, hweightspack, hweightsspread, hweightssoft⟩ := rd_Cluster h
  obtain ⟨Alabels2, clabels2, Flabels2, Aneeds2, cneeds2, Fneeds2, Atolerances2, ctolerances2, Ftolerances2, hck2, hG, hname2, hlabels2, hcpu2, hmem2, hrank2, hneeds2, htolerances2⟩ := rd_Pod h'
  subst hck hck2
  rcases idxI_ways (hostatP nm) x.hosts with hi | ⟨k, hk, hi⟩
  · have HF := Lib.hid (softR_no (p := p) hi)
    have HI := Lib.hid hi
    clear hi
    go_enter Tryz.func118, Tryz.ntmps118
    go_wp2_with fail
    refine (HostAt_impl x _ _ nm _ (rd_extT h (by repeat (first | with_reducible exact ext_refl _ | with_reducible assumption | with_reducible refine ext_alloc ?_ _ | with_reducible refine ext_trans ?_ (by assumption)))) hlen).mono ?_
    rw [HI.out]
    rintro e w2 ⟨rfl, hb2⟩
    go_wp2
    go_ret
    exact ⟨by rw [HF.out]; rfl, (by repeat (first | with_reducible exact ext_refl _ | with_reducible assumption | with_reducible refine ext_alloc ?_ _ | with_reducible refine ext_trans ?_ (by assumption)))⟩
  · have HF := Lib.hid (softR_yes (p := p) hk hi)
    have HI := Lib.hid hi
    clear hi
    have hwk : (wtL Taint.wt x.hosts[k].taints : Int) ≤ 1048576 := by
      have h1 := wtL_get (f := Host.wt) hk
      have h2 : Host.wt x.hosts[k] = x.hosts[k].name.size + wtL Label.wt x.hosts[k].labels + wtL Taint.wt x.hosts[k].taints := rfl
      omega
    obtain ⟨hxl, hxs⟩ := taints_small hwk
    have HXS := Lib.hid hxs
    clear hxs
    have hul := untolN_le p.tolerances 2 x.hosts[k].taints
    obtain ⟨b, o, ck, Fk, rfl, hbF, hbs, hr, hsub, hc⟩ := Sl.get (α := Host) (A := Ahosts) (c := chosts) hhosts hk
    obtain ⟨Alabels3, clabels3, Flabels3, Ataints3, ctaints3, Ftaints3, hck, hFk, hname3, hlabels3, hcpu3, hmem3, hslots3, htaints3⟩ := rd_Host hr
    subst hck
    have q0 : w.cell? ⟨b, o + k * 6, none⟩ = some (.string x.hosts[k].name) := by exact hc 0 _ rfl
    have q1 : w.cell? ⟨b, o + k * 6 + 1, none⟩ = some (.slice Alabels3 x.hosts[k].labels.length clabels3) := by rw [Nat.add_assoc]; exact hc 1 _ rfl
    have q2 : w.cell? ⟨b, o + k * 6 + 2, none⟩ = some (.int .i64 x.hosts[k].cpu) := by rw [Nat.add_assoc]; exact hc 2 _ rfl
    have q3 : w.cell? ⟨b, o + k * 6 + 3, none⟩ = some (.int .i64 x.hosts[k].mem) := by rw [Nat.add_assoc]; exact hc 3 _ rfl
    have q4 : w.cell? ⟨b, o + k * 6 + 4, none⟩ = some (.int .i64 x.hosts[k].slots) := by rw [Nat.add_assoc]; exact hc 4 _ rfl
    have q5 : w.cell? ⟨b, o + k * 6 + 5, none⟩ = some (.slice Ataints3 x.hosts[k].taints.length ctaints3) := by rw [Nat.add_assoc]; exact hc 5 _ rfl
    clear hc
    go_enter Tryz.func118, Tryz.ntmps118
    go_wp2_with fail
    refine (HostAt_impl x _ _ nm _ (rd_extT h (by repeat (first | with_reducible exact ext_refl _ | with_reducible assumption | with_reducible refine ext_alloc ?_ _ | with_reducible refine ext_trans ?_ (by assumption)))) hlen).mono ?_
    rw [HI.out]
    rintro e w2 ⟨rfl, hb2⟩
    obtain ⟨hc2, hf2⟩ := bcell hb2
    have hz2 : w.heap.size + 1 < w2.heap.size := by have := hb2.size; (try simp at this); omega
    have hy2 : w.heap.size < w2.heap.size := by omega
    have hB2 : Below w.heap.size w w2 := (by repeat (first | with_reducible exact ext_refl _ | with_reducible assumption | with_reducible refine ext_alloc ?_ _ | with_reducible refine ext_trans ?_ (by assumption)))
    replace q5 := ((bcell hB2).1 b _ hbs).trans q5
    have hbs2 : b < w2.heap.size := by omega
    have hUT : ∀ wq, Below w.heap.size w wq → Calls Tryz.prog 155 #[.slice Atolerances2 p.tolerances.length ctolerances2, .slice Ataints3 x.hosts[k].taints.length ctaints3, .int .i64 2] wq fun e w' => e = .returned (.int .i64 (untolN p.tolerances 2 x.hosts[k].taints)) ∧ Below wq.heap.size wq w' :=
      fun wq hq => Untolerated_impl p.tolerances x.hosts[k].taints 2 _ _ _ _ _ _ _ _ _ (htolerances2.ext hq) (htaints3.ext hq) rfl rfl htl hxl HTS.out HXS.out
    have HUT := Lib.hid hUT
    clear hUT
    generalize untolN p.tolerances 2 x.hosts[k].taints = z at HUT HF hul
    have hzl : (z : Int) ≤ 1048576 := by omega
    have hw1 : IntKind.i64.wrap (25 * (z : Int)) = 25 * (z : Int) := IntWalk.i64_in _ (by omega)
    have hw2 : IntKind.i64.wrap (100 - 25 * (z : Int)) = 100 - 25 * (z : Int) := IntWalk.i64_in _ (by omega)
    by_cases hpos : (100 : Int) - 25 * (z : Int) ≤ 0
    · have hM : max 0 (100 - 25 * (z : Int)) = 0 := by omega
      have HM := Lib.hid hM
      clear hM
      go_wp2_with fail
      refine wp_region_grow w2 (by kernel_rfl) (by kernel_rfl) (ext_refl _) ?_
      repeat (first
        | (apply inText_skip
           case hw => rfl
           simp only [Act.put, List.setIfInBounds_toArray, List.set_cons_zero, List.set_cons_succ])
        | (apply inText_step
           case hw => rfl
           case h =>
             intro wq hq
             have hcq := (cls_cell hq).1
             have hfq := (cls_cell hq).2
             go_simp
             first
               | exact ⟨hq, rfl⟩
               | exact ⟨cls_alloc hq _, rfl⟩
               | (refine (HUT.out _ (ext_trans hB2 hq)).mono ?_; rintro e w3 ⟨rfl, hb3⟩; exact ⟨rfl, cls_trans hq hb3⟩)
               | (simp only [↓IntWalk.iteOmega]; exact ⟨hq, rfl⟩)
           simp only [Act.put, List.setIfInBounds_toArray, List.set_cons_zero, List.set_cons_succ]))
      refine inText_nil ?_
      intro wn hn
      replace hn := hn.out
      go_wp2
      go_ret
      exact ⟨by rw [HF.out, HM.out]; rfl, ext_trans hB2 hn⟩
    · have hpos2 : (0 : Int) < 100 - 25 * (z : Int) := by omega
      have hM : max 0 (100 - 25 * (z : Int)) = 100 - 25 * (z : Int) := by omega
      have HM := Lib.hid hM
      clear hM
      have hle : (100 : Int) - 25 * (z : Int) ≤ 100 := by omega
      go_wp2_with fail
      refine wp_region_grow w2 (by kernel_rfl) (by kernel_rfl) (ext_refl _) ?_
      repeat (first
        | (apply inText_skip
           case hw => rfl
           simp only [Act.put, List.setIfInBounds_toArray, List.set_cons_zero, List.set_cons_succ])
        | (apply inText_step
           case hw => rfl
           case h =>
             intro wq hq
             have hcq := (cls_cell hq).1
             have hfq := (cls_cell hq).2
             go_simp
             first
               | exact ⟨hq, rfl⟩
               | exact ⟨cls_alloc hq _, rfl⟩
               | (refine (HUT.out _ (ext_trans hB2 hq)).mono ?_; rintro e w3 ⟨rfl, hb3⟩; exact ⟨rfl, cls_trans hq hb3⟩)
               | (simp only [↓IntWalk.iteOmega]; exact ⟨hq, rfl⟩)
           simp only [Act.put, List.setIfInBounds_toArray, List.set_cons_zero, List.set_cons_succ]))
      refine inText_nil ?_
      intro wn hn
      replace hn := hn.out
      go_wp2
      go_ret
      exact ⟨by rw [HF.out, HM.out] <;> first | rfl | (simp; omega), ext_trans hB2 hn⟩
theorem Brought_spec (n : Int) (w : World) (h : n ≤ 100) (h0 : -9223372036854775808 ≤ n) : Calls Tryz.prog 147 #[.int .i64 n, .int .i64 0, .int .i64 100] w fun e w' => e = .returned (.int .i64 (max 0 n)) ∧ w' = w := by
  by_cases hn : n < 0
  · rw [show max 0 n = 0 by omega]
    go_enter Tryz.func147, Tryz.ntmps147
    go_wp2
    go_ret
    exact ⟨rfl, rfl⟩
  · rw [show max 0 n = n by omega]
    go_enter Tryz.func147, Tryz.ntmps147
    go_wp2
    go_ret
    exact ⟨rfl, rfl⟩
set_option maxRecDepth 100000 in
set_option maxHeartbeats 1000000 in
theorem SoftMark_spec (x : Cluster) (p : Pod) (cs ps : List Value) (F G : List Nat) (nm : ByteArray) (w : World) (h : rd w x cs F) (h' : rd w p ps G) (hw : (x.wt : Int) ≤ 1048576) (hw' : (p.wt : Int) ≤ 1048576) :
    Calls Tryz.prog 109 #[.agg cs.toArray, .string nm, .agg ps.toArray] w fun e w' => e = .returned (.int .i64 (softR nm x p)) ∧ Below w.heap.size w w' := by
  have hwx : x.wt = wtL Host.wt x.hosts + wtL Placed.wt x.pods := rfl
  have hwp : p.wt = p.name.size + wtL Label.wt p.labels + wtL Need.wt p.needs + wtL Tolerance.wt p.tolerances := rfl
  have hlen : (x.hosts.length : Int) ≤ 1048576 := by have := wtL_len Host.wt x.hosts; omega
  obtain ⟨htl, hts⟩ := tols_small (xs := p.tolerances) (by omega)
  have HTS := Lib.hid hts
  clear hts
  obtain ⟨Ahosts, chosts, Fhosts, Apods, cpods, Fpods, hck, hF, hhosts, hpods, hnext, hweightspack, hweightsspread, hweightssoft⟩ := rd_Cluster h
  obtain ⟨Alabels2, clabels2, Flabels2, Aneeds2, cneeds2, Fneeds2, Atolerances2, ctolerances2, Ftolerances2, hck2, hG, hname2, hlabels2, hcpu2, hmem2, hrank2, hneeds2, htolerances2⟩ := rd_Pod h'
  subst hck hck2
  rcases idxI_ways (hostatP nm) x.hosts with hi | ⟨k, hk, hi⟩
  · have HF := Lib.hid (softR_no (p := p) hi)
    have HI := Lib.hid hi
    clear hi
    go_enter Tryz.func109, Tryz.ntmps109
    go_wp2_with fail
    refine (HostAt_spec x _ _ nm _ (rd_extT h (by repeat (first | with_reducible exact ext_refl _ | with_reducible assumption | with_reducible refine ext_alloc ?_ _ | with_reducible refine ext_trans ?_ (by assumption)))) hlen).mono ?_
    rw [HI.out]
    rintro e w2 ⟨rfl, hb2⟩
    go_wp2
    go_ret
    exact ⟨by rw [HF.out]; rfl, (by repeat (first | with_reducible exact ext_refl _ | with_reducible assumption | with_reducible refine ext_alloc ?_ _ | with_reducible refine ext_trans ?_ (by assumption)))⟩
  · have HF := Lib.hid (softR_yes (p := p) hk hi)
    have HI := Lib.hid hi
    clear hi
    have hwk : (wtL Taint.wt x.hosts[k].taints : Int) ≤ 1048576 := by
      have h1 := wtL_get (f := Host.wt) hk
      have h2 : Host.wt x.hosts[k] = x.hosts[k].name.size + wtL Label.wt x.hosts[k].labels + wtL Taint.wt x.hosts[k].taints := rfl
      omega
    obtain ⟨hxl, hxs⟩ := taints_small hwk
    have HXS := Lib.hid hxs
    clear hxs
    have hul := untolN_le p.tolerances 2 x.hosts[k].taints
    obtain ⟨b, o, ck, Fk, rfl, hbF, hbs, hr, hsub, hc⟩ := Sl.get (α := Host) (A := Ahosts) (c := chosts) hhosts hk
    obtain ⟨Alabels3, clabels3, Flabels3, Ataints3, ctaints3, Ftaints3, hck, hFk, hname3, hlabels3, hcpu3, hmem3, hslots3, htaints3⟩ := rd_Host hr
    subst hck
    have q0 : w.cell? ⟨b, o + k * 6, none⟩ = some (.string x.hosts[k].name) := by exact hc 0 _ rfl
    have q1 : w.cell? ⟨b, o + k * 6 + 1, none⟩ = some (.slice Alabels3 x.hosts[k].labels.length clabels3) := by rw [Nat.add_assoc]; exact hc 1 _ rfl
    have q2 : w.cell? ⟨b, o + k * 6 + 2, none⟩ = some (.int .i64 x.hosts[k].cpu) := by rw [Nat.add_assoc]; exact hc 2 _ rfl
    have q3 : w.cell? ⟨b, o + k * 6 + 3, none⟩ = some (.int .i64 x.hosts[k].mem) := by rw [Nat.add_assoc]; exact hc 3 _ rfl
    have q4 : w.cell? ⟨b, o + k * 6 + 4, none⟩ = some (.int .i64 x.hosts[k].slots) := by rw [Nat.add_assoc]; exact hc 4 _ rfl
    have q5 : w.cell? ⟨b, o + k * 6 + 5, none⟩ = some (.slice Ataints3 x.hosts[k].taints.length ctaints3) := by rw [Nat.add_assoc]; exact hc 5 _ rfl
    clear hc
    go_enter Tryz.func109, Tryz.ntmps109
    go_wp2_with fail
    refine (HostAt_spec x _ _ nm _ (rd_extT h (by repeat (first | with_reducible exact ext_refl _ | with_reducible assumption | with_reducible refine ext_alloc ?_ _ | with_reducible refine ext_trans ?_ (by assumption)))) hlen).mono ?_
    rw [HI.out]
    rintro e w2 ⟨rfl, hb2⟩
    obtain ⟨hc2, hf2⟩ := bcell hb2
    have hz2 : w.heap.size + 1 < w2.heap.size := by have := hb2.size; (try simp at this); omega
    have hy2 : w.heap.size < w2.heap.size := by omega
    have hB2 : Below w.heap.size w w2 := (by repeat (first | with_reducible exact ext_refl _ | with_reducible assumption | with_reducible refine ext_alloc ?_ _ | with_reducible refine ext_trans ?_ (by assumption)))
    replace q5 := ((bcell hB2).1 b _ hbs).trans q5
    have hbs2 : b < w2.heap.size := by omega
    have hUT : ∀ wq, Below w.heap.size w wq → Calls Tryz.prog 148 #[.slice Atolerances2 p.tolerances.length ctolerances2, .slice Ataints3 x.hosts[k].taints.length ctaints3, .int .i64 2] wq fun e w' => e = .returned (.int .i64 (untolN p.tolerances 2 x.hosts[k].taints)) ∧ Below wq.heap.size wq w' :=
      fun wq hq => Untolerated_spec p.tolerances x.hosts[k].taints 2 _ _ _ _ _ _ _ _ _ (htolerances2.ext hq) (htaints3.ext hq) rfl rfl htl hxl HTS.out HXS.out
    have HUT := Lib.hid hUT
    clear hUT
    generalize untolN p.tolerances 2 x.hosts[k].taints = z at HUT HF hul
    have hzl : (z : Int) ≤ 1048576 := by omega
    have hw1 : IntKind.i64.wrap (25 * (z : Int)) = 25 * (z : Int) := IntWalk.i64_in _ (by omega)
    have hw2 : IntKind.i64.wrap (100 - 25 * (z : Int)) = 100 - 25 * (z : Int) := IntWalk.i64_in _ (by omega)
    by_cases hpos : (100 : Int) - 25 * (z : Int) ≤ 0
    · have hM : max 0 (100 - 25 * (z : Int)) = 0 := by omega
      have HM := Lib.hid hM
      clear hM
      go_wp2_with fail
      refine wp_region_grow w2 (by kernel_rfl) (by kernel_rfl) (ext_refl _) ?_
      repeat (first
        | (apply inText_skip
           case hw => rfl
           simp only [Act.put, List.setIfInBounds_toArray, List.set_cons_zero, List.set_cons_succ])
        | (apply inText_step
           case hw => rfl
           case h =>
             intro wq hq
             have hcq := (cls_cell hq).1
             have hfq := (cls_cell hq).2
             go_simp
             first
               | exact ⟨hq, rfl⟩
               | exact ⟨cls_alloc hq _, rfl⟩
               | (first | (refine (HUT.out _ (ext_trans hB2 hq)).mono ?_; rintro e w3 ⟨rfl, hb3⟩; exact ⟨rfl, cls_trans hq hb3⟩) | (refine (Brought_spec _ _ (by omega) (by omega)).mono ?_; rw [HM.out]; rintro e w3 ⟨rfl, rfl⟩; exact ⟨rfl, hq⟩))
               | (simp only [↓IntWalk.iteOmega]; exact ⟨hq, rfl⟩)
           simp only [Act.put, List.setIfInBounds_toArray, List.set_cons_zero, List.set_cons_succ]))
      refine inText_nil ?_
      intro wn hn
      replace hn := hn.out
      go_wp2
      go_ret
      exact ⟨by rw [HF.out, HM.out]; rfl, ext_trans hB2 hn⟩
    · have hpos2 : (0 : Int) < 100 - 25 * (z : Int) := by omega
      have hM : max 0 (100 - 25 * (z : Int)) = 100 - 25 * (z : Int) := by omega
      have HM := Lib.hid hM
      clear hM
      have hle : (100 : Int) - 25 * (z : Int) ≤ 100 := by omega
      go_wp2_with fail
      refine wp_region_grow w2 (by kernel_rfl) (by kernel_rfl) (ext_refl _) ?_
      repeat (first
        | (apply inText_skip
           case hw => rfl
           simp only [Act.put, List.setIfInBounds_toArray, List.set_cons_zero, List.set_cons_succ])
        | (apply inText_step
           case hw => rfl
           case h =>
             intro wq hq
             have hcq := (cls_cell hq).1
             have hfq := (cls_cell hq).2
             go_simp
             first
               | exact ⟨hq, rfl⟩
               | exact ⟨cls_alloc hq _, rfl⟩
               | (first | (refine (HUT.out _ (ext_trans hB2 hq)).mono ?_; rintro e w3 ⟨rfl, hb3⟩; exact ⟨rfl, cls_trans hq hb3⟩) | (refine (Brought_spec _ _ (by omega) (by omega)).mono ?_; rw [HM.out]; rintro e w3 ⟨rfl, rfl⟩; exact ⟨rfl, hq⟩))
               | (simp only [↓IntWalk.iteOmega]; exact ⟨hq, rfl⟩)
           simp only [Act.put, List.setIfInBounds_toArray, List.set_cons_zero, List.set_cons_succ]))
      refine inText_nil ?_
      intro wn hn
      replace hn := hn.out
      go_wp2
      go_ret
      exact ⟨by rw [HF.out, HM.out] <;> first | rfl | (simp; omega), ext_trans hB2 hn⟩

end Go.Proofs.YtjoclfenghenjaaGreat
