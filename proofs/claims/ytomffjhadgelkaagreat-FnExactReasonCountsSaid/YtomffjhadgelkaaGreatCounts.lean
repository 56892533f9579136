/- ReasonCounts, of the program and of the reference. No condition. -/
import Derived.Test.YtomffjhadgelkaaGreatReasons
import Derived.Deep.RegionWith
namespace Go.Proofs.YtomffjhadgelkaaGreat
open Go.ChangeShapes Go.WideShapes Go.ChangeAt Go.RowKit
set_option linter.unusedVariables false
set_option linter.unusedSimpArgs false

/-- how many times j is among some -/
def cntOf (l : List Int) (j : Nat) : Int := ((l.filter fun r => r == (j : Int)).length : Nat)
def countsL (l : List Int) : List Int := [cntOf l 0, cntOf l 1, cntOf l 2, cntOf l 3, cntOf l 4, cntOf l 5, cntOf l 6]
theorem cntOf_add (l : List Int) (r : Int) (j : Nat) : cntOf (l ++ [r]) j = cntOf l j + if r = (j : Int) then 1 else 0 := by
  unfold cntOf
  rw [List.filter_append, List.length_append]
  by_cases h : r = (j : Int)
  · rw [if_pos h]; simp [h]
  · rw [if_neg h]; simp [h]
theorem cntOf_le (l : List Int) (j : Nat) : 0 ≤ cntOf l j ∧ cntOf l j ≤ l.length := by
  unfold cntOf
  have := List.length_filter_le (fun r => r == (j : Int)) l
  omega
theorem countsL_get (l : List Int) {j : Nat} (hj : j < 7) : (countsL l)[j]? = some (cntOf l j) := by
  obtain rfl | rfl | rfl | rfl | rfl | rfl | rfl : j = 0 ∨ j = 1 ∨ j = 2 ∨ j = 3 ∨ j = 4 ∨ j = 5 ∨ j = 6 := by omega
  all_goals rfl
theorem countsL_add (l : List Int) {j : Nat} (hj : j < 7) : countsL (l ++ [(j : Int)]) = (countsL l).set j (cntOf l j + 1) := by
  obtain rfl | rfl | rfl | rfl | rfl | rfl | rfl : j = 0 ∨ j = 1 ∨ j = 2 ∨ j = 3 ∨ j = 4 ∨ j = 5 ∨ j = 6 := by omega
  all_goals simp [countsL, cntOf_add]
theorem countsL_I64 (l : List Int) (hl : (l.length : Int) ≤ 1048576) : ∀ x ∈ countsL l, I64 x := by
  intro x hx
  obtain ⟨j, hj, rfl⟩ := List.getElem_of_mem hx
  have h := countsL_get l (j := j) (by simpa [countsL] using hj)
  rw [List.getElem?_eq_getElem hj] at h
  have e : (countsL l)[j] = cntOf l j := by simpa using h
  have := cntOf_le l j
  rw [e]
  exact ⟨by omega, by omega⟩
def ivals (xs : List Int) : List Value := xs.map fun n => .int .i64 n
theorem ivals_get {xs : List Int} {j : Nat} {n : Int} (h : xs[j]? = some n) : (ivals xs)[j]? = some (.int .i64 n) := by unfold ivals; rw [List.getElem?_map, h]; rfl
theorem ivals_set (xs : List Int) (j : Nat) (n : Int) : ivals (xs.set j n) = (ivals xs).set j (.int .i64 n) := by unfold ivals; rw [List.map_set]
theorem Fill.put {w : World} {g : Nat} {t : TypeId} {N : Nat} {ds : List Value} (h : Fill w g t N ds) {i : Nat} (hi : i < ds.length) (u : Value) : Fill (w.setCell ⟨g, i, none⟩ u) g t N (ds.set i u) := by
  obtain ⟨cs, h, rfl, hl, hc⟩ := h
  refine ⟨cs.setIfInBounds i u, ?_, by simp, by simpa using hl, fun j v hv => ?_⟩
  · simp [World.setCell, Array.getElem?_modify, h]
  · by_cases hij : i = j
    · subst hij
      rw [List.getElem?_set_self hi] at hv
      rw [Array.getElem?_setIfInBounds_self_of_lt (by omega)]
      exact hv
    · rw [List.getElem?_set_ne hij] at hv
      rw [Array.getElem?_setIfInBounds_ne hij]
      exact hc j v hv
theorem made_zero {j : Nat} (hj : j < 7) : (madeCells (Value.int .i64 0).cells (7 * 1))[j]? = some (.int .i64 0) := by
  have e : (Value.int .i64 0).cells = #[.int .i64 0] := rfl
  rw [e]
  simp [madeCells, hj, Nat.mod_one]
theorem Fill.zeros (w : World) (t : TypeId) : Fill (w.alloc (.cells (madeCells (Value.int .i64 0).cells (7 * 1)) t)) w.heap.size t 7 (ivals (countsL [])) :=
  ⟨_, heap_alloc_new w _, by rw [size_madeCells], by simp [ivals, countsL], fun j u hu => by
    have hj := (List.getElem?_eq_some_iff.1 hu).1
    have hj7 : j < 7 := by simpa [ivals, countsL] using hj
    rw [made_zero hj7, ← hu]
    obtain rfl | rfl | rfl | rfl | rfl | rfl | rfl : j = 0 ∨ j = 1 ∨ j = 2 ∨ j = 3 ∨ j = 4 ∨ j = 5 ∨ j = 6 := by omega
    all_goals rfl⟩
theorem OwnCells.ivals {w : World} {B : Nat} {xs : List Int} (h : ∀ x ∈ xs, I64 x) : OwnCells w B xs (ivals xs) [] :=
  ⟨rdCells_ints w xs h, List.nodup_nil, (fun b hb => by cases hb), (fun b hb => by cases hb)⟩
theorem reasonsL_range (x : Cluster) (p : Pod) (hs : List Host) {k : Nat} (hk : k < (reasonsL x p hs).length) : ∃ j : Nat, j < 7 ∧ (reasonsL x p hs)[k] = j := by
  have h : (reasonsL x p hs)[k] = reasonR (hs[k]'(by rw [reasonsL_len] at hk; exact hk)).name x p := by simp [reasonsL]
  have := reasonR_range (hs[k]'(by rw [reasonsL_len] at hk; exact hk)).name x p
  exact ⟨((reasonsL x p hs)[k]).toNat, by omega, by omega⟩
set_option maxRecDepth 100000 in
set_option maxHeartbeats 4000000 in
theorem ReasonCounts_impl (x : Cluster) (p : Pod) (cs ps : List Value) (F G : List Nat) (w : World) (h : rd w x cs F) (h' : rd w p ps G) (hw : (x.wt : Int) ≤ 1048576) (hw' : (p.wt : Int) ≤ 1048576) :
    Calls Tryz.prog 10 #[.agg cs.toArray, .agg ps.toArray] w fun e w' => ∃ A c G, e = .returned (.slice A (countsL (reasonsL x p x.hosts)).length c) ∧ Own w' w.heap.size (countsL (reasonsL x p x.hosts)) [.slice A (countsL (reasonsL x p x.hosts)).length c] G ∧ Below w.heap.size w w' := by
  have hwx : x.wt = wtL Host.wt x.hosts + wtL Placed.wt x.pods := rfl
  have hlen : (x.hosts.length : Int) ≤ 1048576 := by have := wtL_len Host.wt x.hosts; omega
  have hrl := reasonsL_len x p x.hosts
  have HRG := Lib.hid (fun k (hk : k < (reasonsL x p x.hosts).length) => reasonsL_range x p x.hosts hk)
  have HRF := Lib.hid (fun (u : World) (cs ps : List Value) (F G : List Nat) (h : rd u x cs F) (h' : rd u p ps G) => ReasonsFor_impl x p cs ps F G u h h' hw hw')
  have HW := Lib.hid hw
  have HWP := Lib.hid hw'
  clear hw hw' hwx
  generalize reasonsL x p x.hosts = rs at hrl HRG HRF
  have hrs : (rs.length : Int) ≤ 1048576 := by omega
  clear hrl
  have hr := h
  have hr' := h'
  obtain ⟨Ahosts, chosts, Fhosts, Apods, cpods, Fpods, hck, hF, hhosts, hpods, hnext, hweightspack, hweightsspread, hweightssoft⟩ := rd_Cluster hr
  obtain ⟨Alabels2, clabels2, Flabels2, Aneeds2, cneeds2, Fneeds2, Atolerances2, ctolerances2, Ftolerances2, hck2, hG, hname2, hlabels2, hcpu2, hmem2, hrank2, hneeds2, htolerances2⟩ := rd_Pod hr'
  subst hck hck2
  clear hF hG hr hr'
  go_enter Tryz.func10, Tryz.ntmps10
  obtain ⟨w0, hw0⟩ : ∃ w0, (w.alloc (.cells #[.slice Ahosts x.hosts.length chosts, .slice Apods x.pods.length cpods, .int .i64 x.next, .int .i64 x.weights.pack, .int .i64 x.weights.spread, .int .i64 x.weights.soft] 41)).alloc (.cells #[.string p.name, .slice Alabels2 p.labels.length clabels2, .int .i64 p.cpu, .int .i64 p.mem, .int .i64 p.rank, .slice Aneeds2 p.needs.length cneeds2, .slice Atolerances2 p.tolerances.length ctolerances2] 47) = w0 := ⟨_, rfl⟩
  have c0 : w0.cell? ⟨w.heap.size, 0, none⟩ = some (.slice Ahosts x.hosts.length chosts) := by rw [← hw0, World.cell?_of_block (heap_alloc_old _ _ (by simp)), cell_of_row _ _ _ _ _ _ (heap_alloc_new w _)]; rfl
  have c1 : w0.cell? ⟨w.heap.size, 1, none⟩ = some (.slice Apods x.pods.length cpods) := by rw [← hw0, World.cell?_of_block (heap_alloc_old _ _ (by simp)), cell_of_row _ _ _ _ _ _ (heap_alloc_new w _)]; rfl
  have c2 : w0.cell? ⟨w.heap.size, 2, none⟩ = some (.int .i64 x.next) := by rw [← hw0, World.cell?_of_block (heap_alloc_old _ _ (by simp)), cell_of_row _ _ _ _ _ _ (heap_alloc_new w _)]; rfl
  have c3 : w0.cell? ⟨w.heap.size, 3, none⟩ = some (.int .i64 x.weights.pack) := by rw [← hw0, World.cell?_of_block (heap_alloc_old _ _ (by simp)), cell_of_row _ _ _ _ _ _ (heap_alloc_new w _)]; rfl
  have c4 : w0.cell? ⟨w.heap.size, 4, none⟩ = some (.int .i64 x.weights.spread) := by rw [← hw0, World.cell?_of_block (heap_alloc_old _ _ (by simp)), cell_of_row _ _ _ _ _ _ (heap_alloc_new w _)]; rfl
  have c5 : w0.cell? ⟨w.heap.size, 5, none⟩ = some (.int .i64 x.weights.soft) := by rw [← hw0, World.cell?_of_block (heap_alloc_old _ _ (by simp)), cell_of_row _ _ _ _ _ _ (heap_alloc_new w _)]; rfl
  have d0 : w0.cell? ⟨w.heap.size + 1, 0, none⟩ = some (.string p.name) := by rw [← hw0]; simp
  have d1 : w0.cell? ⟨w.heap.size + 1, 1, none⟩ = some (.slice Alabels2 p.labels.length clabels2) := by rw [← hw0]; simp
  have d2 : w0.cell? ⟨w.heap.size + 1, 2, none⟩ = some (.int .i64 p.cpu) := by rw [← hw0]; simp
  have d3 : w0.cell? ⟨w.heap.size + 1, 3, none⟩ = some (.int .i64 p.mem) := by rw [← hw0]; simp
  have d4 : w0.cell? ⟨w.heap.size + 1, 4, none⟩ = some (.int .i64 p.rank) := by rw [← hw0]; simp
  have d5 : w0.cell? ⟨w.heap.size + 1, 5, none⟩ = some (.slice Aneeds2 p.needs.length cneeds2) := by rw [← hw0]; simp
  have d6 : w0.cell? ⟨w.heap.size + 1, 6, none⟩ = some (.slice Atolerances2 p.tolerances.length ctolerances2) := by rw [← hw0]; simp
  have hB0 : Below w.heap.size w w0 := by rw [← hw0]; exact ext_alloc (ext_alloc (ext_refl _) _) _
  have hs0 : w0.heap.size = w.heap.size + 1 + 1 := by rw [← hw0]; simp
  have hz0 : w.heap.size < w0.heap.size := by omega
  have hz1 : w.heap.size + 1 < w0.heap.size := by omega
  have HS0 := Lib.hid hs0
  have HW0 := Lib.hid hw0
  clear hw0 hs0
  have hmk : ∀ wq : World, (Instr.makeSlice 35 (.int .i64 7) (.int .i64 7)).run Tryz.prog wq = .ok (.slice (some ⟨wq.heap.size, 0, none⟩) 7 7) (wq.alloc (.cells (madeCells (Value.int .i64 0).cells (7 * 1)) 3)) := fun wq => run_make_full (P := Tryz.prog) elInt (by omega) 7 (by omega) wq
  go_wp2_with fail
  try rw [HW0.out]
  refine (HRF.out _ _ _ _ _ (rd_extT h (ext_alloc hB0 _)) (rd_extT h' (ext_alloc hB0 _))).mono ?_
  rintro e w3 ⟨A3, c3, G3, rfl, hO3, hb3⟩
  have hfl := (Fill.zeros w0 3).keep (w' := w3) (hb3.block _ (by simp))
  have hB3 : Below w.heap.size w w3 := ext_trans (ext_alloc hB0 _) hb3
  have hgz : w0.heap.size < w3.heap.size := by have := hb3.size; (try simp at this); omega
  replace hO3 := hO3.mono (B' := w.heap.size + 1 + 1 + 1) (by rw [← HS0.out]; simp)
  rw [HS0.out] at hfl hgz
  go_wp2_with fail
  go_loopw [13] (fun i wr => ∃ (k : Nat), k ≤ rs.length ∧ i = .int .i64 k ∧ Fill wr (w.heap.size + 1 + 1) 3 7 (ivals (countsL (rs.take k))) ∧ Own wr (w.heap.size + 1 + 1 + 1) rs [.slice A3 rs.length c3] G3 ∧ Below w.heap.size w wr) (fun i _ => rs.length - (intOf i).toNat)
  case atStart => exact ⟨0, Nat.zero_le _, rfl, hfl, hO3, hB3⟩
  case round =>
    obtain ⟨k, hk, rfl, hF, hO, hbl⟩ := hrel
    by_cases hlt : k < rs.length
    · obtain ⟨j, hj7, hj⟩ := HRG.out k hlt
      have hOs := hO.rd
      obtain ⟨b, o, ck, Fk, rfl, hbF, hbs, hr, hsub, hc⟩ := Sl.get (α := Int) (A := A3) (c := c3) hOs hlt
      obtain ⟨hck, hFk, hsz⟩ := hr
      subst hck hFk
      have q0 : wr.cell? ⟨b, o + k, none⟩ = some (.int .i64 rs[k]) := by have := hc 0 _ rfl; rwa [show o + (k * Dat.size Int + 0) = o + k from by show o + (k * 1 + 0) = _; omega] at this
      rw [hj] at q0
      clear hc
      have hcj := cntOf_le (rs.take k) j
      have hlk : ((rs.take k).length : Int) ≤ 1048576 := by rw [List.length_take]; omega
      have hst : countsL (rs.take (k + 1)) = (countsL (rs.take k)).set j (cntOf (rs.take k) j + 1) := by rw [List.take_succ_eq_append_getElem hlt, hj, countsL_add _ hj7]
      have p0 : wr.cell? ⟨w.heap.size + 1 + 1, j, none⟩ = some (.int .i64 (cntOf (rs.take k) j)) := by have := hF.cells j _ (ivals_get (countsL_get (rs.take k) hj7)); rwa [Nat.zero_add] at this
      have pf := hF.frozen j
      have hgr := hF.lt
      have hF2 := hF.put (i := j) (by simpa [ivals, countsL] using hj7) (.int .i64 (cntOf (rs.take k) j + 1))
      rw [← ivals_set, ← hst] at hF2
      have hO2 := hO.setCell (p := ⟨w.heap.size + 1 + 1, j, none⟩) (by show w.heap.size + 1 + 1 < _; omega) (.int .i64 (cntOf (rs.take k) j + 1))
      have hb2 := ext_setCell hbl (p := ⟨w.heap.size + 1 + 1, j, none⟩) (by show w.heap.size ≤ w.heap.size + 1 + 1; omega) (.int .i64 (cntOf (rs.take k) j + 1))
      have HST := Lib.hid hst
      clear hst hj
      generalize cntOf (rs.take k) j = z at *
      have hz0 : 0 ≤ z := hcj.1
      have hz1 : z ≤ 1048576 := by omega
      have hji : (j : Int) < 7 := by omega
      clear hcj hlk
      go_wp2
      exact ⟨⟨k + 1, by omega, by go_num, hF2, hO2, hb2⟩, by simp [intOf]; omega⟩
    · have hkl : k = rs.length := by omega
      subst hkl
      rw [List.take_length] at hF
      have hres := Own.of_fill (c := 7) hF (OwnCells.ivals (countsL_I64 rs hrs)) (by simp [countsL]) (by unfold maxLen; omega)
      go_wp2
      go_ret
      exact ⟨_, _, _, rfl, hres.mono (by omega), hbl⟩
set_option maxRecDepth 100000 in
set_option maxHeartbeats 4000000 in
theorem ReasonCounts_spec (x : Cluster) (p : Pod) (cs ps : List Value) (F G : List Nat) (w : World) (h : rd w x cs F) (h' : rd w p ps G) (hw : (x.wt : Int) ≤ 1048576) (hw' : (p.wt : Int) ≤ 1048576) :
    Calls Tryz.prog 7 #[.agg cs.toArray, .agg ps.toArray] w fun e w' => ∃ A c G, e = .returned (.slice A (countsL (reasonsL x p x.hosts)).length c) ∧ Own w' w.heap.size (countsL (reasonsL x p x.hosts)) [.slice A (countsL (reasonsL x p x.hosts)).length c] G ∧ Below w.heap.size w w' := by
  have hwx : x.wt = wtL Host.wt x.hosts + wtL Placed.wt x.pods := rfl
  have hlen : (x.hosts.length : Int) ≤ 1048576 := by have := wtL_len Host.wt x.hosts; omega
  have hrl := reasonsL_len x p x.hosts
  have HRG := Lib.hid (fun k (hk : k < (reasonsL x p x.hosts).length) => reasonsL_range x p x.hosts hk)
  have HRF := Lib.hid (fun (u : World) (cs ps : List Value) (F G : List Nat) (h : rd u x cs F) (h' : rd u p ps G) => ReasonsFor_spec x p cs ps F G u h h' hw hw')
  have HW := Lib.hid hw
  have HWP := Lib.hid hw'
  clear hw hw' hwx
  generalize reasonsL x p x.hosts = rs at hrl HRG HRF
  have hrs : (rs.length : Int) ≤ 1048576 := by omega
  clear hrl
  have hr := h
  have hr' := h'
  obtain ⟨Ahosts, chosts, Fhosts, Apods, cpods, Fpods, hck, hF, hhosts, hpods, hnext, hweightspack, hweightsspread, hweightssoft⟩ := rd_Cluster hr
  obtain ⟨Alabels2, clabels2, Flabels2, Aneeds2, cneeds2, Fneeds2, Atolerances2, ctolerances2, Ftolerances2, hck2, hG, hname2, hlabels2, hcpu2, hmem2, hrank2, hneeds2, htolerances2⟩ := rd_Pod hr'
  subst hck hck2
  clear hF hG hr hr'
  go_enter Tryz.func7, Tryz.ntmps7
  obtain ⟨w0, hw0⟩ : ∃ w0, (w.alloc (.cells #[.slice Ahosts x.hosts.length chosts, .slice Apods x.pods.length cpods, .int .i64 x.next, .int .i64 x.weights.pack, .int .i64 x.weights.spread, .int .i64 x.weights.soft] 41)).alloc (.cells #[.string p.name, .slice Alabels2 p.labels.length clabels2, .int .i64 p.cpu, .int .i64 p.mem, .int .i64 p.rank, .slice Aneeds2 p.needs.length cneeds2, .slice Atolerances2 p.tolerances.length ctolerances2] 47) = w0 := ⟨_, rfl⟩
  have c0 : w0.cell? ⟨w.heap.size, 0, none⟩ = some (.slice Ahosts x.hosts.length chosts) := by rw [← hw0, World.cell?_of_block (heap_alloc_old _ _ (by simp)), cell_of_row _ _ _ _ _ _ (heap_alloc_new w _)]; rfl
  have c1 : w0.cell? ⟨w.heap.size, 1, none⟩ = some (.slice Apods x.pods.length cpods) := by rw [← hw0, World.cell?_of_block (heap_alloc_old _ _ (by simp)), cell_of_row _ _ _ _ _ _ (heap_alloc_new w _)]; rfl
  have c2 : w0.cell? ⟨w.heap.size, 2, none⟩ = some (.int .i64 x.next) := by rw [← hw0, World.cell?_of_block (heap_alloc_old _ _ (by simp)), cell_of_row _ _ _ _ _ _ (heap_alloc_new w _)]; rfl
  have c3 : w0.cell? ⟨w.heap.size, 3, none⟩ = some (.int .i64 x.weights.pack) := by rw [← hw0, World.cell?_of_block (heap_alloc_old _ _ (by simp)), cell_of_row _ _ _ _ _ _ (heap_alloc_new w _)]; rfl
  have c4 : w0.cell? ⟨w.heap.size, 4, none⟩ = some (.int .i64 x.weights.spread) := by rw [← hw0, World.cell?_of_block (heap_alloc_old _ _ (by simp)), cell_of_row _ _ _ _ _ _ (heap_alloc_new w _)]; rfl
  have c5 : w0.cell? ⟨w.heap.size, 5, none⟩ = some (.int .i64 x.weights.soft) := by rw [← hw0, World.cell?_of_block (heap_alloc_old _ _ (by simp)), cell_of_row _ _ _ _ _ _ (heap_alloc_new w _)]; rfl
  have d0 : w0.cell? ⟨w.heap.size + 1, 0, none⟩ = some (.string p.name) := by rw [← hw0]; simp
  have d1 : w0.cell? ⟨w.heap.size + 1, 1, none⟩ = some (.slice Alabels2 p.labels.length clabels2) := by rw [← hw0]; simp
  have d2 : w0.cell? ⟨w.heap.size + 1, 2, none⟩ = some (.int .i64 p.cpu) := by rw [← hw0]; simp
  have d3 : w0.cell? ⟨w.heap.size + 1, 3, none⟩ = some (.int .i64 p.mem) := by rw [← hw0]; simp
  have d4 : w0.cell? ⟨w.heap.size + 1, 4, none⟩ = some (.int .i64 p.rank) := by rw [← hw0]; simp
  have d5 : w0.cell? ⟨w.heap.size + 1, 5, none⟩ = some (.slice Aneeds2 p.needs.length cneeds2) := by rw [← hw0]; simp
  have d6 : w0.cell? ⟨w.heap.size + 1, 6, none⟩ = some (.slice Atolerances2 p.tolerances.length ctolerances2) := by rw [← hw0]; simp
  have hB0 : Below w.heap.size w w0 := by rw [← hw0]; exact ext_alloc (ext_alloc (ext_refl _) _) _
  have hs0 : w0.heap.size = w.heap.size + 1 + 1 := by rw [← hw0]; simp
  have hz0 : w.heap.size < w0.heap.size := by omega
  have hz1 : w.heap.size + 1 < w0.heap.size := by omega
  have HS0 := Lib.hid hs0
  have HW0 := Lib.hid hw0
  clear hw0 hs0
  have hmk : ∀ wq : World, (Instr.makeSlice 35 (.int .i64 7) (.int .i64 7)).run Tryz.prog wq = .ok (.slice (some ⟨wq.heap.size, 0, none⟩) 7 7) (wq.alloc (.cells (madeCells (Value.int .i64 0).cells (7 * 1)) 3)) := fun wq => run_make_full (P := Tryz.prog) elInt (by omega) 7 (by omega) wq
  go_wp2_with fail
  try rw [HW0.out]
  refine (HRF.out _ _ _ _ _ (rd_extT h (ext_alloc hB0 _)) (rd_extT h' (ext_alloc hB0 _))).mono ?_
  rintro e w3 ⟨A3, c3, G3, rfl, hO3, hb3⟩
  have hfl := (Fill.zeros w0 3).keep (w' := w3) (hb3.block _ (by simp))
  have hB3 : Below w.heap.size w w3 := ext_trans (ext_alloc hB0 _) hb3
  have hgz : w0.heap.size < w3.heap.size := by have := hb3.size; (try simp at this); omega
  replace hO3 := hO3.mono (B' := w.heap.size + 1 + 1 + 1) (by rw [← HS0.out]; simp)
  rw [HS0.out] at hfl hgz
  go_wp2_with fail
  go_loopw [7] (fun i wr => ∃ (k : Nat), k ≤ rs.length ∧ i = .int .i64 k ∧ Fill wr (w.heap.size + 1 + 1) 3 7 (ivals (countsL (rs.take k))) ∧ Own wr (w.heap.size + 1 + 1 + 1) rs [.slice A3 rs.length c3] G3 ∧ Below w.heap.size w wr) (fun i _ => rs.length - (intOf i).toNat)
  case atStart => exact ⟨0, Nat.zero_le _, rfl, hfl, hO3, hB3⟩
  case round =>
    obtain ⟨k, hk, rfl, hF, hO, hbl⟩ := hrel
    by_cases hlt : k < rs.length
    · obtain ⟨j, hj7, hj⟩ := HRG.out k hlt
      have hOs := hO.rd
      obtain ⟨b, o, ck, Fk, rfl, hbF, hbs, hr, hsub, hc⟩ := Sl.get (α := Int) (A := A3) (c := c3) hOs hlt
      obtain ⟨hck, hFk, hsz⟩ := hr
      subst hck hFk
      have q0 : wr.cell? ⟨b, o + k, none⟩ = some (.int .i64 rs[k]) := by have := hc 0 _ rfl; rwa [show o + (k * Dat.size Int + 0) = o + k from by show o + (k * 1 + 0) = _; omega] at this
      rw [hj] at q0
      clear hc
      have hcj := cntOf_le (rs.take k) j
      have hlk : ((rs.take k).length : Int) ≤ 1048576 := by rw [List.length_take]; omega
      have hst : countsL (rs.take (k + 1)) = (countsL (rs.take k)).set j (cntOf (rs.take k) j + 1) := by rw [List.take_succ_eq_append_getElem hlt, hj, countsL_add _ hj7]
      have p0 : wr.cell? ⟨w.heap.size + 1 + 1, j, none⟩ = some (.int .i64 (cntOf (rs.take k) j)) := by have := hF.cells j _ (ivals_get (countsL_get (rs.take k) hj7)); rwa [Nat.zero_add] at this
      have pf := hF.frozen j
      have hgr := hF.lt
      have hF2 := (hF.keep (w' := wr.drew) rfl).put (i := j) (by simpa [ivals, countsL] using hj7) (.int .i64 (cntOf (rs.take k) j + 1))
      rw [← ivals_set, ← hst] at hF2
      have hO2 := (hO.keep (w' := wr.drew) (fun _ _ => rfl) (Nat.le_refl _)).setCell (p := ⟨w.heap.size + 1 + 1, j, none⟩) (by show w.heap.size + 1 + 1 < _; omega) (.int .i64 (cntOf (rs.take k) j + 1))
      have hb2 := ext_setCell (ext_drew hbl) (p := ⟨w.heap.size + 1 + 1, j, none⟩) (by show w.heap.size ≤ w.heap.size + 1 + 1; omega) (.int .i64 (cntOf (rs.take k) j + 1))
      have HST := Lib.hid hst
      clear hst hj
      generalize cntOf (rs.take k) j = z at *
      have hz0 : 0 ≤ z := hcj.1
      have hz1 : z ≤ 1048576 := by omega
      have hji : (j : Int) < 7 := by omega
      clear hcj hlk
      go_wp2_with fail
      go_region_with fail
      all_goals
        go_wp2
        exact ⟨⟨k + 1, by omega, by go_num, hF2, hO2, hb2⟩, by simp [intOf]; omega⟩
    · have hkl : k = rs.length := by omega
      subst hkl
      rw [List.take_length] at hF
      have hres := Own.of_fill (c := 7) hF (OwnCells.ivals (countsL_I64 rs hrs)) (by simp [countsL]) (by unfold maxLen; omega)
      go_wp2
      go_ret
      exact ⟨_, _, _, rfl, hres.mono (by omega), hbl⟩

end Go.Proofs.YtomffjhadgelkaaGreat
