/- compareTaints. No condition. -/
import Derived.Test.YtpgdgcjgompokaaGreatCmp0
namespace Go.Proofs.YtpgdgcjgompokaaGreat
open Go.ChangeShapes Go.WideShapes Go.ChangeAt Go.RowKit
set_option linter.unusedVariables false
set_option linter.unusedSimpArgs false

def tcmp (x y : Taint) : List Int := [Lib.compareBytes x.key.data.toList y.key.data.toList, Lib.compareBytes x.value.data.toList y.value.data.toList, Lib.compareInt x.effect y.effect]
set_option maxRecDepth 100000 in
set_option maxHeartbeats 1000000 in
theorem compareTaints_any (x y : Taint) (cs ds : List Value) (F G : List Nat) (w : World) (h : rd w x cs F) (h' : rd w y ds G) :
    Calls Tryz.prog 95 #[.agg cs.toArray, .agg ds.toArray] w fun e w' => e = .returned (.int .i64 (orI (tcmp x y))) ∧ Below w.heap.size w w' := by
  obtain ⟨hck, hF1, hkey1, hvalue1, heffect1⟩ := rd_Taint h
  obtain ⟨hck2, hF2, hkey2, hvalue2, heffect2⟩ := rd_Taint h'
  subst hck hck2
  subst hF1 hF2
  have hr1 := compareBytes_range x.key.data.toList y.key.data.toList
  have hr2 := compareBytes_range x.value.data.toList y.value.data.toList
  have hr3 := compareInt_range x.effect y.effect
  go_enter Tryz.func95, Tryz.ntmps95
  go_wp2_with fail
  refine wp_region_ix ((w.alloc (.cells #[.string x.key, .string x.value, .int .i64 x.effect] 69)).alloc (.cells #[.string y.key, .string y.value, .int .i64 y.effect] 69)) [0, 1, 2, 3, 5, 6, 7, 8, 10, 11, 12, 13] [4, 9, 14, 15, 16, 17] (by kernel_rfl) (by kernel_rfl) (fun _ _ d _ _ h => by cases d <;> exact h) (ext_refl _) ?_
  simp only [pick, List.getElem?_cons_succ, List.getElem?_cons_zero]
  iterate 12
    (apply headC_step
     case hy =>
       refine Or.inl ⟨rfl, fun wq hq => ?_⟩
       have hcq := (cls_cell hq).1
       go_simp
       try rfl
     simp only [Act.put, List.setIfInBounds_toArray, List.set_cons_zero, List.set_cons_succ])
  refine headC_nil ?_
  have hbx := ext_drew (ext_refl ((w.alloc (.cells #[.string x.key, .string x.value, .int .i64 x.effect] 69)).alloc (.cells #[.string y.key, .string y.value, .int .i64 y.effect] 69)))
  refine wpListC_step rfl (fun K hK => ?_)
  go_simp
  refine (Compare_any x.key y.key _).mono ?_
  rintro e wz ⟨rfl, hw⟩
  simp only [hw]
  clear hw wz
  refine hK _ _ hbx (fun _ => ?_)
  try simp only [Act.put, List.setIfInBounds_toArray, List.set_cons_zero, List.set_cons_succ]
  clear hK K
  refine wpListC_step rfl (fun K hK => ?_)
  go_simp
  refine (Compare_any x.value y.value _).mono ?_
  rintro e wz ⟨rfl, hw⟩
  simp only [hw]
  clear hw wz
  refine hK _ _ hbx (fun _ => ?_)
  try simp only [Act.put, List.setIfInBounds_toArray, List.set_cons_zero, List.set_cons_succ]
  clear hK K
  refine wpListC_step rfl (fun K hK => ?_)
  go_simp
  refine (CompareInt_any x.effect y.effect _).mono ?_
  rintro e wz ⟨rfl, hw⟩
  simp only [hw]
  clear hw wz
  refine hK _ _ hbx (fun _ => ?_)
  try simp only [Act.put, List.setIfInBounds_toArray, List.set_cons_zero, List.set_cons_succ]
  clear hK K
  refine wpListC_step rfl (fun K hK => ?_)
  go_simp
  replace hbx := ext_alloc hbx (.cells #[.int .i64 (Lib.compareBytes x.key.data.toList y.key.data.toList), .int .i64 (Lib.compareBytes x.value.data.toList y.value.data.toList), .int .i64 (Lib.compareInt x.effect y.effect)] 3)
  refine hK _ _ hbx (fun _ => ?_)
  try simp only [Act.put, List.setIfInBounds_toArray, List.set_cons_zero, List.set_cons_succ]
  clear hK K
  have hS := Sl.drewS (Sl.ints3 ((w.alloc (.cells #[.string x.key, .string x.value, .int .i64 x.effect] 69)).alloc (.cells #[.string y.key, .string y.value, .int .i64 y.effect] 69)) _ _ _ 3 (I64.small hr1) (I64.small hr2) (I64.small hr3) (w.heap.size + 2) (by simp))
  refine wpListC_step rfl (fun K hK => ?_)
  go_simp
  refine (Or_any _ _ 3 _ _ _ hS rfl (by simp)).mono ?_
  rintro e wz ⟨rfl, hw⟩
  simp only [hw]
  clear hw wz
  refine hK _ _ hbx (fun _ => ?_)
  try simp only [Act.put, List.setIfInBounds_toArray, List.set_cons_zero, List.set_cons_succ]
  clear hK K
  refine wpListC_step rfl (fun K hK => ?_)
  go_simp
  refine hK _ _ hbx (fun _ => ?_)
  try simp only [Act.put, List.setIfInBounds_toArray, List.set_cons_zero, List.set_cons_succ]
  clear hK K
  refine wpListC_nil ?_
  go_wp2
  go_ret
  exact ⟨rfl, ext_trans (ext_alloc (ext_alloc (ext_refl _) _) _) hbx⟩

end Go.Proofs.YtpgdgcjgompokaaGreat

namespace Go.Proofs.YtpgdgcjgompokaaGreat
open Go.ChangeShapes Go.WideShapes Go.ChangeAt Go.RowKit
set_option linter.unusedVariables false
set_option linter.unusedSimpArgs false
/-- one taint stands ahead of another -/
def taintLess (x y : Taint) : Bool := decide (orI (tcmp x y) < 0)
theorem taintLess_key {x y : Taint} (h : (x.key.toList == y.key.toList) = false) : taintLess x y = Op.bytesLess x.key.toList y.key.toList := by
  have h1 : Lib.compareBytes x.key.data.toList y.key.data.toList ≠ 0 := fun e => by
    rw [cb_eq, ← ByteArray.toList_eq, ← ByteArray.toList_eq] at e
    simp [e] at h
  unfold taintLess tcmp
  simp only [orI, if_neg h1]
  rw [Bool.eq_iff_iff, decide_eq_true_eq, cb_lt, ByteArray.toList_eq, ByteArray.toList_eq]
theorem taintLess_value {x y : Taint} (hk : (x.key.toList == y.key.toList) = true) (h : (x.value.toList == y.value.toList) = false) : taintLess x y = Op.bytesLess x.value.toList y.value.toList := by
  have h0 : Lib.compareBytes x.key.data.toList y.key.data.toList = 0 := by rw [cb_eq, ← ByteArray.toList_eq, ← ByteArray.toList_eq]; simpa using hk
  have h1 : Lib.compareBytes x.value.data.toList y.value.data.toList ≠ 0 := fun e => by
    rw [cb_eq, ← ByteArray.toList_eq, ← ByteArray.toList_eq] at e
    simp [e] at h
  unfold taintLess tcmp
  simp only [orI, if_pos h0, if_neg h1]
  rw [Bool.eq_iff_iff, decide_eq_true_eq, cb_lt, ByteArray.toList_eq, ByteArray.toList_eq]
theorem taintLess_effect {x y : Taint} (hk : (x.key.toList == y.key.toList) = true) (h : (x.value.toList == y.value.toList) = true) : taintLess x y = decide (x.effect < y.effect) := by
  have h0 : Lib.compareBytes x.key.data.toList y.key.data.toList = 0 := by rw [cb_eq, ← ByteArray.toList_eq, ← ByteArray.toList_eq]; simpa using hk
  have h1 : Lib.compareBytes x.value.data.toList y.value.data.toList = 0 := by rw [cb_eq, ← ByteArray.toList_eq, ← ByteArray.toList_eq]; simpa using h
  unfold taintLess tcmp
  simp only [orI, if_pos h0, if_pos h1]
  unfold Lib.compareInt
  rw [Bool.eq_iff_iff, decide_eq_true_eq, decide_eq_true_eq]
  repeat' split
  all_goals omega
set_option maxRecDepth 100000 in
set_option maxHeartbeats 1000000 in
theorem l16Less_any (x y : Taint) (cs ds : List Value) (F G : List Nat) (w : World) (h : rd w x cs F) (h' : rd w y ds G) :
    Calls Tryz.prog 88 #[.agg cs.toArray, .agg ds.toArray] w fun e w' => e = .returned (.bool (taintLess x y)) ∧ Below w.heap.size w w' := by
  obtain ⟨hck, hF1, hkey1, hvalue1, heffect1⟩ := rd_Taint h
  obtain ⟨hck2, hF2, hkey2, hvalue2, heffect2⟩ := rd_Taint h'
  subst hck hck2
  subst hF1 hF2
  cases h1 : (x.key.toList == y.key.toList) with
  | false =>
    rw [taintLess_key h1]
    go_enter Tryz.func88, Tryz.ntmps88
    go_wp2
    all_goals
      go_ret
      exact ⟨by first | rfl | simp_all, (by repeat (first | with_reducible exact ext_refl _ | with_reducible assumption | with_reducible refine ext_alloc ?_ _ | with_reducible refine ext_trans ?_ (by assumption)))⟩
  | true =>
    cases h2 : (x.value.toList == y.value.toList) with
    | false =>
      rw [taintLess_value h1 h2]
      go_enter Tryz.func88, Tryz.ntmps88
      go_wp2
      all_goals
        go_ret
        exact ⟨by first | rfl | simp_all, (by repeat (first | with_reducible exact ext_refl _ | with_reducible assumption | with_reducible refine ext_alloc ?_ _ | with_reducible refine ext_trans ?_ (by assumption)))⟩
    | true =>
      rw [taintLess_effect h1 h2]
      go_enter Tryz.func88, Tryz.ntmps88
      go_wp2
      all_goals
        go_ret
        exact ⟨by first | rfl | simp_all, (by repeat (first | with_reducible exact ext_refl _ | with_reducible assumption | with_reducible refine ext_alloc ?_ _ | with_reducible refine ext_trans ?_ (by assumption)))⟩

end Go.Proofs.YtpgdgcjgompokaaGreat
