/- compareTolerances. No condition. -/
import Derived.Test.YtpgdgcjgompokaaGreatCmp0
namespace Go.Proofs.YtpgdgcjgompokaaGreat
open Go.ChangeShapes Go.WideShapes Go.ChangeAt Go.RowKit
set_option linter.unusedVariables false
set_option linter.unusedSimpArgs false

/-- false stands ahead of true -/
def flagI (a b : Bool) : Int := if a == b then 0 else if b then -1 else 1
theorem flagI_range (a b : Bool) : -1 ≤ flagI a b ∧ flagI a b ≤ 1 := by cases a <;> cases b <;> decide
theorem compareFlags_any (a b : Bool) (w : World) : Calls Tryz.prog 112 #[.bool a, .bool b] w fun e w' => e = .returned (.int .i64 (flagI a b)) ∧ w' = w := by
  cases a <;> cases b
  all_goals
    go_enter Tryz.func112, Tryz.ntmps112
    go_wp2
    go_ret
    exact ⟨rfl, rfl⟩
theorem Sl.ints4 (W : World) (a b c d : Int) (t : TypeId) (ha : I64 a) (hb : I64 b) (hc : I64 c) (hd : I64 d) (N : Nat) (hN : W.heap.size = N) : Sl (W.alloc (.cells #[.int .i64 a, .int .i64 b, .int .i64 c, .int .i64 d] t)) [a, b, c, d] (some ⟨N, 0, none⟩) 4 [N] := by
  subst hN
  exact Sl.ints_alloc W [a, b, c, d] t (by intro x hx; simp only [List.mem_cons, List.not_mem_nil, or_false] at hx; rcases hx with rfl | rfl | rfl | rfl <;> assumption) (by unfold maxLen; simp)
def vcmp (x y : Tolerance) : List Int := [Lib.compareBytes x.key.data.toList y.key.data.toList, flagI x.equal y.equal, Lib.compareBytes x.value.data.toList y.value.data.toList, Lib.compareInt x.effect y.effect]
set_option maxRecDepth 100000 in
set_option maxHeartbeats 1000000 in
theorem compareTolerances_any (x y : Tolerance) (cs ds : List Value) (F G : List Nat) (w : World) (h : rd w x cs F) (h' : rd w y ds G) :
    Calls Tryz.prog 99 #[.agg cs.toArray, .agg ds.toArray] w fun e w' => e = .returned (.int .i64 (orI (vcmp x y))) ∧ Below w.heap.size w w' := by
  obtain ⟨hck, hF1, hkey1, hvalue1, heffect1⟩ := rd_Tolerance h
  obtain ⟨hck2, hF2, hkey2, hvalue2, heffect2⟩ := rd_Tolerance h'
  subst hck hck2
  subst hF1 hF2
  have hr1 := compareBytes_range x.key.data.toList y.key.data.toList
  have hr4 := flagI_range x.equal y.equal
  have hr2 := compareBytes_range x.value.data.toList y.value.data.toList
  have hr3 := compareInt_range x.effect y.effect
  go_enter Tryz.func99, Tryz.ntmps99
  go_wp2_with fail
  refine wp_region_ix ((w.alloc (.cells #[.string x.key, .bool x.equal, .string x.value, .int .i64 x.effect] 74)).alloc (.cells #[.string y.key, .bool y.equal, .string y.value, .int .i64 y.effect] 74)) [0, 1, 2, 3, 5, 6, 7, 8, 10, 11, 12, 13, 15, 16, 17, 18] [4, 9, 14, 19, 20, 21, 22] (by kernel_rfl) (by kernel_rfl) (fun _ _ d _ _ h => by cases d <;> exact h) (ext_refl _) ?_
  simp only [pick, List.getElem?_cons_succ, List.getElem?_cons_zero]
  iterate 16
    (apply headC_step
     case hy =>
       refine Or.inl ⟨rfl, fun wq hq => ?_⟩
       have hcq := (cls_cell hq).1
       go_simp
       try rfl
     simp only [Act.put, List.setIfInBounds_toArray, List.set_cons_zero, List.set_cons_succ])
  refine headC_nil ?_
  have hbx := ext_drew (ext_refl ((w.alloc (.cells #[.string x.key, .bool x.equal, .string x.value, .int .i64 x.effect] 74)).alloc (.cells #[.string y.key, .bool y.equal, .string y.value, .int .i64 y.effect] 74)))
  refine wpListC_step rfl (fun K hK => ?_)
  go_simp
  refine (Compare_any x.key y.key _).mono ?_
  rintro e wz ⟨rfl, hw⟩
  simp only [hw]
  clear hw wz
  refine hK _ _ hbx (fun _ => ?_)
  try simp only [Act.put, List.setIfInBounds_toArray, List.set_cons_zero, List.set_cons_succ]
  clear hK K
  refine wpListC_step rfl (fun K hK => ?_)
  go_simp
  refine (compareFlags_any x.equal y.equal _).mono ?_
  rintro e wz ⟨rfl, hw⟩
  simp only [hw]
  clear hw wz
  refine hK _ _ hbx (fun _ => ?_)
  try simp only [Act.put, List.setIfInBounds_toArray, List.set_cons_zero, List.set_cons_succ]
  clear hK K
  refine wpListC_step rfl (fun K hK => ?_)
  go_simp
  refine (Compare_any x.value y.value _).mono ?_
  rintro e wz ⟨rfl, hw⟩
  simp only [hw]
  clear hw wz
  refine hK _ _ hbx (fun _ => ?_)
  try simp only [Act.put, List.setIfInBounds_toArray, List.set_cons_zero, List.set_cons_succ]
  clear hK K
  refine wpListC_step rfl (fun K hK => ?_)
  go_simp
  refine (CompareInt_any x.effect y.effect _).mono ?_
  rintro e wz ⟨rfl, hw⟩
  simp only [hw]
  clear hw wz
  refine hK _ _ hbx (fun _ => ?_)
  try simp only [Act.put, List.setIfInBounds_toArray, List.set_cons_zero, List.set_cons_succ]
  clear hK K
  refine wpListC_step rfl (fun K hK => ?_)
  go_simp
  replace hbx := ext_alloc hbx (.cells #[.int .i64 (Lib.compareBytes x.key.data.toList y.key.data.toList), .int .i64 (flagI x.equal y.equal), .int .i64 (Lib.compareBytes x.value.data.toList y.value.data.toList), .int .i64 (Lib.compareInt x.effect y.effect)] 3)
  refine hK _ _ hbx (fun _ => ?_)
  try simp only [Act.put, List.setIfInBounds_toArray, List.set_cons_zero, List.set_cons_succ]
  clear hK K
  have hS := Sl.drewS (Sl.ints4 ((w.alloc (.cells #[.string x.key, .bool x.equal, .string x.value, .int .i64 x.effect] 74)).alloc (.cells #[.string y.key, .bool y.equal, .string y.value, .int .i64 y.effect] 74)) _ _ _ _ 3 (I64.small hr1) (I64.small hr4) (I64.small hr2) (I64.small hr3) (w.heap.size + 2) (by simp))
  refine wpListC_step rfl (fun K hK => ?_)
  go_simp
  refine (Or_any _ _ 4 _ _ _ hS rfl (by simp)).mono ?_
  rintro e wz ⟨rfl, hw⟩
  simp only [hw]
  clear hw wz
  refine hK _ _ hbx (fun _ => ?_)
  try simp only [Act.put, List.setIfInBounds_toArray, List.set_cons_zero, List.set_cons_succ]
  clear hK K
  refine wpListC_step rfl (fun K hK => ?_)
  go_simp
  refine hK _ _ hbx (fun _ => ?_)
  try simp only [Act.put, List.setIfInBounds_toArray, List.set_cons_zero, List.set_cons_succ]
  clear hK K
  refine wpListC_nil ?_
  go_wp2
  go_ret
  exact ⟨rfl, ext_trans (ext_alloc (ext_alloc (ext_refl _) _) _) hbx⟩

end Go.Proofs.YtpgdgcjgompokaaGreat

namespace Go.Proofs.YtpgdgcjgompokaaGreat
open Go.ChangeShapes Go.WideShapes Go.ChangeAt Go.RowKit
set_option linter.unusedVariables false
set_option linter.unusedSimpArgs false

/-- one tolerance stands ahead of another -/
def tolLess (x y : Tolerance) : Bool := decide (orI (vcmp x y) < 0)
theorem tolLess_key {x y : Tolerance} (h : (x.key.toList == y.key.toList) = false) : tolLess x y = Op.bytesLess x.key.toList y.key.toList := by
  have h1 : Lib.compareBytes x.key.data.toList y.key.data.toList ≠ 0 := fun e => by
    rw [cb_eq, ← ByteArray.toList_eq, ← ByteArray.toList_eq] at e
    simp [e] at h
  unfold tolLess vcmp
  simp only [orI, if_neg h1]
  rw [Bool.eq_iff_iff, decide_eq_true_eq, cb_lt, ByteArray.toList_eq, ByteArray.toList_eq]
theorem tolLess_equal {x y : Tolerance} (hk : (x.key.toList == y.key.toList) = true) (h : x.equal ≠ y.equal) : tolLess x y = y.equal := by
  have h0 : Lib.compareBytes x.key.data.toList y.key.data.toList = 0 := by rw [cb_eq, ← ByteArray.toList_eq, ← ByteArray.toList_eq]; simpa using hk
  unfold tolLess vcmp
  simp only [orI, if_pos h0]
  cases hx : x.equal <;> cases hy : y.equal <;> simp_all [flagI]
theorem tolLess_value {x y : Tolerance} (hk : (x.key.toList == y.key.toList) = true) (hq : x.equal = y.equal) (h : (x.value.toList == y.value.toList) = false) : tolLess x y = Op.bytesLess x.value.toList y.value.toList := by
  have h0 : Lib.compareBytes x.key.data.toList y.key.data.toList = 0 := by rw [cb_eq, ← ByteArray.toList_eq, ← ByteArray.toList_eq]; simpa using hk
  have h1 : Lib.compareBytes x.value.data.toList y.value.data.toList ≠ 0 := fun e => by
    rw [cb_eq, ← ByteArray.toList_eq, ← ByteArray.toList_eq] at e
    simp [e] at h
  have h2 : flagI x.equal y.equal = 0 := by unfold flagI; simp [hq]
  unfold tolLess vcmp
  simp only [orI, if_pos h0, if_pos h2, if_neg h1]
  rw [Bool.eq_iff_iff, decide_eq_true_eq, cb_lt, ByteArray.toList_eq, ByteArray.toList_eq]
theorem tolLess_effect {x y : Tolerance} (hk : (x.key.toList == y.key.toList) = true) (hq : x.equal = y.equal) (h : (x.value.toList == y.value.toList) = true) : tolLess x y = decide (x.effect < y.effect) := by
  have h0 : Lib.compareBytes x.key.data.toList y.key.data.toList = 0 := by rw [cb_eq, ← ByteArray.toList_eq, ← ByteArray.toList_eq]; simpa using hk
  have h1 : Lib.compareBytes x.value.data.toList y.value.data.toList = 0 := by rw [cb_eq, ← ByteArray.toList_eq, ← ByteArray.toList_eq]; simpa using h
  have h2 : flagI x.equal y.equal = 0 := by unfold flagI; simp [hq]
  unfold tolLess vcmp
  simp only [orI, if_pos h0, if_pos h2, if_pos h1]
  unfold Lib.compareInt
  rw [Bool.eq_iff_iff, decide_eq_true_eq, decide_eq_true_eq]
  repeat' split
  all_goals omega
set_option maxRecDepth 100000 in
set_option maxHeartbeats 1000000 in
theorem l16Before_any (x y : Tolerance) (cs ds : List Value) (F G : List Nat) (w : World) (h : rd w x cs F) (h' : rd w y ds G) :
    Calls Tryz.prog 86 #[.agg cs.toArray, .agg ds.toArray] w fun e w' => e = .returned (.bool (tolLess x y)) ∧ Below w.heap.size w w' := by
  obtain ⟨hck, hF1, hkey1, hvalue1, heffect1⟩ := rd_Tolerance h
  obtain ⟨hck2, hF2, hkey2, hvalue2, heffect2⟩ := rd_Tolerance h'
  subst hck hck2
  subst hF1 hF2
  cases h1 : (x.key.toList == y.key.toList) with
  | false =>
    rw [tolLess_key h1]
    go_enter Tryz.func86, Tryz.ntmps86
    go_wp2
    all_goals
      go_ret
      exact ⟨by first | rfl | simp_all, (by repeat (first | with_reducible exact ext_refl _ | with_reducible assumption | with_reducible refine ext_alloc ?_ _ | with_reducible refine ext_trans ?_ (by assumption)))⟩
  | true =>
    by_cases h3 : x.equal = y.equal
    · cases h2 : (x.value.toList == y.value.toList) with
      | false =>
        rw [tolLess_value h1 h3 h2]
        have h4 : (x.equal == y.equal) = true := by simp [h3]
        go_enter Tryz.func86, Tryz.ntmps86
        go_wp2
        all_goals
          go_ret
          exact ⟨by first | rfl | simp_all, (by repeat (first | with_reducible exact ext_refl _ | with_reducible assumption | with_reducible refine ext_alloc ?_ _ | with_reducible refine ext_trans ?_ (by assumption)))⟩
      | true =>
        rw [tolLess_effect h1 h3 h2]
        have h4 : (x.equal == y.equal) = true := by simp [h3]
        go_enter Tryz.func86, Tryz.ntmps86
        go_wp2
        all_goals
          go_ret
          exact ⟨by first | rfl | simp_all, (by repeat (first | with_reducible exact ext_refl _ | with_reducible assumption | with_reducible refine ext_alloc ?_ _ | with_reducible refine ext_trans ?_ (by assumption)))⟩
    · rw [tolLess_equal h1 h3]
      have h4 : (x.equal == y.equal) = false := by simp [h3]
      go_enter Tryz.func86, Tryz.ntmps86
      go_wp2
      all_goals
        go_ret
        exact ⟨by first | rfl | simp_all, (by repeat (first | with_reducible exact ext_refl _ | with_reducible assumption | with_reducible refine ext_alloc ?_ _ | with_reducible refine ext_trans ?_ (by assumption)))⟩

end Go.Proofs.YtpgdgcjgompokaaGreat
