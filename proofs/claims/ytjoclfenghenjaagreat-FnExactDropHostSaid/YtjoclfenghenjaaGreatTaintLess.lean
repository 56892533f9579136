/- The order of taints. No condition. -/
import Derived.Test.YtjoclfenghenjaaGreatTaintCmp
namespace Go.Proofs.YtjoclfenghenjaaGreat
open Go.ChangeShapes Go.WideShapes Go.ChangeAt Go.RowKit
set_option linter.unusedVariables false
set_option linter.unusedSimpArgs false
/-- one taint stands ahead of another -/
def taintLess (x y : Taint) : Bool := decide (orI (tcmp x y) < 0)
theorem taintLess_key {x y : Taint} (h : (x.key.toList == y.key.toList) = false) : taintLess x y = Op.bytesLess x.key.toList y.key.toList := by
  have h1 : Lib.compareBytes x.key.data.toList y.key.data.toList ≠ 0 := fun e => by
    rw [cb_eq, ← ByteArray.toList_eq, ← ByteArray.toList_eq] at e
    simp [e] at h
  unfold taintLess tcmp
  simp only [orI, if_neg h1]
  rw [Bool.eq_iff_iff, decide_eq_true_eq, cb_lt, ByteArray.toList_eq, ByteArray.toList_eq]
theorem taintLess_value {x y : Taint} (hk : (x.key.toList == y.key.toList) = true) (h : (x.value.toList == y.value.toList) = false) : taintLess x y = Op.bytesLess x.value.toList y.value.toList := by
  have h0 : Lib.compareBytes x.key.data.toList y.key.data.toList = 0 := by rw [cb_eq, ← ByteArray.toList_eq, ← ByteArray.toList_eq]; simpa using hk
  have h1 : Lib.compareBytes x.value.data.toList y.value.data.toList ≠ 0 := fun e => by
    rw [cb_eq, ← ByteArray.toList_eq, ← ByteArray.toList_eq] at e
    simp [e] at h
  unfold taintLess tcmp
  simp only [orI, if_pos h0, if_neg h1]
  rw [Bool.eq_iff_iff, decide_eq_true_eq, cb_lt, ByteArray.toList_eq, ByteArray.toList_eq]
theorem taintLess_effect {x y : Taint} (hk : (x.key.toList == y.key.toList) = true) (h : (x.value.toList == y.value.toList) = true) : taintLess x y = decide (x.effect < y.effect) := by
  have h0 : Lib.compareBytes x.key.data.toList y.key.data.toList = 0 := by rw [cb_eq, ← ByteArray.toList_eq, ← ByteArray.toList_eq]; simpa using hk
  have h1 : Lib.compareBytes x.value.data.toList y.value.data.toList = 0 := by rw [cb_eq, ← ByteArray.toList_eq, ← ByteArray.toList_eq]; simpa using h
  unfold taintLess tcmp
  simp only [orI, if_pos h0, if_pos h1]
  unfold Lib.compareInt
  rw [Bool.eq_iff_iff, decide_eq_true_eq, decide_eq_true_eq]
  repeat' split
  all_goals omega
set_option maxRecDepth 100000 in
set_option maxHeartbeats 1000000 in
theorem l16Less_any (x y : Taint) (cs ds : List Value) (F G : List Nat) (w : World) (h : rd w x cs F) (h' : rd w y ds G) :
    Calls Tryz.prog 165 #[.agg cs.toArray, .agg ds.toArray] w fun e w' => e = .returned (.bool (taintLess x y)) ∧ Below w.heap.size w w' := by
  obtain ⟨hck, hF1, hkey1, hvalue1, heffect1⟩ := rd_Taint h
  obtain ⟨hck2, hF2, hkey2, hvalue2, heffect2⟩ := rd_Taint h'
  subst hck hck2
  subst hF1 hF2
  cases h1 : (x.key.toList == y.key.toList) with
  | false =>
    rw [taintLess_key h1]
    go_enter Tryz.func165, Tryz.ntmps165
    go_wp2
    all_goals
      go_ret
      exact ⟨by first | rfl | simp_all, (by repeat (first | with_reducible exact ext_refl _ | with_reducible assumption | with_reducible refine ext_alloc ?_ _ | with_reducible refine ext_trans ?_ (by assumption)))⟩
  | true =>
    cases h2 : (x.value.toList == y.value.toList) with
    | false =>
      rw [taintLess_value h1 h2]
      go_enter Tryz.func165, Tryz.ntmps165
      go_wp2
      all_goals
        go_ret
        exact ⟨by first | rfl | simp_all, (by repeat (first | with_reducible exact ext_refl _ | with_reducible assumption | with_reducible refine ext_alloc ?_ _ | with_reducible refine ext_trans ?_ (by assumption)))⟩
    | true =>
      rw [taintLess_effect h1 h2]
      go_enter Tryz.func165, Tryz.ntmps165
      go_wp2
      all_goals
        go_ret
        exact ⟨by first | rfl | simp_all, (by repeat (first | with_reducible exact ext_refl _ | with_reducible assumption | with_reducible refine ext_alloc ?_ _ | with_reducible refine ext_trans ?_ (by assumption)))⟩

end Go.Proofs.YtjoclfenghenjaaGreat
