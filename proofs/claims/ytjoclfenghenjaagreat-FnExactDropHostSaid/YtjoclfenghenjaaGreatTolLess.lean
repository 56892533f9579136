/- The order of tolerances. No condition. -/
import Derived.Test.YtjoclfenghenjaaGreatTolCmp
namespace Go.Proofs.YtjoclfenghenjaaGreat
open Go.ChangeShapes Go.WideShapes Go.ChangeAt Go.RowKit
set_option linter.unusedVariables false
set_option linter.unusedSimpArgs false

/-- one tolerance stands ahead of another -/
def tolLess (x y : Tolerance) : Bool := decide (orI (vcmp x y) < 0)
theorem tolLess_key {x y : Tolerance} (h : (x.key.toList == y.key.toList) = false) : tolLess x y = Op.bytesLess x.key.toList y.key.toList := by
  have h1 : Lib.compareBytes x.key.data.toList y.key.data.toList ≠ 0 := fun e => by
    rw [cb_eq, ← ByteArray.toList_eq, ← ByteArray.toList_eq] at e
    simp [e] at h
  unfold tolLess vcmp
  simp only [orI, if_neg h1]
  rw [Bool.eq_iff_iff, decide_eq_true_eq, cb_lt, ByteArray.toList_eq, ByteArray.toList_eq]
theorem tolLess_equal {x y : Tolerance} (hk : (x.key.toList == y.key.toList) = true) (h : x.equal ≠ y.equal) : tolLess x y = y.equal := by
  have h0 : Lib.compareBytes x.key.data.toList y.key.data.toList = 0 := by rw [cb_eq, ← ByteArray.toList_eq, ← ByteArray.toList_eq]; simpa using hk
  unfold tolLess vcmp
  simp only [orI, if_pos h0]
  cases hx : x.equal <;> cases hy : y.equal <;> simp_all [flagI]
theorem tolLess_value {x y : Tolerance} (hk : (x.key.toList == y.key.toList) = true) (hq : x.equal = y.equal) (h : (x.value.toList == y.value.toList) = false) : tolLess x y = Op.bytesLess x.value.toList y.value.toList := by
  have h0 : Lib.compareBytes x.key.data.toList y.key.data.toList = 0 := by rw [cb_eq, ← ByteArray.toList_eq, ← ByteArray.toList_eq]; simpa using hk
  have h1 : Lib.compareBytes x.value.data.toList y.value.data.toList ≠ 0 := fun e => by
    rw [cb_eq, ← ByteArray.toList_eq, ← ByteArray.toList_eq] at e
    simp [e] at h
  have h2 : flagI x.equal y.equal = 0 := by unfold flagI; simp [hq]
  unfold tolLess vcmp
  simp only [orI, if_pos h0, if_pos h2, if_neg h1]
  rw [Bool.eq_iff_iff, decide_eq_true_eq, cb_lt, ByteArray.toList_eq, ByteArray.toList_eq]
theorem tolLess_effect {x y : Tolerance} (hk : (x.key.toList == y.key.toList) = true) (hq : x.equal = y.equal) (h : (x.value.toList == y.value.toList) = true) : tolLess x y = decide (x.effect < y.effect) := by
  have h0 : Lib.compareBytes x.key.data.toList y.key.data.toList = 0 := by rw [cb_eq, ← ByteArray.toList_eq, ← ByteArray.toList_eq]; simpa using hk
  have h1 : Lib.compareBytes x.value.data.toList y.value.data.toList = 0 := by rw [cb_eq, ← ByteArray.toList_eq, ← ByteArray.toList_eq]; simpa using h
  have h2 : flagI x.equal y.equal = 0 := by unfold flagI; simp [hq]
  unfold tolLess vcmp
  simp only [orI, if_pos h0, if_pos h2, if_pos h1]
  unfold Lib.compareInt
  rw [Bool.eq_iff_iff, decide_eq_true_eq, decide_eq_true_eq]
  repeat' split
  all_goals omega
set_option maxRecDepth 100000 in
set_option maxHeartbeats 1000000 in
theorem l16Before_any (x y : Tolerance) (cs ds : List Value) (F G : List Nat) (w : World) (h : rd w x cs F) (h' : rd w y ds G) :
    Calls Tryz.prog 163 #[.agg cs.toArray, .agg ds.toArray] w fun e w' => e = .returned (.bool (tolLess x y)) ∧ Below w.heap.size w w' := by
  obtain ⟨hck, hF1, hkey1, hvalue1, heffect1⟩ := rd_Tolerance h
  obtain ⟨hck2, hF2, hkey2, hvalue2, heffect2⟩ := rd_Tolerance h'
  subst hck hck2
  subst hF1 hF2
  cases h1 : (x.key.toList == y.key.toList) with
  | false =>
    rw [tolLess_key h1]
    go_enter Tryz.func163, Tryz.ntmps163
    go_wp2
    all_goals
      go_ret
      exact ⟨by first | rfl | simp_all, (by repeat (first | with_reducible exact ext_refl _ | with_reducible assumption | with_reducible refine ext_alloc ?_ _ | with_reducible refine ext_trans ?_ (by assumption)))⟩
  | true =>
    by_cases h3 : x.equal = y.equal
    · cases h2 : (x.value.toList == y.value.toList) with
      | false =>
        rw [tolLess_value h1 h3 h2]
        have h4 : (x.equal == y.equal) = true := by simp [h3]
        go_enter Tryz.func163, Tryz.ntmps163
        go_wp2
        all_goals
          go_ret
          exact ⟨by first | rfl | simp_all, (by repeat (first | with_reducible exact ext_refl _ | with_reducible assumption | with_reducible refine ext_alloc ?_ _ | with_reducible refine ext_trans ?_ (by assumption)))⟩
      | true =>
        rw [tolLess_effect h1 h3 h2]
        have h4 : (x.equal == y.equal) = true := by simp [h3]
        go_enter Tryz.func163, Tryz.ntmps163
        go_wp2
        all_goals
          go_ret
          exact ⟨by first | rfl | simp_all, (by repeat (first | with_reducible exact ext_refl _ | with_reducible assumption | with_reducible refine ext_alloc ?_ _ | with_reducible refine ext_trans ?_ (by assumption)))⟩
    · rw [tolLess_equal h1 h3]
      have h4 : (x.equal == y.equal) = false := by simp [h3]
      go_enter Tryz.func163, Tryz.ntmps163
      go_wp2
      all_goals
        go_ret
        exact ⟨by first | rfl | simp_all, (by repeat (first | with_reducible exact ext_refl _ | with_reducible assumption | with_reducible refine ext_alloc ?_ _ | with_reducible refine ext_trans ?_ (by assumption)))⟩

end Go.Proofs.YtjoclfenghenjaaGreat
