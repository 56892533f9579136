/- Label keys and values, of the program and of the reference. No condition. -/
import Derived.Test.YtkgajoichmnaaaaWords
import Derived.Test.YtkgajoichmnaaaaWordsS
namespace Go.Proofs.Ytkgajoichmnaaaa
open Dat (rd)
open Go.ChangeShapes Go.WideShapes Go.ChangeAt Go.RowKit
set_option linter.unusedVariables false
set_option linter.unusedSimpArgs false

def oKey : ByteArray := ⟨#[45, 95, 46, 47]⟩
def oVal : ByteArray := ⟨#[45, 95, 46]⟩
def keyR (s : ByteArray) : Bool := decide ((s.size : Int) ≤ 30) && wordR oKey s
def valR (s : ByteArray) : Bool := decide (s.size = 0) || (decide ((s.size : Int) ≤ 20) && wordR oVal s)
theorem wordR_empty {o s : ByteArray} (h : ¬ 0 < s.size) : wordR o s = false := by unfold wordR; simp [h]
theorem size_zero {s : ByteArray} (h : s.size = 0) : s = ⟨#[]⟩ := by
  obtain ⟨d⟩ := s
  congr 1
  exact Array.eq_empty_of_size_eq_zero h
theorem toList_ne {s : ByteArray} (h : 0 < s.size) : (s.toList == []) = false := by
  rw [beq_eq_false_iff_ne]
  intro e
  rw [ByteArray.toList_eq] at e
  have h2 : s.data.toList.length = 0 := by rw [e]; rfl
  rw [Array.length_toList] at h2
  have h3 : s.size = s.data.size := rfl
  omega
set_option maxHeartbeats 400000 in
theorem LabelKeyOk_impl (s : ByteArray) (w : World) (hs2 : (s.size : Int) ≤ 1048576) : Calls Try.prog 59 #[.string s] w fun e w' => e = .returned (.bool (keyR s)) ∧ Below w.heap.size w w' := by
  by_cases hs : 0 < s.size
  · have hz : ((s.size : Int) == 0) = false := by rw [beq_eq_false_iff_ne]; omega
    by_cases h30 : (s.size : Int) ≤ 30
    · cases hW : wordR oKey s
      all_goals
        have hfin : keyR s = _ := (by unfold keyR; rw [hW])
        simp only [h30, decide_true, Bool.true_and] at hfin
        have HF := Lib.hid hfin
        have HW := Lib.hid hW
        clear hfin hW
        go_enter Try.func59, Try.ntmps59
        go_wp2_with (first | (go_at_call 64; refine (wordOk_impl s oKey _ hs (by omega)).mono ?_; rw [HW.out]; rintro e w2 ⟨rfl, hw⟩; rw [hw]; clear hw w2) | go_in)
        go_ret
        exact ⟨by rw [HF.out]; rfl, (by repeat (first | with_reducible exact ext_refl _ | with_reducible assumption | with_reducible refine ext_alloc ?_ _ | with_reducible refine ext_trans ?_ (by assumption)))⟩
    · have hfin : keyR s = false := by unfold keyR; simp [h30]
      have HF := Lib.hid hfin
      clear hfin
      go_enter Try.func59, Try.ntmps59
      go_wp2
      go_ret
      exact ⟨by rw [HF.out]; rfl, (by repeat (first | with_reducible exact ext_refl _ | with_reducible assumption | with_reducible refine ext_alloc ?_ _ | with_reducible refine ext_trans ?_ (by assumption)))⟩
  · have hfin : keyR s = false := by unfold keyR; rw [wordR_empty hs]; simp
    have HF := Lib.hid hfin
    have hs0 : (s.size : Int) = 0 := by omega
    have HW := Lib.hid (wordR_empty (o := oKey) hs)
    clear hfin
    go_enter Try.func59, Try.ntmps59
    go_wp2
    go_ret
    exact ⟨by rw [HF.out]; rfl, (by repeat (first | with_reducible exact ext_refl _ | with_reducible assumption | with_reducible refine ext_alloc ?_ _ | with_reducible refine ext_trans ?_ (by assumption)))⟩
set_option maxHeartbeats 400000 in
theorem LabelValueOk_impl (s : ByteArray) (w : World) (hs2 : (s.size : Int) ≤ 1048576) : Calls Try.prog 60 #[.string s] w fun e w' => e = .returned (.bool (valR s)) ∧ Below w.heap.size w w' := by
  by_cases hs : 0 < s.size
  · have hz : ((s.size : Int) == 0) = false := by rw [beq_eq_false_iff_ne]; omega
    have hne := toList_ne hs
    have hs0 : ¬ s.size = 0 := by omega
    by_cases h30 : (s.size : Int) ≤ 20
    · cases hW : wordR oVal s
      all_goals
        have hfin : valR s = _ := (by unfold valR; rw [hW])
        simp only [h30, hs0, decide_true, decide_false, Bool.true_and, Bool.false_or] at hfin
        have HF := Lib.hid hfin
        have HW := Lib.hid hW
        clear hfin hW
        go_enter Try.func60, Try.ntmps60
        go_wp2_with (first | (go_at_call 64; refine (wordOk_impl s oVal _ hs (by omega)).mono ?_; rw [HW.out]; rintro e w2 ⟨rfl, hw⟩; rw [hw]; clear hw w2) | go_in)
        go_ret
        exact ⟨by rw [HF.out]; rfl, (by repeat (first | with_reducible exact ext_refl _ | with_reducible assumption | with_reducible refine ext_alloc ?_ _ | with_reducible refine ext_trans ?_ (by assumption)))⟩
    · have hfin : valR s = false := by unfold valR; simp [h30, hs0]
      have HF := Lib.hid hfin
      clear hfin
      go_enter Try.func60, Try.ntmps60
      go_wp2
      go_ret
      exact ⟨by rw [HF.out]; rfl, (by repeat (first | with_reducible exact ext_refl _ | with_reducible assumption | with_reducible refine ext_alloc ?_ _ | with_reducible refine ext_trans ?_ (by assumption)))⟩
  · obtain rfl := size_zero (s := s) (by omega)
    go_enter Try.func60, Try.ntmps60
    go_wp2
    go_ret
    exact ⟨by rfl, (by repeat (first | with_reducible exact ext_refl _ | with_reducible assumption | with_reducible refine ext_alloc ?_ _ | with_reducible refine ext_trans ?_ (by assumption)))⟩
set_option maxHeartbeats 400000 in
theorem LabelKeyOk_spec (s : ByteArray) (w : World) (hs2 : (s.size : Int) ≤ 1048576) : Calls Try.prog 47 #[.string s] w fun e w' => e = .returned (.bool (keyR s)) ∧ Below w.heap.size w w' := by
  by_cases hs : 0 < s.size
  · have hz : ((s.size : Int) == 0) = false := by rw [beq_eq_false_iff_ne]; omega
    by_cases h30 : (s.size : Int) ≤ 30
    · cases hW : wordR oKey s
      all_goals
        have hfin : keyR s = _ := (by unfold keyR; rw [hW])
        simp only [h30, decide_true, Bool.true_and] at hfin
        have HF := Lib.hid hfin
        have HW := Lib.hid hW
        clear hfin hW
        go_enter Try.func47, Try.ntmps47
        go_wp2_with (first | (go_at_call 56; refine (l14Word_spec s oKey _ (by omega) (by decide)).mono ?_; rw [HW.out]; rintro e w2 ⟨rfl, hb2⟩) | go_in)
        go_ret
        exact ⟨by rw [HF.out]; rfl, (by repeat (first | with_reducible exact ext_refl _ | with_reducible assumption | with_reducible refine ext_alloc ?_ _ | with_reducible refine ext_trans ?_ (by assumption)))⟩
    · have hfin : keyR s = false := by unfold keyR; simp [h30]
      have HF := Lib.hid hfin
      clear hfin
      go_enter Try.func47, Try.ntmps47
      go_wp2
      go_ret
      exact ⟨by rw [HF.out]; rfl, (by repeat (first | with_reducible exact ext_refl _ | with_reducible assumption | with_reducible refine ext_alloc ?_ _ | with_reducible refine ext_trans ?_ (by assumption)))⟩
  · have hfin : keyR s = false := by unfold keyR; rw [wordR_empty hs]; simp
    have HF := Lib.hid hfin
    have hs0 : (s.size : Int) = 0 := by omega
    have HW := Lib.hid (wordR_empty (o := oKey) hs)
    clear hfin
    go_enter Try.func47, Try.ntmps47
    go_wp2_with (first | (go_at_call 56; refine (l14Word_spec s oKey _ (by omega) (by decide)).mono ?_; rw [HW.out]; rintro e w2 ⟨rfl, hb2⟩) | go_in)
    go_ret
    exact ⟨by rw [HF.out]; rfl, (by repeat (first | with_reducible exact ext_refl _ | with_reducible assumption | with_reducible refine ext_alloc ?_ _ | with_reducible refine ext_trans ?_ (by assumption)))⟩
set_option maxHeartbeats 400000 in
theorem LabelValueOk_spec (s : ByteArray) (w : World) (hs2 : (s.size : Int) ≤ 1048576) : Calls Try.prog 48 #[.string s] w fun e w' => e = .returned (.bool (valR s)) ∧ Below w.heap.size w w' := by
  by_cases hs : 0 < s.size
  · have hz : ((s.size : Int) == 0) = false := by rw [beq_eq_false_iff_ne]; omega
    have hne := toList_ne hs
    have hs0 : ¬ s.size = 0 := by omega
    by_cases h30 : (s.size : Int) ≤ 20
    · cases hW : wordR oVal s
      all_goals
        have hfin : valR s = _ := (by unfold valR; rw [hW])
        simp only [h30, hs0, decide_true, decide_false, Bool.true_and, Bool.false_or] at hfin
        have HF := Lib.hid hfin
        have HW := Lib.hid hW
        clear hfin hW
        go_enter Try.func48, Try.ntmps48
        go_wp2_with (first | (go_at_call 56; refine (l14Word_spec s oVal _ (by omega) (by decide)).mono ?_; rw [HW.out]; rintro e w2 ⟨rfl, hb2⟩) | go_in)
        go_ret
        exact ⟨by rw [HF.out]; rfl, (by repeat (first | with_reducible exact ext_refl _ | with_reducible assumption | with_reducible refine ext_alloc ?_ _ | with_reducible refine ext_trans ?_ (by assumption)))⟩
    · have hfin : valR s = false := by unfold valR; simp [h30, hs0]
      have HF := Lib.hid hfin
      clear hfin
      go_enter Try.func48, Try.ntmps48
      go_wp2
      go_ret
      exact ⟨by rw [HF.out]; rfl, (by repeat (first | with_reducible exact ext_refl _ | with_reducible assumption | with_reducible refine ext_alloc ?_ _ | with_reducible refine ext_trans ?_ (by assumption)))⟩
  · obtain rfl := size_zero (s := s) (by omega)
    go_enter Try.func48, Try.ntmps48
    go_wp2
    go_ret
    exact ⟨by rfl, (by repeat (first | with_reducible exact ext_refl _ | with_reducible assumption | with_reducible refine ext_alloc ?_ _ | with_reducible refine ext_trans ?_ (by assumption)))⟩

end Go.Proofs.Ytkgajoichmnaaaa
