/- ShareOf, of the program and of the reference. No condition. -/
import Derived.Test.YtiigfhpnldameaaShareP
import Derived.Test.YtiigfhpnldameaaDivI
namespace Go.Proofs.Ytiigfhpnldameaa
open Dat (rd)
open Go.ChangeShapes Go.WideShapes Go.ChangeAt Go.RowKit
set_option linter.unusedVariables false
set_option linter.unusedSimpArgs false
set_option maxRecDepth 100000 in
set_option maxHeartbeats 2000000 in
theorem ShareOf_impl (part whole : Int) (w : World) (hp : I64 part) (hw : I64 whole) :
    Calls Try.prog 5 #[.int .i64 part, .int .i64 whole] w fun e w' => e = .returned (.int .i64 (shareR part whole)) ∧ Below w.heap.size w w' := by
  by_cases h1 : whole ≤ 0
  · have hd : decide (whole ≤ 0) = true := by rw [decide_eq_true_eq]; exact h1
    have hs := Lib.hid (shareR_none (part := part) (.inl h1))
    go_enter Try.func5, Try.ntmps5
    go_wp2
    go_ret
    exact ⟨by rw [hs.out]; rfl, ext_refl _⟩
  have hd : decide (whole ≤ 0) = false := by rw [decide_eq_false_iff_not]; exact h1
  by_cases h2 : part < 0
  · have hd2 : decide (part < 0) = true := by rw [decide_eq_true_eq]; exact h2
    have hs := Lib.hid (shareR_none (whole := whole) (.inr h2))
    go_enter Try.func5, Try.ntmps5
    go_wp2
    go_ret
    exact ⟨by rw [hs.out]; rfl, ext_refl _⟩
  have hd2 : decide (part < 0) = false := by rw [decide_eq_false_iff_not]; exact h2
  by_cases h3 : whole ≤ part
  · have hd3 : decide (whole ≤ part) = true := by rw [decide_eq_true_eq]; exact h3
    have hs := Lib.hid (shareR_all h1 h2 h3)
    go_enter Try.func5, Try.ntmps5
    go_wp2
    go_ret
    exact ⟨by rw [hs.out]; rfl, ext_refl _⟩
  have hd3 : decide (whole ≤ part) = false := by rw [decide_eq_false_iff_not]; exact h3
  obtain ⟨P, rfl⟩ : ∃ P : Nat, part = P := ⟨part.toNat, by omega⟩
  obtain ⟨W, rfl⟩ : ∃ W : Nat, whole = W := ⟨whole.toNat, by omega⟩
  have hW : W < 9223372036854775808 := by have := hw.2; omega
  have hPW : P < W := by omega
  have hs := Lib.hid (shareR_nat (P := P) (W := W) (by omega) hPW)
  have eP : Value.int .u64 (IntKind.u64.wrap (P : Int)) = Value.int .u64 (P : Int) := by rw [wrapU _ (by omega)]
  have eW : Value.int .u64 (IntKind.u64.wrap (W : Int)) = Value.int .u64 (W : Int) := by rw [wrapU _ (by omega)]
  have hq := Lib.hid (show (P * 100 / 18446744073709551616 * 18446744073709551616 + P * 100 % 18446744073709551616) / W = 100 * P / W by rw [Nat.div_add_mod', Nat.mul_comm])
  have hlt : P * 100 / 18446744073709551616 < W := by omega
  have hmd : P * 100 % 18446744073709551616 < 18446744073709551616 := Nat.mod_lt _ (by decide)
  obtain ⟨Q, hQ⟩ : ∃ Q, 100 * P / W = Q := ⟨_, rfl⟩
  have hQ1 : Q ≤ 100 := by
    have := (shareR_range (P : Int) (W : Int)).2
    rw [hs.out, hQ] at this
    omega
  have eQ := wrap_hundred Q hQ1
  go_enter Try.func5, Try.ntmps5
  go_wp2_with fail
  refine (Mul64_any P 100 (by omega) (by omega) _).mono ?_
  rintro e w2 ⟨rfl, hw2⟩
  simp only [hw2]
  clear hw2 w2
  generalize P * 100 / 18446744073709551616 = A at *
  generalize P * 100 % 18446744073709551616 = B at *
  go_wp2_with fail
  refine (Div64_any A B W hmd (by omega) hlt _).mono ?_
  rw [hq.out, hQ]
  rintro e w3 ⟨⟨r, rfl⟩, hb3⟩
  go_wp2_with fail
  go_ret
  exact ⟨by rw [hs.out, hQ]; rfl, hb3⟩
set_option maxRecDepth 100000 in
set_option maxHeartbeats 2000000 in
theorem ShareOf_spec (part whole : Int) (w : World) (hp : I64 part) (hw : I64 whole) :
    Calls Try.prog 4 #[.int .i64 part, .int .i64 whole] w fun e w' => e = .returned (.int .i64 (shareR part whole)) ∧ Below w.heap.size w w' := by
  by_cases h1 : whole ≤ 0
  · have hd : decide (whole ≤ 0) = true := by rw [decide_eq_true_eq]; exact h1
    have hs := Lib.hid (shareR_none (part := part) (.inl h1))
    go_enter Try.func4, Try.ntmps4
    go_wp2
    go_ret
    exact ⟨by rw [hs.out]; rfl, ext_refl _⟩
  have hd : decide (whole ≤ 0) = false := by rw [decide_eq_false_iff_not]; exact h1
  by_cases h2 : part < 0
  · have hd2 : decide (part < 0) = true := by rw [decide_eq_true_eq]; exact h2
    have hs := Lib.hid (shareR_none (whole := whole) (.inr h2))
    go_enter Try.func4, Try.ntmps4
    go_wp2
    go_ret
    exact ⟨by rw [hs.out]; rfl, ext_refl _⟩
  have hd2 : decide (part < 0) = false := by rw [decide_eq_false_iff_not]; exact h2
  by_cases h3 : whole ≤ part
  · have hd3 : decide (whole ≤ part) = true := by rw [decide_eq_true_eq]; exact h3
    have hs := Lib.hid (shareR_all h1 h2 h3)
    go_enter Try.func4, Try.ntmps4
    go_wp2
    go_ret
    exact ⟨by rw [hs.out]; rfl, ext_refl _⟩
  have hd3 : decide (whole ≤ part) = false := by rw [decide_eq_false_iff_not]; exact h3
  obtain ⟨P, rfl⟩ : ∃ P : Nat, part = P := ⟨part.toNat, by omega⟩
  obtain ⟨W, rfl⟩ : ∃ W : Nat, whole = W := ⟨whole.toNat, by omega⟩
  have hW : W < 9223372036854775808 := by have := hw.2; omega
  have hPW : P < W := by omega
  have hs := Lib.hid (shareR_nat (P := P) (W := W) (by omega) hPW)
  have hW0 : 0 < W := by omega
  clear hp hw h1 h2 h3
  go_enter Try.func4, Try.ntmps4
  go_wp2_with fail
  go_loopw [5, 6, 7] (fun n r i wr => ∃ (j N R : Nat), j ≤ 100 ∧ n = .int .i64 N ∧ r = .int .i64 R ∧ i = .int .i64 j ∧ Hid (N * W + R = j * P) ∧ R < W ∧ N ≤ j ∧ wr = w) (fun _ _ i _ => 100 - (intOf i).toNat)
  case atStart => exact ⟨0, 0, 0, by omega, rfl, rfl, rfl, Lib.hid (by simp), hW0, Nat.le_refl _, rfl⟩
  case round =>
    obtain ⟨j, N, R, hj, rfl, rfl, rfl, HN, hR, hNj, rfl⟩ := hrel
    by_cases hlt : (j : Int) < 100
    · by_cases hc : (W : Int) - (P : Int) ≤ (R : Int)
      · have hcd : decide ((W : Int) - (P : Int) ≤ (R : Int)) = true := by rw [decide_eq_true_eq]; exact hc
        go_wp2_with fail
        refine ⟨⟨j + 1, N + 1, R - (W - P), by omega, by go_num, by go_num, by go_num, Lib.hid ?_, by omega, by omega, (by first | rfl | trivial)⟩, by simp [intOf]; omega⟩
        have := HN.out
        rw [Nat.add_mul, Nat.add_mul]
        omega
      · have hcd : decide ((W : Int) - (P : Int) ≤ (R : Int)) = false := by rw [decide_eq_false_iff_not]; exact hc
        go_wp2_with fail
        refine ⟨⟨j + 1, N, R + P, by omega, rfl, by go_num, by go_num, Lib.hid ?_, by omega, by omega, (by first | rfl | trivial)⟩, by simp [intOf]; omega⟩
        have := HN.out
        rw [Nat.add_mul j]
        omega
    · obtain rfl : j = 100 := by omega
      go_wp2_with fail
      go_ret
      exact ⟨by rw [hs.out, ← share_end HN.out hR]; rfl, ext_refl _⟩

end Go.Proofs.Ytiigfhpnldameaa
