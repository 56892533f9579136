/- A share in plain Lean. No condition. -/
import Derived.Test.YtiigfhpnldameaaKit
import Derived.Test.YtiigfhpnldameaaRegion
namespace Go.Proofs.Ytiigfhpnldameaa
open Dat (rd)
open Go.ChangeShapes Go.WideShapes Go.ChangeAt Go.RowKit
set_option linter.unusedVariables false
set_option linter.unusedSimpArgs false

/-- the percentage, rounded down; 0 and 100 at the ends -/
def shareR (part whole : Int) : Int := if whole ≤ 0 ∨ part < 0 then 0 else if whole ≤ part then 100 else 100 * part / whole
theorem shareR_none {part whole : Int} (h : whole ≤ 0 ∨ part < 0) : shareR part whole = 0 := by unfold shareR; rw [if_pos h]
theorem shareR_all {part whole : Int} (h1 : ¬ whole ≤ 0) (h2 : ¬ part < 0) (h : whole ≤ part) : shareR part whole = 100 := by unfold shareR; rw [if_neg (by omega), if_pos h]
theorem shareR_nat {P W : Nat} (hW : 0 < W) (h : P < W) : shareR P W = ((100 * P / W : Nat) : Int) := by
  unfold shareR
  rw [if_neg (by omega), if_neg (by omega), Int.natCast_ediv, Int.natCast_mul]
  rfl
theorem wrap_hundred (Q : Nat) (h : Q ≤ 100) : Value.int .i64 (IntKind.i64.wrap (Q : Int)) = Value.int .i64 (Q : Int) := by
  have e : IntKind.i64.wrap (Q : Int) = (Q : Int) := by rw [IntKind.wrap_i64]; omega
  rw [e]
theorem shareR_range (part whole : Int) : 0 ≤ shareR part whole ∧ shareR part whole ≤ 100 := by
  by_cases h1 : whole ≤ 0 ∨ part < 0
  · rw [shareR_none h1]; omega
  · by_cases h2 : whole ≤ part
    · rw [shareR_all (by omega) (by omega) h2]; omega
    · obtain ⟨P, rfl⟩ : ∃ P : Nat, part = P := ⟨part.toNat, by omega⟩
      obtain ⟨W, rfl⟩ : ∃ W : Nat, whole = W := ⟨whole.toNat, by omega⟩
      rw [shareR_nat (by omega) (by omega)]
      have : 100 * P / W ≤ 100 := by rw [Nat.div_le_iff_le_mul_add_pred (by omega)]; rw [Nat.mul_comm W 100]; have : 100 * P ≤ 100 * W := Nat.mul_le_mul_left _ (by omega); omega
      generalize 100 * P / W = Q at *
      omega

end Go.Proofs.Ytiigfhpnldameaa
