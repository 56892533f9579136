/- markText: the letter m and the decimal digits of a number. -/
import Derived.Test.YtffjbbamcflmbaaVarP
namespace Go.Proofs.Ytffjbbamcflmbaa
open Go.ChangeShapes Go.WideShapes Go.ChangeAt Go.RowKit
set_option linter.unusedVariables false
set_option linter.unusedSimpArgs false
def dig (k : Nat) : ByteArray := ⟨#[(k % 10 + 48).toUInt8]⟩
theorem dig_size (k : Nat) : (dig k).size = 1 := rfl
/-- the digits of k ahead of out -/
def mtl (k : Nat) (out : ByteArray) : ByteArray := if h : k = 0 then out else mtl (k / 10) (dig k ++ out)
termination_by k
decreasing_by omega
theorem mtl_zero (out : ByteArray) : mtl 0 out = out := by rw [mtl, dif_pos rfl]
theorem mtl_pos {k : Nat} (h : 0 < k) (out : ByteArray) : mtl k out = mtl (k / 10) (dig k ++ out) := by rw [mtl, dif_neg (by omega)]
theorem mtl_size : ∀ (n k : Nat) (out : ByteArray), k ≤ n → (mtl k out).size ≤ out.size + k
  | 0, k, out, h => by
    obtain rfl : k = 0 := by omega
    rw [mtl_zero]; omega
  | n + 1, k, out, h => by
    by_cases hk : k = 0
    · subst hk; rw [mtl_zero]; omega
    · rw [mtl_pos (by omega)]
      have := mtl_size n (k / 10) (dig k ++ out) (by omega)
      rw [ByteArray.size_append] at this
      have e := dig_size k
      omega
def mtext (k : Int) : ByteArray := if k ≤ 0 then ⟨#[109, 48]⟩ else ⟨#[109]⟩ ++ mtl k.toNat ⟨#[]⟩
theorem mtext_size (k : Int) (hk : k ≤ 1073741824) : (mtext k).size ≤ 1073741828 := by
  unfold mtext
  split
  · decide
  · rw [ByteArray.size_append]
    have := mtl_size k.toNat k.toNat ⟨#[]⟩ (Nat.le_refl _)
    have e1 : (⟨#[109]⟩ : ByteArray).size = 1 := rfl
    have e2 : (⟨#[]⟩ : ByteArray).size = 0 := rfl
    omega
end Go.Proofs.Ytffjbbamcflmbaa
