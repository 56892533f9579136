/- The bytes of a number, seven bits a byte. No condition. -/
import Derived.Test.YtkgajoichmnaaaaAppend
namespace Go.Proofs.Ytkgajoichmnaaaa
open Dat (rd)
open Go.ChangeShapes Go.WideShapes Go.ChangeAt Go.RowKit
set_option linter.unusedVariables false
set_option linter.unusedSimpArgs false
/-- seven bits a byte, the least first -/
def varB (n : Nat) : List UInt8 := if n < 128 then [n.toUInt8] else (n % 128 + 128).toUInt8 :: varB (n / 128)
termination_by n
theorem varB_small {n : Nat} (h : n < 128) : varB n = [n.toUInt8] := by rw [varB, if_pos h]
theorem varB_big {n : Nat} (h : 128 ≤ n) : varB n = (n % 128 + 128).toUInt8 :: varB (n / 128) := by rw [varB, if_neg (by omega)]
def varText (n : Int) : ByteArray := if n < 0 then ⟨#[]⟩ else ⟨(varB n.toNat).toArray⟩
theorem varB_len : ∀ (k n : Nat), n < 128 ^ (k + 1) → (varB n).length ≤ k + 1
  | 0, n, h => by rw [varB_small (by simpa using h)]; simp
  | k + 1, n, h => by
    by_cases hn : n < 128
    · rw [varB_small hn]; simp
    · rw [varB_big (by omega), List.length_cons]
      have := varB_len k (n / 128) (by rw [Nat.pow_succ] at h; exact Nat.div_lt_of_lt_mul (by omega))
      omega
theorem pow128 : (128 : Nat) ^ (9 + 1) = 1180591620717411303424 := by decide +kernel
theorem varB_len10 {n : Nat} (h : (n : Int) ≤ 9223372036854775807) : (varB n).length ≤ 10 := by
  have h1 : n < 128 ^ (9 + 1) := by rw [pow128]; omega
  have h2 := varB_len 9 n h1
  omega
theorem infoU8 : (Try.prog.info? 5).map (fun i => (i.zero, i.size, i.bytes)) = some (some (.int .u8 0), 1, 1) := by kernel_rfl
theorem elU8 : ElOk Try.prog 67 5 (.int .u8 0) 1 1 := ⟨Try.underlying67, infoU8, rfl, by omega⟩
theorem or128 (j : Nat) : bits .or .u8 ((j : Int) % 256) 128 = ((j % 128 + 128 : Nat) : Int) := by
  have e : ((j : Int) % 256) = ((j % 256 : Nat) : Int) := by omega
  rw [e, show (128 : Int) = ((128 : Nat) : Int) from rfl, u8_or_nat _ _ (by omega) (by omega)]
  congr 1
  have h : ∀ x : Fin 256, (x.val ||| 128) = x.val % 128 + 128 := by decide +kernel
  have := h ⟨j % 256, by omega⟩
  simp only at this
  rw [this]; omega
theorem B8_mk (n : Nat) (h : n < 256) : B8 n.toUInt8 = .int .u8 (n : Int) := by
  unfold B8
  congr 1
  have : n.toUInt8.toNat = n := by simp [Nat.toUInt8, UInt8.toNat_ofNat']; omega
  rw [this]
/-- the last byte, and the string -/
theorem var_last {p : List UInt8} {j m : Nat} (hp : p ++ varB j = varB m) (hj : j < 128) : p ++ [j.toUInt8] = varB m := by rw [← hp, varB_small hj]
theorem var_next {p : List UInt8} {j m : Nat} (hp : p ++ varB j = varB m) (hj : 128 ≤ j) : (p ++ [(j % 128 + 128).toUInt8]) ++ varB (j / 128) = varB m := by rw [← hp, varB_big hj]; simp
theorem var_len {p : List UInt8} {j m : Nat} (hp : p ++ varB j = varB m) (hm : (varB m).length ≤ 10) : p.length ≤ 9 := by
  have h := congrArg List.length hp
  rw [List.length_append] at h
  have : 1 ≤ (varB j).length := by unfold varB; split <;> simp
  omega
end Go.Proofs.Ytkgajoichmnaaaa
