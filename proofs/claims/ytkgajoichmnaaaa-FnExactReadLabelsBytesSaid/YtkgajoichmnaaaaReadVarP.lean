/- ReadVar, in plain Lean. No condition. -/
import Derived.Test.YtkgajoichmnaaaaKit
import Derived.Laws.Bits128
import Derived.Laws.BitsAllLaws
import Derived.Laws.BitsLemmas
namespace Go.Proofs.Ytkgajoichmnaaaa
open Dat (rd)
open Go.ChangeShapes Go.WideShapes Go.ChangeAt Go.RowKit
set_option linter.unusedVariables false
set_option linter.unusedSimpArgs false

/-- bits that do not meet: 'or' is a sum -/
theorem or_join (i : Nat) (n m : Nat) (hn : n < 2 ^ i) (hm : m % 2 ^ i = 0) (hn63 : n < 2 ^ 63) (hm63 : m < 2 ^ 63) : bits .or .i64 (n : Int) (m : Int) = ((n + m : Nat) : Int) := by
  rw [(bits_nat .i64 63 (by decide) (fun z h0 h1 => by rw [IntKind.wrap_i64]; omega) n m hn63 hm63).2, Nat.or_comm, nat_join i m n hm hn, Nat.add_comm]
/-- ReadVar from round k on, with n read so far: the number and the place behind it -/
def rvAt (s : ByteArray) (a k n : Nat) : Option (Nat × Nat) :=
  if h : k < 9 ∧ a + k < s.size then
    if s[a + k].toNat < 128 then (if s[a + k].toNat = 0 ∧ 0 < k then none else some (n + s[a + k].toNat % 128 * 2 ^ (7 * k), a + k + 1))
    else rvAt s a (k + 1) (n + s[a + k].toNat % 128 * 2 ^ (7 * k))
  else none
termination_by 9 - k
def readVarR (s : ByteArray) (at_ : Int) : Option (Nat × Nat) := if at_ < 0 then none else rvAt s at_.toNat 0 0
def rvV : Option (Nat × Nat) → Value
  | some (n, p) => .tuple #[.int .i64 n, .int .i64 p]
  | none => .tuple #[.int .i64 0, .int .i64 (-1)]
theorem rvAt_out {s : ByteArray} {a k n : Nat} (h : ¬ (k < 9 ∧ a + k < s.size)) : rvAt s a k n = none := by rw [rvAt, dif_neg h]
theorem rvAt_more {s : ByteArray} {a k n : Nat} (hk : k < 9) (h : a + k < s.size) (hc : 128 ≤ s[a + k].toNat) : rvAt s a k n = rvAt s a (k + 1) (n + s[a + k].toNat % 128 * 2 ^ (7 * k)) := by
  rw [rvAt, dif_pos ⟨hk, h⟩, if_neg (by omega)]
theorem rvAt_end {s : ByteArray} {a k n : Nat} (hk : k < 9) (h : a + k < s.size) (hc : s[a + k].toNat < 128) (h0 : ¬ (s[a + k].toNat = 0 ∧ 0 < k)) : rvAt s a k n = some (n + s[a + k].toNat % 128 * 2 ^ (7 * k), a + k + 1) := by
  rw [rvAt, dif_pos ⟨hk, h⟩, if_pos hc, if_neg h0]
theorem rvAt_zero {s : ByteArray} {a k n : Nat} (hk : k < 9) (h : a + k < s.size) (h0 : s[a + k].toNat = 0) (hk0 : 0 < k) : rvAt s a k n = none := by
  rw [rvAt, dif_pos ⟨hk, h⟩, if_pos (by omega), if_pos ⟨h0, hk0⟩]

end Go.Proofs.Ytkgajoichmnaaaa
