/- Long division of 128 bits by 64, digit by digit, in plain Lean. No condition. -/
import Derived.Laws.BitsLemmas
import Derived.Test.YtjoclfenghenjaaGreatBase0
import Derived.Lib.ItoaNum
namespace Go.Proofs.YtjoclfenghenjaaGreat
open Go.ChangeShapes Go.WideShapes Go.ChangeAt Go.RowKit
set_option linter.unusedVariables false
set_option linter.unusedSimpArgs false
set_option maxRecDepth 4000

/-- a digit under way: q a guess from above, r what it leaves of un -/
structure Dig (un v1 v0 u0 q r : Nat) : Prop where
  sum : q * v1 + r = un
  low : r < 4294967296
  above : un * 4294967296 + u0 < (q + 1) * (v1 * 4294967296 + v0)
  few : q ≤ 4294967297
theorem Dig.start {un v1 v0 u0 : Nat} (h : un < v1 * 4294967296 + v0) (h1 : 2147483648 ≤ v1) (h1b : v1 < 4294967296) (h0 : v0 < 4294967296) (hu : u0 < 4294967296) : Dig un v1 v0 u0 (un / v1) (un - un / v1 * v1) := by
  have e := Nat.div_add_mod' un v1
  have m := Nat.mod_lt un (by omega : 0 < v1)
  refine ⟨by omega, by omega, ?_, ?_⟩
  · have e2 : (un / v1 + 1) * (v1 * 4294967296 + v0) = un / v1 * v1 * 4294967296 + un / v1 * v0 + v1 * 4294967296 + v0 := by
      rw [Nat.add_mul, Nat.mul_add, ← Nat.mul_assoc]; omega
    rw [e2]
    have : (un % v1 + 1) * 4294967296 ≤ v1 * 4294967296 := Nat.mul_le_mul_right _ (by omega)
    omega
  · have hlt : un / v1 < 4294967298 := by
      rw [Nat.div_lt_iff_lt_mul (by omega)]
      omega
    omega
theorem dig_prod {un v1 v0 u0 q r : Nat} (h : Dig un v1 v0 u0 q r) : q * (v1 * 4294967296 + v0) + r * 4294967296 = un * 4294967296 + q * v0 := by
  have e := h.sum
  rw [Nat.mul_add, ← Nat.mul_assoc, ← e, Nat.add_mul, Nat.add_right_comm]
/-- the two tests say that the guess is too great -/
theorem Dig.over {un v1 v0 u0 q r : Nat} (h : Dig un v1 v0 u0 q r) (hun : un < v1 * 4294967296 + v0) (h1 : 2147483648 ≤ v1) (hu : u0 < 4294967296) (ht : 4294967296 ≤ q ∨ 4294967296 * r + u0 < q * v0) : un * 4294967296 + u0 < q * (v1 * 4294967296 + v0) := by
  rcases ht with ht | ht
  · have : 4294967296 * (v1 * 4294967296 + v0) ≤ q * (v1 * 4294967296 + v0) := Nat.mul_le_mul_right _ ht
    omega
  · have := dig_prod h
    omega
theorem Dig.done {un v1 v0 u0 q r : Nat} (h : Dig un v1 v0 u0 q r) (h1 : 2147483648 ≤ v1) (ht : q * v0 ≤ 4294967296 * r + u0) : q = (un * 4294967296 + u0) / (v1 * 4294967296 + v0) := by
  have := dig_prod h
  have ha := h.above
  have : (un * 4294967296 + u0) / (v1 * 4294967296 + v0) = q := by
    rw [Nat.div_eq_iff (by omega)]
    have : (q + 1) * (v1 * 4294967296 + v0) = q * (v1 * 4294967296 + v0) + (v1 * 4294967296 + v0) := by rw [Nat.add_mul]; omega
    omega
  exact this.symm
theorem Dig.pos {un v1 v0 u0 q r : Nat} (h : un * 4294967296 + u0 < q * (v1 * 4294967296 + v0)) : 0 < q := by
  cases q with
  | zero => simp at h
  | succ q => omega
theorem Dig.next {un v1 v0 u0 q r : Nat} (h : Dig un v1 v0 u0 q r) (ho : un * 4294967296 + u0 < q * (v1 * 4294967296 + v0)) (hr : r + v1 < 4294967296) : Dig un v1 v0 u0 (q - 1) (r + v1) := by
  have hq := Dig.pos (r := r) ho
  obtain ⟨k, rfl⟩ : ∃ k, q = k + 1 := ⟨q - 1, by omega⟩
  have e := h.sum
  rw [Nat.add_mul] at e
  exact ⟨by simp only [Nat.add_sub_cancel]; omega, hr, by simpa using ho, by have := h.few; omega⟩
theorem Dig.stop {un v1 v0 u0 q r : Nat} (h : Dig un v1 v0 u0 q r) (ho : un * 4294967296 + u0 < q * (v1 * 4294967296 + v0)) (h1 : 2147483648 ≤ v1) (h0 : v0 < 4294967296) (hr : 4294967296 ≤ r + v1) : q - 1 = (un * 4294967296 + u0) / (v1 * 4294967296 + v0) := by
  have hq := Dig.pos (r := r) ho
  have hf := h.few
  obtain ⟨k, rfl⟩ : ∃ k, q = k + 1 := ⟨q - 1, by omega⟩
  simp only [Nat.add_sub_cancel]
  have e := dig_prod h
  have hk : k * v0 ≤ 4294967296 * 4294967296 := Nat.mul_le_mul (by omega) (by omega)
  have e2 : (k + 1) * (v1 * 4294967296 + v0) = k * (v1 * 4294967296 + v0) + (v1 * 4294967296 + v0) := by rw [Nat.add_mul]; omega
  have e3 : (k + 1) * v0 = k * v0 + v0 := by rw [Nat.add_mul]; omega
  have : (un * 4294967296 + u0) / (v1 * 4294967296 + v0) = k := by
    rw [Nat.div_eq_iff (by omega)]
    omega
  exact this.symm
/-- the quotient of a number of two digits, digit by digit -/
theorem two_digits {A u0 Y : Nat} (hY : 0 < Y) : (A * 4294967296 + u0) / Y = A / Y * 4294967296 + (A % Y * 4294967296 + u0) / Y := by
  have e := Nat.div_add_mod' A Y
  generalize A / Y = q at *
  generalize A % Y = r at *
  subst e
  have : (q * Y + r) * 4294967296 + u0 = (r * 4294967296 + u0) + Y * (q * 4294967296) := by
    rw [Nat.add_mul, Nat.mul_right_comm, Nat.mul_comm (q * 4294967296) Y]
    generalize Y * (q * 4294967296) = A
    generalize r * 4294967296 = C
    omega
  rw [this, Nat.add_mul_div_left _ _ hY]
  exact Nat.add_comm _ _
theorem dig_lt {U u Y : Nat} (h : U < Y) (hu : u < 4294967296) : (U * 4294967296 + u) / Y < 4294967296 := by
  rw [Nat.div_lt_iff_lt_mul (by omega)]
  omega
/-- the remainder under wrapping -/
theorem rest_wrap (a Y : Nat) (hY : 0 < Y) (hYb : Y < 18446744073709551616) : ((a : Int) - ((a / Y * Y : Nat) : Int)) % 18446744073709551616 = ((a % Y : Nat) : Int) := by
  have e := Nat.div_add_mod' a Y
  have m := Nat.mod_lt a hY
  have : (a : Int) - ((a / Y * Y : Nat) : Int) = ((a % Y : Nat) : Int) := by omega
  rw [this]; omega
/-- shifting both leaves the quotient -/
theorem div_shift (a y P : Nat) (hP : 0 < P) : (a * P) / (y * P) = a / y := Nat.mul_div_mul_right _ _ hP
/-- the shift that brings y's highest bit to the front -/
theorem lead_shift (y : Nat) (h0 : 0 < y) (hy : y < 18446744073709551616) : ∃ S : Nat, (64 - (Lib.bitLen y : Int)) = (S : Int) ∧ S < 64 ∧ 9223372036854775808 ≤ y * 2 ^ S ∧ y * 2 ^ S < 18446744073709551616 := by
  obtain ⟨h1, h2, h3⟩ := Lib.bitLenAux_bounds 64 y hy (by omega)
  have h4 : Lib.bitLen y ≤ 64 := Lib.bitLen_le y 64 (by omega) hy
  have e : Lib.bitLenAux 64 y = Lib.bitLen y := rfl
  rw [e] at h1 h2 h3
  refine ⟨64 - Lib.bitLen y, by omega, by omega, ?_, ?_⟩
  · have : 2 ^ (Lib.bitLen y - 1) * 2 ^ (64 - Lib.bitLen y) ≤ y * 2 ^ (64 - Lib.bitLen y) := Nat.mul_le_mul_right _ h2
    rw [← Nat.pow_add, show Lib.bitLen y - 1 + (64 - Lib.bitLen y) = 63 by omega] at this
    exact this
  · have : y * 2 ^ (64 - Lib.bitLen y) < 2 ^ Lib.bitLen y * 2 ^ (64 - Lib.bitLen y) := Nat.mul_lt_mul_of_pos_right h3 (Nat.two_pow_pos _)
    rw [← Nat.pow_add, show Lib.bitLen y + (64 - Lib.bitLen y) = 64 by omega] at this
    exact this
/-- numbers of 64 bits -/
theorem wraps_u64 (n : Int) (h0 : 0 ≤ n) (h1 : n < 2 ^ 64) : IntKind.u64.wrap n = n := by rw [IntKind.wrap_u64]; omega
theorem wrapU (n : Nat) (h : n < 18446744073709551616) : IntKind.u64.wrap (n : Int) = (n : Int) := by rw [IntKind.wrap_u64]; omega
theorem maskU (n : Nat) (h : n < 18446744073709551616) : bits .and .u64 (n : Int) 4294967295 = ((n % 4294967296 : Nat) : Int) := by
  have h1 := bits_mask .u64 64 (by decide) wraps_u64 32 (by decide) (n : Int) (by omega) (by omega)
  have e : ((2 : Int) ^ 32 - 1) = 4294967295 := by decide
  rw [e] at h1
  rw [h1]
  omega
theorem halfU (n : Nat) : (n : Int) / 4294967296 = ((n / 4294967296 : Nat) : Int) := by omega
theorem divU (n v : Nat) (h : n < 18446744073709551616) : IntKind.u64.wrap ((n : Int) / (v : Int)) = ((n / v : Nat) : Int) := by
  have h1 : n / v ≤ n := Nat.div_le_self _ _
  rw [← Int.natCast_ediv]
  exact wrapU _ (by omega)
theorem leftU (n v : Nat) (h : n < 18446744073709551616) : IntKind.u64.wrap ((n : Int) - IntKind.u64.wrap (((n / v : Nat) : Int) * (v : Int))) = ((n - n / v * v : Nat) : Int) := by
  have h1 : n / v * v ≤ n := Nat.div_mul_le_self _ _
  rw [← Int.natCast_mul, wrapU _ (by omega), ← Int.natCast_sub h1]
  exact wrapU _ (by omega)
structure DivParts (hi lo y S Y v1 v0 un L u1 u0 : Nat) : Prop where
  eY : IntKind.u64.wrap ((y : Int) * 2 ^ S) = (Y : Int)
  ev1 : (Y : Int) / 4294967296 = (v1 : Int)
  ev0 : bits .and .u64 (Y : Int) 4294967295 = (v0 : Int)
  eun : bits .or .u64 (IntKind.u64.wrap ((hi : Int) * 2 ^ S)) ((lo : Int) / 2 ^ (64 - S)) = (un : Int)
  eL : IntKind.u64.wrap ((lo : Int) * 2 ^ S) = (L : Int)
  eu1 : (L : Int) / 4294967296 = (u1 : Int)
  eu0 : bits .and .u64 (L : Int) 4294967295 = (u0 : Int)
  lv1 : 2147483648 ≤ v1
  lv1b : v1 < 4294967296
  lv0 : v0 < 4294967296
  lu1 : u1 < 4294967296
  lu0 : u0 < 4294967296
  lY : Y = v1 * 4294967296 + v0
  lun : un < Y
  whole : (un * 4294967296 + u1) * 4294967296 + u0 = (hi * 18446744073709551616 + lo) * 2 ^ S
  yY : Y = y * 2 ^ S
theorem div_parts (hi lo y S : Nat) (hlo : lo < 18446744073709551616) (h : hi < y) (hS1 : S < 64) (hS2 : 9223372036854775808 ≤ y * 2 ^ S) (hS3 : y * 2 ^ S < 18446744073709551616) :
    ∃ Y v1 v0 un L u1 u0 : Nat, DivParts hi lo y S Y v1 v0 un L u1 u0 := by
  have hp : 0 < 2 ^ S := Nat.two_pow_pos S
  have hq : 0 < 2 ^ (64 - S) := Nat.two_pow_pos _
  have hpq : 2 ^ (64 - S) * 2 ^ S = 18446744073709551616 := by rw [← Nat.pow_add, show 64 - S + S = 64 by omega]
  have hhi : (hi + 1) * 2 ^ S ≤ y * 2 ^ S := Nat.mul_le_mul_right _ h
  rw [Nat.add_mul, Nat.one_mul] at hhi
  have hld : lo / 2 ^ (64 - S) < 2 ^ S := by rw [Nat.div_lt_iff_lt_mul hq, Nat.mul_comm, hpq]; exact hlo
  have hlm : lo * 2 ^ S = lo / 2 ^ (64 - S) * 18446744073709551616 + lo * 2 ^ S % 18446744073709551616 := by
    have e : lo * 2 ^ S / 18446744073709551616 = lo / 2 ^ (64 - S) := by rw [← hpq, Nat.mul_div_mul_right _ _ hp]
    rw [← e]
    exact (Nat.div_add_mod' _ _).symm
  have eL : IntKind.u64.wrap ((lo : Int) * 2 ^ S) = ((lo * 2 ^ S % 18446744073709551616 : Nat) : Int) := by
    rw [IntKind.wrap_u64, show ((lo : Int) * 2 ^ S) = ((lo * 2 ^ S : Nat) : Int) by push_cast; rfl]
    omega
  have eH : IntKind.u64.wrap ((hi : Int) * 2 ^ S) = ((hi * 2 ^ S : Nat) : Int) := by
    rw [show ((hi : Int) * 2 ^ S) = ((hi * 2 ^ S : Nat) : Int) by push_cast; rfl]
    exact wrapU _ (by omega)
  have eY : IntKind.u64.wrap ((y : Int) * 2 ^ S) = ((y * 2 ^ S : Nat) : Int) := by
    rw [show ((y : Int) * 2 ^ S) = ((y * 2 ^ S : Nat) : Int) by push_cast; rfl]
    exact wrapU _ hS3
  have eu : bits .or .u64 (IntKind.u64.wrap ((hi : Int) * 2 ^ S)) ((lo : Int) / 2 ^ (64 - S)) = ((hi * 2 ^ S + lo / 2 ^ (64 - S) : Nat) : Int) := by
    rw [eH, show ((lo : Int) / 2 ^ (64 - S)) = ((lo / 2 ^ (64 - S) : Nat) : Int) by push_cast; rfl]
    rw [bits_join .u64 64 (by decide) wraps_u64 S _ _ (by omega) (by rw [show ((2 : Int) ^ S) = ((2 ^ S : Nat) : Int) by push_cast; rfl, ← Int.natCast_emod, Nat.mul_mod_left]; rfl) (by omega) (by omega) (by rw [show ((2 : Int) ^ S) = ((2 ^ S : Nat) : Int) by push_cast; rfl]; omega) (by omega)]
    push_cast
    rfl
  have hLb : lo * 2 ^ S % 18446744073709551616 < 18446744073709551616 := Nat.mod_lt _ (by decide)
  refine ⟨y * 2 ^ S, y * 2 ^ S / 4294967296, y * 2 ^ S % 4294967296, hi * 2 ^ S + lo / 2 ^ (64 - S), lo * 2 ^ S % 18446744073709551616, lo * 2 ^ S % 18446744073709551616 / 4294967296, lo * 2 ^ S % 18446744073709551616 % 4294967296,
    eY, halfU _, maskU _ hS3, eu, eL, halfU _, maskU _ hLb, by omega, by omega, by omega, by omega, by omega, by omega, by omega, ?_, rfl⟩
  have e1 : (hi * 18446744073709551616 + lo) * 2 ^ S = hi * 2 ^ S * 18446744073709551616 + lo * 2 ^ S := by
    rw [Nat.add_mul, Nat.mul_right_comm]
  rw [e1, hlm]
  generalize lo * 2 ^ S % 18446744073709551616 = L at *
  generalize lo / 2 ^ (64 - S) = D at *
  generalize hi * 2 ^ S = H at *
  omega
/-- behind the first digit -/
theorem restU (n u Y : Nat) (hY : 0 < Y) (hYb : Y < 18446744073709551616) (q : Nat) (hq : q = (n * 4294967296 + u) / Y) :
    IntKind.u64.wrap (IntKind.u64.wrap (IntKind.u64.wrap ((n : Int) * 4294967296) + (u : Int)) - IntKind.u64.wrap ((q : Int) * (Y : Int))) = (((n * 4294967296 + u) % Y : Nat) : Int) := by
  have h := rest_wrap (n * 4294967296 + u) Y hY hYb
  rw [← hq] at h
  rw [← h]
  rw [Int.natCast_mul q Y, IntKind.wrap_u64, IntKind.wrap_u64, IntKind.wrap_u64, IntKind.wrap_u64]
  generalize (q : Int) * (Y : Int) = M
  omega
/-- the reference's long division by hand: n * whole + rest = i * part -/
theorem share_end {part whole n rest : Nat} (h : n * whole + rest = 100 * part) (hr : rest < whole) : n = 100 * part / whole := by
  have : 100 * part / whole = n := by
    rw [Nat.div_eq_iff (by omega)]
    omega
  exact this.symm
end Go.Proofs.YtjoclfenghenjaaGreat
