/- Needs compared and needs alike, in plain Lean. No condition. -/
import Derived.Test.YtaljcihfkblncaaNeedCmp
import Derived.Test.YtaljcihfkblncaaEq
namespace Go.Proofs.Ytaljcihfkblncaa
open Go.ChangeShapes Go.WideShapes Go.ChangeAt Go.RowKit
set_option linter.unusedVariables false
set_option linter.unusedSimpArgs false

theorem outcome_of_eq {P : Program} {C : World → Prop} {v : Value} {r : Result Next} {w : World} (e : r = .ok (.value v) w) (h : C w) : outcome P C v r := by subst e; exact ⟨h, rfl⟩
theorem u8_lt_iff (x y : UInt8) : x < y ↔ x.toNat < y.toNat := UInt8.lt_iff_toNat_lt
theorem u8_ext {x y : UInt8} (h1 : ¬ x < y) (h2 : ¬ y < x) : x = y := by
  rw [u8_lt_iff] at h1 h2
  exact UInt8.toNat_inj.1 (by omega)
theorem compareBytes_zero : ∀ a b : List UInt8, Lib.compareBytes a b = 0 ↔ a = b
  | [], [] => by simp [Lib.compareBytes]
  | [], _ :: _ => by simp [Lib.compareBytes]
  | _ :: _, [] => by simp [Lib.compareBytes]
  | x :: a, y :: b => by
    have ih := compareBytes_zero a b
    unfold Lib.compareBytes
    by_cases h1 : x < y
    · rw [if_pos h1]
      have : x ≠ y := fun e => by subst e; rw [u8_lt_iff] at h1; omega
      simp [this]
    · rw [if_neg h1]
      by_cases h2 : y < x
      · rw [if_pos h2]
        have : x ≠ y := fun e => by subst e; rw [u8_lt_iff] at h2; omega
        simp [this]
      · rw [if_neg h2, ih, u8_ext h1 h2]
        simp
theorem compareBytes_anti : ∀ a b : List UInt8, Lib.compareBytes b a = - Lib.compareBytes a b
  | [], [] => by simp [Lib.compareBytes]
  | [], _ :: _ => by simp [Lib.compareBytes]
  | _ :: _, [] => by simp [Lib.compareBytes]
  | x :: a, y :: b => by
    have ih := compareBytes_anti a b
    unfold Lib.compareBytes
    by_cases h1 : x < y
    · have h2 : ¬ y < x := by rw [u8_lt_iff] at *; omega
      rw [if_pos h1, if_neg h2, if_pos h1]
      rfl
    · by_cases h2 : y < x
      · rw [if_pos h2, if_neg h1, if_pos h2]
      · rw [if_neg h2, if_neg h1, if_neg h1, if_neg h2, ih]
theorem compareInt_zero (a b : Int) : Lib.compareInt a b = 0 ↔ a = b := by
  unfold Lib.compareInt
  split
  · omega
  · split <;> omega
theorem compareInt_anti (a b : Int) : Lib.compareInt b a = - Lib.compareInt a b := by
  unfold Lib.compareInt
  repeat' split
  all_goals omega
theorem bytes_data {a b : ByteArray} (h : a.data.toList = b.data.toList) : a = b := by cases a; cases b; simp_all
theorem cmpVals_zero : ∀ xs ys : List ByteArray, cmpVals xs ys = 0 ↔ xs = ys
  | [], [] => by simp [cmpVals]
  | [], _ :: _ => by simp [cmpVals]
  | _ :: _, [] => by simp [cmpVals]
  | x :: xs, y :: ys => by
    have ih := cmpVals_zero xs ys
    unfold cmpVals
    by_cases h : Lib.compareBytes x.data.toList y.data.toList = 0
    · rw [if_pos h, ih, bytes_data ((compareBytes_zero _ _).1 h)]
      simp
    · rw [if_neg h]
      have : x ≠ y := fun e => h (by rw [e]; exact (compareBytes_zero _ _).2 rfl)
      simp [this, h]
theorem cmpVals_anti : ∀ xs ys : List ByteArray, cmpVals ys xs = - cmpVals xs ys
  | [], [] => by simp [cmpVals]
  | [], _ :: _ => by simp [cmpVals]
  | _ :: _, [] => by simp [cmpVals]
  | x :: xs, y :: ys => by
    have ih := cmpVals_anti xs ys
    have ha := compareBytes_anti x.data.toList y.data.toList
    unfold cmpVals
    by_cases h : Lib.compareBytes x.data.toList y.data.toList = 0
    · rw [if_pos h, if_pos (by rw [ha, h]; rfl), ih]
    · rw [if_neg h, if_neg (by rw [ha]; omega), ha]
theorem ncmp_anti (x y : Need) : orI (ncmp y x) = - orI (ncmp x y) := by
  unfold ncmp
  simp only [orI]
  rw [compareBytes_anti x.key.data.toList, compareInt_anti x.op, cmpVals_anti x.values]
  repeat' split
  all_goals omega
theorem ncmp_zero (x y : Need) : orI (ncmp x y) = 0 ↔ eqNeed x y = true := by
  rw [eqNeed_iff]
  have h1 := compareBytes_zero x.key.data.toList y.key.data.toList
  have h2 := compareInt_zero x.op y.op
  have h3 := cmpVals_zero x.values y.values
  unfold ncmp
  simp only [orI]
  constructor
  · intro h
    by_cases e1 : Lib.compareBytes x.key.data.toList y.key.data.toList = 0
    · rw [if_pos e1] at h
      by_cases e2 : Lib.compareInt x.op y.op = 0
      · rw [if_pos e2] at h
        by_cases e3 : cmpVals x.values y.values = 0
        · have k1 := bytes_data (h1.1 e1)
          have k2 := h2.1 e2
          have k3 := h3.1 e3
          cases x; cases y
          simp only at k1 k2 k3
          subst k1 k2 k3
          rfl
        · rw [if_neg e3] at h; exact absurd h e3
      · rw [if_neg e2] at h; exact absurd h e2
    · rw [if_neg e1] at h; exact absurd h e1
  · rintro rfl
    rw [if_pos (h1.2 rfl), if_pos (h2.2 rfl), if_pos (h3.2 rfl)]
theorem eqNeed_ncmp (x y : Need) : (orI (ncmp x y) == 0) = eqNeed x y := by
  rw [Bool.eq_iff_iff, beq_iff_eq]
  exact ncmp_zero x y
theorem eqNeed_less (x y : Need) : (!(needLess x y || needLess y x)) = eqNeed x y := by
  rw [← eqNeed_ncmp]
  unfold needLess
  rw [ncmp_anti x y]
  by_cases h : orI (ncmp x y) = 0
  · simp [h]
  · have h1 : (orI (ncmp x y) == 0) = false := by simpa using h
    rw [h1]
    by_cases h2 : orI (ncmp x y) < 0
    · simp [h2]
    · have h3 : - orI (ncmp x y) < 0 := by omega
      rw [decide_eq_true h3, decide_eq_false h2]
      rfl

end Go.Proofs.Ytaljcihfkblncaa
