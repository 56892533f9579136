/- How strings.Compare and the order of strings agree; short rows of ints. No condition. -/
import Derived.Test.YtjoclfenghenjaaGreatCmp
import Derived.Test.YtjoclfenghenjaaGreatBase0
import Derived.Test.YtjoclfenghenjaaGreatSums0
import Derived.Test.YtjoclfenghenjaaGreatLaw1
namespace Go.Proofs.YtjoclfenghenjaaGreat
open Go.ChangeShapes Go.WideShapes Go.ChangeAt Go.RowKit
set_option linter.unusedVariables false
set_option linter.unusedSimpArgs false

theorem compareBytes_range : ∀ a b : List UInt8, -1 ≤ Lib.compareBytes a b ∧ Lib.compareBytes a b ≤ 1
  | [], [] => by decide
  | [], _ :: _ => by simp [Lib.compareBytes]
  | _ :: _, [] => by simp [Lib.compareBytes]
  | x :: a, y :: b => by
    have := compareBytes_range a b
    unfold Lib.compareBytes
    repeat' split
    all_goals omega
theorem compareInt_range (a b : Int) : -1 ≤ Lib.compareInt a b ∧ Lib.compareInt a b ≤ 1 := by
  unfold Lib.compareInt
  repeat' split
  all_goals omega
theorem Sl.ints_alloc (W : World) (xs : List Int) (t : TypeId) (h : ∀ x ∈ xs, I64 x) (hl : xs.length ≤ maxLen) : Sl (W.alloc (.cells (xs.map fun n => Value.int .i64 n).toArray t)) xs (some ⟨W.heap.size, 0, none⟩) xs.length [W.heap.size] :=
  ⟨_, _, [], xs.map fun n => .int .i64 n, rfl, Nat.le_refl _, hl, rdCells_ints _ xs h, .inr ⟨W.heap.size, 0, rfl, rfl, by simp, fun j u hu => by
    rw [Nat.zero_add, cell_of_row _ _ _ _ _ _ (heap_alloc_new W _)]
    simpa using hu⟩⟩
theorem Sl.drewS {α : Type} [Dat α] {w : World} {xs : List α} {A : Option Addr} {c : Nat} {F : List Nat} (h : Sl w xs A c F) : Sl w.drew xs A c F := h.frame (fun _ _ => rfl) (Nat.le_refl _)
theorem I64.small {n : Int} (h : -1 ≤ n ∧ n ≤ 1) : I64 n := by unfold I64; omega
theorem Sl.ints3 (W : World) (a b c : Int) (t : TypeId) (ha : I64 a) (hb : I64 b) (hc : I64 c) (N : Nat) (hN : W.heap.size = N) : Sl (W.alloc (.cells #[.int .i64 a, .int .i64 b, .int .i64 c] t)) [a, b, c] (some ⟨N, 0, none⟩) 3 [N] := by
  subst hN
  exact Sl.ints_alloc W [a, b, c] t (by intro x hx; simp only [List.mem_cons, List.not_mem_nil, or_false] at hx; rcases hx with rfl | rfl | rfl <;> assumption) (by unfold maxLen; simp)

theorem cb_eq : ∀ a b : List UInt8, Lib.compareBytes a b = 0 ↔ a = b
  | [], [] => by simp [Lib.compareBytes]
  | [], _ :: _ => by simp [Lib.compareBytes]
  | _ :: _, [] => by simp [Lib.compareBytes]
  | x :: a, y :: b => by
    have ih := cb_eq a b
    unfold Lib.compareBytes
    by_cases h1 : x < y
    · rw [if_pos h1]
      constructor
      · intro h; omega
      · intro h; injection h with h2 _; subst h2; exact absurd h1 (UInt8.lt_irrefl _)
    · rw [if_neg h1]
      by_cases h2 : y < x
      · rw [if_pos h2]
        constructor
        · intro h; omega
        · intro h; injection h with h3 _; subst h3; exact absurd h2 (UInt8.lt_irrefl _)
      · rw [if_neg h2]
        have hxy : x = y := UInt8.le_antisymm (UInt8.not_lt.1 h2) (UInt8.not_lt.1 h1)
        subst hxy
        rw [ih]
        simp
theorem cb_lt : ∀ a b : List UInt8, Lib.compareBytes a b < 0 ↔ Op.bytesLess a b = true
  | [], [] => by simp [Lib.compareBytes, Op.bytesLess]
  | [], _ :: _ => by simp [Lib.compareBytes, Op.bytesLess]
  | _ :: _, [] => by simp [Lib.compareBytes, Op.bytesLess]
  | x :: a, y :: b => by
    have ih := cb_lt a b
    unfold Lib.compareBytes Op.bytesLess
    by_cases h1 : x < y
    · rw [if_pos h1]; simp [h1]
    · rw [if_neg h1]
      by_cases h2 : y < x
      · rw [if_pos h2]
        have hne : (x == y) = false := by rw [beq_eq_false_iff_ne]; rintro rfl; exact absurd h2 (UInt8.lt_irrefl _)
        simp [h1, hne]
      · rw [if_neg h2]
        have hxy : x = y := UInt8.le_antisymm (UInt8.not_lt.1 h2) (UInt8.not_lt.1 h1)
        subst hxy
        rw [ih]
        simp [h1]

end Go.Proofs.YtjoclfenghenjaaGreat
