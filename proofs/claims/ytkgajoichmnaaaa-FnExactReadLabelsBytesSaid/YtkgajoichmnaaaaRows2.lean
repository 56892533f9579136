/- Rows of right elements, each less than the next. No condition. -/
import Derived.Test.YtkgajoichmnaaaaKeys
import Derived.Test.YtkgajoichmnaaaaData
import Derived.Test.YtkgajoichmnaaaaRegion
namespace Go.Proofs.Ytkgajoichmnaaaa
open Dat (rd)
open Go.ChangeShapes Go.WideShapes Go.ChangeAt Go.RowKit
set_option linter.unusedVariables false
set_option linter.unusedSimpArgs false

theorem rd_extT {α : Type} [Dat α] {w w' : World} {x : α} {cs : List Value} {F : List Nat} (h : rd w x cs F) (hb : Below w.heap.size w w') : rd w' x cs F :=
  Dat.frame h (fun b hb' => hb.block b (Dat.lt h b hb')) hb.size
theorem range_all {p : Nat → Bool} {n : Nat} (h : ∀ j, j < n → p j = true) : (List.range n).all p = true := by
  rw [List.all_eq_true]; intro x hx; exact h x (List.mem_range.1 hx)
theorem range_not {p : Nat → Bool} {n k : Nat} (hk : k < n) (h : p k = false) : (List.range n).all p = false := by
  rw [List.all_eq_false]; exact ⟨k, List.mem_range.2 hk, by simp [h]⟩
theorem upto_next {p : Nat → Bool} {k : Nat} (h : ∀ j, j < k → p j = true) (hp : p k = true) : ∀ j, j < k + 1 → p j = true := fun j hj => by
  rcases Nat.lt_or_ge j k with h1 | h1
  · exact h j h1
  · obtain rfl : j = k := by omega
    exact hp
/-- element k is right, and more than the one ahead of it -/
def rowAt {α : Type} (ok : α → Bool) (less : α → α → Bool) (xs : List α) (k : Nat) : Bool :=
  match xs[k]? with
  | none => false
  | some l => ok l && (match k with | 0 => true | j + 1 => match xs[j]? with | none => false | some p => less p l)
theorem rowAt_zero {α : Type} {ok : α → Bool} {less : α → α → Bool} {xs : List α} (h : 0 < xs.length) : rowAt ok less xs 0 = ok xs[0] := by
  unfold rowAt; rw [List.getElem?_eq_getElem h]; simp
theorem rowAt_succ {α : Type} {ok : α → Bool} {less : α → α → Bool} {xs : List α} {j : Nat} (h : j + 1 < xs.length) : rowAt ok less xs (j + 1) = (ok xs[j + 1] && less xs[j] xs[j + 1]) := by
  simp only [rowAt, List.getElem?_eq_getElem h, List.getElem?_eq_getElem (show j < xs.length by omega)]
def rowR {α : Type} (ok : α → Bool) (less : α → α → Bool) (most : Int) (xs : List α) : Bool := decide ((xs.length : Int) ≤ most) && (List.range xs.length).all (rowAt ok less xs)
theorem rowR_not {α : Type} {ok : α → Bool} {less : α → α → Bool} {most : Int} {xs : List α} {k : Nat} (hk : k < xs.length) (h : rowAt ok less xs k = false) : rowR ok less most xs = false := by unfold rowR; rw [range_not hk h]; simp
theorem rowR_len {α : Type} {ok : α → Bool} {less : α → α → Bool} {most : Int} {xs : List α} (h : ¬ (xs.length : Int) ≤ most) : rowR ok less most xs = false := by unfold rowR; simp [h]
theorem rowR_all {α : Type} {ok : α → Bool} {less : α → α → Bool} {most : Int} {xs : List α} (hl : (xs.length : Int) ≤ most) (h : ∀ j, j < xs.length → rowAt ok less xs j = true) : rowR ok less most xs = true := by unfold rowR; rw [range_all h]; simp [hl]

end Go.Proofs.Ytkgajoichmnaaaa
