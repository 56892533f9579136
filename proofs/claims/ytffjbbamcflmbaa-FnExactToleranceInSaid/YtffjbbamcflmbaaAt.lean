/- HostAt and PodAt, of the program and of the reference: the first place at which a name stands. -/
import Derived.Test.YtffjbbamcflmbaaEq
namespace Go.Proofs.Ytffjbbamcflmbaa
open Go.ChangeShapes Go.WideShapes Go.ChangeAt Go.RowKit
set_option linter.unusedVariables false
set_option linter.unusedSimpArgs false

/-- the first place, or -1 -/
def idxI {α : Type} (p : α → Bool) : List α → Int
  | [] => -1
  | x :: xs => if p x then 0 else if idxI p xs < 0 then -1 else idxI p xs + 1
theorem idxI_none {α : Type} {p : α → Bool} : ∀ {xs : List α}, (∀ x ∈ xs, p x = false) → idxI p xs = -1
  | [], _ => rfl
  | x :: xs, h => by
    have h1 := h x (List.mem_cons_self ..)
    have h2 := idxI_none (xs := xs) fun y hy => h y (List.mem_cons_of_mem _ hy)
    simp [idxI, h1, h2]
theorem idxI_found {α : Type} {p : α → Bool} : ∀ {xs : List α} {k : Nat} (hk : k < xs.length), (∀ x ∈ xs.take k, p x = false) → p xs[k] = true → idxI p xs = k
  | x :: xs, 0, _, _, h => by simp at h; simp [idxI, h]
  | x :: xs, k + 1, hk, hb, h => by
    have h1 := hb x (by simp)
    have h2 := idxI_found (xs := xs) (k := k) (by simpa using hk) (fun y hy => hb y (by simp [hy])) (by simpa using h)
    simp only [idxI, h1, h2]
    rw [if_neg (by simp), if_neg (by omega)]
    omega
theorem take_none {α : Type} {p : α → Bool} {xs : List α} {k : Nat} (hk : k < xs.length) (h : ∀ x ∈ xs.take k, p x = false) (hx : p xs[k] = false) : ∀ x ∈ xs.take (k + 1), p x = false := by
  rw [List.take_succ_eq_append_getElem hk]
  intro x hm
  rcases List.mem_append.1 hm with hm | hm
  · exact h x hm
  · simp at hm; subst hm; exact hx
theorem idxI_lt {α : Type} {p : α → Bool} : ∀ (xs : List α), -1 ≤ idxI p xs ∧ idxI p xs < xs.length
  | [] => by simp [idxI]
  | x :: xs => by
    have := idxI_lt (p := p) xs
    simp only [idxI, List.length_cons]
    split
    · omega
    · split <;> omega

def hostatP (nm : ByteArray) (h : Host) : Bool := eqStr h.name nm
def podatP (nm : ByteArray) (h : Placed) : Bool := eqStr h.pod.name nm
end Go.Proofs.Ytffjbbamcflmbaa
