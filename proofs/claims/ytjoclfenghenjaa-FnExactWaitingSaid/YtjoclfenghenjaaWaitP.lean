/- The order of those that wait, in plain Lean. No condition. -/
import Derived.Test.YtjoclfenghenjaaStabQ
import Derived.Test.YtjoclfenghenjaaCmpI
namespace Go.Proofs.Ytjoclfenghenjaa
open Go.ChangeShapes Go.WideShapes Go.ChangeAt Go.RowKit
set_option linter.unusedVariables false
set_option linter.unusedSimpArgs false

/-- name, rank, number -/
abbrev WKey := ByteArray × Int × Int
def wkI (a b : WKey) : List Int := [Lib.compareInt b.2.1 a.2.1, Lib.compareInt a.2.2 b.2.2]
def wkV (a b : WKey) : Int := orI (wkI a b)
def keyOf (p : Placed) : WKey := (p.pod.name, p.pod.rank, p.seq)
/-- those that wait, as they stand -/
def pend (ps : List Placed) : List WKey := (ps.filter fun p => p.on.toList == []).map keyOf
/-- the names of those that wait, in order -/
def waitL (ps : List Placed) : List ByteArray := (sortB (ltV wkV) [] (pend ps)).map fun k => k.1
theorem wait_lt (a b : WKey) : ltV wkV a b = true ↔ b.2.1 < a.2.1 ∨ (a.2.1 = b.2.1 ∧ a.2.2 < b.2.2) := by
  unfold ltV wkV wkI orI orI
  rw [decide_eq_true_eq]
  unfold Lib.compareInt
  by_cases h1 : b.2.1 < a.2.1
  · simp [h1]
  · by_cases h2 : a.2.1 < b.2.1
    · simp [h1, h2]
      omega
    · have h3 : a.2.1 = b.2.1 := by omega
      simp [h3, orI]
      by_cases h4 : a.2.2 < b.2.2
      · simp [h4]
      · by_cases h5 : b.2.2 < a.2.2
        · simp [h4, h5]
        · simp [h4, h5]
theorem wait_weak : Weak (ltV wkV) := by
  have no : ∀ a b, ltV wkV a b = false ↔ ¬ (b.2.1 < a.2.1 ∨ (a.2.1 = b.2.1 ∧ a.2.2 < b.2.2)) := fun a b => by
    rw [← wait_lt]; simp
  refine ⟨fun a => ?_, fun a b c h1 h2 => ?_, fun a b c h1 h2 => ?_⟩
  · rw [no]; omega
  · rw [wait_lt] at h1 h2 ⊢; omega
  · rw [no] at h1 h2 ⊢; omega
theorem insB_map {α β : Type} (f : α → β) {lt : β → β → Bool} (y : α) : ∀ xs : List α, (insB (fun a b => lt (f a) (f b)) y xs).map f = insB lt (f y) (xs.map f)
  | [] => rfl
  | x :: xs => by
    simp only [insB, List.map_cons]
    split
    · rfl
    · rw [List.map_cons, insB_map f y xs]
theorem sortB_map {α β : Type} (f : α → β) {lt : β → β → Bool} : ∀ (ys acc : List α), (sortB (fun a b => lt (f a) (f b)) acc ys).map f = sortB lt (acc.map f) (ys.map f)
  | [], _ => rfl
  | y :: ys, acc => by
    simp only [sortB, List.map_cons]
    rw [sortB_map f ys, insB_map]
theorem pend_yes {ps : List Placed} {k : Nat} (h : k < ps.length) (hp : (ps[k].on.toList == []) = true) : pend (ps.take (k + 1)) = pend (ps.take k) ++ [keyOf ps[k]] := by
  have e : List.filter (fun p : Placed => p.on.toList == []) [ps[k]] = [ps[k]] := List.filter_eq_self.2 fun a ha => by rw [List.mem_singleton.1 ha]; exact hp
  unfold pend; rw [List.take_succ_eq_append_getElem h, List.filter_append, List.map_append, e]; rfl
theorem pend_no {ps : List Placed} {k : Nat} (h : k < ps.length) (hp : (ps[k].on.toList == []) = false) : pend (ps.take (k + 1)) = pend (ps.take k) := by
  have e : List.filter (fun p : Placed => p.on.toList == []) [ps[k]] = [] := List.filter_eq_nil_iff.2 fun a ha => by rw [List.mem_singleton.1 ha, hp]; simp
  unfold pend; rw [List.take_succ_eq_append_getElem h, List.filter_append, List.map_append, e]; simp
theorem pend_len (ps : List Placed) : (pend ps).length ≤ ps.length := by unfold pend; rw [List.length_map]; exact List.length_filter_le _ _
theorem pend_take (ps : List Placed) (k : Nat) : (pend (ps.take k)).length ≤ k := Nat.le_trans (pend_len _) (by rw [List.length_take]; omega)
theorem waitL_len (ps : List Placed) : (waitL ps).length ≤ ps.length := by unfold waitL; rw [List.length_map, sortB_len]; have := pend_len ps; simp; omega
end Go.Proofs.Ytjoclfenghenjaa
