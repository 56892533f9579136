/- laws' size checks. -/
import Derived.Test.YtpgdgcjgompokaaGreatBase0
namespace Go.Proofs.YtpgdgcjgompokaaGreat
open Go.ChangeShapes Go.WideShapes Go.ChangeAt Go.RowKit
set_option linter.unusedVariables false
set_option linter.unusedSimpArgs false

theorem ret_int {k : IntKind} {a b : Int} (h : a = b) : Ending.returned (.int k a) = .returned (.int k b) := by rw [h]
/-- what a size check leaves: -1 where it does not fit -/
def szR (a : Nat) (left : Int) : Int := if left < a then -1 else left - a
theorem szR_spec (a : Nat) (left : Int) : (left < a ∧ szR a left = -1) ∨ (a ≤ left ∧ szR a left = left - a) := by unfold szR; split <;> omega
theorem szR_le {a : Nat} {left : Int} (h0 : 0 ≤ left) : szR a left ≤ left := by have := szR_spec a left; omega
theorem szR_no {a : Nat} {left : Int} (h : left - a < 0) : szR a left = -1 := by have := szR_spec a left; omega
/-- the weight of a list: its length, and its elements' -/
def wtL {α : Type} (f : α → Nat) (xs : List α) : Nat := xs.length + (xs.map f).sum
abbrev wtS (xs : List ByteArray) : Nat := wtL ByteArray.size xs
def wtSum {α : Type} (f : α → Nat) (xs : List α) : Nat := (xs.map f).sum
theorem wtL_eq {α : Type} (f : α → Nat) (xs : List α) : wtL f xs = xs.length + wtSum f xs := rfl
theorem wtSum_take {α : Type} (f : α → Nat) (xs : List α) (k : Nat) (h : k < xs.length) : wtSum f (xs.take (k + 1)) = wtSum f (xs.take k) + f xs[k] := by
  unfold wtSum
  rw [List.take_succ_eq_append_getElem h, List.map_append, List.sum_append]
  simp [-List.map_take]
theorem wtSum_le {α : Type} (f : α → Nat) (xs : List α) (k : Nat) : wtSum f (xs.take k) ≤ wtSum f xs := by
  unfold wtSum
  conv => rhs; rw [← List.take_append_drop k xs]
  rw [List.map_append, List.sum_append]
  omega
theorem wtL_mem {α : Type} {f : α → Nat} {xs : List α} {x : α} (h : x ∈ xs) : f x ≤ wtL f xs := by
  unfold wtL
  induction xs with
  | nil => cases h
  | cons y ys ih =>
    rcases List.mem_cons.1 h with rfl | h
    · simp; omega
    · have := ih h; simp at this ⊢; omega
theorem wtL_get {α : Type} {f : α → Nat} {xs : List α} {k : Nat} (h : k < xs.length) : f xs[k] ≤ wtL f xs := wtL_mem (List.getElem_mem h)
theorem wtL_len {α : Type} (f : α → Nat) (xs : List α) : xs.length ≤ wtL f xs := by unfold wtL; omega
def Label.wt (x : Label) : Nat := x.key.size + x.value.size
def Need.wt (x : Need) : Nat := x.key.size + wtS x.values
def Taint.wt (x : Taint) : Nat := x.key.size + x.value.size
def Tolerance.wt (x : Tolerance) : Nat := x.key.size + x.value.size
def Pod.wt (x : Pod) : Nat := x.name.size + wtL Label.wt x.labels + wtL Need.wt x.needs + wtL Tolerance.wt x.tolerances
def Host.wt (x : Host) : Nat := x.name.size + wtL Label.wt x.labels + wtL Taint.wt x.taints
def Placed.wt (x : Placed) : Nat := x.pod.wt + x.on.size
def Cluster.wt (x : Cluster) : Nat := wtL Host.wt x.hosts + wtL Placed.wt x.pods
def Manifest.wt (x : Manifest) : Nat := x.pod.wt + x.host.wt
def Fault.wt (x : Fault) : Nat := x.path.size
end Go.Proofs.YtpgdgcjgompokaaGreat
