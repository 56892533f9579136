/- Bounds out of a weight; where a search ends. No condition. -/
import Derived.Test.YtjoclfenghenjaaGreatSz
import Derived.Test.YtjoclfenghenjaaGreatAt
namespace Go.Proofs.YtjoclfenghenjaaGreat
open Go.ChangeShapes Go.WideShapes Go.ChangeAt Go.RowKit
set_option linter.unusedVariables false
set_option linter.unusedSimpArgs false

theorem taints_small {xs : List Taint} (h : (wtL Taint.wt xs : Int) ≤ 1048576) : ((xs.length : Int) ≤ 1048576) ∧ ∀ l ∈ xs, (l.key.size : Int) ≤ 1048576 ∧ (l.value.size : Int) ≤ 1048576 := by
  refine ⟨by have := wtL_len Taint.wt xs; omega, fun l hl => ?_⟩
  have h1 := wtL_mem (f := Taint.wt) hl
  have e : Taint.wt l = l.key.size + l.value.size := rfl
  omega
theorem tols_small {xs : List Tolerance} (h : (wtL Tolerance.wt xs : Int) ≤ 1048576) : ((xs.length : Int) ≤ 1048576) ∧ ∀ l ∈ xs, (l.key.size : Int) ≤ 1048576 ∧ (l.value.size : Int) ≤ 1048576 := by
  refine ⟨by have := wtL_len Tolerance.wt xs; omega, fun l hl => ?_⟩
  have h1 := wtL_mem (f := Tolerance.wt) hl
  have e : Tolerance.wt l = l.key.size + l.value.size := rfl
  omega
theorem idxI_ways {α : Type} (p : α → Bool) (xs : List α) : idxI p xs = -1 ∨ ∃ k : Nat, k < xs.length ∧ idxI p xs = k := by
  have := idxI_lt (p := p) xs
  by_cases h : idxI p xs < 0
  · left; omega
  · right; exact ⟨(idxI p xs).toNat, by omega, by omega⟩
theorem needs_small {xs : List Need} (h : (wtL Need.wt xs : Int) ≤ 1048576) : ((xs.length : Int) ≤ 1048576) ∧ (∀ l ∈ xs, (l.key.size : Int) ≤ 1048576 ∧ (l.values.length : Int) ≤ 1048576 ∧ ∀ v ∈ l.values, (v.size : Int) ≤ 1048576) := by
  refine ⟨by have := wtL_len Need.wt xs; omega, fun l hl => ?_⟩
  have h1 := wtL_mem (f := Need.wt) hl
  have e : Need.wt l = l.key.size + wtS l.values := rfl
  have h2 := wtL_len ByteArray.size l.values
  unfold wtS at e
  refine ⟨by omega, by omega, fun v hv => ?_⟩
  have h3 := wtL_mem (f := ByteArray.size) hv
  omega
/-- a list of small labels -/
theorem labels_small {xs : List Label} (h : (wtL Label.wt xs : Int) ≤ 1048576) : ((xs.length : Int) ≤ 1048576) ∧ ∀ l ∈ xs, (l.key.size : Int) ≤ 1048576 ∧ (l.value.size : Int) ≤ 1048576 := by
  refine ⟨by have := wtL_len Label.wt xs; omega, fun l hl => ?_⟩
  have h1 := wtL_mem (f := Label.wt) hl
  have e : Label.wt l = l.key.size + l.value.size := rfl
  omega

end Go.Proofs.YtjoclfenghenjaaGreat
