/- Right needs. No condition. -/
import Derived.Test.YtjoclfenghenjaaGreatRows2
namespace Go.Proofs.YtjoclfenghenjaaGreat
open Go.ChangeShapes Go.WideShapes Go.ChangeAt Go.RowKit
set_option linter.unusedVariables false
set_option linter.unusedSimpArgs false

def bl (a b : ByteArray) : Bool := Op.bytesLess a.toList b.toList
def needR (x : Need) : Bool := keyR x.key && (decide (1 ≤ x.op) && decide (x.op ≤ 4)) && (if 2 < x.op then decide (x.values.length = 0) else decide (1 ≤ x.values.length) && rowR valR bl 4 x.values)
theorem needR_key {x : Need} (h : keyR x.key = false) : needR x = false := by unfold needR; rw [h]; simp
theorem needR_op {x : Need} (h : ¬ (1 ≤ x.op ∧ x.op ≤ 4)) : needR x = false := by
  have : (decide (1 ≤ x.op) && decide (x.op ≤ 4)) = false := by rw [← Bool.not_eq_true, Bool.and_eq_true, decide_eq_true_eq, decide_eq_true_eq]; exact h
  unfold needR; rw [this]; simp
theorem needR_has {x : Need} (hk : keyR x.key = true) (h : 1 ≤ x.op ∧ x.op ≤ 4) (h2 : 2 < x.op) : needR x = decide (x.values.length = 0) := by
  unfold needR; rw [hk, if_pos h2]; simp [h.1, h.2]
theorem needR_in {x : Need} (hk : keyR x.key = true) (h : 1 ≤ x.op ∧ x.op ≤ 4) (h2 : ¬ 2 < x.op) : needR x = (decide (1 ≤ x.values.length) && rowR valR bl 4 x.values) := by
  unfold needR; rw [hk, if_neg h2]; simp [h.1, h.2]

end Go.Proofs.YtjoclfenghenjaaGreat
