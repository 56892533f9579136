/- WeightsOk, of the program and of the reference. No condition. -/
import Derived.Test.YtjoclfenghenjaaGreatBase0
import Derived.Lib.SmallJoins
namespace Go.Proofs.YtjoclfenghenjaaGreat
open Go.ChangeShapes Go.WideShapes Go.ChangeAt Go.RowKit
set_option linter.unusedVariables false
set_option linter.unusedSimpArgs false
def weightsR (p s f : Int) : Bool := (decide (0 ≤ p) && decide (p ≤ 10)) && (decide (0 ≤ s) && decide (s ≤ 10)) && (decide (0 ≤ f) && decide (f ≤ 10))
theorem l01In_any2 (n a b : Int) (w : World) : Calls Tryz.prog 80 #[.int .i64 n, .int .i64 a, .int .i64 b] w fun e w' => e = .returned (.bool (decide (a ≤ n) && decide (n ≤ b))) ∧ w = w' := by
  go_enter Tryz.func80, Tryz.ntmps80
  go_wp2
  all_goals go_ret
  all_goals simp [*]
  all_goals omega
theorem within_any2 (n a b : Int) (w : World) : Calls Tryz.prog 88 #[.int .i64 n, .int .i64 a, .int .i64 b] w fun e w' => e = .returned (.bool (decide (a ≤ n) && decide (n ≤ b))) ∧ w = w' := by
  go_enter Tryz.func88, Tryz.ntmps88
  go_wp2
  all_goals go_ret
  all_goals simp [*]
  all_goals omega
theorem WeightsOk_spec (p s f : Int) (w : World) : Calls Tryz.prog 35 #[.agg #[.int .i64 p, .int .i64 s, .int .i64 f]] w fun e w' => e = .returned (.bool (weightsR p s f)) ∧ Below w.heap.size w w' := by
  go_enter Tryz.func35, Tryz.ntmps35
  go_wp2_with (go_at_call 80; refine (l01In_any2 _ _ _ _).mono ?_; rintro e w' ⟨rfl, rfl⟩)
  all_goals go_ret
  all_goals exact ⟨by simp [weightsR, *], (Below.refl _ _).alloc (Nat.le_refl _) _⟩
theorem WeightsOk_impl (p s f : Int) (w : World) : Calls Tryz.prog 40 #[.agg #[.int .i64 p, .int .i64 s, .int .i64 f]] w fun e w' => e = .returned (.bool (weightsR p s f)) ∧ Below w.heap.size w w' := by
  go_enter Tryz.func40, Tryz.ntmps40
  go_wp2_with (go_at_call 88; refine (within_any2 _ _ _ _).mono ?_; rintro e w' ⟨rfl, rfl⟩)
  all_goals go_ret
  all_goals exact ⟨by simp [weightsR, *], (Below.refl _ _).alloc (Nat.le_refl _) _⟩

end Go.Proofs.YtjoclfenghenjaaGreat
