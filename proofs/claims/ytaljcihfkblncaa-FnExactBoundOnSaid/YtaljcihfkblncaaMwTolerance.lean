/- How many marks: Tolerance. No condition. -/
import Derived.Test.YtaljcihfkblncaaMkTolerance
import Derived.Test.YtaljcihfkblncaaMwStr
namespace Go.Proofs.Ytaljcihfkblncaa
open Go.ChangeShapes Go.WideShapes Go.ChangeAt Go.RowKit
set_option linter.unusedVariables false
set_option linter.unusedSimpArgs false

theorem cntTolerance_le (x : Tolerance) : cntTolerance x ≤ 4 * (x.wt + 1) := by
  simp only [cntTolerance, wtS, Tolerance.wt] at *
  omega
end Go.Proofs.Ytaljcihfkblncaa
