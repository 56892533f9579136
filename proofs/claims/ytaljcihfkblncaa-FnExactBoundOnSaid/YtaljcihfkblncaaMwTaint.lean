/- How many marks: Taint. No condition. -/
import Derived.Test.YtaljcihfkblncaaMkTaint
import Derived.Test.YtaljcihfkblncaaMwStr
namespace Go.Proofs.Ytaljcihfkblncaa
open Go.ChangeShapes Go.WideShapes Go.ChangeAt Go.RowKit
set_option linter.unusedVariables false
set_option linter.unusedSimpArgs false

theorem cntTaint_le (x : Taint) : cntTaint x ≤ 3 * (x.wt + 1) := by
  simp only [cntTaint, wtS, Taint.wt] at *
  omega
end Go.Proofs.Ytaljcihfkblncaa
