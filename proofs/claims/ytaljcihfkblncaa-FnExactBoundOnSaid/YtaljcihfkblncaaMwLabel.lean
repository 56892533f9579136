/- How many marks: Label. No condition. -/
import Derived.Test.YtaljcihfkblncaaMkLabel
import Derived.Test.YtaljcihfkblncaaMwStr
namespace Go.Proofs.Ytaljcihfkblncaa
open Go.ChangeShapes Go.WideShapes Go.ChangeAt Go.RowKit
set_option linter.unusedVariables false
set_option linter.unusedSimpArgs false

theorem cntLabel_le (x : Label) : cntLabel x ≤ 2 * (x.wt + 1) := by
  simp only [cntLabel, wtS, Label.wt] at *
  omega
end Go.Proofs.Ytaljcihfkblncaa
