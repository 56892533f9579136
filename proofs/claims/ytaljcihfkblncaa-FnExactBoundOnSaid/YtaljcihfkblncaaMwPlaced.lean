/- How many marks: Placed. No condition. -/
import Derived.Test.YtaljcihfkblncaaMkPlaced
import Derived.Test.YtaljcihfkblncaaMwLabel
import Derived.Test.YtaljcihfkblncaaMwNeed
import Derived.Test.YtaljcihfkblncaaMwStr
import Derived.Test.YtaljcihfkblncaaMwTolerance
namespace Go.Proofs.Ytaljcihfkblncaa
open Go.ChangeShapes Go.WideShapes Go.ChangeAt Go.RowKit
set_option linter.unusedVariables false
set_option linter.unusedSimpArgs false

theorem cntPlaced_le (x : Placed) : cntPlaced x ≤ 6 * (x.wt + 1) := by
  have h0 := cntL_wt cntLabel_le x.pod.labels
  have h1 := cntL_wt cntNeed_le x.pod.needs
  have h2 := cntL_wt cntTolerance_le x.pod.tolerances
  simp only [cntPlaced, wtS, Placed.wt, Pod.wt] at *
  omega
end Go.Proofs.Ytaljcihfkblncaa
