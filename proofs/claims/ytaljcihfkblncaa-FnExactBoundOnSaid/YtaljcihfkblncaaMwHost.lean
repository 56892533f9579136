/- How many marks: Host. No condition. -/
import Derived.Test.YtaljcihfkblncaaMkHost
import Derived.Test.YtaljcihfkblncaaMwLabel
import Derived.Test.YtaljcihfkblncaaMwStr
import Derived.Test.YtaljcihfkblncaaMwTaint
namespace Go.Proofs.Ytaljcihfkblncaa
open Go.ChangeShapes Go.WideShapes Go.ChangeAt Go.RowKit
set_option linter.unusedVariables false
set_option linter.unusedSimpArgs false

theorem cntHost_le (x : Host) : cntHost x ≤ 4 * (x.wt + 1) := by
  have h0 := cntL_wt cntLabel_le x.labels
  have h1 := cntL_wt cntTaint_le x.taints
  simp only [cntHost, wtS, Host.wt] at *
  omega
end Go.Proofs.Ytaljcihfkblncaa
