/- How many marks: Need. No condition. -/
import Derived.Test.YtaljcihfkblncaaMkNeed
import Derived.Test.YtaljcihfkblncaaMwStr
namespace Go.Proofs.Ytaljcihfkblncaa
open Go.ChangeShapes Go.WideShapes Go.ChangeAt Go.RowKit
set_option linter.unusedVariables false
set_option linter.unusedSimpArgs false

theorem cntNeed_le (x : Need) : cntNeed x ≤ 2 * (x.wt + 1) := by
  have h0 := cntL_wt (f := ByteArray.size) cntStr_le x.values
  simp only [cntNeed, wtS, Need.wt] at *
  omega
end Go.Proofs.Ytaljcihfkblncaa
