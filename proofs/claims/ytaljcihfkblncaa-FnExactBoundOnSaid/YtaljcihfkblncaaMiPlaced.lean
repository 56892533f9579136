/- Marks on Placed that are made stay. No condition. -/
import Derived.Test.YtaljcihfkblncaaMkPlaced
import Derived.Test.YtaljcihfkblncaaMiLabel
import Derived.Test.YtaljcihfkblncaaMiNeed
import Derived.Test.YtaljcihfkblncaaMiTolerance
namespace Go.Proofs.Ytaljcihfkblncaa
open Go.ChangeShapes Go.WideShapes Go.ChangeAt Go.RowKit
set_option linter.unusedVariables false
set_option linter.unusedSimpArgs false

theorem cntPlaced_mk (x : Placed) (k : Int) : cntPlaced (mkPlaced x k) = cntPlaced x := by simp [cntPlaced, mkPlaced, cntL_mkL cntLabel_mk, cntL_mkL cntNeed_mk, cntL_mkL cntTolerance_mk]
theorem mkPlaced_idem (x : Placed) (k : Int) : mkPlaced (mkPlaced x k) k = mkPlaced x k := by simp [mkPlaced, mkL_idem cntLabel_mk mkLabel_idem, mkL_idem cntNeed_mk mkNeed_idem, mkL_idem cntTolerance_mk mkTolerance_idem, cntL_mkL cntLabel_mk, cntL_mkL cntNeed_mk, cntL_mkL cntTolerance_mk]
end Go.Proofs.Ytaljcihfkblncaa
