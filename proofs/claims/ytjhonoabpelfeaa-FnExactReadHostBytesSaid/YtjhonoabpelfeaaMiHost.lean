/- Marks on Host that are made stay. No condition. -/
import Derived.Test.YtjhonoabpelfeaaMkHost
import Derived.Test.YtjhonoabpelfeaaMiLabel
import Derived.Test.YtjhonoabpelfeaaMiTaint
namespace Go.Proofs.Ytjhonoabpelfeaa
open Go.ChangeShapes Go.WideShapes Go.ChangeAt Go.RowKit
set_option linter.unusedVariables false
set_option linter.unusedSimpArgs false

theorem cntHost_mk (x : Host) (k : Int) : cntHost (mkHost x k) = cntHost x := by simp [cntHost, mkHost, cntL_mkL cntLabel_mk, cntL_mkL cntTaint_mk]
theorem mkHost_idem (x : Host) (k : Int) : mkHost (mkHost x k) k = mkHost x k := by simp [mkHost, mkL_idem cntLabel_mk mkLabel_idem, mkL_idem cntTaint_mk mkTaint_idem, cntL_mkL cntLabel_mk, cntL_mkL cntTaint_mk]
end Go.Proofs.Ytjhonoabpelfeaa
