/- Marks on Taint that are made stay. No condition. -/
import Derived.Test.YtjhonoabpelfeaaMkTaint
namespace Go.Proofs.Ytjhonoabpelfeaa
open Go.ChangeShapes Go.WideShapes Go.ChangeAt Go.RowKit
set_option linter.unusedVariables false
set_option linter.unusedSimpArgs false

theorem cntTaint_mk (x : Taint) (k : Int) : cntTaint (mkTaint x k) = cntTaint x := by simp [cntTaint, mkTaint]
theorem mkTaint_idem (x : Taint) (k : Int) : mkTaint (mkTaint x k) k = mkTaint x k := by simp [mkTaint]
end Go.Proofs.Ytjhonoabpelfeaa
