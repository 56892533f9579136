/- Marks on strings and on a pod's lists that are made stay. No condition. -/
import Derived.Test.YtjoclfenghenjaaMkBase
namespace Go.Proofs.Ytjoclfenghenjaa
open Go.ChangeShapes Go.WideShapes Go.ChangeAt Go.RowKit
set_option linter.unusedVariables false
set_option linter.unusedSimpArgs false

theorem cntStr_mk (x : ByteArray) (k : Int) : cntStr (mkStr x k) = cntStr x := rfl
theorem mkStr_idem (x : ByteArray) (k : Int) : mkStr (mkStr x k) k = mkStr x k := rfl
end Go.Proofs.Ytjoclfenghenjaa
