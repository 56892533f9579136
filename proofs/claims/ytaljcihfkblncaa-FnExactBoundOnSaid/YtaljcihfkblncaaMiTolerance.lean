/- Marks on Tolerance that are made stay. No condition. -/
import Derived.Test.YtaljcihfkblncaaMkTolerance
namespace Go.Proofs.Ytaljcihfkblncaa
open Go.ChangeShapes Go.WideShapes Go.ChangeAt Go.RowKit
set_option linter.unusedVariables false
set_option linter.unusedSimpArgs false

theorem cntTolerance_mk (x : Tolerance) (k : Int) : cntTolerance (mkTolerance x k) = cntTolerance x := by simp [cntTolerance, mkTolerance]
theorem mkTolerance_idem (x : Tolerance) (k : Int) : mkTolerance (mkTolerance x k) k = mkTolerance x k := by simp [mkTolerance]
end Go.Proofs.Ytaljcihfkblncaa
