/- Marks on Need that are made stay. No condition. -/
import Derived.Test.YtaljcihfkblncaaMkNeed
import Derived.Test.YtaljcihfkblncaaMiStr
namespace Go.Proofs.Ytaljcihfkblncaa
open Go.ChangeShapes Go.WideShapes Go.ChangeAt Go.RowKit
set_option linter.unusedVariables false
set_option linter.unusedSimpArgs false

theorem cntNeed_mk (x : Need) (k : Int) : cntNeed (mkNeed x k) = cntNeed x := by simp [cntNeed, mkNeed, cntL_mkL cntStr_mk]
theorem mkNeed_idem (x : Need) (k : Int) : mkNeed (mkNeed x k) k = mkNeed x k := by simp [mkNeed, mkL_idem cntStr_mk mkStr_idem, cntL_mkL cntStr_mk]
end Go.Proofs.Ytaljcihfkblncaa
