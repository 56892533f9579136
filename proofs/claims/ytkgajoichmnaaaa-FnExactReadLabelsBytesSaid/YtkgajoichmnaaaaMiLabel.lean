/- Marks on Label that are made stay. No condition. -/
import Derived.Test.YtkgajoichmnaaaaMkLabel
namespace Go.Proofs.Ytkgajoichmnaaaa
open Dat (rd)
open Go.ChangeShapes Go.WideShapes Go.ChangeAt Go.RowKit
set_option linter.unusedVariables false
set_option linter.unusedSimpArgs false

theorem cntLabel_mk (x : Label) (k : Int) : cntLabel (mkLabel x k) = cntLabel x := by simp [cntLabel, mkLabel]
theorem mkLabel_idem (x : Label) (k : Int) : mkLabel (mkLabel x k) k = mkLabel x k := by simp [mkLabel]
end Go.Proofs.Ytkgajoichmnaaaa
