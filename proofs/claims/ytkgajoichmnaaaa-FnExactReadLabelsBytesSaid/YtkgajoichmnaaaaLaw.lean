/- What laws with results in memory need. No condition. -/
import Derived.Test.YtkgajoichmnaaaaMark
import Derived.Test.YtkgajoichmnaaaaLaw0
namespace Go.Proofs.Ytkgajoichmnaaaa
open Dat (rd)
open Go.ChangeShapes Go.WideShapes Go.ChangeAt Go.RowKit
set_option linter.unusedVariables false
set_option linter.unusedSimpArgs false

end Go.Proofs.Ytkgajoichmnaaaa
