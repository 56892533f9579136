/- What laws with results in memory need. No condition. -/
import Derived.Test.YtjoclfenghenjaaMark
import Derived.Test.YtjoclfenghenjaaLaw0
namespace Go.Proofs.Ytjoclfenghenjaa
open Go.ChangeShapes Go.WideShapes Go.ChangeAt Go.RowKit
set_option linter.unusedVariables false
set_option linter.unusedSimpArgs false

end Go.Proofs.Ytjoclfenghenjaa
