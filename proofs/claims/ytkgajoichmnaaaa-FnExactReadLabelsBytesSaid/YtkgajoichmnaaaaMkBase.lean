/- markStringS, heldStringS, markLabelS, heldLabelS: prototypes -/
import Derived.Test.YtkgajoichmnaaaaMark
namespace Go.Proofs.Ytkgajoichmnaaaa
open Dat (rd)
open Go.ChangeShapes Go.WideShapes Go.ChangeAt Go.RowKit
set_option linter.unusedVariables false
set_option linter.unusedSimpArgs false
def mkStr (_ : ByteArray) (k : Int) : ByteArray := mtext k
def cntStr (_ : ByteArray) : Nat := 1
end Go.Proofs.Ytkgajoichmnaaaa
