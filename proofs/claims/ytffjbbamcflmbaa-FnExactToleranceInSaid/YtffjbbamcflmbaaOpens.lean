/- The laws' own types, opened. -/
import Derived.Test.YtffjbbamcflmbaaOpen
namespace Go.Proofs.Ytffjbbamcflmbaa
open Go.ChangeShapes Go.WideShapes Go.ChangeAt Go.RowKit
set_option linter.unusedVariables false
set_option linter.unusedSimpArgs false

theorem opens_StringS : Opens Try.prog 22 (List ByteArray) := opens_slice Try.underlying22 (by kernel_rfl) (opens_string Try.underlying9)
end Go.Proofs.Ytffjbbamcflmbaa
