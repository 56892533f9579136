/- The laws' own types, opened. -/
import Derived.Test.YtkgajoichmnaaaaOpen
namespace Go.Proofs.Ytkgajoichmnaaaa
open Dat (rd)
open Go.ChangeShapes Go.WideShapes Go.ChangeAt Go.RowKit
set_option linter.unusedVariables false
set_option linter.unusedSimpArgs false

theorem opens_StringS : Opens Try.prog 47 (List ByteArray) := opens_slice Try.underlying47 (by kernel_rfl) (opens_string Try.underlying9)
theorem opens_Label : Opens Try.prog 50 Label := opens_iso (fun x : Label => (x.key, x.value)) (fun p => ⟨p.1, p.2⟩) (fun _ => rfl) (opens_struct Try.underlying50 (by kernel_rfl) (fo_cons rfl (by kernel_rfl) (opens_string Try.underlying9) (fo_one rfl (by kernel_rfl) (opens_string Try.underlying9))))
theorem opens_LabelS : Opens Try.prog 33 (List Label) := opens_slice Try.underlying33 (by kernel_rfl) opens_Label
theorem opens_Weights : Opens Try.prog 23 Weights := opens_iso (fun x : Weights => (x.pack, x.spread, x.soft)) (fun p => ⟨p.1, p.2.1, p.2.2⟩) (fun _ => rfl) (opens_struct Try.underlying23 (by kernel_rfl) (fo_cons rfl (by kernel_rfl) (opens_int Try.underlying3) (fo_cons rfl (by kernel_rfl) (opens_int Try.underlying3) (fo_one rfl (by kernel_rfl) (opens_int Try.underlying3)))))
end Go.Proofs.Ytkgajoichmnaaaa
