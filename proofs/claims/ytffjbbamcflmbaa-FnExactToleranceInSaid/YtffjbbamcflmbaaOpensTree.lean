/- A tree that comes in, opened. No condition. -/
import Derived.Test.YtffjbbamcflmbaaTreeO
import Derived.Test.YtffjbbamcflmbaaOpens
namespace Go.Proofs.Ytffjbbamcflmbaa
open Go.ChangeShapes Go.WideShapes Go.ChangeAt Go.RowKit
set_option linter.unusedVariables false
set_option linter.unusedSimpArgs false
theorem opens_TreeTo (N : Nat) : OpensTo N Try.prog 25 Tree ∧ OpensTo N Try.prog 23 (List Tree) := by
  induction N using Nat.strongRecOn with
  | _ N ih =>
    refine ⟨?_, opensTo_slice Try.underlying23 (by kernel_rfl) (fun M hM => (ih M hM).1)⟩
    have hf : OpensTo N Try.prog 25 (Int × Bool × Int × ByteArray × List ByteArray × List Tree) := opensTo_struct Try.underlying25 (by kernel_rfl) fun M hM =>
      foTo_cons rfl (by kernel_rfl) ((opens_int Try.underlying3).to M) (foTo_cons rfl (by kernel_rfl) ((opens_bool Try.underlying4).to M) (foTo_cons rfl (by kernel_rfl) ((opens_int Try.underlying3).to M)
        (foTo_cons rfl (by kernel_rfl) ((opens_string Try.underlying9).to M) (foTo_cons rfl (by kernel_rfl) (opens_StringS.to M) (foTo_one rfl (by kernel_rfl) (ih M hM).2)))))
    intro H enc w base fuel spare held cs d hN hd
    obtain ⟨x, F, hx⟩ := hf H enc w base fuel spare held cs d hN hd
    exact ⟨Tree.mk x.1 x.2.1 x.2.2.1 x.2.2.2.1 x.2.2.2.2.1 x.2.2.2.2.2, F, rd_tree_mk hx⟩
theorem opens_Tree : Opens Try.prog 25 Tree := fun H enc w base fuel spare held cs d h => (opens_TreeTo fuel).1 H enc w base fuel spare held cs d (Nat.le_refl _) h
end Go.Proofs.Ytffjbbamcflmbaa
