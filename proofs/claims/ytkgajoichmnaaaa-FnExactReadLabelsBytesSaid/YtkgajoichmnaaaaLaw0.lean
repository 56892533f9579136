/- Small lemmas for laws. No condition. -/
import Derived.Test.YtkgajoichmnaaaaRegion
import Derived.Test.YtkgajoichmnaaaaAppend
import Derived.Test.YtkgajoichmnaaaaEq
namespace Go.Proofs.Ytkgajoichmnaaaa
open Dat (rd)
open Go.ChangeShapes Go.WideShapes Go.ChangeAt Go.RowKit
set_option linter.unusedVariables false
set_option linter.unusedSimpArgs false

theorem rd_ext {α : Type} [Dat α] {w w' : World} {x : α} {cs : List Value} {F : List Nat} (h : rd w x cs F) (hb : Below w.heap.size w w') : rd w' x cs F :=
  Dat.frame h (fun b hb' => hb.block b (Dat.lt h b hb')) hb.size
theorem bcellB {B : Nat} {W w1 : World} (hb : Below B W w1) : (∀ b o, b < B → w1.cell? ⟨b, o, none⟩ = W.cell? ⟨b, o, none⟩) ∧ (∀ b o, b < B → w1.frozen? ⟨b, o, none⟩ = W.frozen? ⟨b, o, none⟩) :=
  ⟨fun b o h => hb.cell (p := ⟨b, o, none⟩) h, fun b o h => hb.frozen (p := ⟨b, o, none⟩) h⟩
theorem same_self {α : Type} {eq : α → α → Bool} (h : ∀ a, eq a a = true) : ∀ l, same eq l l = true
  | [] => rfl
  | a :: l => by simp [same, h, same_self h l]
theorem same_int (l : List Int) : same eqInt l l = true := same_self (fun a => (eqInt_iff a a).2 rfl) l
theorem same_str (l : List ByteArray) : same eqStr l l = true := same_self (fun a => (eqStr_iff a a).2 rfl) l

end Go.Proofs.Ytkgajoichmnaaaa
