/- The texts of trees, as cells. No condition. -/
import Derived.Test.YtegekccoincicaaGreatDoorNeedInP
namespace Go.Proofs.YtegekccoincicaaGreatDoor
open Dat (rd)
open Go.ChangeShapes Go.WideShapes Go.ChangeAt Go.RowKit
set_option linter.unusedVariables false
set_option linter.unusedSimpArgs false

def txts (l : List Tree) (j : Nat) : List Value := (l.take j).map fun t => Value.string t.text
theorem txts_succ {l : List Tree} {j : Nat} (h : j < l.length) : txts l (j + 1) = txts l j ++ [.string l[j].text] := by
  unfold txts
  rw [List.take_succ_eq_append_getElem h, List.map_append]; rfl
end Go.Proofs.YtegekccoincicaaGreatDoor
