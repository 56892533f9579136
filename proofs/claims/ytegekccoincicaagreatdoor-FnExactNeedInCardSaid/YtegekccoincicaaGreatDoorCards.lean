/-
  DERIVED. GIVEN WITH THE SEED: THE CARDS: each row of YtegekccoincicaaGreatDoorRows.lean that lists a variable, with what it lists TIED to the program's text (the seventh form; the later family's looks); each row that meets fmt, with fmt's text TOLD by the authors' own Lean function (tested against real Go, not proved from fmt's source: count such statements apart). THE CARD IS WHAT COUNTS. Prove the row's statement (the work); the ties are given (YtegekccoincicaaGreatDoorTie.lean); close each card by the builder's one call (the guide's Derived/Test/ToyasCard.lean, 'card_holds'). Laid BY PROGRAM, IN A SANDBOX (cutbox-door.mjs). By AI agents, Wed Nov 11 2026. No macro, syntax, notation, axiom, sorry.
-/
import Derived.Test.YtegekccoincicaaGreatDoorRows
import GoSem.ClaimSeven
namespace Go.Proofs.YtegekccoincicaaGreatDoor
namespace Rows

/-- THE TIED CARD OF 'laws.FnExactNeedIn'. -/
def fnExactNeedInCard : Claim7 := { stood := { row := fnExactNeedInRow, standIns := [], harness := (true, "09efe013696e321652c7320bfa77e025bd8fc5c4643d96503b52aeb1e6e58649"), looks := false }, kinds := [], alts := [], laidByText := true, laidKinds := [.data, .data, .data], laidTests := true, laidLooks := .later }
def FnExactNeedInCardSaid : Prop := Claim7.holds Tryz.pinned (.plain (OpenSpec.ofChange fnExactNeedInSpec)) fnExactNeedInCard

/-- THE TIED CARD OF 'laws.FnParts'. -/
def fnPartsCard : Claim7 := { stood := { row := fnPartsRow, standIns := [], harness := (true, "09efe013696e321652c7320bfa77e025bd8fc5c4643d96503b52aeb1e6e58649"), looks := false }, kinds := [], alts := [], laidByText := true, laidKinds := [.data, .data, .data], laidTests := true, laidLooks := .later }
def FnPartsCardSaid : Prop := Claim7.holds Tryz.pinned (.plain (OpenSpec.ofChange fnPartsSpec)) fnPartsCard

/-- THE SECOND FORM's CARD OF 'laws.FnExactNeedIn'. -/
def fnExactNeedInUptoCard : Claim7 := { stood := { row := fnExactNeedInUptoRow, standIns := [], harness := (true, "09efe013696e321652c7320bfa77e025bd8fc5c4643d96503b52aeb1e6e58649"), looks := false }, kinds := [], alts := [], laidByText := true, laidKinds := [.data, .data, .data], laidTests := true, laidLooks := .later }
def FnExactNeedInUptoCardSaid : Prop := Claim7.holds Tryz.pinned (.plain (OpenSpec.upto fnExactNeedInSpec)) fnExactNeedInUptoCard

/-- THE SECOND FORM's CARD OF 'laws.FnParts'. -/
def fnPartsUptoCard : Claim7 := { stood := { row := fnPartsUptoRow, standIns := [], harness := (true, "09efe013696e321652c7320bfa77e025bd8fc5c4643d96503b52aeb1e6e58649"), looks := false }, kinds := [], alts := [], laidByText := true, laidKinds := [.data, .data, .data], laidTests := true, laidLooks := .later }
def FnPartsUptoCardSaid : Prop := Claim7.holds Tryz.pinned (.plain (OpenSpec.upto fnPartsSpec)) fnPartsUptoCard
end Rows
end Go.Proofs.YtegekccoincicaaGreatDoor
