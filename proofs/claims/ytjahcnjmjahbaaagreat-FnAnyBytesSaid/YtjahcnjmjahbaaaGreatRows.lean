/-
  No cell of these rows narrows 'for every input' (looked for: loops, veiled, ifaces, maps, wideKeys, modest, calm, conditions, laid).
  DERIVED. THE GIVEN ROWS OF THIS SEAT. 3 by the template 'for every input the law returns true; each argument reads behind the call as it read before'; 0 by the template 'total and deterministic' (their statements: YtjahcnjmjahbaaaGreatTotals.lean).
  GIVEN WITH THE SEED: the statements are not yours to turn. If you find one false, say at which input.
  Laid BY PROGRAM, IN A SANDBOX (cutbox-rows.mjs): the forced cells as the released guide's own fill.sh prints them over the translation a998bc67910d9f73… (all of the seat's roots in one cut). By AI agents, Wed Nov 11 2026. No macro, syntax, notation, axiom, sorry.
-/
import Derived.Test.YtjahcnjmjahbaaaGreatChecked
import GoSem.Claim
import GoSem.ClaimJoined
import GoSem.ClaimMapViews
import Derived.JoinedTies
import Derived.KernelRfl
namespace Go.Proofs.YtjahcnjmjahbaaaGreat
/- THE CELL 'sum', in the pinned program and in every row, IS THE sha256 OF THE DUMP (.gsa) THAT YtjahcnjmjahbaaaGreatProg.lean LOADS. Nothing in Lean hashes anything: it is a label: what it is worth is what the hold of that sum in a sandbox is worth. -/
noncomputable def Tryz.pinned : Pinned := { name := "ytjahcnjmjahbaaagreat", sum := "a998bc67910d9f73cffec2fc9b4a9458f345aa0577b5f20b1ee43f3a13a1700e", checked := Tryz.checked }
namespace Rows
def none {H : Type} : Left H := { results := [], args := [] }

/-- 'laws.FnSnaps': WHATEVER THE INPUT: true; the input reads as it did. -/
def fnSnapsSpec : ChangeSpec := { name := "fnSnaps", fn := fun _ => fun
  | [d] => { results := [.lit (.bool true)], args := [d] }
  | _ => none }
def fnSnapsRow : OpenClaim := { program := "ytjahcnjmjahbaaagreat", sum := "a998bc67910d9f73cffec2fc9b4a9458f345aa0577b5f20b1ee43f3a13a1700e", func := "loop.example/g00968/laws.FnSnaps", spec := "fnSnaps", inPlace := ["internal/bytealg.IndexByteString", "internal/bytealg.abigen_runtime_cmpstring"], unfollowed := true, recurses := true, apart := false }
def FnSnapsSaid : Prop := fnSnapsRow.holds Tryz.pinned (OpenSpec.ofChange fnSnapsSpec)

/-- ITS FALSE NEIGHBOUR: 'it returns false'. Refute it at one input. -/
def fnSnapsWrong : ChangeSpec := { name := "fnSnaps", fn := fun _ => fun
  | [d] => { results := [.lit (.bool false)], args := [d] }
  | _ => none }
def FnSnapsWrongFalsely : Prop := fnSnapsRow.holds Tryz.pinned (OpenSpec.ofChange fnSnapsWrong)

/-- 'laws.FnAnyBytes': WHATEVER THE INPUT: true; the input reads as it did. -/
def fnAnyBytesSpec : ChangeSpec := { name := "fnAnyBytes", fn := fun _ => fun
  | [d] => { results := [.lit (.bool true)], args := [d] }
  | _ => none }
def fnAnyBytesRow : OpenClaim := { program := "ytjahcnjmjahbaaagreat", sum := "a998bc67910d9f73cffec2fc9b4a9458f345aa0577b5f20b1ee43f3a13a1700e", func := "loop.example/g00968/laws.FnAnyBytes", spec := "fnAnyBytes", inPlace := ["internal/bytealg.IndexByteString", "internal/bytealg.abigen_runtime_cmpstring"], unfollowed := true, recurses := true, apart := false }
def FnAnyBytesSaid : Prop := fnAnyBytesRow.holds Tryz.pinned (OpenSpec.ofChange fnAnyBytesSpec)

/-- ITS FALSE NEIGHBOUR: 'it returns false'. Refute it at one input. -/
def fnAnyBytesWrong : ChangeSpec := { name := "fnAnyBytes", fn := fun _ => fun
  | [d] => { results := [.lit (.bool false)], args := [d] }
  | _ => none }
def FnAnyBytesWrongFalsely : Prop := fnAnyBytesRow.holds Tryz.pinned (OpenSpec.ofChange fnAnyBytesWrong)

/-- 'laws.FnPlaces': WHATEVER THE INPUT: true; the input reads as it did. -/
def fnPlacesSpec : ChangeSpec := { name := "fnPlaces", fn := fun _ => fun
  | [d] => { results := [.lit (.bool true)], args := [d] }
  | _ => none }
def fnPlacesRow : OpenClaim := { program := "ytjahcnjmjahbaaagreat", sum := "a998bc67910d9f73cffec2fc9b4a9458f345aa0577b5f20b1ee43f3a13a1700e", func := "loop.example/g00968/laws.FnPlaces", spec := "fnPlaces", inPlace := ["internal/bytealg.IndexByteString", "internal/bytealg.abigen_runtime_cmpstring"], unfollowed := true, recurses := true, named := ["math/bits.divideError", "math/bits.overflowError"], apart := false }
def FnPlacesSaid : Prop := fnPlacesRow.holds Tryz.pinned (OpenSpec.ofChange fnPlacesSpec)

/-- ITS FALSE NEIGHBOUR: 'it returns false'. Refute it at one input. -/
def fnPlacesWrong : ChangeSpec := { name := "fnPlaces", fn := fun _ => fun
  | [d] => { results := [.lit (.bool false)], args := [d] }
  | _ => none }
def FnPlacesWrongFalsely : Prop := fnPlacesRow.holds Tryz.pinned (OpenSpec.ofChange fnPlacesWrong)

/- THE SECOND FORM. 'bulk': how many values and letters a reading holds, each counted each time it is reached (what is shared counts as often as it is met; a slice's spare places count too). A statement '..UptoSaid' is the law's where the arguments, and the package variables that the reading takes, are together of bulk at most 1048576: NARROWER than '..Said'. Prove '..Said' where nothing that the law and all that it calls make is longer than what came in: it says more and counts as full. Else prove '..UptoSaid'. A law counts once. -/
mutual
def uptoBulk {H : Type} : DataW H → Nat
  | .lit (.string bytes) => bytes.length + 1
  | .lit _ => 1
  | .nil => 1
  | .ptr d => uptoBulk d + 1
  | .slice elems spare => uptoBulkAll elems + uptoBulkAll spare + 1
  | .agg parts => uptoBulkAll parts + 1
  | .iface _ d => uptoBulk d + 1
  | .map entries => uptoBulkEntries entries + 1
  | .held _ => 1
def uptoBulkAll {H : Type} : List (DataW H) → Nat
  | [] => 0
  | d :: r => uptoBulk d + uptoBulkAll r
def uptoBulkEntries {H : Type} : List (Lit × DataW H) → Nat
  | [] => 0
  | x :: r => uptoBulkEntry x + uptoBulkEntries r
def uptoBulkEntry {H : Type} : Lit × DataW H → Nat
  | (.string bytes, d) => bytes.length + uptoBulk d + 1
  | (_, d) => uptoBulk d + 1
 end
def uptoSmall : (H : Type) → List (DataW H) → Bool := fun _ ds => decide (uptoBulkAll ds ≤ 1048576)
def OpenSpec.upto (s : _root_.Go.ChangeSpec) : _root_.Go.OpenSpec := { _root_.Go.OpenSpec.ofChange s with cond := some uptoSmall }

/-- 'laws.FnSnaps', WHERE WHAT IT READS IS OF BULK AT MOST 1048576: true; the input reads as it did. -/
def fnSnapsUptoRow : OpenClaim := { program := "ytjahcnjmjahbaaagreat", sum := "a998bc67910d9f73cffec2fc9b4a9458f345aa0577b5f20b1ee43f3a13a1700e", func := "loop.example/g00968/laws.FnSnaps", spec := "fnSnaps", inPlace := ["internal/bytealg.IndexByteString", "internal/bytealg.abigen_runtime_cmpstring"], unfollowed := true, recurses := true, apart := false, narrowed := true }
def FnSnapsUptoSaid : Prop := fnSnapsUptoRow.holds Tryz.pinned (OpenSpec.upto fnSnapsSpec)

/-- 'laws.FnAnyBytes', WHERE WHAT IT READS IS OF BULK AT MOST 1048576: true; the input reads as it did. -/
def fnAnyBytesUptoRow : OpenClaim := { program := "ytjahcnjmjahbaaagreat", sum := "a998bc67910d9f73cffec2fc9b4a9458f345aa0577b5f20b1ee43f3a13a1700e", func := "loop.example/g00968/laws.FnAnyBytes", spec := "fnAnyBytes", inPlace := ["internal/bytealg.IndexByteString", "internal/bytealg.abigen_runtime_cmpstring"], unfollowed := true, recurses := true, apart := false, narrowed := true }
def FnAnyBytesUptoSaid : Prop := fnAnyBytesUptoRow.holds Tryz.pinned (OpenSpec.upto fnAnyBytesSpec)

/-- 'laws.FnPlaces', WHERE WHAT IT READS IS OF BULK AT MOST 1048576: true; the input reads as it did. -/
def fnPlacesUptoRow : OpenClaim := { program := "ytjahcnjmjahbaaagreat", sum := "a998bc67910d9f73cffec2fc9b4a9458f345aa0577b5f20b1ee43f3a13a1700e", func := "loop.example/g00968/laws.FnPlaces", spec := "fnPlaces", inPlace := ["internal/bytealg.IndexByteString", "internal/bytealg.abigen_runtime_cmpstring"], unfollowed := true, recurses := true, named := ["math/bits.divideError", "math/bits.overflowError"], apart := false, narrowed := true }
def FnPlacesUptoSaid : Prop := fnPlacesUptoRow.holds Tryz.pinned (OpenSpec.upto fnPlacesSpec)

end Rows
end Go.Proofs.YtjahcnjmjahbaaaGreat
