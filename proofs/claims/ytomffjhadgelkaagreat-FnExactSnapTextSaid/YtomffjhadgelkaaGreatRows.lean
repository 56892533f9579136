/-
  No cell of these rows narrows 'for every input' (looked for: loops, veiled, ifaces, maps, wideKeys, modest, calm, conditions, laid).
  DERIVED. THE GIVEN ROWS OF THIS SEAT. 2 by the template 'for every input the law returns true; each argument reads behind the call as it read before'; 0 by the template 'total and deterministic' (their statements: YtomffjhadgelkaaGreatTotals.lean).
  GIVEN WITH THE SEED: the statements are not yours to turn. If you find one false, say at which input.
  Laid BY PROGRAM, IN A SANDBOX (cutbox-rows.mjs): the forced cells as the released guide's own fill.sh prints them over the translation f3372edb5c354bcf… (all of the seat's roots in one cut). By AI agents, Wed Nov 11 2026. No macro, syntax, notation, axiom, sorry.
-/
import Derived.Test.YtomffjhadgelkaaGreatChecked
import GoSem.Claim
import GoSem.ClaimJoined
import GoSem.ClaimMapViews
import Derived.JoinedTies
import Derived.KernelRfl
namespace Go.Proofs.YtomffjhadgelkaaGreat
/- THE CELL 'sum', in the pinned program and in every row, IS THE sha256 OF THE DUMP (.gsa) THAT YtomffjhadgelkaaGreatProg.lean LOADS. Nothing in Lean hashes anything: it is a label: what it is worth is what the hold of that sum in a sandbox is worth. -/
noncomputable def Tryz.pinned : Pinned := { name := "ytomffjhadgelkaagreat", sum := "f3372edb5c354bcf008963cb56dda693ef3aa9c9c05762389e65d5e8eb71cd9e", checked := Tryz.checked }
namespace Rows
def none {H : Type} : Left H := { results := [], args := [] }

/-- 'laws.FnExactReasonCounts': WHATEVER THE INPUT: true; the input reads as it did. -/
def fnExactReasonCountsSpec : ChangeSpec := { name := "fnExactReasonCounts", fn := fun _ => fun
  | [d1, d2] => { results := [.lit (.bool true)], args := [d1, d2] }
  | _ => none }
def fnExactReasonCountsRow : OpenClaim := { program := "ytomffjhadgelkaagreat", sum := "f3372edb5c354bcf008963cb56dda693ef3aa9c9c05762389e65d5e8eb71cd9e", func := "loop.example/g00968/laws.FnExactReasonCounts", spec := "fnExactReasonCounts", inPlace := ["internal/bytealg.IndexByteString"], unfollowed := true, recurses := true, apart := false }
def FnExactReasonCountsSaid : Prop := fnExactReasonCountsRow.holds Tryz.pinned (OpenSpec.ofChange fnExactReasonCountsSpec)

/-- ITS FALSE NEIGHBOUR: 'it returns false'. Refute it at one input. -/
def fnExactReasonCountsWrong : ChangeSpec := { name := "fnExactReasonCounts", fn := fun _ => fun
  | [d1, d2] => { results := [.lit (.bool false)], args := [d1, d2] }
  | _ => none }
def FnExactReasonCountsWrongFalsely : Prop := fnExactReasonCountsRow.holds Tryz.pinned (OpenSpec.ofChange fnExactReasonCountsWrong)

/-- 'laws.FnExactSnapText': WHATEVER THE INPUT: true; the input reads as it did. -/
def fnExactSnapTextSpec : ChangeSpec := { name := "fnExactSnapText", fn := fun _ => fun
  | [d] => { results := [.lit (.bool true)], args := [d] }
  | _ => none }
def fnExactSnapTextRow : OpenClaim := { program := "ytomffjhadgelkaagreat", sum := "f3372edb5c354bcf008963cb56dda693ef3aa9c9c05762389e65d5e8eb71cd9e", func := "loop.example/g00968/laws.FnExactSnapText", spec := "fnExactSnapText", inPlace := ["internal/bytealg.IndexByteString", "internal/bytealg.abigen_runtime_cmpstring"], unfollowed := true, recurses := true, apart := false }
def FnExactSnapTextSaid : Prop := fnExactSnapTextRow.holds Tryz.pinned (OpenSpec.ofChange fnExactSnapTextSpec)

/-- ITS FALSE NEIGHBOUR: 'it returns false'. Refute it at one input. -/
def fnExactSnapTextWrong : ChangeSpec := { name := "fnExactSnapText", fn := fun _ => fun
  | [d] => { results := [.lit (.bool false)], args := [d] }
  | _ => none }
def FnExactSnapTextWrongFalsely : Prop := fnExactSnapTextRow.holds Tryz.pinned (OpenSpec.ofChange fnExactSnapTextWrong)

/- THE SECOND FORM. 'bulk': how many values and letters a reading holds, each counted each time it is reached (what is shared counts as often as it is met; a slice's spare places count too). A statement '..UptoSaid' is the law's where the arguments, and the package variables that the reading takes, are together of bulk at most 1048576: NARROWER than '..Said'. Prove '..Said' where nothing that the law and all that it calls make is longer than what came in: it says more and counts as full. Else prove '..UptoSaid'. A law counts once. -/
mutual
def uptoBulk {H : Type} : DataW H → Nat
  | .lit (.string bytes) => bytes.length + 1
  | .lit _ => 1
  | .nil => 1
  | .ptr d => uptoBulk d + 1
  | .slice elems spare => uptoBulkAll elems + uptoBulkAll spare + 1
  | .agg parts => uptoBulkAll parts + 1
  | .iface _ d => uptoBulk d + 1
  | .map entries => uptoBulkEntries entries + 1
  | .held _ => 1
def uptoBulkAll {H : Type} : List (DataW H) → Nat
  | [] => 0
  | d :: r => uptoBulk d + uptoBulkAll r
def uptoBulkEntries {H : Type} : List (Lit × DataW H) → Nat
  | [] => 0
  | x :: r => uptoBulkEntry x + uptoBulkEntries r
def uptoBulkEntry {H : Type} : Lit × DataW H → Nat
  | (.string bytes, d) => bytes.length + uptoBulk d + 1
  | (_, d) => uptoBulk d + 1
 end
def uptoSmall : (H : Type) → List (DataW H) → Bool := fun _ ds => decide (uptoBulkAll ds ≤ 1048576)
def OpenSpec.upto (s : _root_.Go.ChangeSpec) : _root_.Go.OpenSpec := { _root_.Go.OpenSpec.ofChange s with cond := some uptoSmall }

/-- 'laws.FnExactReasonCounts', WHERE WHAT IT READS IS OF BULK AT MOST 1048576: true; the input reads as it did. -/
def fnExactReasonCountsUptoRow : OpenClaim := { program := "ytomffjhadgelkaagreat", sum := "f3372edb5c354bcf008963cb56dda693ef3aa9c9c05762389e65d5e8eb71cd9e", func := "loop.example/g00968/laws.FnExactReasonCounts", spec := "fnExactReasonCounts", inPlace := ["internal/bytealg.IndexByteString"], unfollowed := true, recurses := true, apart := false, narrowed := true }
def FnExactReasonCountsUptoSaid : Prop := fnExactReasonCountsUptoRow.holds Tryz.pinned (OpenSpec.upto fnExactReasonCountsSpec)

/-- 'laws.FnExactSnapText', WHERE WHAT IT READS IS OF BULK AT MOST 1048576: true; the input reads as it did. -/
def fnExactSnapTextUptoRow : OpenClaim := { program := "ytomffjhadgelkaagreat", sum := "f3372edb5c354bcf008963cb56dda693ef3aa9c9c05762389e65d5e8eb71cd9e", func := "loop.example/g00968/laws.FnExactSnapText", spec := "fnExactSnapText", inPlace := ["internal/bytealg.IndexByteString", "internal/bytealg.abigen_runtime_cmpstring"], unfollowed := true, recurses := true, apart := false, narrowed := true }
def FnExactSnapTextUptoSaid : Prop := fnExactSnapTextUptoRow.holds Tryz.pinned (OpenSpec.upto fnExactSnapTextSpec)

end Rows
end Go.Proofs.YtomffjhadgelkaaGreat
