/-
  No cell of these rows narrows 'for every input' (looked for: loops, veiled, ifaces, maps, wideKeys, modest, calm, conditions, laid).
  DERIVED. THE GIVEN ROWS OF THIS SEAT. 5 by the template 'for every input the law returns true; each argument reads behind the call as it read before'; 0 by the template 'total and deterministic' (their statements: YtjkjlhhddpplbaaGreatTotals.lean).
  GIVEN WITH THE SEED: the statements are not yours to turn. If you find one false, say at which input.
  Laid BY PROGRAM, IN A SANDBOX (cutbox-rows.mjs): the forced cells as the released guide's own fill.sh prints them over the translation 74304d9a7248f3fe… (all of the seat's roots in one cut). By AI agents, Wed Nov 11 2026. No macro, syntax, notation, axiom, sorry.
-/
import Derived.Test.YtjkjlhhddpplbaaGreatChecked
import GoSem.Claim
import GoSem.ClaimJoined
import GoSem.ClaimMapViews
import Derived.JoinedTies
import Derived.KernelRfl
namespace Go.Proofs.YtjkjlhhddpplbaaGreat
/- THE CELL 'sum', in the pinned program and in every row, IS THE sha256 OF THE DUMP (.gsa) THAT YtjkjlhhddpplbaaGreatProg.lean LOADS. Nothing in Lean hashes anything: it is a label: what it is worth is what the hold of that sum in a sandbox is worth. -/
noncomputable def Tryz.pinned : Pinned := { name := "ytjkjlhhddpplbaagreat", sum := "74304d9a7248f3fed00c5474af351926563f9e05b92c0f3f72d92aff6f0caaf1", checked := Tryz.checked }
namespace Rows
def none {H : Type} : Left H := { results := [], args := [] }

/-- 'laws.FnExactFitsOn': WHATEVER THE INPUT: true; the input reads as it did. -/
def fnExactFitsOnSpec : ChangeSpec := { name := "fnExactFitsOn", fn := fun _ => fun
  | [d1, d2, d3] => { results := [.lit (.bool true)], args := [d1, d2, d3] }
  | _ => none }
def fnExactFitsOnRow : OpenClaim := { program := "ytjkjlhhddpplbaagreat", sum := "74304d9a7248f3fed00c5474af351926563f9e05b92c0f3f72d92aff6f0caaf1", func := "loop.example/g00968/laws.FnExactFitsOn", spec := "fnExactFitsOn", inPlace := ["internal/bytealg.IndexByteString"], unfollowed := true, recurses := true, apart := false }
def FnExactFitsOnSaid : Prop := fnExactFitsOnRow.holds Tryz.pinned (OpenSpec.ofChange fnExactFitsOnSpec)

/-- ITS FALSE NEIGHBOUR: 'it returns false'. Refute it at one input. -/
def fnExactFitsOnWrong : ChangeSpec := { name := "fnExactFitsOn", fn := fun _ => fun
  | [d1, d2, d3] => { results := [.lit (.bool false)], args := [d1, d2, d3] }
  | _ => none }
def FnExactFitsOnWrongFalsely : Prop := fnExactFitsOnRow.holds Tryz.pinned (OpenSpec.ofChange fnExactFitsOnWrong)

/-- 'laws.FnExactMarkOn': WHATEVER THE INPUT: true; the input reads as it did. -/
def fnExactMarkOnSpec : ChangeSpec := { name := "fnExactMarkOn", fn := fun _ => fun
  | [d1, d2, d3] => { results := [.lit (.bool true)], args := [d1, d2, d3] }
  | _ => none }
def fnExactMarkOnRow : OpenClaim := { program := "ytjkjlhhddpplbaagreat", sum := "74304d9a7248f3fed00c5474af351926563f9e05b92c0f3f72d92aff6f0caaf1", func := "loop.example/g00968/laws.FnExactMarkOn", spec := "fnExactMarkOn", inPlace := ["internal/bytealg.IndexByteString"], unfollowed := true, recurses := true, named := ["math/bits.divideError", "math/bits.overflowError"], apart := false }
def FnExactMarkOnSaid : Prop := fnExactMarkOnRow.holds Tryz.pinned (OpenSpec.ofChange fnExactMarkOnSpec)

/-- ITS FALSE NEIGHBOUR: 'it returns false'. Refute it at one input. -/
def fnExactMarkOnWrong : ChangeSpec := { name := "fnExactMarkOn", fn := fun _ => fun
  | [d1, d2, d3] => { results := [.lit (.bool false)], args := [d1, d2, d3] }
  | _ => none }
def FnExactMarkOnWrongFalsely : Prop := fnExactMarkOnRow.holds Tryz.pinned (OpenSpec.ofChange fnExactMarkOnWrong)

/-- 'laws.FnExactClusterOk': WHATEVER THE INPUT: true; the input reads as it did. -/
def fnExactClusterOkSpec : ChangeSpec := { name := "fnExactClusterOk", fn := fun _ => fun
  | [d] => { results := [.lit (.bool true)], args := [d] }
  | _ => none }
def fnExactClusterOkRow : OpenClaim := { program := "ytjkjlhhddpplbaagreat", sum := "74304d9a7248f3fed00c5474af351926563f9e05b92c0f3f72d92aff6f0caaf1", func := "loop.example/g00968/laws.FnExactClusterOk", spec := "fnExactClusterOk", inPlace := ["internal/bytealg.IndexByteString", "internal/bytealg.abigen_runtime_cmpstring"], unfollowed := true, recurses := true, apart := false }
def FnExactClusterOkSaid : Prop := fnExactClusterOkRow.holds Tryz.pinned (OpenSpec.ofChange fnExactClusterOkSpec)

/-- ITS FALSE NEIGHBOUR: 'it returns false'. Refute it at one input. -/
def fnExactClusterOkWrong : ChangeSpec := { name := "fnExactClusterOk", fn := fun _ => fun
  | [d] => { results := [.lit (.bool false)], args := [d] }
  | _ => none }
def FnExactClusterOkWrongFalsely : Prop := fnExactClusterOkRow.holds Tryz.pinned (OpenSpec.ofChange fnExactClusterOkWrong)

/-- 'laws.FnExactFeasible': WHATEVER THE INPUT: true; the input reads as it did. -/
def fnExactFeasibleSpec : ChangeSpec := { name := "fnExactFeasible", fn := fun _ => fun
  | [d1, d2] => { results := [.lit (.bool true)], args := [d1, d2] }
  | _ => none }
def fnExactFeasibleRow : OpenClaim := { program := "ytjkjlhhddpplbaagreat", sum := "74304d9a7248f3fed00c5474af351926563f9e05b92c0f3f72d92aff6f0caaf1", func := "loop.example/g00968/laws.FnExactFeasible", spec := "fnExactFeasible", inPlace := ["internal/bytealg.IndexByteString"], unfollowed := true, recurses := true, apart := false }
def FnExactFeasibleSaid : Prop := fnExactFeasibleRow.holds Tryz.pinned (OpenSpec.ofChange fnExactFeasibleSpec)

/-- ITS FALSE NEIGHBOUR: 'it returns false'. Refute it at one input. -/
def fnExactFeasibleWrong : ChangeSpec := { name := "fnExactFeasible", fn := fun _ => fun
  | [d1, d2] => { results := [.lit (.bool false)], args := [d1, d2] }
  | _ => none }
def FnExactFeasibleWrongFalsely : Prop := fnExactFeasibleRow.holds Tryz.pinned (OpenSpec.ofChange fnExactFeasibleWrong)

/-- 'laws.FnExactReasonsFor': WHATEVER THE INPUT: true; the input reads as it did. -/
def fnExactReasonsForSpec : ChangeSpec := { name := "fnExactReasonsFor", fn := fun _ => fun
  | [d1, d2] => { results := [.lit (.bool true)], args := [d1, d2] }
  | _ => none }
def fnExactReasonsForRow : OpenClaim := { program := "ytjkjlhhddpplbaagreat", sum := "74304d9a7248f3fed00c5474af351926563f9e05b92c0f3f72d92aff6f0caaf1", func := "loop.example/g00968/laws.FnExactReasonsFor", spec := "fnExactReasonsFor", inPlace := ["internal/bytealg.IndexByteString"], unfollowed := true, recurses := true, apart := false }
def FnExactReasonsForSaid : Prop := fnExactReasonsForRow.holds Tryz.pinned (OpenSpec.ofChange fnExactReasonsForSpec)

/-- ITS FALSE NEIGHBOUR: 'it returns false'. Refute it at one input. -/
def fnExactReasonsForWrong : ChangeSpec := { name := "fnExactReasonsFor", fn := fun _ => fun
  | [d1, d2] => { results := [.lit (.bool false)], args := [d1, d2] }
  | _ => none }
def FnExactReasonsForWrongFalsely : Prop := fnExactReasonsForRow.holds Tryz.pinned (OpenSpec.ofChange fnExactReasonsForWrong)

/- THE SECOND FORM. 'bulk': how many values and letters a reading holds, each counted each time it is reached (what is shared counts as often as it is met; a slice's spare places count too). A statement '..UptoSaid' is the law's where the arguments, and the package variables that the reading takes, are together of bulk at most 1048576: NARROWER than '..Said'. Prove '..Said' where nothing that the law and all that it calls make is longer than what came in: it says more and counts as full. Else prove '..UptoSaid'. A law counts once. -/
mutual
def uptoBulk {H : Type} : DataW H → Nat
  | .lit (.string bytes) => bytes.length + 1
  | .lit _ => 1
  | .nil => 1
  | .ptr d => uptoBulk d + 1
  | .slice elems spare => uptoBulkAll elems + uptoBulkAll spare + 1
  | .agg parts => uptoBulkAll parts + 1
  | .iface _ d => uptoBulk d + 1
  | .map entries => uptoBulkEntries entries + 1
  | .held _ => 1
def uptoBulkAll {H : Type} : List (DataW H) → Nat
  | [] => 0
  | d :: r => uptoBulk d + uptoBulkAll r
def uptoBulkEntries {H : Type} : List (Lit × DataW H) → Nat
  | [] => 0
  | x :: r => uptoBulkEntry x + uptoBulkEntries r
def uptoBulkEntry {H : Type} : Lit × DataW H → Nat
  | (.string bytes, d) => bytes.length + uptoBulk d + 1
  | (_, d) => uptoBulk d + 1
 end
def uptoSmall : (H : Type) → List (DataW H) → Bool := fun _ ds => decide (uptoBulkAll ds ≤ 1048576)
def OpenSpec.upto (s : _root_.Go.ChangeSpec) : _root_.Go.OpenSpec := { _root_.Go.OpenSpec.ofChange s with cond := some uptoSmall }

/-- 'laws.FnExactFitsOn', WHERE WHAT IT READS IS OF BULK AT MOST 1048576: true; the input reads as it did. -/
def fnExactFitsOnUptoRow : OpenClaim := { program := "ytjkjlhhddpplbaagreat", sum := "74304d9a7248f3fed00c5474af351926563f9e05b92c0f3f72d92aff6f0caaf1", func := "loop.example/g00968/laws.FnExactFitsOn", spec := "fnExactFitsOn", inPlace := ["internal/bytealg.IndexByteString"], unfollowed := true, recurses := true, apart := false, narrowed := true }
def FnExactFitsOnUptoSaid : Prop := fnExactFitsOnUptoRow.holds Tryz.pinned (OpenSpec.upto fnExactFitsOnSpec)

/-- 'laws.FnExactMarkOn', WHERE WHAT IT READS IS OF BULK AT MOST 1048576: true; the input reads as it did. -/
def fnExactMarkOnUptoRow : OpenClaim := { program := "ytjkjlhhddpplbaagreat", sum := "74304d9a7248f3fed00c5474af351926563f9e05b92c0f3f72d92aff6f0caaf1", func := "loop.example/g00968/laws.FnExactMarkOn", spec := "fnExactMarkOn", inPlace := ["internal/bytealg.IndexByteString"], unfollowed := true, recurses := true, named := ["math/bits.divideError", "math/bits.overflowError"], apart := false, narrowed := true }
def FnExactMarkOnUptoSaid : Prop := fnExactMarkOnUptoRow.holds Tryz.pinned (OpenSpec.upto fnExactMarkOnSpec)

/-- 'laws.FnExactClusterOk', WHERE WHAT IT READS IS OF BULK AT MOST 1048576: true; the input reads as it did. -/
def fnExactClusterOkUptoRow : OpenClaim := { program := "ytjkjlhhddpplbaagreat", sum := "74304d9a7248f3fed00c5474af351926563f9e05b92c0f3f72d92aff6f0caaf1", func := "loop.example/g00968/laws.FnExactClusterOk", spec := "fnExactClusterOk", inPlace := ["internal/bytealg.IndexByteString", "internal/bytealg.abigen_runtime_cmpstring"], unfollowed := true, recurses := true, apart := false, narrowed := true }
def FnExactClusterOkUptoSaid : Prop := fnExactClusterOkUptoRow.holds Tryz.pinned (OpenSpec.upto fnExactClusterOkSpec)

/-- 'laws.FnExactFeasible', WHERE WHAT IT READS IS OF BULK AT MOST 1048576: true; the input reads as it did. -/
def fnExactFeasibleUptoRow : OpenClaim := { program := "ytjkjlhhddpplbaagreat", sum := "74304d9a7248f3fed00c5474af351926563f9e05b92c0f3f72d92aff6f0caaf1", func := "loop.example/g00968/laws.FnExactFeasible", spec := "fnExactFeasible", inPlace := ["internal/bytealg.IndexByteString"], unfollowed := true, recurses := true, apart := false, narrowed := true }
def FnExactFeasibleUptoSaid : Prop := fnExactFeasibleUptoRow.holds Tryz.pinned (OpenSpec.upto fnExactFeasibleSpec)

/-- 'laws.FnExactReasonsFor', WHERE WHAT IT READS IS OF BULK AT MOST 1048576: true; the input reads as it did. -/
def fnExactReasonsForUptoRow : OpenClaim := { program := "ytjkjlhhddpplbaagreat", sum := "74304d9a7248f3fed00c5474af351926563f9e05b92c0f3f72d92aff6f0caaf1", func := "loop.example/g00968/laws.FnExactReasonsFor", spec := "fnExactReasonsFor", inPlace := ["internal/bytealg.IndexByteString"], unfollowed := true, recurses := true, apart := false, narrowed := true }
def FnExactReasonsForUptoSaid : Prop := fnExactReasonsForUptoRow.holds Tryz.pinned (OpenSpec.upto fnExactReasonsForSpec)

end Rows
end Go.Proofs.YtjkjlhhddpplbaaGreat
