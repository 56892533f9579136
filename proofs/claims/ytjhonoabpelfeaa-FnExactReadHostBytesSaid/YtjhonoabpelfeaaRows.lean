/-
  No cell of these rows narrows 'for every input' (looked for: loops, veiled, ifaces, maps, wideKeys, modest, calm, conditions, laid).
  DERIVED. THE GIVEN ROWS OF THIS SEAT. 6 by the template 'for every input the law returns true; each argument reads behind the call as it read before'; 0 by the template 'total and deterministic' (their statements: YtjhonoabpelfeaaTotals.lean).
  GIVEN WITH THE SEED: the statements are not yours to turn. If you find one false, say at which input.
  Laid BY PROGRAM, IN A SANDBOX (cutbox-rows.mjs): the forced cells as the released guide's own fill.sh prints them over the translation 04926c1aec0521a2… (all of the seat's roots in one cut). By AI agents, Wed Nov 11 2026. No macro, syntax, notation, axiom, sorry.
-/
import Derived.Test.YtjhonoabpelfeaaChecked
import GoSem.Claim
import GoSem.ClaimJoined
import GoSem.ClaimMapViews
import Derived.JoinedTies
import Derived.KernelRfl
namespace Go.Proofs.Ytjhonoabpelfeaa
/- THE CELL 'sum', in the pinned program and in every row, IS THE sha256 OF THE DUMP (.gsa) THAT YtjhonoabpelfeaaProg.lean LOADS. Nothing in Lean hashes anything: it is a label: what it is worth is what the hold of that sum in a sandbox is worth. -/
noncomputable def Try.pinned : Pinned := { name := "ytjhonoabpelfeaa", sum := "04926c1aec0521a270ac1262f3e717516dede930ea2abab25d141f688789ead1", checked := Try.checked }
namespace Rows
def none {H : Type} : Left H := { results := [], args := [] }

/-- 'laws.FnExactHostBytes': WHATEVER THE INPUT: true; the input reads as it did. -/
def fnExactHostBytesSpec : ChangeSpec := { name := "fnExactHostBytes", fn := fun _ => fun
  | [d] => { results := [.lit (.bool true)], args := [d] }
  | _ => none }
def fnExactHostBytesRow : OpenClaim := { program := "ytjhonoabpelfeaa", sum := "04926c1aec0521a270ac1262f3e717516dede930ea2abab25d141f688789ead1", func := "loop.example/g00968/laws.FnExactHostBytes", spec := "fnExactHostBytes", inPlace := ["internal/bytealg.IndexByteString", "internal/bytealg.abigen_runtime_cmpstring"], unfollowed := true, recurses := true, apart := false }
def FnExactHostBytesSaid : Prop := fnExactHostBytesRow.holds Try.pinned (OpenSpec.ofChange fnExactHostBytesSpec)

/-- ITS FALSE NEIGHBOUR: 'it returns false'. Refute it at one input. -/
def fnExactHostBytesWrong : ChangeSpec := { name := "fnExactHostBytes", fn := fun _ => fun
  | [d] => { results := [.lit (.bool false)], args := [d] }
  | _ => none }
def FnExactHostBytesWrongFalsely : Prop := fnExactHostBytesRow.holds Try.pinned (OpenSpec.ofChange fnExactHostBytesWrong)

/-- 'laws.FnExactReadHostBytes': WHATEVER THE INPUT: true; the input reads as it did. -/
def fnExactReadHostBytesSpec : ChangeSpec := { name := "fnExactReadHostBytes", fn := fun _ => fun
  | [d1, d2] => { results := [.lit (.bool true)], args := [d1, d2] }
  | _ => none }
def fnExactReadHostBytesRow : OpenClaim := { program := "ytjhonoabpelfeaa", sum := "04926c1aec0521a270ac1262f3e717516dede930ea2abab25d141f688789ead1", func := "loop.example/g00968/laws.FnExactReadHostBytes", spec := "fnExactReadHostBytes", inPlace := ["internal/bytealg.IndexByteString", "internal/bytealg.abigen_runtime_cmpstring"], unfollowed := true, recurses := true, apart := false }
def FnExactReadHostBytesSaid : Prop := fnExactReadHostBytesRow.holds Try.pinned (OpenSpec.ofChange fnExactReadHostBytesSpec)

/-- ITS FALSE NEIGHBOUR: 'it returns false'. Refute it at one input. -/
def fnExactReadHostBytesWrong : ChangeSpec := { name := "fnExactReadHostBytes", fn := fun _ => fun
  | [d1, d2] => { results := [.lit (.bool false)], args := [d1, d2] }
  | _ => none }
def FnExactReadHostBytesWrongFalsely : Prop := fnExactReadHostBytesRow.holds Try.pinned (OpenSpec.ofChange fnExactReadHostBytesWrong)

/-- 'laws.FnExactClusterNew': WHATEVER THE INPUT: true; the input reads as it did. -/
def fnExactClusterNewSpec : ChangeSpec := { name := "fnExactClusterNew", fn := fun _ => fun
  | [] => { results := [.lit (.bool true)], args := [] }
  | _ => none }
def fnExactClusterNewRow : OpenClaim := { program := "ytjhonoabpelfeaa", sum := "04926c1aec0521a270ac1262f3e717516dede930ea2abab25d141f688789ead1", func := "loop.example/g00968/laws.FnExactClusterNew", spec := "fnExactClusterNew", apart := false }
def FnExactClusterNewSaid : Prop := fnExactClusterNewRow.holds Try.pinned (OpenSpec.ofChange fnExactClusterNewSpec)

/-- ITS FALSE NEIGHBOUR: 'it returns false'. Refute it at one input. -/
def fnExactClusterNewWrong : ChangeSpec := { name := "fnExactClusterNew", fn := fun _ => fun
  | [] => { results := [.lit (.bool false)], args := [] }
  | _ => none }
def FnExactClusterNewWrongFalsely : Prop := fnExactClusterNewRow.holds Try.pinned (OpenSpec.ofChange fnExactClusterNewWrong)

/-- 'laws.FnExactHostAt': WHATEVER THE INPUT: true; the input reads as it did. -/
def fnExactHostAtSpec : ChangeSpec := { name := "fnExactHostAt", fn := fun _ => fun
  | [d1, d2] => { results := [.lit (.bool true)], args := [d1, d2] }
  | _ => none }
def fnExactHostAtRow : OpenClaim := { program := "ytjhonoabpelfeaa", sum := "04926c1aec0521a270ac1262f3e717516dede930ea2abab25d141f688789ead1", func := "loop.example/g00968/laws.FnExactHostAt", spec := "fnExactHostAt", unfollowed := true, recurses := true, apart := false }
def FnExactHostAtSaid : Prop := fnExactHostAtRow.holds Try.pinned (OpenSpec.ofChange fnExactHostAtSpec)

/-- ITS FALSE NEIGHBOUR: 'it returns false'. Refute it at one input. -/
def fnExactHostAtWrong : ChangeSpec := { name := "fnExactHostAt", fn := fun _ => fun
  | [d1, d2] => { results := [.lit (.bool false)], args := [d1, d2] }
  | _ => none }
def FnExactHostAtWrongFalsely : Prop := fnExactHostAtRow.holds Try.pinned (OpenSpec.ofChange fnExactHostAtWrong)

/-- 'laws.FnExactPodAt': WHATEVER THE INPUT: true; the input reads as it did. -/
def fnExactPodAtSpec : ChangeSpec := { name := "fnExactPodAt", fn := fun _ => fun
  | [d1, d2] => { results := [.lit (.bool true)], args := [d1, d2] }
  | _ => none }
def fnExactPodAtRow : OpenClaim := { program := "ytjhonoabpelfeaa", sum := "04926c1aec0521a270ac1262f3e717516dede930ea2abab25d141f688789ead1", func := "loop.example/g00968/laws.FnExactPodAt", spec := "fnExactPodAt", unfollowed := true, recurses := true, apart := false }
def FnExactPodAtSaid : Prop := fnExactPodAtRow.holds Try.pinned (OpenSpec.ofChange fnExactPodAtSpec)

/-- ITS FALSE NEIGHBOUR: 'it returns false'. Refute it at one input. -/
def fnExactPodAtWrong : ChangeSpec := { name := "fnExactPodAt", fn := fun _ => fun
  | [d1, d2] => { results := [.lit (.bool false)], args := [d1, d2] }
  | _ => none }
def FnExactPodAtWrongFalsely : Prop := fnExactPodAtRow.holds Try.pinned (OpenSpec.ofChange fnExactPodAtWrong)

/-- 'laws.FnExactUsedOn': WHATEVER THE INPUT: true; the input reads as it did. -/
def fnExactUsedOnSpec : ChangeSpec := { name := "fnExactUsedOn", fn := fun _ => fun
  | [d1, d2] => { results := [.lit (.bool true)], args := [d1, d2] }
  | _ => none }
def fnExactUsedOnRow : OpenClaim := { program := "ytjhonoabpelfeaa", sum := "04926c1aec0521a270ac1262f3e717516dede930ea2abab25d141f688789ead1", func := "loop.example/g00968/laws.FnExactUsedOn", spec := "fnExactUsedOn", apart := false }
def FnExactUsedOnSaid : Prop := fnExactUsedOnRow.holds Try.pinned (OpenSpec.ofChange fnExactUsedOnSpec)

/-- ITS FALSE NEIGHBOUR: 'it returns false'. Refute it at one input. -/
def fnExactUsedOnWrong : ChangeSpec := { name := "fnExactUsedOn", fn := fun _ => fun
  | [d1, d2] => { results := [.lit (.bool false)], args := [d1, d2] }
  | _ => none }
def FnExactUsedOnWrongFalsely : Prop := fnExactUsedOnRow.holds Try.pinned (OpenSpec.ofChange fnExactUsedOnWrong)

/- THE SECOND FORM. 'bulk': how many values and letters a reading holds, each counted each time it is reached (what is shared counts as often as it is met; a slice's spare places count too). A statement '..UptoSaid' is the law's where the arguments, and the package variables that the reading takes, are together of bulk at most 1048576: NARROWER than '..Said'. Prove '..Said' where nothing that the law and all that it calls make is longer than what came in: it says more and counts as full. Else prove '..UptoSaid'. A law counts once. -/
mutual
def uptoBulk {H : Type} : DataW H → Nat
  | .lit (.string bytes) => bytes.length + 1
  | .lit _ => 1
  | .nil => 1
  | .ptr d => uptoBulk d + 1
  | .slice elems spare => uptoBulkAll elems + uptoBulkAll spare + 1
  | .agg parts => uptoBulkAll parts + 1
  | .iface _ d => uptoBulk d + 1
  | .map entries => uptoBulkEntries entries + 1
  | .held _ => 1
def uptoBulkAll {H : Type} : List (DataW H) → Nat
  | [] => 0
  | d :: r => uptoBulk d + uptoBulkAll r
def uptoBulkEntries {H : Type} : List (Lit × DataW H) → Nat
  | [] => 0
  | x :: r => uptoBulkEntry x + uptoBulkEntries r
def uptoBulkEntry {H : Type} : Lit × DataW H → Nat
  | (.string bytes, d) => bytes.length + uptoBulk d + 1
  | (_, d) => uptoBulk d + 1
 end
def uptoSmall : (H : Type) → List (DataW H) → Bool := fun _ ds => decide (uptoBulkAll ds ≤ 1048576)
def OpenSpec.upto (s : _root_.Go.ChangeSpec) : _root_.Go.OpenSpec := { _root_.Go.OpenSpec.ofChange s with cond := some uptoSmall }

/-- 'laws.FnExactHostBytes', WHERE WHAT IT READS IS OF BULK AT MOST 1048576: true; the input reads as it did. -/
def fnExactHostBytesUptoRow : OpenClaim := { program := "ytjhonoabpelfeaa", sum := "04926c1aec0521a270ac1262f3e717516dede930ea2abab25d141f688789ead1", func := "loop.example/g00968/laws.FnExactHostBytes", spec := "fnExactHostBytes", inPlace := ["internal/bytealg.IndexByteString", "internal/bytealg.abigen_runtime_cmpstring"], unfollowed := true, recurses := true, apart := false, narrowed := true }
def FnExactHostBytesUptoSaid : Prop := fnExactHostBytesUptoRow.holds Try.pinned (OpenSpec.upto fnExactHostBytesSpec)

/-- 'laws.FnExactReadHostBytes', WHERE WHAT IT READS IS OF BULK AT MOST 1048576: true; the input reads as it did. -/
def fnExactReadHostBytesUptoRow : OpenClaim := { program := "ytjhonoabpelfeaa", sum := "04926c1aec0521a270ac1262f3e717516dede930ea2abab25d141f688789ead1", func := "loop.example/g00968/laws.FnExactReadHostBytes", spec := "fnExactReadHostBytes", inPlace := ["internal/bytealg.IndexByteString", "internal/bytealg.abigen_runtime_cmpstring"], unfollowed := true, recurses := true, apart := false, narrowed := true }
def FnExactReadHostBytesUptoSaid : Prop := fnExactReadHostBytesUptoRow.holds Try.pinned (OpenSpec.upto fnExactReadHostBytesSpec)

/-- 'laws.FnExactClusterNew', WHERE WHAT IT READS IS OF BULK AT MOST 1048576: true; the input reads as it did. -/
def fnExactClusterNewUptoRow : OpenClaim := { program := "ytjhonoabpelfeaa", sum := "04926c1aec0521a270ac1262f3e717516dede930ea2abab25d141f688789ead1", func := "loop.example/g00968/laws.FnExactClusterNew", spec := "fnExactClusterNew", apart := false, narrowed := true }
def FnExactClusterNewUptoSaid : Prop := fnExactClusterNewUptoRow.holds Try.pinned (OpenSpec.upto fnExactClusterNewSpec)

/-- 'laws.FnExactHostAt', WHERE WHAT IT READS IS OF BULK AT MOST 1048576: true; the input reads as it did. -/
def fnExactHostAtUptoRow : OpenClaim := { program := "ytjhonoabpelfeaa", sum := "04926c1aec0521a270ac1262f3e717516dede930ea2abab25d141f688789ead1", func := "loop.example/g00968/laws.FnExactHostAt", spec := "fnExactHostAt", unfollowed := true, recurses := true, apart := false, narrowed := true }
def FnExactHostAtUptoSaid : Prop := fnExactHostAtUptoRow.holds Try.pinned (OpenSpec.upto fnExactHostAtSpec)

/-- 'laws.FnExactPodAt', WHERE WHAT IT READS IS OF BULK AT MOST 1048576: true; the input reads as it did. -/
def fnExactPodAtUptoRow : OpenClaim := { program := "ytjhonoabpelfeaa", sum := "04926c1aec0521a270ac1262f3e717516dede930ea2abab25d141f688789ead1", func := "loop.example/g00968/laws.FnExactPodAt", spec := "fnExactPodAt", unfollowed := true, recurses := true, apart := false, narrowed := true }
def FnExactPodAtUptoSaid : Prop := fnExactPodAtUptoRow.holds Try.pinned (OpenSpec.upto fnExactPodAtSpec)

/-- 'laws.FnExactUsedOn', WHERE WHAT IT READS IS OF BULK AT MOST 1048576: true; the input reads as it did. -/
def fnExactUsedOnUptoRow : OpenClaim := { program := "ytjhonoabpelfeaa", sum := "04926c1aec0521a270ac1262f3e717516dede930ea2abab25d141f688789ead1", func := "loop.example/g00968/laws.FnExactUsedOn", spec := "fnExactUsedOn", apart := false, narrowed := true }
def FnExactUsedOnUptoSaid : Prop := fnExactUsedOnUptoRow.holds Try.pinned (OpenSpec.upto fnExactUsedOnSpec)

end Rows
end Go.Proofs.Ytjhonoabpelfeaa
