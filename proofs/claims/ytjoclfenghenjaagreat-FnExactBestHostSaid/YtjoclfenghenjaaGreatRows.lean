/-
  No cell of these rows narrows 'for every input' (looked for: loops, veiled, ifaces, maps, wideKeys, modest, calm, conditions, laid).
  DERIVED. THE GIVEN ROWS OF THIS SEAT. 5 by the template 'for every input the law returns true; each argument reads behind the call as it read before'; 0 by the template 'total and deterministic' (their statements: YtjoclfenghenjaaGreatTotals.lean).
  GIVEN WITH THE SEED: the statements are not yours to turn. If you find one false, say at which input.
  Laid BY PROGRAM, IN A SANDBOX (cutbox-rows.mjs): the forced cells as the released guide's own fill.sh prints them over the translation e2907aa0416b3f41… (all of the seat's roots in one cut). By AI agents, Wed Nov 11 2026. No macro, syntax, notation, axiom, sorry.
-/
import Derived.Test.YtjoclfenghenjaaGreatChecked
import GoSem.Claim
import GoSem.ClaimJoined
import GoSem.ClaimMapViews
import Derived.JoinedTies
import Derived.KernelRfl
namespace Go.Proofs.YtjoclfenghenjaaGreat
/- THE CELL 'sum', in the pinned program and in every row, IS THE sha256 OF THE DUMP (.gsa) THAT YtjoclfenghenjaaGreatProg.lean LOADS. Nothing in Lean hashes anything: it is a label: what it is worth is what the hold of that sum in a sandbox is worth. -/
noncomputable def Tryz.pinned : Pinned := { name := "ytjoclfenghenjaagreat", sum := "e2907aa0416b3f41501160ee9caa00f9b9eabd46e3df89629cb3431a359a0930", checked := Tryz.checked }
namespace Rows
def none {H : Type} : Left H := { results := [], args := [] }

/-- 'laws.FnExactSetWeights': WHATEVER THE INPUT: true; the input reads as it did. -/
def fnExactSetWeightsSpec : ChangeSpec := { name := "fnExactSetWeights", fn := fun _ => fun
  | [d1, d2] => { results := [.lit (.bool true)], args := [d1, d2] }
  | _ => none }
def fnExactSetWeightsRow : OpenClaim := { program := "ytjoclfenghenjaagreat", sum := "e2907aa0416b3f41501160ee9caa00f9b9eabd46e3df89629cb3431a359a0930", func := "loop.example/g00968/laws.FnExactSetWeights", spec := "fnExactSetWeights", inPlace := ["internal/bytealg.IndexByteString", "internal/bytealg.abigen_runtime_cmpstring"], unfollowed := true, recurses := true, apart := false }
def FnExactSetWeightsSaid : Prop := fnExactSetWeightsRow.holds Tryz.pinned (OpenSpec.ofChange fnExactSetWeightsSpec)

/-- ITS FALSE NEIGHBOUR: 'it returns false'. Refute it at one input. -/
def fnExactSetWeightsWrong : ChangeSpec := { name := "fnExactSetWeights", fn := fun _ => fun
  | [d1, d2] => { results := [.lit (.bool false)], args := [d1, d2] }
  | _ => none }
def FnExactSetWeightsWrongFalsely : Prop := fnExactSetWeightsRow.holds Tryz.pinned (OpenSpec.ofChange fnExactSetWeightsWrong)

/-- 'laws.FnExactDropHost': WHATEVER THE INPUT: true; the input reads as it did. -/
def fnExactDropHostSpec : ChangeSpec := { name := "fnExactDropHost", fn := fun _ => fun
  | [d1, d2] => { results := [.lit (.bool true)], args := [d1, d2] }
  | _ => none }
def fnExactDropHostRow : OpenClaim := { program := "ytjoclfenghenjaagreat", sum := "e2907aa0416b3f41501160ee9caa00f9b9eabd46e3df89629cb3431a359a0930", func := "loop.example/g00968/laws.FnExactDropHost", spec := "fnExactDropHost", inPlace := ["internal/bytealg.IndexByteString", "internal/bytealg.abigen_runtime_cmpstring"], unfollowed := true, recurses := true, apart := false }
def FnExactDropHostSaid : Prop := fnExactDropHostRow.holds Tryz.pinned (OpenSpec.ofChange fnExactDropHostSpec)

/-- ITS FALSE NEIGHBOUR: 'it returns false'. Refute it at one input. -/
def fnExactDropHostWrong : ChangeSpec := { name := "fnExactDropHost", fn := fun _ => fun
  | [d1, d2] => { results := [.lit (.bool false)], args := [d1, d2] }
  | _ => none }
def FnExactDropHostWrongFalsely : Prop := fnExactDropHostRow.holds Tryz.pinned (OpenSpec.ofChange fnExactDropHostWrong)

/-- 'laws.FnExactDeletePod': WHATEVER THE INPUT: true; the input reads as it did. -/
def fnExactDeletePodSpec : ChangeSpec := { name := "fnExactDeletePod", fn := fun _ => fun
  | [d1, d2] => { results := [.lit (.bool true)], args := [d1, d2] }
  | _ => none }
def fnExactDeletePodRow : OpenClaim := { program := "ytjoclfenghenjaagreat", sum := "e2907aa0416b3f41501160ee9caa00f9b9eabd46e3df89629cb3431a359a0930", func := "loop.example/g00968/laws.FnExactDeletePod", spec := "fnExactDeletePod", inPlace := ["internal/bytealg.IndexByteString", "internal/bytealg.abigen_runtime_cmpstring"], unfollowed := true, recurses := true, apart := false }
def FnExactDeletePodSaid : Prop := fnExactDeletePodRow.holds Tryz.pinned (OpenSpec.ofChange fnExactDeletePodSpec)

/-- ITS FALSE NEIGHBOUR: 'it returns false'. Refute it at one input. -/
def fnExactDeletePodWrong : ChangeSpec := { name := "fnExactDeletePod", fn := fun _ => fun
  | [d1, d2] => { results := [.lit (.bool false)], args := [d1, d2] }
  | _ => none }
def FnExactDeletePodWrongFalsely : Prop := fnExactDeletePodRow.holds Tryz.pinned (OpenSpec.ofChange fnExactDeletePodWrong)

/-- 'laws.FnExactRankingOf': WHATEVER THE INPUT: true; the input reads as it did. -/
def fnExactRankingOfSpec : ChangeSpec := { name := "fnExactRankingOf", fn := fun _ => fun
  | [d1, d2] => { results := [.lit (.bool true)], args := [d1, d2] }
  | _ => none }
def fnExactRankingOfRow : OpenClaim := { program := "ytjoclfenghenjaagreat", sum := "e2907aa0416b3f41501160ee9caa00f9b9eabd46e3df89629cb3431a359a0930", func := "loop.example/g00968/laws.FnExactRankingOf", spec := "fnExactRankingOf", inPlace := ["internal/bytealg.IndexByteString"], unfollowed := true, recurses := true, named := ["math/bits.divideError", "math/bits.overflowError"], apart := false }
def FnExactRankingOfSaid : Prop := fnExactRankingOfRow.holds Tryz.pinned (OpenSpec.ofChange fnExactRankingOfSpec)

/-- ITS FALSE NEIGHBOUR: 'it returns false'. Refute it at one input. -/
def fnExactRankingOfWrong : ChangeSpec := { name := "fnExactRankingOf", fn := fun _ => fun
  | [d1, d2] => { results := [.lit (.bool false)], args := [d1, d2] }
  | _ => none }
def FnExactRankingOfWrongFalsely : Prop := fnExactRankingOfRow.holds Tryz.pinned (OpenSpec.ofChange fnExactRankingOfWrong)

/-- 'laws.FnExactBestHost': WHATEVER THE INPUT: true; the input reads as it did. -/
def fnExactBestHostSpec : ChangeSpec := { name := "fnExactBestHost", fn := fun _ => fun
  | [d1, d2] => { results := [.lit (.bool true)], args := [d1, d2] }
  | _ => none }
def fnExactBestHostRow : OpenClaim := { program := "ytjoclfenghenjaagreat", sum := "e2907aa0416b3f41501160ee9caa00f9b9eabd46e3df89629cb3431a359a0930", func := "loop.example/g00968/laws.FnExactBestHost", spec := "fnExactBestHost", inPlace := ["internal/bytealg.IndexByteString"], unfollowed := true, recurses := true, named := ["math/bits.divideError", "math/bits.overflowError"], apart := false }
def FnExactBestHostSaid : Prop := fnExactBestHostRow.holds Tryz.pinned (OpenSpec.ofChange fnExactBestHostSpec)

/-- ITS FALSE NEIGHBOUR: 'it returns false'. Refute it at one input. -/
def fnExactBestHostWrong : ChangeSpec := { name := "fnExactBestHost", fn := fun _ => fun
  | [d1, d2] => { results := [.lit (.bool false)], args := [d1, d2] }
  | _ => none }
def FnExactBestHostWrongFalsely : Prop := fnExactBestHostRow.holds Tryz.pinned (OpenSpec.ofChange fnExactBestHostWrong)

/- THE SECOND FORM. 'bulk': how many values and letters a reading holds, each counted each time it is reached (what is shared counts as often as it is met; a slice's spare places count too). A statement '..UptoSaid' is the law's where the arguments, and the package variables that the reading takes, are together of bulk at most 1048576: NARROWER than '..Said'. Prove '..Said' where nothing that the law and all that it calls make is longer than what came in: it says more and counts as full. Else prove '..UptoSaid'. A law counts once. -/
mutual
def uptoBulk {H : Type} : DataW H → Nat
  | .lit (.string bytes) => bytes.length + 1
  | .lit _ => 1
  | .nil => 1
  | .ptr d => uptoBulk d + 1
  | .slice elems spare => uptoBulkAll elems + uptoBulkAll spare + 1
  | .agg parts => uptoBulkAll parts + 1
  | .iface _ d => uptoBulk d + 1
  | .map entries => uptoBulkEntries entries + 1
  | .held _ => 1
def uptoBulkAll {H : Type} : List (DataW H) → Nat
  | [] => 0
  | d :: r => uptoBulk d + uptoBulkAll r
def uptoBulkEntries {H : Type} : List (Lit × DataW H) → Nat
  | [] => 0
  | x :: r => uptoBulkEntry x + uptoBulkEntries r
def uptoBulkEntry {H : Type} : Lit × DataW H → Nat
  | (.string bytes, d) => bytes.length + uptoBulk d + 1
  | (_, d) => uptoBulk d + 1
 end
def uptoSmall : (H : Type) → List (DataW H) → Bool := fun _ ds => decide (uptoBulkAll ds ≤ 1048576)
def OpenSpec.upto (s : _root_.Go.ChangeSpec) : _root_.Go.OpenSpec := { _root_.Go.OpenSpec.ofChange s with cond := some uptoSmall }

/-- 'laws.FnExactSetWeights', WHERE WHAT IT READS IS OF BULK AT MOST 1048576: true; the input reads as it did. -/
def fnExactSetWeightsUptoRow : OpenClaim := { program := "ytjoclfenghenjaagreat", sum := "e2907aa0416b3f41501160ee9caa00f9b9eabd46e3df89629cb3431a359a0930", func := "loop.example/g00968/laws.FnExactSetWeights", spec := "fnExactSetWeights", inPlace := ["internal/bytealg.IndexByteString", "internal/bytealg.abigen_runtime_cmpstring"], unfollowed := true, recurses := true, apart := false, narrowed := true }
def FnExactSetWeightsUptoSaid : Prop := fnExactSetWeightsUptoRow.holds Tryz.pinned (OpenSpec.upto fnExactSetWeightsSpec)

/-- 'laws.FnExactDropHost', WHERE WHAT IT READS IS OF BULK AT MOST 1048576: true; the input reads as it did. -/
def fnExactDropHostUptoRow : OpenClaim := { program := "ytjoclfenghenjaagreat", sum := "e2907aa0416b3f41501160ee9caa00f9b9eabd46e3df89629cb3431a359a0930", func := "loop.example/g00968/laws.FnExactDropHost", spec := "fnExactDropHost", inPlace := ["internal/bytealg.IndexByteString", "internal/bytealg.abigen_runtime_cmpstring"], unfollowed := true, recurses := true, apart := false, narrowed := true }
def FnExactDropHostUptoSaid : Prop := fnExactDropHostUptoRow.holds Tryz.pinned (OpenSpec.upto fnExactDropHostSpec)

/-- 'laws.FnExactDeletePod', WHERE WHAT IT READS IS OF BULK AT MOST 1048576: true; the input reads as it did. -/
def fnExactDeletePodUptoRow : OpenClaim := { program := "ytjoclfenghenjaagreat", sum := "e2907aa0416b3f41501160ee9caa00f9b9eabd46e3df89629cb3431a359a0930", func := "loop.example/g00968/laws.FnExactDeletePod", spec := "fnExactDeletePod", inPlace := ["internal/bytealg.IndexByteString", "internal/bytealg.abigen_runtime_cmpstring"], unfollowed := true, recurses := true, apart := false, narrowed := true }
def FnExactDeletePodUptoSaid : Prop := fnExactDeletePodUptoRow.holds Tryz.pinned (OpenSpec.upto fnExactDeletePodSpec)

/-- 'laws.FnExactRankingOf', WHERE WHAT IT READS IS OF BULK AT MOST 1048576: true; the input reads as it did. -/
def fnExactRankingOfUptoRow : OpenClaim := { program := "ytjoclfenghenjaagreat", sum := "e2907aa0416b3f41501160ee9caa00f9b9eabd46e3df89629cb3431a359a0930", func := "loop.example/g00968/laws.FnExactRankingOf", spec := "fnExactRankingOf", inPlace := ["internal/bytealg.IndexByteString"], unfollowed := true, recurses := true, named := ["math/bits.divideError", "math/bits.overflowError"], apart := false, narrowed := true }
def FnExactRankingOfUptoSaid : Prop := fnExactRankingOfUptoRow.holds Tryz.pinned (OpenSpec.upto fnExactRankingOfSpec)

/-- 'laws.FnExactBestHost', WHERE WHAT IT READS IS OF BULK AT MOST 1048576: true; the input reads as it did. -/
def fnExactBestHostUptoRow : OpenClaim := { program := "ytjoclfenghenjaagreat", sum := "e2907aa0416b3f41501160ee9caa00f9b9eabd46e3df89629cb3431a359a0930", func := "loop.example/g00968/laws.FnExactBestHost", spec := "fnExactBestHost", inPlace := ["internal/bytealg.IndexByteString"], unfollowed := true, recurses := true, named := ["math/bits.divideError", "math/bits.overflowError"], apart := false, narrowed := true }
def FnExactBestHostUptoSaid : Prop := fnExactBestHostUptoRow.holds Tryz.pinned (OpenSpec.upto fnExactBestHostSpec)

end Rows
end Go.Proofs.YtjoclfenghenjaaGreat
