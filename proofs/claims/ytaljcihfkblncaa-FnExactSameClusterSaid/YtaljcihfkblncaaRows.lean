/-
  No cell of these rows narrows 'for every input' (looked for: loops, veiled, ifaces, maps, wideKeys, modest, calm, conditions, laid).
  DERIVED. THE GIVEN ROWS OF THIS SEAT. 6 by the template 'for every input the law returns true; each argument reads behind the call as it read before'; 0 by the template 'total and deterministic' (their statements: YtaljcihfkblncaaTotals.lean).
  GIVEN WITH THE SEED: the statements are not yours to turn. If you find one false, say at which input.
  Laid BY PROGRAM, IN A SANDBOX (cutbox-rows.mjs): the forced cells as the released guide's own fill.sh prints them over the translation 6024d5c1978b8a10… (all of the seat's roots in one cut). By AI agents, Wed Nov 11 2026. No macro, syntax, notation, axiom, sorry.
-/
import Derived.Test.YtaljcihfkblncaaChecked
import GoSem.Claim
import GoSem.ClaimJoined
import GoSem.ClaimMapViews
import Derived.JoinedTies
import Derived.KernelRfl
namespace Go.Proofs.Ytaljcihfkblncaa
/- THE CELL 'sum', in the pinned program and in every row, IS THE sha256 OF THE DUMP (.gsa) THAT YtaljcihfkblncaaProg.lean LOADS. Nothing in Lean hashes anything: it is a label: what it is worth is what the hold of that sum in a sandbox is worth. -/
noncomputable def Try.pinned : Pinned := { name := "ytaljcihfkblncaa", sum := "6024d5c1978b8a10fbf727c814d384fae14c06613370c6d7a423beeba55f0d50", checked := Try.checked }
namespace Rows
def none {H : Type} : Left H := { results := [], args := [] }

/-- 'laws.FnExactPodBytes': WHATEVER THE INPUT: true; the input reads as it did. -/
def fnExactPodBytesSpec : ChangeSpec := { name := "fnExactPodBytes", fn := fun _ => fun
  | [d] => { results := [.lit (.bool true)], args := [d] }
  | _ => none }
def fnExactPodBytesRow : OpenClaim := { program := "ytaljcihfkblncaa", sum := "6024d5c1978b8a10fbf727c814d384fae14c06613370c6d7a423beeba55f0d50", func := "loop.example/g00968/laws.FnExactPodBytes", spec := "fnExactPodBytes", inPlace := ["internal/bytealg.IndexByteString", "internal/bytealg.abigen_runtime_cmpstring"], unfollowed := true, recurses := true, apart := false }
def FnExactPodBytesSaid : Prop := fnExactPodBytesRow.holds Try.pinned (OpenSpec.ofChange fnExactPodBytesSpec)

/-- ITS FALSE NEIGHBOUR: 'it returns false'. Refute it at one input. -/
def fnExactPodBytesWrong : ChangeSpec := { name := "fnExactPodBytes", fn := fun _ => fun
  | [d] => { results := [.lit (.bool false)], args := [d] }
  | _ => none }
def FnExactPodBytesWrongFalsely : Prop := fnExactPodBytesRow.holds Try.pinned (OpenSpec.ofChange fnExactPodBytesWrong)

/-- 'laws.FnExactBoundOn': WHATEVER THE INPUT: true; the input reads as it did. -/
def fnExactBoundOnSpec : ChangeSpec := { name := "fnExactBoundOn", fn := fun _ => fun
  | [d1, d2] => { results := [.lit (.bool true)], args := [d1, d2] }
  | _ => none }
def fnExactBoundOnRow : OpenClaim := { program := "ytaljcihfkblncaa", sum := "6024d5c1978b8a10fbf727c814d384fae14c06613370c6d7a423beeba55f0d50", func := "loop.example/g00968/laws.FnExactBoundOn", spec := "fnExactBoundOn", apart := false }
def FnExactBoundOnSaid : Prop := fnExactBoundOnRow.holds Try.pinned (OpenSpec.ofChange fnExactBoundOnSpec)

/-- ITS FALSE NEIGHBOUR: 'it returns false'. Refute it at one input. -/
def fnExactBoundOnWrong : ChangeSpec := { name := "fnExactBoundOn", fn := fun _ => fun
  | [d1, d2] => { results := [.lit (.bool false)], args := [d1, d2] }
  | _ => none }
def FnExactBoundOnWrongFalsely : Prop := fnExactBoundOnRow.holds Try.pinned (OpenSpec.ofChange fnExactBoundOnWrong)

/-- 'laws.FnExactSoftMark': WHATEVER THE INPUT: true; the input reads as it did. -/
def fnExactSoftMarkSpec : ChangeSpec := { name := "fnExactSoftMark", fn := fun _ => fun
  | [d1, d2, d3] => { results := [.lit (.bool true)], args := [d1, d2, d3] }
  | _ => none }
def fnExactSoftMarkRow : OpenClaim := { program := "ytaljcihfkblncaa", sum := "6024d5c1978b8a10fbf727c814d384fae14c06613370c6d7a423beeba55f0d50", func := "loop.example/g00968/laws.FnExactSoftMark", spec := "fnExactSoftMark", inPlace := ["internal/bytealg.IndexByteString"], unfollowed := true, recurses := true, apart := false }
def FnExactSoftMarkSaid : Prop := fnExactSoftMarkRow.holds Try.pinned (OpenSpec.ofChange fnExactSoftMarkSpec)

/-- ITS FALSE NEIGHBOUR: 'it returns false'. Refute it at one input. -/
def fnExactSoftMarkWrong : ChangeSpec := { name := "fnExactSoftMark", fn := fun _ => fun
  | [d1, d2, d3] => { results := [.lit (.bool false)], args := [d1, d2, d3] }
  | _ => none }
def FnExactSoftMarkWrongFalsely : Prop := fnExactSoftMarkRow.holds Try.pinned (OpenSpec.ofChange fnExactSoftMarkWrong)

/-- 'laws.FnExactReadPodBytes': WHATEVER THE INPUT: true; the input reads as it did. -/
def fnExactReadPodBytesSpec : ChangeSpec := { name := "fnExactReadPodBytes", fn := fun _ => fun
  | [d1, d2] => { results := [.lit (.bool true)], args := [d1, d2] }
  | _ => none }
def fnExactReadPodBytesRow : OpenClaim := { program := "ytaljcihfkblncaa", sum := "6024d5c1978b8a10fbf727c814d384fae14c06613370c6d7a423beeba55f0d50", func := "loop.example/g00968/laws.FnExactReadPodBytes", spec := "fnExactReadPodBytes", inPlace := ["internal/bytealg.IndexByteString", "internal/bytealg.abigen_runtime_cmpstring"], unfollowed := true, recurses := true, apart := false }
def FnExactReadPodBytesSaid : Prop := fnExactReadPodBytesRow.holds Try.pinned (OpenSpec.ofChange fnExactReadPodBytesSpec)

/-- ITS FALSE NEIGHBOUR: 'it returns false'. Refute it at one input. -/
def fnExactReadPodBytesWrong : ChangeSpec := { name := "fnExactReadPodBytes", fn := fun _ => fun
  | [d1, d2] => { results := [.lit (.bool false)], args := [d1, d2] }
  | _ => none }
def FnExactReadPodBytesWrongFalsely : Prop := fnExactReadPodBytesRow.holds Try.pinned (OpenSpec.ofChange fnExactReadPodBytesWrong)

/-- 'laws.FnExactSameCluster': WHATEVER THE INPUT: true; the input reads as it did. -/
def fnExactSameClusterSpec : ChangeSpec := { name := "fnExactSameCluster", fn := fun _ => fun
  | [d1, d2] => { results := [.lit (.bool true)], args := [d1, d2] }
  | _ => none }
def fnExactSameClusterRow : OpenClaim := { program := "ytaljcihfkblncaa", sum := "6024d5c1978b8a10fbf727c814d384fae14c06613370c6d7a423beeba55f0d50", func := "loop.example/g00968/laws.FnExactSameCluster", spec := "fnExactSameCluster", inPlace := ["internal/bytealg.abigen_runtime_cmpstring"], unfollowed := true, recurses := true, apart := false }
def FnExactSameClusterSaid : Prop := fnExactSameClusterRow.holds Try.pinned (OpenSpec.ofChange fnExactSameClusterSpec)

/-- ITS FALSE NEIGHBOUR: 'it returns false'. Refute it at one input. -/
def fnExactSameClusterWrong : ChangeSpec := { name := "fnExactSameCluster", fn := fun _ => fun
  | [d1, d2] => { results := [.lit (.bool false)], args := [d1, d2] }
  | _ => none }
def FnExactSameClusterWrongFalsely : Prop := fnExactSameClusterRow.holds Try.pinned (OpenSpec.ofChange fnExactSameClusterWrong)

/-- 'laws.FnExactPackMark': WHATEVER THE INPUT: true; the input reads as it did. -/
def fnExactPackMarkSpec : ChangeSpec := { name := "fnExactPackMark", fn := fun _ => fun
  | [d1, d2, d3] => { results := [.lit (.bool true)], args := [d1, d2, d3] }
  | _ => none }
def fnExactPackMarkRow : OpenClaim := { program := "ytaljcihfkblncaa", sum := "6024d5c1978b8a10fbf727c814d384fae14c06613370c6d7a423beeba55f0d50", func := "loop.example/g00968/laws.FnExactPackMark", spec := "fnExactPackMark", unfollowed := true, recurses := true, named := ["math/bits.divideError", "math/bits.overflowError"], apart := false }
def FnExactPackMarkSaid : Prop := fnExactPackMarkRow.holds Try.pinned (OpenSpec.ofChange fnExactPackMarkSpec)

/-- ITS FALSE NEIGHBOUR: 'it returns false'. Refute it at one input. -/
def fnExactPackMarkWrong : ChangeSpec := { name := "fnExactPackMark", fn := fun _ => fun
  | [d1, d2, d3] => { results := [.lit (.bool false)], args := [d1, d2, d3] }
  | _ => none }
def FnExactPackMarkWrongFalsely : Prop := fnExactPackMarkRow.holds Try.pinned (OpenSpec.ofChange fnExactPackMarkWrong)

/- THE SECOND FORM. 'bulk': how many values and letters a reading holds, each counted each time it is reached (what is shared counts as often as it is met; a slice's spare places count too). A statement '..UptoSaid' is the law's where the arguments, and the package variables that the reading takes, are together of bulk at most 1048576: NARROWER than '..Said'. Prove '..Said' where nothing that the law and all that it calls make is longer than what came in: it says more and counts as full. Else prove '..UptoSaid'. A law counts once. -/
mutual
def uptoBulk {H : Type} : DataW H → Nat
  | .lit (.string bytes) => bytes.length + 1
  | .lit _ => 1
  | .nil => 1
  | .ptr d => uptoBulk d + 1
  | .slice elems spare => uptoBulkAll elems + uptoBulkAll spare + 1
  | .agg parts => uptoBulkAll parts + 1
  | .iface _ d => uptoBulk d + 1
  | .map entries => uptoBulkEntries entries + 1
  | .held _ => 1
def uptoBulkAll {H : Type} : List (DataW H) → Nat
  | [] => 0
  | d :: r => uptoBulk d + uptoBulkAll r
def uptoBulkEntries {H : Type} : List (Lit × DataW H) → Nat
  | [] => 0
  | x :: r => uptoBulkEntry x + uptoBulkEntries r
def uptoBulkEntry {H : Type} : Lit × DataW H → Nat
  | (.string bytes, d) => bytes.length + uptoBulk d + 1
  | (_, d) => uptoBulk d + 1
 end
def uptoSmall : (H : Type) → List (DataW H) → Bool := fun _ ds => decide (uptoBulkAll ds ≤ 1048576)
def OpenSpec.upto (s : _root_.Go.ChangeSpec) : _root_.Go.OpenSpec := { _root_.Go.OpenSpec.ofChange s with cond := some uptoSmall }

/-- 'laws.FnExactPodBytes', WHERE WHAT IT READS IS OF BULK AT MOST 1048576: true; the input reads as it did. -/
def fnExactPodBytesUptoRow : OpenClaim := { program := "ytaljcihfkblncaa", sum := "6024d5c1978b8a10fbf727c814d384fae14c06613370c6d7a423beeba55f0d50", func := "loop.example/g00968/laws.FnExactPodBytes", spec := "fnExactPodBytes", inPlace := ["internal/bytealg.IndexByteString", "internal/bytealg.abigen_runtime_cmpstring"], unfollowed := true, recurses := true, apart := false, narrowed := true }
def FnExactPodBytesUptoSaid : Prop := fnExactPodBytesUptoRow.holds Try.pinned (OpenSpec.upto fnExactPodBytesSpec)

/-- 'laws.FnExactBoundOn', WHERE WHAT IT READS IS OF BULK AT MOST 1048576: true; the input reads as it did. -/
def fnExactBoundOnUptoRow : OpenClaim := { program := "ytaljcihfkblncaa", sum := "6024d5c1978b8a10fbf727c814d384fae14c06613370c6d7a423beeba55f0d50", func := "loop.example/g00968/laws.FnExactBoundOn", spec := "fnExactBoundOn", apart := false, narrowed := true }
def FnExactBoundOnUptoSaid : Prop := fnExactBoundOnUptoRow.holds Try.pinned (OpenSpec.upto fnExactBoundOnSpec)

/-- 'laws.FnExactSoftMark', WHERE WHAT IT READS IS OF BULK AT MOST 1048576: true; the input reads as it did. -/
def fnExactSoftMarkUptoRow : OpenClaim := { program := "ytaljcihfkblncaa", sum := "6024d5c1978b8a10fbf727c814d384fae14c06613370c6d7a423beeba55f0d50", func := "loop.example/g00968/laws.FnExactSoftMark", spec := "fnExactSoftMark", inPlace := ["internal/bytealg.IndexByteString"], unfollowed := true, recurses := true, apart := false, narrowed := true }
def FnExactSoftMarkUptoSaid : Prop := fnExactSoftMarkUptoRow.holds Try.pinned (OpenSpec.upto fnExactSoftMarkSpec)

/-- 'laws.FnExactReadPodBytes', WHERE WHAT IT READS IS OF BULK AT MOST 1048576: true; the input reads as it did. -/
def fnExactReadPodBytesUptoRow : OpenClaim := { program := "ytaljcihfkblncaa", sum := "6024d5c1978b8a10fbf727c814d384fae14c06613370c6d7a423beeba55f0d50", func := "loop.example/g00968/laws.FnExactReadPodBytes", spec := "fnExactReadPodBytes", inPlace := ["internal/bytealg.IndexByteString", "internal/bytealg.abigen_runtime_cmpstring"], unfollowed := true, recurses := true, apart := false, narrowed := true }
def FnExactReadPodBytesUptoSaid : Prop := fnExactReadPodBytesUptoRow.holds Try.pinned (OpenSpec.upto fnExactReadPodBytesSpec)

/-- 'laws.FnExactSameCluster', WHERE WHAT IT READS IS OF BULK AT MOST 1048576: true; the input reads as it did. -/
def fnExactSameClusterUptoRow : OpenClaim := { program := "ytaljcihfkblncaa", sum := "6024d5c1978b8a10fbf727c814d384fae14c06613370c6d7a423beeba55f0d50", func := "loop.example/g00968/laws.FnExactSameCluster", spec := "fnExactSameCluster", inPlace := ["internal/bytealg.abigen_runtime_cmpstring"], unfollowed := true, recurses := true, apart := false, narrowed := true }
def FnExactSameClusterUptoSaid : Prop := fnExactSameClusterUptoRow.holds Try.pinned (OpenSpec.upto fnExactSameClusterSpec)

/-- 'laws.FnExactPackMark', WHERE WHAT IT READS IS OF BULK AT MOST 1048576: true; the input reads as it did. -/
def fnExactPackMarkUptoRow : OpenClaim := { program := "ytaljcihfkblncaa", sum := "6024d5c1978b8a10fbf727c814d384fae14c06613370c6d7a423beeba55f0d50", func := "loop.example/g00968/laws.FnExactPackMark", spec := "fnExactPackMark", unfollowed := true, recurses := true, named := ["math/bits.divideError", "math/bits.overflowError"], apart := false, narrowed := true }
def FnExactPackMarkUptoSaid : Prop := fnExactPackMarkUptoRow.holds Try.pinned (OpenSpec.upto fnExactPackMarkSpec)

end Rows
end Go.Proofs.Ytaljcihfkblncaa
