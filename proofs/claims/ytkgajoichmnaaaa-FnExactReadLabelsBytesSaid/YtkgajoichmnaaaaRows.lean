/-
  No cell of these rows narrows 'for every input' (looked for: loops, veiled, ifaces, maps, wideKeys, modest, calm, conditions, laid).
  DERIVED. THE GIVEN ROWS OF THIS SEAT. 6 by the template 'for every input the law returns true; each argument reads behind the call as it read before'; 0 by the template 'total and deterministic' (their statements: YtkgajoichmnaaaaTotals.lean).
  GIVEN WITH THE SEED: the statements are not yours to turn. If you find one false, say at which input.
  Laid BY PROGRAM, IN A SANDBOX (cutbox-rows.mjs): the forced cells as the released guide's own fill.sh prints them over the translation 6ad40291a98d328f… (all of the seat's roots in one cut). By AI agents, Wed Nov 11 2026. No macro, syntax, notation, axiom, sorry.
-/
import Derived.Test.YtkgajoichmnaaaaChecked
import GoSem.Claim
import GoSem.ClaimJoined
import GoSem.ClaimMapViews
import Derived.JoinedTies
import Derived.KernelRfl
namespace Go.Proofs.Ytkgajoichmnaaaa
/- THE CELL 'sum', in the pinned program and in every row, IS THE sha256 OF THE DUMP (.gsa) THAT YtkgajoichmnaaaaProg.lean LOADS. Nothing in Lean hashes anything: it is a label: what it is worth is what the hold of that sum in a sandbox is worth. -/
noncomputable def Try.pinned : Pinned := { name := "ytkgajoichmnaaaa", sum := "6ad40291a98d328fd6fc74848781812e736f3759ae8a6982514146509a2d8e7d", checked := Try.checked }
namespace Rows
def none {H : Type} : Left H := { results := [], args := [] }

/-- 'laws.FnExactWeightsOk': WHATEVER THE INPUT: true; the input reads as it did. -/
def fnExactWeightsOkSpec : ChangeSpec := { name := "fnExactWeightsOk", fn := fun _ => fun
  | [d] => { results := [.lit (.bool true)], args := [d] }
  | _ => none }
def fnExactWeightsOkRow : OpenClaim := { program := "ytkgajoichmnaaaa", sum := "6ad40291a98d328fd6fc74848781812e736f3759ae8a6982514146509a2d8e7d", func := "loop.example/g00968/laws.FnExactWeightsOk", spec := "fnExactWeightsOk", apart := false }
def FnExactWeightsOkSaid : Prop := fnExactWeightsOkRow.holds Try.pinned (OpenSpec.ofChange fnExactWeightsOkSpec)

/-- ITS FALSE NEIGHBOUR: 'it returns false'. Refute it at one input. -/
def fnExactWeightsOkWrong : ChangeSpec := { name := "fnExactWeightsOk", fn := fun _ => fun
  | [d] => { results := [.lit (.bool false)], args := [d] }
  | _ => none }
def FnExactWeightsOkWrongFalsely : Prop := fnExactWeightsOkRow.holds Try.pinned (OpenSpec.ofChange fnExactWeightsOkWrong)

/-- 'laws.FnExactUsualWeights': WHATEVER THE INPUT: true; the input reads as it did. -/
def fnExactUsualWeightsSpec : ChangeSpec := { name := "fnExactUsualWeights", fn := fun _ => fun
  | [] => { results := [.lit (.bool true)], args := [] }
  | _ => none }
def fnExactUsualWeightsRow : OpenClaim := { program := "ytkgajoichmnaaaa", sum := "6ad40291a98d328fd6fc74848781812e736f3759ae8a6982514146509a2d8e7d", func := "loop.example/g00968/laws.FnExactUsualWeights", spec := "fnExactUsualWeights", apart := false }
def FnExactUsualWeightsSaid : Prop := fnExactUsualWeightsRow.holds Try.pinned (OpenSpec.ofChange fnExactUsualWeightsSpec)

/-- ITS FALSE NEIGHBOUR: 'it returns false'. Refute it at one input. -/
def fnExactUsualWeightsWrong : ChangeSpec := { name := "fnExactUsualWeights", fn := fun _ => fun
  | [] => { results := [.lit (.bool false)], args := [] }
  | _ => none }
def FnExactUsualWeightsWrongFalsely : Prop := fnExactUsualWeightsRow.holds Try.pinned (OpenSpec.ofChange fnExactUsualWeightsWrong)

/-- 'laws.FnExactReasonWord': WHATEVER THE INPUT: true; the input reads as it did. -/
def fnExactReasonWordSpec : ChangeSpec := { name := "fnExactReasonWord", fn := fun _ => fun
  | [d] => { results := [.lit (.bool true)], args := [d] }
  | _ => none }
def fnExactReasonWordRow : OpenClaim := { program := "ytkgajoichmnaaaa", sum := "6ad40291a98d328fd6fc74848781812e736f3759ae8a6982514146509a2d8e7d", func := "loop.example/g00968/laws.FnExactReasonWord", spec := "fnExactReasonWord", apart := false }
def FnExactReasonWordSaid : Prop := fnExactReasonWordRow.holds Try.pinned (OpenSpec.ofChange fnExactReasonWordSpec)

/-- ITS FALSE NEIGHBOUR: 'it returns false'. Refute it at one input. -/
def fnExactReasonWordWrong : ChangeSpec := { name := "fnExactReasonWord", fn := fun _ => fun
  | [d] => { results := [.lit (.bool false)], args := [d] }
  | _ => none }
def FnExactReasonWordWrongFalsely : Prop := fnExactReasonWordRow.holds Try.pinned (OpenSpec.ofChange fnExactReasonWordWrong)

/-- 'laws.FnExactLabelsBytes': WHATEVER THE INPUT: true; the input reads as it did. -/
def fnExactLabelsBytesSpec : ChangeSpec := { name := "fnExactLabelsBytes", fn := fun _ => fun
  | [d] => { results := [.lit (.bool true)], args := [d] }
  | _ => none }
def fnExactLabelsBytesRow : OpenClaim := { program := "ytkgajoichmnaaaa", sum := "6ad40291a98d328fd6fc74848781812e736f3759ae8a6982514146509a2d8e7d", func := "loop.example/g00968/laws.FnExactLabelsBytes", spec := "fnExactLabelsBytes", apart := false }
def FnExactLabelsBytesSaid : Prop := fnExactLabelsBytesRow.holds Try.pinned (OpenSpec.ofChange fnExactLabelsBytesSpec)

/-- ITS FALSE NEIGHBOUR: 'it returns false'. Refute it at one input. -/
def fnExactLabelsBytesWrong : ChangeSpec := { name := "fnExactLabelsBytes", fn := fun _ => fun
  | [d] => { results := [.lit (.bool false)], args := [d] }
  | _ => none }
def FnExactLabelsBytesWrongFalsely : Prop := fnExactLabelsBytesRow.holds Try.pinned (OpenSpec.ofChange fnExactLabelsBytesWrong)

/-- 'laws.FnExactShareOf': WHATEVER THE INPUT: true; the input reads as it did. -/
def fnExactShareOfSpec : ChangeSpec := { name := "fnExactShareOf", fn := fun _ => fun
  | [d1, d2] => { results := [.lit (.bool true)], args := [d1, d2] }
  | _ => none }
def fnExactShareOfRow : OpenClaim := { program := "ytkgajoichmnaaaa", sum := "6ad40291a98d328fd6fc74848781812e736f3759ae8a6982514146509a2d8e7d", func := "loop.example/g00968/laws.FnExactShareOf", spec := "fnExactShareOf", named := ["math/bits.divideError", "math/bits.overflowError"], apart := false }
def FnExactShareOfSaid : Prop := fnExactShareOfRow.holds Try.pinned (OpenSpec.ofChange fnExactShareOfSpec)

/-- ITS FALSE NEIGHBOUR: 'it returns false'. Refute it at one input. -/
def fnExactShareOfWrong : ChangeSpec := { name := "fnExactShareOf", fn := fun _ => fun
  | [d1, d2] => { results := [.lit (.bool false)], args := [d1, d2] }
  | _ => none }
def FnExactShareOfWrongFalsely : Prop := fnExactShareOfRow.holds Try.pinned (OpenSpec.ofChange fnExactShareOfWrong)

/-- 'laws.FnExactReadLabelsBytes': WHATEVER THE INPUT: true; the input reads as it did. -/
def fnExactReadLabelsBytesSpec : ChangeSpec := { name := "fnExactReadLabelsBytes", fn := fun _ => fun
  | [d1, d2] => { results := [.lit (.bool true)], args := [d1, d2] }
  | _ => none }
def fnExactReadLabelsBytesRow : OpenClaim := { program := "ytkgajoichmnaaaa", sum := "6ad40291a98d328fd6fc74848781812e736f3759ae8a6982514146509a2d8e7d", func := "loop.example/g00968/laws.FnExactReadLabelsBytes", spec := "fnExactReadLabelsBytes", inPlace := ["internal/bytealg.IndexByteString"], unfollowed := true, recurses := true, apart := false }
def FnExactReadLabelsBytesSaid : Prop := fnExactReadLabelsBytesRow.holds Try.pinned (OpenSpec.ofChange fnExactReadLabelsBytesSpec)

/-- ITS FALSE NEIGHBOUR: 'it returns false'. Refute it at one input. -/
def fnExactReadLabelsBytesWrong : ChangeSpec := { name := "fnExactReadLabelsBytes", fn := fun _ => fun
  | [d1, d2] => { results := [.lit (.bool false)], args := [d1, d2] }
  | _ => none }
def FnExactReadLabelsBytesWrongFalsely : Prop := fnExactReadLabelsBytesRow.holds Try.pinned (OpenSpec.ofChange fnExactReadLabelsBytesWrong)

/- THE SECOND FORM. 'bulk': how many values and letters a reading holds, each counted each time it is reached (what is shared counts as often as it is met; a slice's spare places count too). A statement '..UptoSaid' is the law's where the arguments, and the package variables that the reading takes, are together of bulk at most 1048576: NARROWER than '..Said'. Prove '..Said' where nothing that the law and all that it calls make is longer than what came in: it says more and counts as full. Else prove '..UptoSaid'. A law counts once. -/
mutual
def uptoBulk {H : Type} : DataW H → Nat
  | .lit (.string bytes) => bytes.length + 1
  | .lit _ => 1
  | .nil => 1
  | .ptr d => uptoBulk d + 1
  | .slice elems spare => uptoBulkAll elems + uptoBulkAll spare + 1
  | .agg parts => uptoBulkAll parts + 1
  | .iface _ d => uptoBulk d + 1
  | .map entries => uptoBulkEntries entries + 1
  | .held _ => 1
def uptoBulkAll {H : Type} : List (DataW H) → Nat
  | [] => 0
  | d :: r => uptoBulk d + uptoBulkAll r
def uptoBulkEntries {H : Type} : List (Lit × DataW H) → Nat
  | [] => 0
  | x :: r => uptoBulkEntry x + uptoBulkEntries r
def uptoBulkEntry {H : Type} : Lit × DataW H → Nat
  | (.string bytes, d) => bytes.length + uptoBulk d + 1
  | (_, d) => uptoBulk d + 1
 end
def uptoSmall : (H : Type) → List (DataW H) → Bool := fun _ ds => decide (uptoBulkAll ds ≤ 1048576)
def OpenSpec.upto (s : _root_.Go.ChangeSpec) : _root_.Go.OpenSpec := { _root_.Go.OpenSpec.ofChange s with cond := some uptoSmall }

/-- 'laws.FnExactWeightsOk', WHERE WHAT IT READS IS OF BULK AT MOST 1048576: true; the input reads as it did. -/
def fnExactWeightsOkUptoRow : OpenClaim := { program := "ytkgajoichmnaaaa", sum := "6ad40291a98d328fd6fc74848781812e736f3759ae8a6982514146509a2d8e7d", func := "loop.example/g00968/laws.FnExactWeightsOk", spec := "fnExactWeightsOk", apart := false, narrowed := true }
def FnExactWeightsOkUptoSaid : Prop := fnExactWeightsOkUptoRow.holds Try.pinned (OpenSpec.upto fnExactWeightsOkSpec)

/-- 'laws.FnExactUsualWeights', WHERE WHAT IT READS IS OF BULK AT MOST 1048576: true; the input reads as it did. -/
def fnExactUsualWeightsUptoRow : OpenClaim := { program := "ytkgajoichmnaaaa", sum := "6ad40291a98d328fd6fc74848781812e736f3759ae8a6982514146509a2d8e7d", func := "loop.example/g00968/laws.FnExactUsualWeights", spec := "fnExactUsualWeights", apart := false, narrowed := true }
def FnExactUsualWeightsUptoSaid : Prop := fnExactUsualWeightsUptoRow.holds Try.pinned (OpenSpec.upto fnExactUsualWeightsSpec)

/-- 'laws.FnExactReasonWord', WHERE WHAT IT READS IS OF BULK AT MOST 1048576: true; the input reads as it did. -/
def fnExactReasonWordUptoRow : OpenClaim := { program := "ytkgajoichmnaaaa", sum := "6ad40291a98d328fd6fc74848781812e736f3759ae8a6982514146509a2d8e7d", func := "loop.example/g00968/laws.FnExactReasonWord", spec := "fnExactReasonWord", apart := false, narrowed := true }
def FnExactReasonWordUptoSaid : Prop := fnExactReasonWordUptoRow.holds Try.pinned (OpenSpec.upto fnExactReasonWordSpec)

/-- 'laws.FnExactLabelsBytes', WHERE WHAT IT READS IS OF BULK AT MOST 1048576: true; the input reads as it did. -/
def fnExactLabelsBytesUptoRow : OpenClaim := { program := "ytkgajoichmnaaaa", sum := "6ad40291a98d328fd6fc74848781812e736f3759ae8a6982514146509a2d8e7d", func := "loop.example/g00968/laws.FnExactLabelsBytes", spec := "fnExactLabelsBytes", apart := false, narrowed := true }
def FnExactLabelsBytesUptoSaid : Prop := fnExactLabelsBytesUptoRow.holds Try.pinned (OpenSpec.upto fnExactLabelsBytesSpec)

/-- 'laws.FnExactShareOf', WHERE WHAT IT READS IS OF BULK AT MOST 1048576: true; the input reads as it did. -/
def fnExactShareOfUptoRow : OpenClaim := { program := "ytkgajoichmnaaaa", sum := "6ad40291a98d328fd6fc74848781812e736f3759ae8a6982514146509a2d8e7d", func := "loop.example/g00968/laws.FnExactShareOf", spec := "fnExactShareOf", named := ["math/bits.divideError", "math/bits.overflowError"], apart := false, narrowed := true }
def FnExactShareOfUptoSaid : Prop := fnExactShareOfUptoRow.holds Try.pinned (OpenSpec.upto fnExactShareOfSpec)

/-- 'laws.FnExactReadLabelsBytes', WHERE WHAT IT READS IS OF BULK AT MOST 1048576: true; the input reads as it did. -/
def fnExactReadLabelsBytesUptoRow : OpenClaim := { program := "ytkgajoichmnaaaa", sum := "6ad40291a98d328fd6fc74848781812e736f3759ae8a6982514146509a2d8e7d", func := "loop.example/g00968/laws.FnExactReadLabelsBytes", spec := "fnExactReadLabelsBytes", inPlace := ["internal/bytealg.IndexByteString"], unfollowed := true, recurses := true, apart := false, narrowed := true }
def FnExactReadLabelsBytesUptoSaid : Prop := fnExactReadLabelsBytesUptoRow.holds Try.pinned (OpenSpec.upto fnExactReadLabelsBytesSpec)

end Rows
end Go.Proofs.Ytkgajoichmnaaaa
