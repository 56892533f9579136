/- Hosts and pods of small parts. No condition. -/
import Derived.Test.YtpgdgcjgompokaaGreatRdHost0
import Derived.Test.YtpgdgcjgompokaaGreatRdPod0
namespace Go.Proofs.YtpgdgcjgompokaaGreat
open Go.ChangeShapes Go.WideShapes Go.ChangeAt Go.RowKit
set_option linter.unusedVariables false
set_option linter.unusedSimpArgs false

/-- a host of small parts -/
structure SmallH (x : Host) : Prop where
  ns : (x.name.size : Int) ≤ 1048576
  ll : (x.labels.length : Int) ≤ 1048576
  ls : ∀ l ∈ x.labels, (l.key.size : Int) ≤ 1048576 ∧ (l.value.size : Int) ≤ 1048576
  tl : (x.taints.length : Int) ≤ 1048576
  ts : ∀ l ∈ x.taints, (l.key.size : Int) ≤ 1048576 ∧ (l.value.size : Int) ≤ 1048576
/-- a pod of small parts -/
structure SmallP (x : Pod) : Prop where
  ns : (x.name.size : Int) ≤ 1048576
  ll : (x.labels.length : Int) ≤ 1048576
  ls : ∀ l ∈ x.labels, (l.key.size : Int) ≤ 1048576 ∧ (l.value.size : Int) ≤ 1048576
  nl : (x.needs.length : Int) ≤ 1048576
  nds : ∀ l ∈ x.needs, SmallN l
  tl : (x.tolerances.length : Int) ≤ 1048576
  ts : ∀ l ∈ x.tolerances, SmallT l

end Go.Proofs.YtpgdgcjgompokaaGreat
