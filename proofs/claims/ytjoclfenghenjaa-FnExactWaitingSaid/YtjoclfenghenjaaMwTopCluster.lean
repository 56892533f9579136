/- How many marks: TopCluster. No condition. -/
import Derived.Test.YtjoclfenghenjaaMtCluster
import Derived.Test.YtjoclfenghenjaaMkDeep
import Derived.Test.YtjoclfenghenjaaMwStr
namespace Go.Proofs.Ytjoclfenghenjaa
open Go.ChangeShapes Go.WideShapes Go.ChangeAt Go.RowKit
set_option linter.unusedVariables false
set_option linter.unusedSimpArgs false

theorem cntTopCluster_le (x : Cluster) : cntTopCluster x ≤ 6 * x.wt := by
  have h0 := cntL_wt cntHost_le x.hosts
  have h1 := cntL_wt cntPlaced_le x.pods
  simp only [cntTopCluster, wtS, Cluster.wt] at *
  omega
end Go.Proofs.Ytjoclfenghenjaa
