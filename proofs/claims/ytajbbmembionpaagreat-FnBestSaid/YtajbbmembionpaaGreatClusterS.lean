/- ClusterOk, of the reference. No condition. -/
import Derived.Test.YtajbbmembionpaaGreatClusterSC
namespace Go.Proofs.YtajbbmembionpaaGreat
open Go.ChangeShapes Go.WideShapes Go.ChangeAt Go.RowKit
set_option linter.unusedVariables false
set_option linter.unusedSimpArgs false
set_option maxHeartbeats 2000000
set_option maxRecDepth 100000
theorem qM (x:aU) (cs:List Value) (F:List Nat) (w:World) (h:rd w x cs F) (hw:(x.wt:Int)≤1048576) :
 Calls Tryz.prog 20 #[.agg cs.toArray] w fun e w'=>e = .returned (.bool (iI x))∧Below w.heap.size w w':=by
 have gE:x.wt = kL aM.wt x.aa+kL af.wt x.au:=rfl;have bR:(x.aa.length:Int)≤1048576:=by have:=gJ aM.wt x.aa;omega
 have vk:(x.au.length:Int)≤1048576:=by have:=gJ af.wt x.au;omega
 refine Dx x cs F w h bR vk (fun y hy=>?_) (fun y hy=>?_)
 ·obtain ⟨k,hk,rfl⟩:=List.getElem_of_mem hy;exact U6.r9 _ (by have:=rM (f:=aM.wt) hk;omega)
 ·obtain ⟨k,hk,rfl⟩:=List.getElem_of_mem hy;exact Xl.r9 _ (by have:=rM (f:=af.wt) hk;have e:af.wt x.au[k] = nI.wt x.au[k].aS+x.au[k].on.size:=rfl;omega)
end Go.Proofs.YtajbbmembionpaaGreat
