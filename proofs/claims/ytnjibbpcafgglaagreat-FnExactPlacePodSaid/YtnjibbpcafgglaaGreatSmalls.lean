/- Bounds out of a weight; where a search ends. No condition. -/
import Derived.Test.YtnjibbpcafgglaaGreatSz
import Derived.Test.YtnjibbpcafgglaaGreatAt
namespace Go.Proofs.YtnjibbpcafgglaaGreat
open Go.ChangeShapes Go.WideShapes Go.ChangeAt Go.RowKit
set_option linter.unusedVariables false
set_option linter.unusedSimpArgs false
theorem BH {xs:List iU} (h:(kL iU.wt xs:Int)≤1048576):((xs.length:Int)≤1048576)∧∀l∈xs,(l.key.size:Int)≤1048576∧(l.value.size:Int)≤1048576:=by
 refine ⟨by have:=gJ iU.wt xs;omega,fun l hl=>?_⟩
 have h1:=Bq (f:=iU.wt) hl
 have e:iU.wt l = l.key.size+l.value.size:=rfl
 omega
theorem FQ {xs:List bH} (h:(kL bH.wt xs:Int)≤1048576):((xs.length:Int)≤1048576)∧∀l∈xs,(l.key.size:Int)≤1048576∧(l.value.size:Int)≤1048576:=by
 refine ⟨by have:=gJ bH.wt xs;omega,fun l hl=>?_⟩
 have h1:=Bq (f:=bH.wt) hl
 have e:bH.wt l = l.key.size+l.value.size:=rfl
 omega
theorem yg {α:Type} (p:α→Bool) (xs:List α):pK p xs = -1∨∃k:Nat,k < xs.length∧pK p xs = k:=by
 have:=Nc (p:=p) xs
 by_cases h:pK p xs < 0
 ·left;omega
 ·right;exact ⟨(pK p xs).toNat,by omega,by omega⟩
theorem Aa {xs:List Need} (h:(kL Need.wt xs:Int)≤1048576):((xs.length:Int)≤1048576)∧(∀l∈xs,(l.key.size:Int)≤1048576∧(l.values.length:Int)≤1048576∧∀v∈l.values,(v.size:Int)≤1048576):=by
 refine ⟨by have:=gJ Need.wt xs;omega,fun l hl=>?_⟩
 have h1:=Bq (f:=Need.wt) hl
 have e:Need.wt l = l.key.size+wtS l.values:=rfl
 have h2:=gJ ByteArray.size l.values
 unfold wtS at e
 refine ⟨by omega,by omega,fun v hv=>?_⟩
 have h3:=Bq (f:=ByteArray.size) hv
 omega
theorem sW {xs:List Label} (h:(kL Label.wt xs:Int)≤1048576):((xs.length:Int)≤1048576)∧∀l∈xs,(l.key.size:Int)≤1048576∧(l.value.size:Int)≤1048576:=by
 refine ⟨by have:=gJ Label.wt xs;omega,fun l hl=>?_⟩
 have h1:=Bq (f:=Label.wt) hl
 have e:Label.wt l = l.key.size+l.value.size:=rfl
 omega
end Go.Proofs.YtnjibbpcafgglaaGreat
