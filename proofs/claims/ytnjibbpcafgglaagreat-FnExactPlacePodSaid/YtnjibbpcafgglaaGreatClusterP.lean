/- What a right cluster is, in plain Lean. No condition. -/
import Derived.Test.YtnjibbpcafgglaaGreatHostOk
import Derived.Test.YtnjibbpcafgglaaGreatPodOk
import Derived.Test.YtnjibbpcafgglaaGreatUsed
import Derived.Test.YtnjibbpcafgglaaGreatWeights
namespace Go.Proofs.YtnjibbpcafgglaaGreat
open Go.ChangeShapes Go.WideShapes Go.ChangeAt Go.RowKit
set_option linter.unusedVariables false
set_option linter.unusedSimpArgs false
theorem aqB (nm:ByteArray) (xs:List Placed):(F7 nm xs).length≤xs.length:=by unfold F7;rw [List.length_map];exact List.length_filter_le _ _
theorem alL {nm:ByteArray} {xs:List Placed} {a b:Int} (h:vU (F7 nm xs) = some (a,b)):KF nm xs = .tuple #[.int .i64 a,.int .i64 b,.int .i64 (F7 nm xs).length,.bool true]:=by unfold KF;rw [h]
theorem alM {nm:ByteArray} {xs:List Placed} (h:vU (F7 nm xs) = none):KF nm xs = .tuple #[.int .i64 0,.int .i64 0,.int .i64 0,.bool false]:=by unfold KF;rw [h]
def acL (x:aU) (h:Host):Bool:=match vU (F7 h.name x.au) with
 | none=>false
 | some (a,b)=>decide (a≤h.cpu)&&(decide (b≤h.mem)&&decide (((F7 h.name x.au).length:Int)≤h.slots))
def dY (x:aU) (h:Host):Bool:=Aj h&&acL x h
def dQ (a b:Host):Bool:=Op.bytesLess a.name.toList b.name.toList
def jT (x:aU) (p:Placed):Bool:=GU p.aS&&((decide (1≤p.seq)&&decide (p.seq≤x.next - 1))&&((p.on.toList == []) || decide (0≤pK (iM p.on) x.hosts)))
def dw (a b:Placed):Bool:=Op.bytesLess a.aS.name.toList b.aS.name.toList
def seenIn (xs:List Placed) (s:Int):Bool:=xs.any fun q=>q.seq == s
def DN (xs:List Placed) (k:Nat):Bool:=match xs[k]? with | none=>false | some p=>!(seenIn (xs.take k) p.seq)
theorem sG {xs:List Placed} {k:Nat} (h:k < xs.length):DN xs k = !(seenIn (xs.take k) xs[k].seq):=by unfold DN;rw [List.getElem?_eq_getElem h]
def Em (x:aU):Bool:=decide ((x.hosts.length:Int)≤8)&&(decide ((x.au.length:Int)≤12)&&((decide (1≤x.next)&&decide (x.next≤1000000000))&&zL x.weights.pack x.weights.spread x.weights.soft))
def iI (x:aU):Bool:=Em x&&((List.range x.hosts.length).all (rowAt (dY x) dQ x.hosts)&&((List.range x.au.length).all (rowAt (jT x) dw x.au)&&(List.range x.au.length).all (DN x.au)))
theorem oU {x:aU} (h:Em x = false):iI x = false:=by unfold iI;rw [h];rfl
theorem dW {x:aU} {k:Nat} (hk:k < x.hosts.length) (h:rowAt (dY x) dQ x.hosts k = false):iI x = false:=by unfold iI;rw [YF hk h];simp
theorem jP {x:aU} {k:Nat} (hk:k < x.au.length) (h:rowAt (jT x) dw x.au k = false):iI x = false:=by unfold iI;rw [YF hk h];simp
theorem DR {x:aU} {k:Nat} (hk:k < x.au.length) (h:DN x.au k = false):iI x = false:=by unfold iI;rw [YF hk h];simp
theorem OX {x:aU} (h0:Em x = true) (h1:∀j,j < x.hosts.length→rowAt (dY x) dQ x.hosts j = true) (h2:∀j,j < x.au.length→rowAt (jT x) dw x.au j = true) (h3:∀j,j < x.au.length→DN x.au j = true):iI x = true:=by
 unfold iI;rw [h0,YG h1,YG h2,YG h3];rfl
theorem pV {α:Type} {ok:α→Bool} {less:α→α→Bool} {xs:List α} {v:Bool} (h:0 < xs.length) (e:ok xs[0] = v):rowAt ok less xs 0 = v:=by rw [rowAt_zero h,e]
theorem nM {α:Type} {ok:α→Bool} {less:α→α→Bool} {xs:List α} {j:Nat} {v u:Bool} (h:j+1 < xs.length) (e:ok xs[j+1] = v) (e2:less xs[j] xs[j+1] = u):rowAt ok less xs (j+1) = (v&&u):=by rw [yS h,e,e2]
theorem alN {x:aU} {h:Host} (e:vU (F7 h.name x.au) = none):acL x h = false:=by unfold acL;rw [e]
theorem alO {x:aU} {h:Host} {a b:Int} (e:vU (F7 h.name x.au) = some (a,b)):acL x h = (decide (a≤h.cpu)&&(decide (b≤h.mem)&&decide (((F7 h.name x.au).length:Int)≤h.slots))):=by unfold acL;rw [e]
theorem E8 (x:aU) (h:Host):∃(a b n:Int) (okv:Bool),KF h.name x.au = .tuple #[.int .i64 a,.int .i64 b,.int .i64 n,.bool okv]∧acL x h = (okv&&(decide (a≤h.cpu)&&(decide (b≤h.mem)&&decide (n≤h.slots))))∧0≤n∧n≤x.au.length:=by
 cases e:vU (F7 h.name x.au) with
 | none=>exact ⟨0,0,0,false,alM e,by rw [alN e];rfl,by omega,by omega⟩
 | some ab =>
   obtain ⟨a,b⟩:=ab
   have:=aqB h.name x.au
   exact ⟨a,b,(F7 h.name x.au).length,true,alL e,by rw [alO e];rfl,by omega,by omega⟩
theorem Sl.Ec {w:World} {xs:List Placed} {A:Option Addr} {c:Nat} {F:List Nat} (h:Sl w xs A c F):∀p∈xs,I64 p.seq:=by
 intro p hp
 obtain ⟨k,hk,rfl⟩:=List.getElem_of_mem hp
 obtain ⟨b,o,ck,Fk,_,_,_,hr,_⟩:=h.get hk
 obtain ⟨gV,gW,lF,iR,iT,mV,dD,dF,iH,hck,hF,nY,iE,rF,rG,oZ,je,dN,hon,hseq⟩:=kE hr
 exact hseq
end Go.Proofs.YtnjibbpcafgglaaGreat
