/- The program's data, and how each reads. No condition. -/
import Derived.Test.YtjahcnjmjahbaaaGreatStabP
import Derived.StillTail
import Derived.Deep.RegionHeld
import Derived.Lib.ItoaNum
namespace Go.Proofs.YtjahcnjmjahbaaaGreat
open Go.ChangeShapes Go.WideShapes Go.ChangeAt Go.RowKit
set_option linter.unusedVariables false
set_option linter.unusedSimpArgs false
set_option maxRecDepth 4000
theorem vO {w:World} {x:aD} {cs:List Value} {F:List Nat} (h:rd w x cs F):cs = [.string x.key,.string x.value]∧F = []∧x.key.size≤maxLen∧x.value.size≤maxLen:=by
 obtain ⟨_,_,_,_,rfl,rfl,⟨rfl,rfl,cc⟩,⟨rfl,rfl,kP⟩⟩:=h;exact ⟨rfl,S',cc,kP⟩
theorem XU (w:World) (x:aD) (cc:x.key.size≤maxLen) (kP:x.value.size≤maxLen):rd w x [.string x.key,.string x.value] []:=⟨_,_,_,_,rfl,rfl,⟨rfl,rfl,cc⟩,⟨rfl,rfl,kP⟩⟩
structure bj where
 key:ByteArray
 op:Int
 values:List ByteArray
instance:bk bj:=bk.oD fun x=>(x.key,x.op,x.values)
theorem og {w:World} {x:bj} {cs:List Value} {F:List Nat} (h:rd w x cs F):∃(jy:Option Addr) (ji:Nat) (Bo:List Nat),cs = [.string x.key,.int .i64 x.op,.slice jy x.values.length ji]∧F = Bo∧x.key.size≤maxLen∧bv x.op∧Sl w x.values jy ji Bo:=by
 obtain ⟨_,_,_,_,rfl,rfl,⟨rfl,rfl,cc⟩,_,_,_,_,rfl,rfl,⟨rfl,rfl,hop⟩,kV⟩:=h;obtain ⟨jy,ji,rfl,kV⟩:=jB kV;exact ⟨jy,ji,_,rfl,S',cc,hop,kV⟩
structure iU where
 key:ByteArray
 value:ByteArray
 an:Int
instance:bk iU:=bk.oD fun x=>(x.key,x.value,x.an)
theorem oK {w:World} {x:iU} {cs:List Value} {F:List Nat} (h:rd w x cs F):cs = [.string x.key,.string x.value,.int .i64 x.an]∧F = []∧x.key.size≤maxLen∧x.value.size≤maxLen∧bv x.an:=by
 obtain ⟨_,_,_,_,rfl,rfl,⟨rfl,rfl,cc⟩,_,_,_,_,rfl,rfl,⟨rfl,rfl,kP⟩,⟨rfl,rfl,lD⟩⟩:=h;exact ⟨rfl,S',cc,kP,lD⟩
theorem Q8 (w:World) (x:iU) (cc:x.key.size≤maxLen) (kP:x.value.size≤maxLen) (lD:bv x.an):rd w x [.string x.key,.string x.value,.int .i64 x.an] []:=⟨_,_,_,_,rfl,rfl,⟨rfl,rfl,cc⟩,_,_,_,_,rfl,rfl,⟨rfl,rfl,kP⟩,⟨rfl,rfl,lD⟩⟩
structure bH where
 key:ByteArray
 equal:Bool
 value:ByteArray
 an:Int
instance:bk bH:=bk.oD fun x=>(x.key,x.equal,x.value,x.an)
theorem jv {w:World} {x:bH} {cs:List Value} {F:List Nat} (h:rd w x cs F):cs = [.string x.key,.bool x.equal,.string x.value,.int .i64 x.an]∧F = []∧x.key.size≤maxLen∧x.value.size≤maxLen∧bv x.an:=by
 obtain ⟨_,_,_,_,rfl,rfl,⟨rfl,rfl,cc⟩,_,_,_,_,rfl,rfl,⟨rfl,rfl⟩,_,_,_,_,rfl,rfl,⟨rfl,rfl,kP⟩,⟨rfl,rfl,lD⟩⟩:=h;exact ⟨rfl,S',cc,kP,lD⟩
theorem Ov (w:World) (x:bH) (cc:x.key.size≤maxLen) (kP:x.value.size≤maxLen) (lD:bv x.an):rd w x [.string x.key,.bool x.equal,.string x.value,.int .i64 x.an] []:=⟨_,_,_,_,rfl,rfl,⟨rfl,rfl,cc⟩,_,_,_,_,rfl,rfl,⟨rfl,rfl⟩,_,_,_,_,rfl,rfl,⟨rfl,rfl,kP⟩,⟨rfl,rfl,lD⟩⟩
structure nI where
 name:ByteArray
 labels:List aD
 aw:Int
 mem:Int
 av:Int
 ai:List bj
 ae:List bH
instance:bk nI:=bk.oD fun x=>(x.name,x.labels,x.aw,x.mem,x.av,x.ai,x.ae)
theorem dL {w:World} {x:nI} {cs:List Value} {F:List Nat} (h:rd w x cs F):∃(gu:Option Addr) (gy:Nat) (jw:List Nat) (oh:Option Addr) (nT:Nat) (wG:List Nat) (fA:Option Addr) (fB:Nat) (jY:List Nat),cs = [.string x.name,.slice gu x.labels.length gy,.int .i64 x.aw,.int .i64 x.mem,.int .i64 x.av,.slice oh x.ai.length nT,.slice fA x.ae.length fB]∧F = jw++(wG++(jY))∧x.name.size≤maxLen∧Sl w x.labels gu gy jw∧bv x.aw∧bv x.mem∧bv x.av∧Sl w x.ai oh nT wG∧Sl w x.ae fA fB jY:=by
 obtain ⟨_,_,_,_,rfl,rfl,⟨rfl,rfl,hname⟩,_,_,_,_,rfl,rfl,dO,_,_,_,_,rfl,rfl,⟨rfl,rfl,vg⟩,_,_,_,_,rfl,rfl,⟨rfl,rfl,cE⟩,_,_,_,_,rfl,rfl,⟨rfl,rfl,BJ⟩,_,_,_,_,rfl,rfl,mX,eG⟩:=h;obtain ⟨gu,gy,rfl,dO⟩:=jB dO;obtain ⟨oh,nT,rfl,mX⟩:=jB mX;obtain ⟨fA,fB,rfl,eG⟩:=jB eG;exact ⟨gu,gy,_,oh,nT,_,fA,fB,_,rfl,S',hname,dO,vg,cE,BJ,mX,eG⟩
structure ba where
 name:ByteArray
 labels:List aD
 aw:Int
 mem:Int
 aq:Int
 aT:List iU
instance:bk ba:=bk.oD fun x=>(x.name,x.labels,x.aw,x.mem,x.aq,x.aT)
theorem iy {w:World} {x:ba} {cs:List Value} {F:List Nat} (h:rd w x cs F):∃(gu:Option Addr) (gy:Nat) (jw:List Nat) (kJ:Option Addr) (kK:Nat) (qU:List Nat),cs = [.string x.name,.slice gu x.labels.length gy,.int .i64 x.aw,.int .i64 x.mem,.int .i64 x.aq,.slice kJ x.aT.length kK]∧F = jw++(qU)∧x.name.size≤maxLen∧Sl w x.labels gu gy jw∧bv x.aw∧bv x.mem∧bv x.aq∧Sl w x.aT kJ kK qU:=by
 obtain ⟨_,_,_,_,rfl,rfl,⟨rfl,rfl,hname⟩,_,_,_,_,rfl,rfl,dO,_,_,_,_,rfl,rfl,⟨rfl,rfl,vg⟩,_,_,_,_,rfl,rfl,⟨rfl,rfl,cE⟩,_,_,_,_,rfl,rfl,⟨rfl,rfl,uI⟩,jq⟩:=h;obtain ⟨gu,gy,rfl,dO⟩:=jB dO;obtain ⟨kJ,kK,rfl,jq⟩:=jB jq;exact ⟨gu,gy,_,kJ,kK,_,rfl,S',hname,dO,vg,cE,uI,jq⟩
structure rZ where
 pack:Int
 af:Int
 al:Int
instance:bk rZ:=bk.oD fun x=>(x.pack,x.af,x.al)
theorem mg {w:World} {x:rZ} {cs:List Value} {F:List Nat} (h:rd w x cs F):cs = [.int .i64 x.pack,.int .i64 x.af,.int .i64 x.al]∧F = []∧bv x.pack∧bv x.af∧bv x.al:=by
 obtain ⟨_,_,_,_,rfl,rfl,⟨rfl,rfl,RY⟩,_,_,_,_,rfl,rfl,⟨rfl,rfl,U0⟩,⟨rfl,rfl,R0⟩⟩:=h;exact ⟨rfl,S',RY,U0,R0⟩
theorem Zj (w:World) (x:rZ) (RY:bv x.pack) (U0:bv x.af) (R0:bv x.al):rd w x [.int .i64 x.pack,.int .i64 x.af,.int .i64 x.al] []:=⟨_,_,_,_,rfl,rfl,⟨rfl,rfl,RY⟩,_,_,_,_,rfl,rfl,⟨rfl,rfl,U0⟩,⟨rfl,rfl,R0⟩⟩
structure ag where
 aS:nI
 on:ByteArray
 seq:Int
instance:bk ag:=bk.oD fun x=>(x.aS,x.on,x.seq)
theorem kE {w:World} {x:ag} {cs:List Value} {F:List Nat} (h:rd w x cs F):∃(gV:Option Addr) (gW:Nat) (lF:List Nat) (iR:Option Addr) (iT:Nat) (mV:List Nat) (dD:Option Addr) (dF:Nat) (iH:List Nat),cs = [.string x.aS.name,.slice gV x.aS.labels.length gW,.int .i64 x.aS.aw,.int .i64 x.aS.mem,.int .i64 x.aS.av,.slice iR x.aS.ai.length iT,.slice dD x.aS.ae.length dF,.string x.on,.int .i64 x.seq]∧F = lF++(mV++(iH))∧x.aS.name.size≤maxLen∧Sl w x.aS.labels gV gW lF∧bv x.aS.aw∧bv x.aS.mem∧bv x.aS.av∧Sl w x.aS.ai iR iT mV∧Sl w x.aS.ae dD dF iH∧x.on.size≤maxLen∧bv x.seq:=by
 obtain ⟨_,_,_,_,rfl,rfl,WT,_,_,_,_,rfl,rfl,⟨rfl,rfl,ed⟩,⟨rfl,rfl,hseq⟩⟩:=h;obtain ⟨gV,gW,lF,iR,iT,mV,dD,dF,iH,rfl,rfl,nY,iE,rF,rG,oZ,je,dN⟩:=dL WT;exact ⟨gV,gW,_,iR,iT,_,dD,dF,_,rfl,S',nY,iE,rF,rG,oZ,je,dN,ed,hseq⟩
structure aU where
 aa:List ba
 J:List ag
 next:Int
 weights:rZ
instance:bk aU:=bk.oD fun x=>(x.aa,x.J,x.next,x.weights)
theorem aO {w:World} {x:aU} {cs:List Value} {F:List Nat} (h:rd w x cs F):∃(bG:Option Addr) (bD:Nat) (fQ:List Nat) (dn:Option Addr) (bW:Nat) (jg:List Nat),cs = [.slice bG x.aa.length bD,.slice dn x.J.length bW,.int .i64 x.next,.int .i64 x.weights.pack,.int .i64 x.weights.af,.int .i64 x.weights.al]∧F = fQ++(jg)∧Sl w x.aa bG bD fQ∧Sl w x.J dn bW jg∧bv x.next∧bv x.weights.pack∧bv x.weights.af∧bv x.weights.al:=by
 obtain ⟨_,_,_,_,rfl,rfl,bQ,_,_,_,_,rfl,rfl,dM,_,_,_,_,rfl,rfl,⟨rfl,rfl,hnext⟩,xM⟩:=h;obtain ⟨bG,bD,rfl,bQ⟩:=jB bQ;obtain ⟨dn,bW,rfl,dM⟩:=jB dM;obtain ⟨rfl,rfl,aV,aP,aW⟩:=mg xM;exact ⟨bG,bD,_,dn,bW,_,rfl,S',bQ,dM,hnext,aV,aP,aW⟩
structure cF where
 kind:Int
 aS:nI
 bx:ba
instance:bk cF:=bk.oD fun x=>(x.kind,x.aS,x.bx)
theorem NS {w:World} {x:cF} {cs:List Value} {F:List Nat} (h:rd w x cs F):∃(gV:Option Addr) (gW:Nat) (lF:List Nat) (iR:Option Addr) (iT:Nat) (mV:List Nat) (dD:Option Addr) (dF:Nat) (iH:List Nat) (yx:Option Addr) (yA:Nat) (JV:List Nat) (yB:Option Addr) (yC:Nat) (JW:List Nat),cs = [.int .i64 x.kind,.string x.aS.name,.slice gV x.aS.labels.length gW,.int .i64 x.aS.aw,.int .i64 x.aS.mem,.int .i64 x.aS.av,.slice iR x.aS.ai.length iT,.slice dD x.aS.ae.length dF,.string x.bx.name,.slice yx x.bx.labels.length yA,.int .i64 x.bx.aw,.int .i64 x.bx.mem,.int .i64 x.bx.aq,.slice yB x.bx.aT.length yC]∧F = lF++(mV++(iH++(JV++(JW))))∧bv x.kind∧x.aS.name.size≤maxLen∧Sl w x.aS.labels gV gW lF∧bv x.aS.aw∧bv x.aS.mem∧bv x.aS.av∧Sl w x.aS.ai iR iT mV∧Sl w x.aS.ae dD dF iH∧x.bx.name.size≤maxLen∧Sl w x.bx.labels yx yA JV∧bv x.bx.aw∧bv x.bx.mem∧bv x.bx.aq∧Sl w x.bx.aT yB yC JW:=by
 obtain ⟨_,_,_,_,rfl,rfl,⟨rfl,rfl,hkind⟩,_,_,_,_,rfl,rfl,WT,afd⟩:=h;obtain ⟨gV,gW,lF,iR,iT,mV,dD,dF,iH,rfl,rfl,nY,iE,rF,rG,oZ,je,dN⟩:=dL WT;obtain ⟨yx,yA,JV,yB,yC,JW,rfl,rfl,JX,EZ,NT,NU,Hf,E5⟩:=iy afd;exact ⟨gV,gW,_,iR,iT,_,dD,dF,_,yx,yA,_,yB,yC,_,rfl,S',hkind,nY,iE,rF,rG,oZ,je,dN,JX,EZ,NT,NU,Hf,E5⟩
structure tV where
 R3:Int
 jC:Int
 path:ByteArray
instance:bk tV:=bk.oD fun x=>(x.R3,x.jC,x.path)
structure DL (P:Program) (t e:TypeId) (z:Value) (size bytes:Nat):Prop where
 ht:P.underlying t = some (.slice e)
 info:(P.info? e).map (fun i=>(i.zero,i.size,i.bytes)) = some (some z,size,bytes)
 mS:z.cells.size = size
 gv:0 < size
theorem lS {B size:Nat} {w0 w w':World} {v:Value} {e:TypeId} {n:Nat} {xs:List Value} (aR:w.ownsRow B e size v n xs) (hg:w.grownBy w' v.ownBlock) (hb:Below B w0 w) (hB:B≤w.heap.size):Below B w0 w' :=
 hb.grown hg hB fun k hk=>(aR.lt k hk).1
section
variable {P:Program} {t e:TypeId} {z:Value} {size bytes:Nat}
theorem lC (hE:DL P t e z size bytes) {ops:Array Oper} {rest:List Oper} {o:Oper} {a:Act} {Q:Exit→Act→World→Prop} (tW:o.guard = none) (s x:Operand)
 (ho:o.op = .call { callee:=.builtin .append,args:=#[s,x],argTypes:=#[t,t] })
 (w:World) (base:Nat) (v:Value) (n:Nat) (xs:List Value) (aR:w.ownsRow base e size v n xs) (hs:a.eval s = v)
 (cs:List Value) (hx:a.eval x = .slice (some ⟨w.heap.size,0,none⟩) 1 1) (hl:cs.length = size) (h1:∀u∈cs,u.oneCell' = true)
 (hn:n≤2097152) (pn:bytes≤4096) (dh:base≤w.heap.size)
 (h:∀v' w',w'.ownsRow base e size v' (n+1) (xs++cs)→w.grownBy w' v.ownBlock→w.heap.size+1≤w'.heap.size→wpList P ops Q rest (a.put o.dst v') w'):wpList P ops Q (o :: rest) a (w.alloc (.cells cs.toArray e)):=by
 obtain ⟨ht,hi0,mS,gv⟩:=hE;obtain ⟨i,hi,hz,hsize,hb⟩:=info_parts hi0;have fR:(n+1) * bytes≤2097153 * 4096:=Nat.mul_le_mul O pn;refine wpList_append_own (w.alloc (.cells cs.toArray e)) tW s x t ho base e i z size bytes ht hi hz hsize hb mS gv v n xs hs (aR.alloc _) ⟨w.heap.size,0,none⟩ 1 1 cs hx O ?_ h1 mK O (by simp;omega) ?_
 ·exact Be
 ·intro v' w' mw hg _;refine h v' w' mw ⟨hg.os,hg.tape,hg.output,Nat.le_trans S' hg.size,fun k hk cA=>?_⟩ XH;rw [hg.block k (by simp;omega) cA];exact Below.heap_alloc _ _ _ hk
end
def eo (w:World) (g:Nat) (t:TypeId) (N:Nat) (ds:List Value):Prop:=∃cs:Array Value,w.heap[g]? = some (.cells cs t (0,0))∧cs.size = N∧ds.length≤N∧∀(j:Nat) (u:Value),ds[j]? = some u→cs[j]? = some u
section
variable {w w':World} {g:Nat} {t:TypeId} {N:Nat} {ds:List Value}
theorem eo.lt (h:eo w g t N ds):g < w.heap.size:=by
 obtain ⟨cs,h,_⟩:=h;rcases Nat.lt_or_ge g w.heap.size with ap | oA
 ·exact ap
 ·rw [Array.getElem?_eq_none oA] at h;cases h
theorem eo.cell (h:eo w g t N ds) {i:Nat} (hi:i < N):∃u,w.cell? ⟨g,i,none⟩ = some u:=by
 obtain ⟨cs,h,rfl,_⟩:=h;exact ⟨cs[i],by rw [cell_of_row w g i cs t (0,0) h];exact Array.getElem?_eq_getElem hi⟩
theorem eo.frozen (h:eo w g t N ds) (i:Nat):w.frozen? ⟨g,i,none⟩ = false:=by
 obtain ⟨cs,h,_⟩:=h;simp [World.frozen?,h]
theorem eo.bJ (h:eo w g t N ds) (hk:w'.heap[g]? = w.heap[g]?):eo w' g t N ds:=by
 obtain ⟨cs,h,r⟩:=h;exact ⟨cs,by rw [hk];exact h,r⟩
theorem eo.store (h:eo w g t N ds) (u:Value) (hi:ds.length < N):eo (w.setCell ⟨g,ds.length,none⟩ u) g t N (ds++[u]):=by
 obtain ⟨cs,h,rfl,hl,hc⟩:=h;refine ⟨cs.setIfInBounds ds.length u,?_,S',by simp;omega,fun j v hv=>?_⟩
 ·simp [World.setCell,Array.getElem?_modify,h]
 ·by_cases hj:j < ds.length
  ·rw [Array.getElem?_setIfInBounds_ne O];exact hc j v (by rwa [List.getElem?_append_left hj] at hv)
  ·have jt:j = ds.length:=by
    have:=(List.getElem?_eq_some_iff.1 hv).1;simp at this;omega
   subst jt;simp at hv;subst hv;rw [Array.getElem?_setIfInBounds_self_of_lt hi]
theorem eo.cells (h:eo w g t N ds):∀j u,ds[j]? = some u→w.cell? ⟨g,0+j,none⟩ = some u:=by
 obtain ⟨cs,h,_,_,hc⟩:=h;intro j u hu;rw [Nat.zero_add,cell_of_row w g j cs t (0,0) h];exact hc j u hu
end
structure am {α:Type} [bk α] (w:World) (B:Nat) (x:α) (cs:List Value) (F:List Nat):Prop where
 rd:rd w x cs F
 nodup:F.Nodup
 base:∀b∈F,B≤b
 plain:∀b∈F,∃ds t,w.heap[b]? = some (.cells ds t (0,0))
section
variable {α:Type} [bk α] {w w':World} {B:Nat} {x:α} {cs:List Value} {F:List Nat}
theorem am.lt (h:am w B x cs F):∀b∈F,b < w.heap.size:=bk.lt h.rd
theorem am.bJ (h:am w B x cs F) (hk:∀b∈F,w'.heap[b]? = w.heap[b]?) (hz:w.heap.size≤w'.heap.size):am w' B x cs F :=
 ⟨bk.frame h.rd hk hz,h.nodup,h.base,fun b hb=>by rw [hk b hb];exact h.plain b hb⟩
theorem am.ext (h:am w B x cs F) (hb:Below w.heap.size w w'):am w' B x cs F:=h.bJ (fun b ei=>hb.block b (h.lt b ei)) hb.size
theorem am.alloc (h:am w B x cs F) (o:Obj):am (w.alloc o) B x cs F:=h.ext (ak (aj _) o)
theorem am.setCell (h:am w B x cs F) {p:Addr} (hp:p.block < B) (u:Value):am (w.setCell p u) B x cs F :=
 h.bJ (fun b hb=>Below.heap_setCell _ _ _ _ (by have:=h.base b hb;omega)) fj
theorem am.en (h:Go.Proofs.YtjahcnjmjahbaaaGreat.bk.rd w x cs []):am w B x cs []:=⟨h,List.nodup_nil,(fun b hb=>by cases hb),(fun b hb=>by cases hb)⟩
theorem am.mono (h:am w B x cs F) {B':Nat} (hB:B'≤B):am w B' x cs F:=⟨h.rd,h.nodup,fun b hb=>Nat.le_trans hB (h.base b hb),h.plain⟩
end
structure aY {α:Type} [bk α] (w:World) (B:Nat) (xs:List α) (ds:List Value) (F:List Nat):Prop where
 rd:jo w xs ds F
 nodup:F.Nodup
 base:∀b∈F,B≤b
 plain:∀b∈F,∃ds t,w.heap[b]? = some (.cells ds t (0,0))
section
variable {α:Type} [bk α] {w w':World} {B:Nat} {xs:List α} {ds:List Value} {F:List Nat}
theorem aY.lt (h:aY w B xs ds F):∀b∈F,b < w.heap.size:=h.rd.lt
theorem aY.nil (w:World) (B:Nat):aY w B ([]:List α) [] []:=⟨⟨rfl,rfl⟩,List.nodup_nil,(fun b hb=>by cases hb),(fun b hb=>by cases hb)⟩
theorem aY.bJ (h:aY w B xs ds F) (hk:∀b∈F,w'.heap[b]? = w.heap[b]?) (hz:w.heap.size≤w'.heap.size):aY w' B xs ds F :=
 ⟨h.rd.frame hk hz,h.nodup,h.base,fun b hb=>by rw [hk b hb];exact h.plain b hb⟩
theorem aY.ext (h:aY w B xs ds F) (hb:Below w.heap.size w w'):aY w' B xs ds F:=h.bJ (fun b ei=>hb.block b (h.lt b ei)) hb.size
theorem aY.setCell (h:aY w B xs ds F) {p:Addr} (hp:p.block < B) (u:Value):aY (w.setCell p u) B xs ds F :=
 h.bJ (fun b hb=>Below.heap_setCell _ _ _ _ (by have:=h.base b hb;omega)) fj
theorem aY.push (h:aY w B xs ds F) {x:α} {cs:List Value} {G:List Nat} {B':Nat} (hx:am w B' x cs G) (hB:B≤B') (hF:∀b∈F,b < B'):aY w B (xs++[x]) (ds++cs) (F++G):=by
 refine ⟨h.rd.append (.single hx.rd),?_,?_,?_⟩
 ·rw [List.nodup_append];exact ⟨h.nodup,hx.nodup,fun a ha b hb=>by have:=hF a ha;have:=hx.base b hb;omega⟩
 ·intro b hb;rcases List.mem_append.1 hb with hb | hb
  ·exact h.base b hb
  ·exact Nat.le_trans hB (hx.base b hb)
 ·intro b hb;rcases List.mem_append.1 hb with hb | hb
  ·exact h.plain b hb
  ·exact hx.plain b hb
theorem am.Ep {t:TypeId} {g N c:Nat} (hf:eo w g t N ds) (h:aY w (g+1) xs ds F) (hc:xs.length≤c) (hm:c≤maxLen):am w g xs [.slice (some ⟨g,0,none⟩) xs.length c] (g :: F):=by
 refine ⟨⟨_,c,F,ds,rfl,hc,hm,h.rd,.inr ⟨g,0,rfl,rfl,hf.lt,hf.cells⟩⟩,?_,?_,?_⟩
 ·rw [List.nodup_cons];exact ⟨fun hb=>by have:=h.base g hb;omega,h.nodup⟩
 ·intro b hb;rcases List.mem_cons.1 hb with rfl | hb
  ·exact Nat.le_refl _
  ·have:=h.base b hb;omega
 ·intro b hb;rcases List.mem_cons.1 hb with rfl | hb
  ·obtain ⟨cs,fo,_⟩:=hf;exact ⟨cs,t,fo⟩
  ·exact h.plain b hb
theorem am.oJ {e:TypeId} {v:Value} (h0:w.ownsRow B e (bk.size α) v xs.length ds) (h:aY w B xs ds F) (cA:∀g,v.ownBlock = some g→g∉F):∃A c G,v = .slice A xs.length c∧am w B xs [.slice A xs.length c] G:=by
 rcases h0 with ⟨hl,⟨rfl,hn⟩ | ⟨g,aM,ep,rfl,hb,hh,er,hm,fo,ht⟩⟩
 ·obtain rfl:xs = []:=List.eq_nil_of_length_eq_zero hn;exact ⟨none,0,[],rfl,Sl.nil w none 0 (Nat.zero_le _),List.nodup_nil,(fun b hb=>by cases hb),(fun b hb=>by cases hb)⟩
 ·have hg:g < w.heap.size:=by
   exact I9
  refine ⟨_,aM,g :: F,rfl,⟨_,aM,F,ds,rfl,er,hm,h.rd,.inr ⟨g,0,rfl,rfl,hg,fun j u hu=>?_⟩⟩,?_,?_,?_⟩
  ·exact IC
  ·rw [List.nodup_cons];exact ⟨cA g rfl,h.nodup⟩
  ·intro b ei;rcases List.mem_cons.1 ei with rfl | ei
   ·exact hb
   ·exact h.base b ei
  ·exact Hv
end
section
variable {P:Program} {ops:Array Oper} {md:Region.Mode} {C:World→Prop}
def fV (P:Program) (C:World→Prop) (v:Value):Result Next→Prop
 | .ok (.value u) w'=>C w'∧u = v
 | .ok .skip w'=>C w'∧v = undef
 | .ok (.enter f args) w'=>Calls P f args w' (fun e PK=>e = .returned v∧C PK)
 | _=>False
def eg (P:Program) (ops:Array Oper) (C:World→Prop) (o:Oper) (v:Value) (a:Act):Prop :=
 if Region.wanted o (yielded ops a.tmps) then ∀w,C w→fV P C v ((execOp a.eval o).run P w) else v = undef
theorem ait {o:Oper} {a:Act} {v:Value} {K:Act→World→Prop} {Q:Exit→Act→World→Prop} {w:World}
 (h:fV P C v ((execOp a.eval o).run P w)) (hK:∀w',C w'→K (a.put o.dst v) w'):o.wp P a w K Q:=by
 unfold Oper.wp;revert h;generalize (execOp a.eval o).run P w = r;intro h;match r,h with
 | .ok (.value u) w',h=>obtain ⟨h1,rfl⟩:=h;exact hK _ h1
 | .ok .skip w',h=>obtain ⟨h1,rfl⟩:=h;exact hK _ h1
 | .ok (.enter f args) w',h =>refine Calls.mono (R:=fun e PK=>e = .returned v∧C PK) h (fun e PK hh=>?_);obtain ⟨rfl,hw⟩:=hh;exact hK _ hw
theorem eg.wpOp {i:Nat} {o:Oper} {v:Value} {a:Act} {K:Act→World→Prop} {Q:Exit→Act→World→Prop} {w:World} (hi:ops[i]? = some o) (hg:eg P ops C o v a) (hw:C w)
 (hK:∀w',C w'→K (a.put o.dst v) w'):wpOp P ops Q i K a w:=by
 unfold Go.wpOp;simp only [hi];unfold eg at hg;split
 ·rename_i hwant;rw [if_pos hwant] at hg;exact .inl (ait (hg w hw) hK)
 ·rename_i hwant;rw [if_neg hwant] at hg;subst hg;exact hK _ hw
theorem eg.put {oi oj:Oper} {u v:Value} {a:Act} (nA:oi.apart ops oj = true) (R4:∀cs b,oi.op≠.select cs b) (hg:eg P ops C oi v a):eg P ops C oi v (a.put oj.dst u):=by
 obtain ⟨_,_,h3⟩:=Oper.apart_spec nA;unfold eg at *;rw [execOp_put oi R4 a oj.dst u h3,wanted_put oi a oj.dst u h3];exact hg
theorem eg.L' {oi oj:Oper} {u v:Value} {a:Act} (nA:oi.apart ops oj = true) (R5:∀cs b,oj.op≠.select cs b) (hg:eg P ops C oj v (a.put oi.dst u)):eg P ops C oj v a:=by
 obtain ⟨h1,_,_⟩:=Oper.apart_spec nA;unfold eg at *;rw [execOp_put oj R5 a oi.dst u h1,wanted_put oj a oi.dst u h1] at hg;exact hg
def Yn (P:Program) (md:Region.Mode) (ops:Array Oper) (C:World→Prop) (Q:Act→Prop):Nat→Array Bool→Act→Prop
 | 0,ar,a=>Region.ready md ops ar = []∧Q a
 | fp+1,ar,a=>(Region.ready md ops ar = []→Q a) ∧
   ∀i∈Region.ready md ops ar,∀o,ops[i]? = some o→∃v,eg P ops C o v a∧Yn P md ops C Q fp (ar.setIfInBounds i true) (a.put o.dst v)
theorem RX {Q:Act→Prop} {Q':Exit→Act→World→Prop} (hQ:∀a w,C w→Q a→Q' .normal a w):∀(fp:Nat) (ar:Array Bool) (a:Act) (w:World),C w →
 Yn P md ops C Q fp ar a→wpAny P md ops Q' fp ar a w
 | 0,_,_,_,hw,h=>⟨h.1,hQ _ _ hw h.2⟩
 | fp+1,ar,a,w,hw,h=>by
   refine ⟨fun h0=>hQ _ _ hw (h.1 h0),fun i hi=>?_⟩;obtain ⟨_,o,ho,_⟩:=mem_ready.1 hi;obtain ⟨v,hg,hn⟩:=h.2 i hi o ho;exact hg.wpOp ho hw fun w' eC=>RX hQ fp _ _ w' eC hn
theorem ahp {Q:Act→Prop} {i:Nat} {oi:Oper} {v:Value} (hi:ops[i]? = some oi) (sb:∀(j:Nat) (o:Oper) cs b,ops[j]? = some o→o.op≠.select cs b) :
 ∀(fp:Nat) (ar:Array Bool) (a:Act),
  (∀j oj,ops[j]? = some oj→j≠i→ar.getD j true = false→(∀e∈oj.after,Region.binds md e = true→e.on≠i)→oi.apart ops oj = true) →
  i∈Region.ready md ops ar→eg P ops C oi v a →
  Yn P md ops C Q fp (ar.setIfInBounds i true) (a.put oi.dst v)→Yn P md ops C Q (fp+1) ar a:=by
 intro fp;induction fp with
 | zero =>
   intro ar a _ hr hy H;refine ⟨fun h=>Pv,fun j hj o ho=>?_⟩;by_cases lE:j = i
   ·subst lE;rw [hi] at ho;cases ho
    exact ⟨v,hy,H⟩
   ·have:=ready_mono hj lE;rw [H.1] at this;cases this
 | succ fp ih =>
   intro ar a mx hr hy H;refine ⟨fun h=>Pv,fun j hj oj ju=>?_⟩;by_cases lE:j = i
   ·subst lE;rw [hi] at ju;cases ju
    exact ⟨v,hy,H⟩
   ·obtain ⟨u,hu,hn⟩:=H.2 j (ready_mono hj lE) oj ju;obtain ⟨sc,oj',hoj',hall⟩:=mem_ready.1 hj;rw [ju] at hoj';cases hoj'
    have sd:∀e∈oj.after,Region.binds md e = true→e.on≠i:=fun e he hb vm=>by
     exact JP
    have nA:=mx j oj ju lE sc sd;have R4:=fun cs b=>sb i oi cs b hi;have R5:=fun cs b=>sb j oj cs b ju;refine ⟨u,hu.L' nA R5,ih _ _ (fun k ok hk se D6 sf=>mx k ok hk se ?_ sf) (ready_mono hr (Ne.symm lE)) (hy.put nA R4) ?_⟩
    ·by_cases fX:j = k
     ·subst fX;exact sc
     ·rw [getD_set_ne true fX] at D6;exact D6
    ·rw [Array.setIfInBounds_comm _ _ lE,Act.put_comm a u v (fun d hd=>by
       have:=(Oper.apart_spec nA).2.1;intro hx
       exact this d hx hd)]
     exact hn
def Yo (P:Program) (ops:Array Oper) (C:World→Prop) (Q:Act→Prop):List Oper→Act→Prop
 | [],a=>Q a
 | o :: rest,a=>∃v,eg P ops C o v a∧Yo P ops C Q rest (a.put o.dst v)
theorem QC {Q:Act→Prop} (hs:Region.noSelect ops = true):∀(l:List Oper) (k:Nat) (ar:Array Bool) (a:Act),(∀j,l[j]? = ops[k+j]?) →
 Region.lexFrom md ops l.length k ar = true→Yo P ops C Q l a→Yn P md ops C Q l.length ar a
 | [],_,_,_,_,hB,h=>⟨by simpa [Region.lexFrom] using hB,h⟩
 | o :: l,k,ar,a,hl,hB,h=>by
   have h0:ops[k]? = some o:=(by simpa using (hl 0).symm);simp only [List.length_cons,Region.lexFrom,Bool.and_eq_true] at hB;obtain ⟨⟨hr,hf⟩,hB'⟩:=hB;obtain ⟨v,hy,hK⟩:=h
   exact ahp h0 (Region.noSelect_spec hs) l.length ar a (Region.free_spec h0 hf) (by simpa using hr) hy
    (QC hs l (k+1) _ _ (fun j=>by have:=hl (j+1);simpa [Nat.add_assoc,Nat.add_comm 1 j] using this) hB' hK)
def iY (w0 w:World):Prop:=Below w0.heap.size w0 w
theorem iY.out {w0 w:World} (h:iY w0 w):Below w0.heap.size w0 w:=h
theorem aI {w0 w w':World} (h:iY w0 w) (k:Below w.heap.size w w'):iY w0 w':=ah h k
theorem aQ {w0 w:World} (h:iY w0 w) (o:Obj):iY w0 (w.alloc o):=ak h o
theorem aB {w0 w:World} (h:iY w0 w):(∀b o,b < w0.heap.size→w.cell? ⟨b,o,none⟩ = w0.cell? ⟨b,o,none⟩)∧(∀b o,b < w0.heap.size→w.frozen? ⟨b,o,none⟩ = w0.frozen? ⟨b,o,none⟩):=ay h
theorem aF {id:Nat} {Q:Exit→Act→World→Prop} {a:Act} {w:World} {l:List Oper} (w0:World) (hm:P.follows .mixedOrders = true) (hB:Region.lexB .any l.toArray = true)
 (hw:Below w0.heap.size w0 w) (h:Yo P l.toArray (iY w0) (fun a'=>∀w',iY w0 w'→Q .normal a' w') l a):(Code.region id l.toArray true).wp P Q a w:=by
 simp only [Region.lexB,Bool.and_eq_true] at hB;refine wp_region_any hm (RX (Q:=fun a'=>∀w',iY w0 w'→Q .normal a' w') (fun _ w' eC h=>h w' eC) _ _ _ _ (C:=iY w0) (by exact ⟨hw.os,hw.tape,hw.output,hw.size,hw.block⟩) ?_);have:=QC (C:=iY w0) (md:=.any) (P:=P) hB.1 l 0 (Array.replicate l.toArray.size false) a S' (by simpa using hB.2) h;simpa using this
theorem aH {Q:Act→Prop} {a:Act} {o:Oper} {rest:List Oper} (v:Value) (hw:Region.wanted o (yielded ops a.tmps) = true)
 (h:∀w,C w→fV P C v ((execOp a.eval o).run P w)) (hn:Yo P ops C Q rest (a.put o.dst v)):Yo P ops C Q (o :: rest) a :=
 ⟨v,by unfold eg;rw [if_pos hw];exact h,hn⟩
theorem aG {Q:Act→Prop} {a:Act} {o:Oper} {rest:List Oper} (hw:Region.wanted o (yielded ops a.tmps) = false)
 (hn:Yo P ops C Q rest (a.put o.dst undef)):Yo P ops C Q (o :: rest) a :=
 ⟨undef,by unfold eg;rw [hw];rfl,hn⟩
theorem aN {Q:Act→Prop} {a:Act} (h:Q a):Yo P ops C Q [] a:=h
end
section
variable {P:Program} {ops:Array Oper} {md:Region.Mode} {C:World→Prop} {Q:Exit→Act→World→Prop}
def ED (P:Program) (ops:Array Oper) (C:World→Prop) (Q:Exit→Act→World→Prop):List Oper→Act→World→Prop
 | [],a,w=>Q .normal a w
 | o :: rest,a,w=>if Region.wanted o (yielded ops a.tmps) then o.wp P a w (fun a' w'=>C w'∧ED P ops C Q rest a' w') Q else C w∧ED P ops C Q rest (a.put o.dst undef) w
theorem dX {a:Act} {w:World} (h:Q .normal a w):ED P ops C Q [] a w:=h
theorem aK {a:Act} {w:World} {o:Oper} {rest:List Oper} (hw:Region.wanted o (yielded ops a.tmps) = true)
 (h:∀K:Act→World→Prop,(∀a' w',C w'→(C w'→ED P ops C Q rest a' w')→K a' w')→o.wp P a w K Q):ED P ops C Q (o :: rest) a w:=by
 unfold ED;rw [if_pos hw];exact h _ fun a' w' h1 h2=>⟨h1,h2 h1⟩
def OQ (P:Program) (ops:Array Oper) (C:World→Prop) (Q:Act→Prop):List Oper→Act→Prop
 | [],a=>Q a
 | o :: rest,a=>∃v,YieldsIf P ops C o v a∧OQ P ops C Q rest (a.put o.dst v)
theorem fE {Q:Act→Prop} {a:Act} (h:Q a):OQ P ops C Q [] a:=h
theorem dR {Q:Act→Prop} {a:Act} {o:Oper} {rest:List Oper} (v:Value) (hy:YieldsIf P ops C o v a) (h:OQ P ops C Q rest (a.put o.dst v)):OQ P ops C Q (o :: rest) a:=⟨v,hy,h⟩
end
structure gC (un v1 v0 u0 q r:Nat):Prop where
 sum:q * v1+r = un
 zm:r < 4294967296
 M4:un * 4294967296+u0 < (q+1) * (v1 * 4294967296+v0)
 Ez:q≤4294967297
theorem gC.start {un v1 v0 u0:Nat} (h:un < v1 * 4294967296+v0) (h1:2147483648≤v1) (h1b:v1 < 4294967296) (h0:v0 < 4294967296) (hu:u0 < 4294967296):gC un v1 v0 u0 (un / v1) (un - un / v1 * v1):=by
 have e:=Nat.div_add_mod' un v1;have m:=Nat.mod_lt un (by omega:0 < v1);refine ⟨O,O,?_,?_⟩
 ·have e2:(un / v1+1) * (v1 * 4294967296+v0) = un / v1 * v1 * 4294967296+un / v1 * v0+v1 * 4294967296+v0:=by
   rw [Nat.add_mul,Nat.mul_add,← Nat.mul_assoc];omega
  rw [e2];have:(un % v1+1) * 4294967296≤v1 * 4294967296:=Nat.mul_le_mul_right _ O;omega
 ·have ap:un / v1 < 4294967298:=by
   rw [Nat.div_lt_iff_lt_mul O];omega
  omega
theorem T0 {un v1 v0 u0 q r:Nat} (h:gC un v1 v0 u0 q r):q * (v1 * 4294967296+v0)+r * 4294967296 = un * 4294967296+q * v0:=by
 have e:=h.sum;rw [Nat.mul_add,← Nat.mul_assoc,← e,Nat.add_mul,Nat.add_right_comm]
theorem gC.kA {un v1 v0 u0 q r:Nat} (h:gC un v1 v0 u0 q r) (D6:un < v1 * 4294967296+v0) (h1:2147483648≤v1) (hu:u0 < 4294967296) (ht:4294967296≤q∨4294967296 * r+u0 < q * v0):un * 4294967296+u0 < q * (v1 * 4294967296+v0):=by
 rcases ht with ht | ht
 ·have:4294967296 * (v1 * 4294967296+v0)≤q * (v1 * 4294967296+v0):=Nat.mul_le_mul_right _ ht;omega
 ·have:=T0 h;omega
theorem gC.done {un v1 v0 u0 q r:Nat} (h:gC un v1 v0 u0 q r) (h1:2147483648≤v1) (ht:q * v0≤4294967296 * r+u0):q = (un * 4294967296+u0) / (v1 * 4294967296+v0):=by
 have:=T0 h;have ha:=h.M4;have:(un * 4294967296+u0) / (v1 * 4294967296+v0) = q:=by
  rw [Nat.div_eq_iff O];have:(q+1) * (v1 * 4294967296+v0) = q * (v1 * 4294967296+v0)+(v1 * 4294967296+v0):=by rw [Nat.add_mul];omega
  omega
 exact this.symm
theorem gC.pos {un v1 v0 u0 q r:Nat} (h:un * 4294967296+u0 < q * (v1 * 4294967296+v0)):0 < q:=by
 cases q with
 | zero=>simp at h
 | succ q=>omega
theorem gC.next {un v1 v0 u0 q r:Nat} (h:gC un v1 v0 u0 q r) (ho:un * 4294967296+u0 < q * (v1 * 4294967296+v0)) (hr:r+v1 < 4294967296):gC un v1 v0 u0 (q - 1) (r+v1):=by
 have hq:=gC.pos (r:=r) ho;obtain ⟨k,rfl⟩:∃k,q = k+1:=⟨q - 1,O⟩;have e:=h.sum;rw [Nat.add_mul] at e;exact ⟨by simp only [Nat.add_sub_cancel];omega,hr,by simpa using ho,by have:=h.Ez;omega⟩
theorem gC.stop {un v1 v0 u0 q r:Nat} (h:gC un v1 v0 u0 q r) (ho:un * 4294967296+u0 < q * (v1 * 4294967296+v0)) (h1:2147483648≤v1) (h0:v0 < 4294967296) (hr:4294967296≤r+v1):q - 1 = (un * 4294967296+u0) / (v1 * 4294967296+v0):=by
 have hq:=gC.pos (r:=r) ho;have hf:=h.Ez;obtain ⟨k,rfl⟩:∃k,q = k+1:=⟨q - 1,O⟩;simp only [Nat.add_sub_cancel];have e:=T0 h;have hk:k * v0≤4294967296 * 4294967296:=Nat.mul_le_mul O O;have e2:(k+1) * (v1 * 4294967296+v0) = k * (v1 * 4294967296+v0)+(v1 * 4294967296+v0):=by rw [Nat.add_mul];omega
 have e3:(k+1) * v0 = k * v0+v0:=by rw [Nat.add_mul];omega
 have:(un * 4294967296+u0) / (v1 * 4294967296+v0) = k:=by rw [Nat.div_eq_iff O];omega
 exact this.symm
theorem FB {A u0 Y:Nat} (hY:0 < Y):(A * 4294967296+u0) / Y = A / Y * 4294967296+(A % Y * 4294967296+u0) / Y:=by
 have e:=Nat.div_add_mod' A Y;generalize A / Y = q at *;generalize A % Y = r at *;subst e;have:(q * Y+r) * 4294967296+u0 = (r * 4294967296+u0)+Y * (q * 4294967296):=by rw [Nat.add_mul,Nat.mul_right_comm,Nat.mul_comm (q * 4294967296) Y];generalize Y * (q * 4294967296) = A;generalize r * 4294967296 = C;omega
 rw [this,Nat.add_mul_div_left _ _ hY];exact Nat.add_comm _ _
theorem OD {U u Y:Nat} (h:U < Y) (hu:u < 4294967296):(U * 4294967296+u) / Y < 4294967296:=by
 rw [Nat.div_lt_iff_lt_mul O];omega
theorem apX (a Y:Nat) (hY:0 < Y) (hYb:Y < 18446744073709551616):((a:Int) - ((a / Y * Y:Nat):Int)) % 18446744073709551616 = ((a % Y:Nat):Int):=by
 have e:=Nat.div_add_mod' a Y;have m:=Nat.mod_lt a hY;have:(a:Int) - ((a / Y * Y:Nat):Int) = ((a % Y:Nat):Int):=by omega
 rw [this];omega
theorem Io (a y P:Nat) (hP:0 < P):(a * P) / (y * P) = a / y:=Nat.mul_div_mul_right _ _ hP
theorem anV (y:Nat) (h0:0 < y) (hy:y < 18446744073709551616):∃S:Nat,(64 - (Lib.bitLen y:Int)) = (S:Int)∧S < 64∧9223372036854775808≤y * 2 ^ S∧y * 2 ^ S < 18446744073709551616:=by
 obtain ⟨h1,h2,h3⟩:=Lib.bitLenAux_bounds 64 y hy O;have h4:Lib.bitLen y≤64:=Lib.bitLen_le y 64 O hy;have e:Lib.bitLenAux 64 y = Lib.bitLen y:=rfl;rw [e] at h1 h2 h3;refine ⟨64 - Lib.bitLen y,O,O,?_,?_⟩
 ·have:2 ^ (Lib.bitLen y - 1) * 2 ^ (64 - Lib.bitLen y)≤y * 2 ^ (64 - Lib.bitLen y):=Nat.mul_le_mul_right _ h2;rw [← Nat.pow_add,show Lib.bitLen y - 1+(64 - Lib.bitLen y) = 63 by omega] at this;exact this
 ·have:y * 2 ^ (64 - Lib.bitLen y) < 2 ^ Lib.bitLen y * 2 ^ (64 - Lib.bitLen y):=Nat.mul_lt_mul_of_pos_right h3 (Nat.two_pow_pos _);rw [← Nat.pow_add,show Lib.bitLen y+(64 - Lib.bitLen y) = 64 by omega] at this;exact this
theorem lm (n:Int) (h0:0≤n) (h1:n < 2 ^ 64):IntKind.u64.wrap n = n:=by rw [IntKind.wrap_u64];omega
theorem J7 (n:Nat) (h:n < 18446744073709551616):IntKind.u64.wrap (n:Int) = (n:Int):=by rw [IntKind.wrap_u64];omega
theorem yd (n:Nat) (h:n < 18446744073709551616):bits .and .u64 (n:Int) 4294967295 = ((n % 4294967296:Nat):Int):=by
 have h1:=bits_mask .u64 64 (by decide) lm 32 (by decide) (n:Int) O O;have e:((2:Int) ^ 32 - 1) = 4294967295:=by decide
 rw [e] at h1;rw [h1];omega
theorem ye (n:Nat):(n:Int) / 4294967296 = ((n / 4294967296:Nat):Int):=by omega
theorem wF (n v:Nat) (h:n < 18446744073709551616):IntKind.u64.wrap ((n:Int) / (v:Int)) = ((n / v:Nat):Int):=by
 have h1:n / v≤n:=Nat.div_le_self _ _;rw [← Int.natCast_ediv];exact J7 _ O
theorem Qm (n v:Nat) (h:n < 18446744073709551616):IntKind.u64.wrap ((n:Int) - IntKind.u64.wrap (((n / v:Nat):Int) * (v:Int))) = ((n - n / v * v:Nat):Int):=by
 have h1:n / v * v≤n:=Nat.div_mul_le_self _ _;rw [← Int.natCast_mul,J7 _ O,← Int.natCast_sub h1];exact J7 _ O
structure aqI (hi lo y S Y v1 v0 un L u1 u0:Nat):Prop where
 eY:IntKind.u64.wrap ((y:Int) * 2 ^ S) = (Y:Int)
 T4:(Y:Int) / 4294967296 = (v1:Int)
 T5:bits .and .u64 (Y:Int) 4294967295 = (v0:Int)
 T6:bits .or .u64 (IntKind.u64.wrap ((hi:Int) * 2 ^ S)) ((lo:Int) / 2 ^ (64 - S)) = (un:Int)
 eL:IntKind.u64.wrap ((lo:Int) * 2 ^ S) = (L:Int)
 T7:(L:Int) / 4294967296 = (u1:Int)
 T9:bits .and .u64 (L:Int) 4294967295 = (u0:Int)
 iG:2147483648≤v1
 pH:v1 < 4294967296
 oR:v0 < 4294967296
 yf:u1 < 4294967296
 lp:u0 < 4294967296
 lY:Y = v1 * 4294967296+v0
 yi:un < Y
 whole:(un * 4294967296+u1) * 4294967296+u0 = (hi * 18446744073709551616+lo) * 2 ^ S
 yY:Y = y * 2 ^ S
theorem apW (hi lo y S:Nat) (iN:lo < 18446744073709551616) (h:hi < y) (eD:S < 64) (b4:9223372036854775808≤y * 2 ^ S) (bR:y * 2 ^ S < 18446744073709551616) :
 ∃Y v1 v0 un L u1 u0:Nat,aqI hi lo y S Y v1 v0 un L u1 u0:=by
 have hp:0 < 2 ^ S:=Nat.two_pow_pos S;have hq:0 < 2 ^ (64 - S):=Nat.two_pow_pos _;have T':2 ^ (64 - S) * 2 ^ S = 18446744073709551616:=by rw [← Nat.pow_add,show 64 - S+S = 64 by omega]
 have nd:(hi+1) * 2 ^ S≤y * 2 ^ S:=Nat.mul_le_mul_right _ h;rw [Nat.add_mul,Nat.one_mul] at nd;have Wk:lo / 2 ^ (64 - S) < 2 ^ S:=by rw [Nat.div_lt_iff_lt_mul hq,Nat.mul_comm,T'];exact iN
 have hlm:lo * 2 ^ S = lo / 2 ^ (64 - S) * 18446744073709551616+lo * 2 ^ S % 18446744073709551616:=by
  have e:lo * 2 ^ S / 18446744073709551616 = lo / 2 ^ (64 - S):=by rw [← T',Nat.mul_div_mul_right _ _ hp]
  rw [← e];exact (Nat.div_add_mod' _ _).symm
 have eL:IntKind.u64.wrap ((lo:Int) * 2 ^ S) = ((lo * 2 ^ S % 18446744073709551616:Nat):Int):=by rw [IntKind.wrap_u64,show ((lo:Int) * 2 ^ S) = ((lo * 2 ^ S:Nat):Int) by push_cast;rfl];omega
 have eH:IntKind.u64.wrap ((hi:Int) * 2 ^ S) = ((hi * 2 ^ S:Nat):Int):=by rw [show ((hi:Int) * 2 ^ S) = ((hi * 2 ^ S:Nat):Int) by push_cast;rfl];exact J7 _ O
 have eY:IntKind.u64.wrap ((y:Int) * 2 ^ S) = ((y * 2 ^ S:Nat):Int):=by rw [show ((y:Int) * 2 ^ S) = ((y * 2 ^ S:Nat):Int) by push_cast;rfl];exact J7 _ bR
 have eu:bits .or .u64 (IntKind.u64.wrap ((hi:Int) * 2 ^ S)) ((lo:Int) / 2 ^ (64 - S)) = ((hi * 2 ^ S+lo / 2 ^ (64 - S):Nat):Int):=by rw [eH,show ((lo:Int) / 2 ^ (64 - S)) = ((lo / 2 ^ (64 - S):Nat):Int) by push_cast;rfl];rw [bits_join .u64 64 (by decide) lm S _ _ O (by rw [show ((2:Int) ^ S) = ((2 ^ S:Nat):Int) by push_cast;rfl,← Int.natCast_emod,Nat.mul_mod_left];rfl) O O (by rw [show ((2:Int) ^ S) = ((2 ^ S:Nat):Int) by push_cast;rfl];omega) O];push_cast;rfl
 have hLb:lo * 2 ^ S % 18446744073709551616 < 18446744073709551616:=Nat.mod_lt _ (by decide)
 refine ⟨y * 2 ^ S,y * 2 ^ S / 4294967296,y * 2 ^ S % 4294967296,hi * 2 ^ S+lo / 2 ^ (64 - S),lo * 2 ^ S % 18446744073709551616,lo * 2 ^ S % 18446744073709551616 / 4294967296,lo * 2 ^ S % 18446744073709551616 % 4294967296,
  eY,ye _,yd _ bR,eu,eL,ye _,yd _ hLb,O,O,O,O,O,O,O,?_,rfl⟩
 have e1:(hi * 18446744073709551616+lo) * 2 ^ S = hi * 2 ^ S * 18446744073709551616+lo * 2 ^ S:=by rw [Nat.add_mul,Nat.mul_right_comm]
 rw [e1,hlm];generalize lo * 2 ^ S % 18446744073709551616 = L at *;generalize lo / 2 ^ (64 - S) = D at *;generalize hi * 2 ^ S = H at *;omega
theorem Ug (n u Y:Nat) (hY:0 < Y) (hYb:Y < 18446744073709551616) (q:Nat) (hq:q = (n * 4294967296+u) / Y) :
 IntKind.u64.wrap (IntKind.u64.wrap (IntKind.u64.wrap ((n:Int) * 4294967296)+(u:Int)) - IntKind.u64.wrap ((q:Int) * (Y:Int))) = (((n * 4294967296+u) % Y:Nat):Int):=by
 have h:=apX (n * 4294967296+u) Y hY hYb;rw [← hq] at h;rw [← h];rw [Int.natCast_mul q Y,IntKind.wrap_u64,IntKind.wrap_u64,IntKind.wrap_u64,IntKind.wrap_u64];generalize (q:Int) * (Y:Int) = M;omega
theorem apY {part whole n rest:Nat} (h:n * whole+rest = 100 * part) (hr:rest < whole):n = 100 * part / whole:=by
 have:100 * part / whole = n:=by rw [Nat.div_eq_iff O];omega
 exact this.symm
end Go.Proofs.YtjahcnjmjahbaaaGreat
