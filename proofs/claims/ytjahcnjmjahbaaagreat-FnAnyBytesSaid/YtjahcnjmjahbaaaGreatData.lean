/- The program's data, and how each reads. No condition. -/
import Derived.Test.YtjahcnjmjahbaaaGreatKit
namespace Go.Proofs.YtjahcnjmjahbaaaGreat
open Go.ChangeShapes Go.WideShapes Go.ChangeAt Go.RowKit
set_option linter.unusedVariables false
set_option linter.unusedSimpArgs false
theorem vO {w:World} {x:ao} {cs:List Value} {F:List Nat} (h:rd w x cs F):cs = [.string x.key,.string x.value]/\F = []/\x.key.size<=maxLen/\x.value.size<=maxLen:=by
 obtain ⟨_,_,_,_,rfl,rfl,⟨rfl,rfl,b9⟩,⟨rfl,rfl,kP⟩⟩:=h;exact ⟨rfl,S',b9,kP⟩
theorem WB (w:World) (x:ao) (b9:x.key.size<=maxLen) (kP:x.value.size<=maxLen):rd w x [.string x.key,.string x.value] []:=⟨_,_,_,_,rfl,rfl,⟨rfl,rfl,b9⟩,⟨rfl,rfl,kP⟩⟩
structure aE where
 key:ByteArray
 op:Int
 values:List ByteArray
instance:bd aE:=bd.pb λx=>(x.key,x.op,x.values)
theorem og {w:World} {x:aE} {cs:List Value} {F:List Nat} (h:rd w x cs F):∃(jy:Option Addr) (ji:Nat) (Bo:List Nat),cs = [.string x.key,.int .i64 x.op,.slice jy x.values.length ji]/\F = Bo/\x.key.size<=maxLen/\aR x.op/\Sl w x.values jy ji Bo:=by
 obtain ⟨_,_,_,_,rfl,rfl,⟨rfl,rfl,b9⟩,_,_,_,_,rfl,rfl,⟨rfl,rfl,hop⟩,kV⟩:=h;obtain ⟨jy,ji,rfl,kV⟩:=jB kV;exact ⟨jy,ji,_,rfl,S',b9,hop,kV⟩
structure iU where
 key:ByteArray
 value:ByteArray
 effect:Int
instance:bd iU:=bd.pb λx=>(x.key,x.value,x.effect)
theorem oK {w:World} {x:iU} {cs:List Value} {F:List Nat} (h:rd w x cs F):cs = [.string x.key,.string x.value,.int .i64 x.effect]/\F = []/\x.key.size<=maxLen/\x.value.size<=maxLen/\aR x.effect:=by
 obtain ⟨_,_,_,_,rfl,rfl,⟨rfl,rfl,b9⟩,_,_,_,_,rfl,rfl,⟨rfl,rfl,kP⟩,⟨rfl,rfl,lD⟩⟩:=h;exact ⟨rfl,S',b9,kP,lD⟩
theorem Q8 (w:World) (x:iU) (b9:x.key.size<=maxLen) (kP:x.value.size<=maxLen) (lD:aR x.effect):rd w x [.string x.key,.string x.value,.int .i64 x.effect] []:=⟨_,_,_,_,rfl,rfl,⟨rfl,rfl,b9⟩,_,_,_,_,rfl,rfl,⟨rfl,rfl,kP⟩,⟨rfl,rfl,lD⟩⟩
structure bH where
 key:ByteArray
 equal:Bool
 value:ByteArray
 effect:Int
instance:bd bH:=bd.pb λx=>(x.key,x.equal,x.value,x.effect)
theorem jv {w:World} {x:bH} {cs:List Value} {F:List Nat} (h:rd w x cs F):cs = [.string x.key,.bool x.equal,.string x.value,.int .i64 x.effect]/\F = []/\x.key.size<=maxLen/\x.value.size<=maxLen/\aR x.effect:=by
 obtain ⟨_,_,_,_,rfl,rfl,⟨rfl,rfl,b9⟩,_,_,_,_,rfl,rfl,⟨rfl,rfl⟩,_,_,_,_,rfl,rfl,⟨rfl,rfl,kP⟩,⟨rfl,rfl,lD⟩⟩:=h;exact ⟨rfl,S',b9,kP,lD⟩
theorem Ov (w:World) (x:bH) (b9:x.key.size<=maxLen) (kP:x.value.size<=maxLen) (lD:aR x.effect):rd w x [.string x.key,.bool x.equal,.string x.value,.int .i64 x.effect] []:=⟨_,_,_,_,rfl,rfl,⟨rfl,rfl,b9⟩,_,_,_,_,rfl,rfl,⟨rfl,rfl⟩,_,_,_,_,rfl,rfl,⟨rfl,rfl,kP⟩,⟨rfl,rfl,lD⟩⟩
structure nI where
 name:ByteArray
 labels:List ao
 aw:Int
 mem:Int
 av:Int
 af:List aE
 ae:List bH
instance:bd nI:=bd.pb λx=>(x.name,x.labels,x.aw,x.mem,x.av,x.af,x.ae)
theorem dL {w:World} {x:nI} {cs:List Value} {F:List Nat} (h:rd w x cs F):∃(gu:Option Addr) (gy:Nat) (jw:List Nat) (oh:Option Addr) (nT:Nat) (wG:List Nat) (fA:Option Addr) (fB:Nat) (jY:List Nat),cs = [.string x.name,.slice gu x.labels.length gy,.int .i64 x.aw,.int .i64 x.mem,.int .i64 x.av,.slice oh x.af.length nT,.slice fA x.ae.length fB]/\F = jw++(wG++(jY))/\x.name.size<=maxLen/\Sl w x.labels gu gy jw/\aR x.aw/\aR x.mem/\aR x.av/\Sl w x.af oh nT wG/\Sl w x.ae fA fB jY:=by
 obtain ⟨_,_,_,_,rfl,rfl,⟨rfl,rfl,hname⟩,_,_,_,_,rfl,rfl,dO,_,_,_,_,rfl,rfl,⟨rfl,rfl,vg⟩,_,_,_,_,rfl,rfl,⟨rfl,rfl,b8⟩,_,_,_,_,rfl,rfl,⟨rfl,rfl,BJ⟩,_,_,_,_,rfl,rfl,mX,eG⟩:=h;obtain ⟨gu,gy,rfl,dO⟩:=jB dO;obtain ⟨oh,nT,rfl,mX⟩:=jB mX;obtain ⟨fA,fB,rfl,eG⟩:=jB eG;exact ⟨gu,gy,_,oh,nT,_,fA,fB,_,rfl,S',hname,dO,vg,b8,BJ,mX,eG⟩
structure az where
 name:ByteArray
 labels:List ao
 aw:Int
 mem:Int
 slots:Int
 aT:List iU
instance:bd az:=bd.pb λx=>(x.name,x.labels,x.aw,x.mem,x.slots,x.aT)
theorem iy {w:World} {x:az} {cs:List Value} {F:List Nat} (h:rd w x cs F):∃(gu:Option Addr) (gy:Nat) (jw:List Nat) (kJ:Option Addr) (kK:Nat) (qU:List Nat),cs = [.string x.name,.slice gu x.labels.length gy,.int .i64 x.aw,.int .i64 x.mem,.int .i64 x.slots,.slice kJ x.aT.length kK]/\F = jw++(qU)/\x.name.size<=maxLen/\Sl w x.labels gu gy jw/\aR x.aw/\aR x.mem/\aR x.slots/\Sl w x.aT kJ kK qU:=by
 obtain ⟨_,_,_,_,rfl,rfl,⟨rfl,rfl,hname⟩,_,_,_,_,rfl,rfl,dO,_,_,_,_,rfl,rfl,⟨rfl,rfl,vg⟩,_,_,_,_,rfl,rfl,⟨rfl,rfl,b8⟩,_,_,_,_,rfl,rfl,⟨rfl,rfl,uI⟩,jq⟩:=h;obtain ⟨gu,gy,rfl,dO⟩:=jB dO;obtain ⟨kJ,kK,rfl,jq⟩:=jB jq;exact ⟨gu,gy,_,kJ,kK,_,rfl,S',hname,dO,vg,b8,uI,jq⟩
structure rZ where
 pack:Int
 spread:Int
 soft:Int
instance:bd rZ:=bd.pb λx=>(x.pack,x.spread,x.soft)
theorem mg {w:World} {x:rZ} {cs:List Value} {F:List Nat} (h:rd w x cs F):cs = [.int .i64 x.pack,.int .i64 x.spread,.int .i64 x.soft]/\F = []/\aR x.pack/\aR x.spread/\aR x.soft:=by
 obtain ⟨_,_,_,_,rfl,rfl,⟨rfl,rfl,WD⟩,_,_,_,_,rfl,rfl,⟨rfl,rfl,U0⟩,⟨rfl,rfl,WG⟩⟩:=h;exact ⟨rfl,S',WD,U0,WG⟩
theorem Zj (w:World) (x:rZ) (WD:aR x.pack) (U0:aR x.spread) (WG:aR x.soft):rd w x [.int .i64 x.pack,.int .i64 x.spread,.int .i64 x.soft] []:=⟨_,_,_,_,rfl,rfl,⟨rfl,rfl,WD⟩,_,_,_,_,rfl,rfl,⟨rfl,rfl,U0⟩,⟨rfl,rfl,WG⟩⟩
structure ag where
 aS:nI
 on:ByteArray
 seq:Int
instance:bd ag:=bd.pb λx=>(x.aS,x.on,x.seq)
theorem kE {w:World} {x:ag} {cs:List Value} {F:List Nat} (h:rd w x cs F):∃(gV:Option Addr) (gW:Nat) (lF:List Nat) (iR:Option Addr) (iT:Nat) (mV:List Nat) (dD:Option Addr) (dF:Nat) (iH:List Nat),cs = [.string x.aS.name,.slice gV x.aS.labels.length gW,.int .i64 x.aS.aw,.int .i64 x.aS.mem,.int .i64 x.aS.av,.slice iR x.aS.af.length iT,.slice dD x.aS.ae.length dF,.string x.on,.int .i64 x.seq]/\F = lF++(mV++(iH))/\x.aS.name.size<=maxLen/\Sl w x.aS.labels gV gW lF/\aR x.aS.aw/\aR x.aS.mem/\aR x.aS.av/\Sl w x.aS.af iR iT mV/\Sl w x.aS.ae dD dF iH/\x.on.size<=maxLen/\aR x.seq:=by
 obtain ⟨_,_,_,_,rfl,rfl,WT,_,_,_,_,rfl,rfl,⟨rfl,rfl,eI⟩,⟨rfl,rfl,hseq⟩⟩:=h;obtain ⟨gV,gW,lF,iR,iT,mV,dD,dF,iH,rfl,rfl,nY,iE,rF,rG,oZ,je,dN⟩:=dL WT;exact ⟨gV,gW,_,iR,iT,_,dD,dF,_,rfl,S',nY,iE,rF,rG,oZ,je,dN,eI,hseq⟩
structure aU where
 aa:List az
 O:List ag
 next:Int
 weights:rZ
instance:bd aU:=bd.pb λx=>(x.aa,x.O,x.next,x.weights)
theorem aO {w:World} {x:aU} {cs:List Value} {F:List Nat} (h:rd w x cs F):∃(bG:Option Addr) (bD:Nat) (fQ:List Nat) (dn:Option Addr) (bW:Nat) (jg:List Nat),cs = [.slice bG x.aa.length bD,.slice dn x.O.length bW,.int .i64 x.next,.int .i64 x.weights.pack,.int .i64 x.weights.spread,.int .i64 x.weights.soft]/\F = fQ++(jg)/\Sl w x.aa bG bD fQ/\Sl w x.O dn bW jg/\aR x.next/\aR x.weights.pack/\aR x.weights.spread/\aR x.weights.soft:=by
 obtain ⟨_,_,_,_,rfl,rfl,bQ,_,_,_,_,rfl,rfl,dM,_,_,_,_,rfl,rfl,⟨rfl,rfl,hnext⟩,xM⟩:=h;obtain ⟨bG,bD,rfl,bQ⟩:=jB bQ;obtain ⟨dn,bW,rfl,dM⟩:=jB dM;obtain ⟨rfl,rfl,aV,aP,aW⟩:=mg xM;exact ⟨bG,bD,_,dn,bW,_,rfl,S',bQ,dM,hnext,aV,aP,aW⟩
structure cg where
 kind:Int
 aS:nI
 bk:az
instance:bd cg:=bd.pb λx=>(x.kind,x.aS,x.bk)
theorem NS {w:World} {x:cg} {cs:List Value} {F:List Nat} (h:rd w x cs F):∃(gV:Option Addr) (gW:Nat) (lF:List Nat) (iR:Option Addr) (iT:Nat) (mV:List Nat) (dD:Option Addr) (dF:Nat) (iH:List Nat) (yx:Option Addr) (yA:Nat) (JV:List Nat) (yB:Option Addr) (yC:Nat) (JW:List Nat),cs = [.int .i64 x.kind,.string x.aS.name,.slice gV x.aS.labels.length gW,.int .i64 x.aS.aw,.int .i64 x.aS.mem,.int .i64 x.aS.av,.slice iR x.aS.af.length iT,.slice dD x.aS.ae.length dF,.string x.bk.name,.slice yx x.bk.labels.length yA,.int .i64 x.bk.aw,.int .i64 x.bk.mem,.int .i64 x.bk.slots,.slice yB x.bk.aT.length yC]/\F = lF++(mV++(iH++(JV++(JW))))/\aR x.kind/\x.aS.name.size<=maxLen/\Sl w x.aS.labels gV gW lF/\aR x.aS.aw/\aR x.aS.mem/\aR x.aS.av/\Sl w x.aS.af iR iT mV/\Sl w x.aS.ae dD dF iH/\x.bk.name.size<=maxLen/\Sl w x.bk.labels yx yA JV/\aR x.bk.aw/\aR x.bk.mem/\aR x.bk.slots/\Sl w x.bk.aT yB yC JW:=by
 obtain ⟨_,_,_,_,rfl,rfl,⟨rfl,rfl,hkind⟩,_,_,_,_,rfl,rfl,WT,afd⟩:=h;obtain ⟨gV,gW,lF,iR,iT,mV,dD,dF,iH,rfl,rfl,nY,iE,rF,rG,oZ,je,dN⟩:=dL WT;obtain ⟨yx,yA,JV,yB,yC,JW,rfl,rfl,JX,EZ,NT,NU,Hf,E5⟩:=iy afd;exact ⟨gV,gW,_,iR,iT,_,dD,dF,_,yx,yA,_,yB,yC,_,rfl,S',hkind,nY,iE,rF,rG,oZ,je,dN,JX,EZ,NT,NU,Hf,E5⟩
structure tV where
 code:Int
 at_:Int
 path:ByteArray
instance:bd tV:=bd.pb λx=>(x.code,x.at_,x.path)
structure DL (P:Program) (t e:TypeId) (z:Value) (size bytes:Nat):Prop where
 ht:P.underlying t = some (.slice e)
 aaP:(P.info? e).map (λi=>(i.zero,i.size,i.bytes)) = some (some z,size,bytes)
 kX:z.cells.size = size
 eJ:0 < size
theorem lS {B size:Nat} {w0 w w':World} {v:Value} {e:TypeId} {n:Nat} {xs:List Value} (ar:w.ownsRow B e size v n xs) (hg:w.grownBy w' v.ownBlock) (hb:Below B w0 w) (hB:B<=w.heap.size):Below B w0 w' :=
 hb.grown hg hB λk hk=>(ar.lt k hk).1
def B8 (u:UInt8):Value:=.int .u8 (u.toNat:Int)
theorem Xf {P:Program} {w:World} {src dst e:TypeId} {B:Nat} {v:Value} {n:Nat} {l:List UInt8} (hs:P.underlying src = some (.slice e)) (he:P.underlying e = some (.int .u8)) (hd:P.underlying dst = some .string)
 (ar:w.ownsRow B e 1 v n (l.map B8)):(convert src dst v).run P w = .ok (.string ⟨l.toArray⟩) w:=by
 rcases ar with ⟨hl,⟨rfl,hn⟩ | ⟨g,cap,bp,rfl,_,hh,eC,_,bS,ht⟩⟩
 ·have:l = []:=by simpa [hn] using hl
  subst this;rw [run_convert_bytes_string w src dst e none 0 0 hs he hd];simp [Conv.bytesToString];rfl
 ·have hn:n = l.length:=by simpa using hl.symm
  subst hn;have h0:w.ownsRow B e 1 (.slice (some ⟨g,0,none⟩) l.length cap) l.length (l.map B8):=⟨hl,.inr ⟨g,cap,bp,rfl,Y',hh,eC,Y',bS,ht⟩⟩;exact run_convert_bytes_back w src dst e ⟨g,0,none⟩ cap l hs he hd λj hj=>h0.cells (g:=g) rfl j _ (by rw [List.getElem?_map,List.getElem?_eq_getElem hj];rfl)
section
variable {P:Program} {t e:TypeId} {z:Value} {size bytes:Nat}
theorem lC (hE:DL P t e z size bytes) {ops:Array Oper} {rest:List Oper} {o:Oper} {a:Act} {Q:Exit->Act->World->Prop} (vf:o.guard = none) (s x:Operand)
 (ho:o.op = .call { callee:=.builtin .append,args:=#[s,x],argTypes:=#[t,t] })
 (w:World) (base:Nat) (v:Value) (n:Nat) (xs:List Value) (ar:w.ownsRow base e size v n xs) (hs:a.eval s = v)
 (cs:List Value) (hx:a.eval x = .slice (some ⟨w.heap.size,0,none⟩) 1 1) (hl:cs.length = size) (h1:∀u∈cs,u.oneCell' = true)
 (hn:n<=2097152) (mS:bytes<=4096) (dl:base<=w.heap.size)
 (h:∀v' w',w'.ownsRow base e size v' (n+1) (xs++cs)->w.grownBy w' v.ownBlock->w.heap.size+1<=w'.heap.size->wpList P ops Q rest (a.put o.dst v') w'):wpList P ops Q (o :: rest) a (w.alloc (.cells cs.toArray e)):=by
 obtain ⟨ht,hi0,kX,eJ⟩:=hE;obtain ⟨i,hi,hz,hsize,hb⟩:=info_parts hi0;have ot:(n+1) * bytes<=2097153 * 4096:=Nat.mul_le_mul J mS;refine wpList_append_own (w.alloc (.cells cs.toArray e)) vf s x t ho base e i z size bytes ht hi hz hsize hb kX eJ v n xs hs (ar.alloc _) ⟨w.heap.size,0,none⟩ 1 1 cs hx J ?_ h1 jp J (by simp;omega) ?_
 ·exact sr
 ·exact MM
end
def eD (w:World) (g:Nat) (t:TypeId) (N:Nat) (ds:List Value):Prop:=∃cs:Array Value,w.heap[g]? = some (.cells cs t (0,0))/\cs.size = N/\ds.length<=N/\∀(j:Nat) (u:Value),ds[j]? = some u->cs[j]? = some u
section
variable {w w':World} {g:Nat} {t:TypeId} {N:Nat} {ds:List Value}
theorem eD.lt (h:eD w g t N ds):g < w.heap.size:=by
 obtain ⟨cs,h,_⟩:=h;rcases Nat.lt_or_ge g w.heap.size with am | iN
 ·exact am
 ·rw [Array.getElem?_eq_none iN] at h;cases h
theorem eD.cell (h:eD w g t N ds) {i:Nat} (hi:i < N):∃u,w.cell? ⟨g,i,none⟩ = some u:=by
 obtain ⟨cs,h,rfl,_⟩:=h;exact ⟨cs[i],by rw [cell_of_row w g i cs t (0,0) h];exact Array.getElem?_eq_getElem hi⟩
theorem eD.frozen (h:eD w g t N ds) (i:Nat):w.frozen? ⟨g,i,none⟩ = false:=by
 obtain ⟨cs,h,_⟩:=h;simp [World.frozen?,h]
theorem eD.keep (h:eD w g t N ds) (hk:w'.heap[g]? = w.heap[g]?):eD w' g t N ds:=by
 obtain ⟨cs,h,r⟩:=h;exact ⟨cs,by rw [hk];exact h,r⟩
theorem eD.store (h:eD w g t N ds) (u:Value) (hi:ds.length < N):eD (w.setCell ⟨g,ds.length,none⟩ u) g t N (ds++[u]):=by
 obtain ⟨cs,h,rfl,hl,hc⟩:=h;refine ⟨cs.setIfInBounds ds.length u,?_,S',by simp;omega,λj v hv=>?_⟩
 ·simp [World.setCell,Array.getElem?_modify,h]
 ·by_cases hj:j < ds.length
  ·rw [Array.getElem?_setIfInBounds_ne J];exact hc j v (by rwa [List.getElem?_append_left hj] at hv)
  ·have gp:j = ds.length:=by
    have:=(List.getElem?_eq_some_iff.1 hv).1;simp at this;omega
   subst gp;simp at hv;subst hv;rw [Array.getElem?_setIfInBounds_self_of_lt hi]
theorem eD.cells (h:eD w g t N ds):∀j u,ds[j]? = some u->w.cell? ⟨g,0+j,none⟩ = some u:=by
 obtain ⟨cs,h,_,_,hc⟩:=h;intro j u hu;rw [Nat.zero_add,cell_of_row w g j cs t (0,0) h];exact hc j u hu
end
structure ai {α:Type} [bd α] (w:World) (B:Nat) (x:α) (cs:List Value) (F:List Nat):Prop where
 rd:rd w x cs F
 nodup:F.Nodup
 base:∀b∈F,B<=b
 plain:∀b∈F,∃ds t,w.heap[b]? = some (.cells ds t (0,0))
section
variable {α:Type} [bd α] {w w':World} {B:Nat} {x:α} {cs:List Value} {F:List Nat}
theorem ai.lt (h:ai w B x cs F):∀b∈F,b < w.heap.size:=bd.lt h.rd
theorem ai.keep (h:ai w B x cs F) (hk:∀b∈F,w'.heap[b]? = w.heap[b]?) (hz:w.heap.size<=w'.heap.size):ai w' B x cs F :=
 ⟨bd.frame h.rd hk hz,h.nodup,h.base,λb hb=>by rw [hk b hb];exact h.plain b hb⟩
theorem ai.ext (h:ai w B x cs F) (hb:Below w.heap.size w w'):ai w' B x cs F:=h.keep (λb d8=>hb.block b (h.lt b d8)) hb.size
theorem ai.alloc (h:ai w B x cs F) (o:Obj):ai (w.alloc o) B x cs F:=h.ext (ak (aj _) o)
theorem ai.setCell (h:ai w B x cs F) {p:Addr} (hp:p.block < B) (u:Value):ai (w.setCell p u) B x cs F :=
 h.keep (λb hb=>Below.heap_setCell _ _ _ _ (by have:=h.base b hb;omega)) d9
theorem ai.flat (h:Go.Proofs.YtjahcnjmjahbaaaGreat.bd.rd w x cs []):ai w B x cs []:=⟨h,List.nodup_nil,(λb hb=>by cases hb),(λb hb=>by cases hb)⟩
theorem ai.mono (h:ai w B x cs F) {B':Nat} (hB:B'<=B):ai w B' x cs F:=⟨h.rd,h.nodup,λb hb=>Nat.le_trans hB (h.base b hb),h.plain⟩
end
structure aY {α:Type} [bd α] (w:World) (B:Nat) (xs:List α) (ds:List Value) (F:List Nat):Prop where
 rd:jo w xs ds F
 nodup:F.Nodup
 base:∀b∈F,B<=b
 plain:∀b∈F,∃ds t,w.heap[b]? = some (.cells ds t (0,0))
section
variable {α:Type} [bd α] {w w':World} {B:Nat} {xs:List α} {ds:List Value} {F:List Nat}
theorem aY.lt (h:aY w B xs ds F):∀b∈F,b < w.heap.size:=h.rd.lt
theorem aY.nil (w:World) (B:Nat):aY w B ([]:List α) [] []:=⟨⟨rfl,rfl⟩,List.nodup_nil,(λb hb=>by cases hb),(λb hb=>by cases hb)⟩
theorem aY.keep (h:aY w B xs ds F) (hk:∀b∈F,w'.heap[b]? = w.heap[b]?) (hz:w.heap.size<=w'.heap.size):aY w' B xs ds F :=
 ⟨h.rd.frame hk hz,h.nodup,h.base,λb hb=>by rw [hk b hb];exact h.plain b hb⟩
theorem aY.ext (h:aY w B xs ds F) (hb:Below w.heap.size w w'):aY w' B xs ds F:=h.keep (λb d8=>hb.block b (h.lt b d8)) hb.size
theorem aY.setCell (h:aY w B xs ds F) {p:Addr} (hp:p.block < B) (u:Value):aY (w.setCell p u) B xs ds F :=
 h.keep (λb hb=>Below.heap_setCell _ _ _ _ (by have:=h.base b hb;omega)) d9
theorem aY.push (h:aY w B xs ds F) {x:α} {cs:List Value} {G:List Nat} {B':Nat} (hx:ai w B' x cs G) (hB:B<=B') (hF:∀b∈F,b < B'):aY w B (xs++[x]) (ds++cs) (F++G):=by
 refine ⟨h.rd.append (.single hx.rd),?_,?_,?_⟩
 ·rw [List.nodup_append];exact ⟨h.nodup,hx.nodup,λa ha b hb=>by have:=hF a ha;have:=hx.base b hb;omega⟩
 ·intro b hb;rcases List.mem_append.1 hb with hb | hb
  ·exact h.base b hb
  ·exact Nat.le_trans hB (hx.base b hb)
 ·intro b hb;rcases List.mem_append.1 hb with hb | hb
  ·exact h.plain b hb
  ·exact hx.plain b hb
theorem ai.oJ {e:TypeId} {v:Value} (h0:w.ownsRow B e (bd.size α) v xs.length ds) (h:aY w B xs ds F) (bN:∀g,v.ownBlock = some g->g∉F):∃A c G,v = .slice A xs.length c/\ai w B xs [.slice A xs.length c] G:=by
 rcases h0 with ⟨hl,⟨rfl,hn⟩ | ⟨g,cap,bp,rfl,hb,hh,eC,hm,bS,ht⟩⟩
 ·obtain rfl:xs = []:=List.eq_nil_of_length_eq_zero hn;exact ⟨none,0,[],rfl,Sl.nil w none 0 (Nat.zero_le _),List.nodup_nil,(λb hb=>by cases hb),(λb hb=>by cases hb)⟩
 ·have hg:g < w.heap.size:=by
   exact Mn
  refine ⟨_,cap,g :: F,rfl,⟨_,cap,F,ds,rfl,eC,hm,h.rd,.inr ⟨g,0,rfl,rfl,hg,λj u hu=>?_⟩⟩,?_,?_,?_⟩
  ·exact L7
  ·rw [List.nodup_cons];exact ⟨bN g rfl,h.nodup⟩
  ·intro b d8;rcases List.mem_cons.1 d8 with rfl | d8
   ·exact hb
   ·exact h.base b d8
  ·exact Lv
end
end Go.Proofs.YtjahcnjmjahbaaaGreat
