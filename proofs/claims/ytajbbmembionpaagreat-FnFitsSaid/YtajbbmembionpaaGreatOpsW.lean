/- SetWeights, of the program and of the reference. No condition. -/
import Derived.Test.YtajbbmembionpaaGreatBest
namespace Go.Proofs.YtajbbmembionpaaGreat
open Go.ChangeShapes Go.WideShapes Go.ChangeAt Go.RowKit
set_option linter.unusedVariables false
set_option linter.unusedSimpArgs false
set_option maxHeartbeats 8000000
set_option maxRecDepth 100000
def ij (x:aU) (u:rZ):aU × Int:=if iI x = true∧zL u.pack u.af u.an = true then (⟨x.V,x.O,x.next,u⟩,0) else (x,1)
theorem am.ag1 {w:World} {B:Nat} {x:aU} {Ah Ap:Option Addr} {nh ch np cp:Nat} {n p q f:Int} {G:List Nat} (h:am w B x [.slice Ah nh ch,.slice Ap np cp,.int .i64 n,.int .i64 p,.int .i64 q,.int .i64 f] G) (u:rZ) (Z:bt u.pack) (h2:bt u.af) (h3:bt u.an) :
 am w B (⟨x.V,x.O,x.next,u⟩:aU) [.slice Ah nh ch,.slice Ap np cp,.int .i64 n,.int .i64 u.pack,.int .i64 u.af,.int .i64 u.an] G:=by
 obtain ⟨⟨c1,c2,F1,F2,e1,e2,hh,d1,d2,G1,G2,e3,e4,hp,g1,g2,H1,H2,e5,e6,⟨e7,e8,X⟩,ik⟩,hnd,U,gP⟩:=h;obtain ⟨A,c,rfl,_⟩:=jB hh;obtain ⟨A2,c2',rfl,_⟩:=jB hp;subst e7 e5 e3;simp only [List.cons_append,List.nil_append,List.cons.injEq] at e1;obtain ⟨ea,eb,ec,_⟩:=e1;refine ⟨⟨_,[.slice Ap np cp,.int .i64 n,.int .i64 u.pack,.int .i64 u.af,.int .i64 u.an],F1,F2,(by rw [ea];rfl),e2,hh,_,[.int .i64 n,.int .i64 u.pack,.int .i64 u.af,.int .i64 u.an],G1,G2,(by rw [eb];rfl),e4,hp,_,[.int .i64 u.pack,.int .i64 u.af,.int .i64 u.an],H1,H2,(by rw [ec];rfl),e6,⟨rfl,e8,X⟩,?_⟩,hnd,U,gP⟩;obtain ⟨rfl,hF,_⟩:=mg ik;rw [hF];exact Zj w u Z h2 h3
theorem aeu (x:aU) (cs:List Value) (F:List Nat) (u:rZ) (us:List Value) (Fu:List Nat) (w:World) (h:rd w x cs F) (h':rd w u us Fu) (hw:(x.wt:Int)≤1048576) :
 Calls Tryz.prog 109 #[.agg cs.toArray,.agg us.toArray] w fun e w'=>∃ds G,e = .returned (.tuple #[.agg ds.toArray,.int .i64 (ij x u).2])∧am w' w.heap.size (ij x u).1 ds G∧Below w.heap.size w w':=by
 have HW:=I hw;clear hw;have hr:=h;have dd:=h';obtain ⟨bG,bD,fQ,dn,bW,jg,aD,qp,bQ,dM,hnext,aV,aP,aW⟩:=aO hr;subst aD;obtain ⟨aD,hG0,Sr,Jm,Sv⟩:=mg dd;subst aD;clear qp hG0 hr dd;cases hc:iI x <;> cases ik:zL u.pack u.af u.an
 ·exact CR
 ·exact CR
 ·have HF:=I (show ij x u = (x,1) by unfold ij;rw [hc,ik];simp);have HC:=I hc;have Du:=I ik;clear hc ik;go_enter Tryz.func109,Tryz.ntmps109;go_wp2_with fail
  refine (BO x _ _ _ (aZ h b9) HW.out).mono ?_;rintro e w1 ⟨lj,G1,rfl,jX,bp⟩;have cP:=jX.rd;obtain ⟨dG,bV,xq,dS,dJ,Bz,aD,hG1,oO,tq,wI,iV,gI,iW⟩:=aO cP;subst aD;clear hG1 cP;obtain ⟨dP,eT⟩:=ay bp;have VQ:w.heap.size < w1.heap.size:=sq bp.size;have lN:w.heap.size+1 < w1.heap.size:=sq bp.size;have Rb:w.heap.size+1+1 < w1.heap.size:=sq bp.size;have fs:=jX.lt;go_wp2_with fail
  refine (qM x _ _ _ (aZ h b9) HW.out).mono ?_;rw [HC.out];rintro e w2 ⟨rfl,aq⟩;obtain ⟨cj,cN⟩:=ay aq;have VR:w.heap.size < w2.heap.size:=sq aq.size;have lO:w.heap.size+1 < w2.heap.size:=sq aq.size;have Rc:w.heap.size+1+1 < w2.heap.size:=sq aq.size;have VT:w1.heap.size < w2.heap.size:=sq aq.size;go_wp2_with fail
  refine (pW u.pack u.af u.an _).mono ?_;rw [Du.out];rintro e w3 ⟨rfl,bd⟩;obtain ⟨dx,hf3⟩:=ay bd;have Hx:w.heap.size < w3.heap.size:=sq bd.size;have qL:w.heap.size+1 < w3.heap.size:=sq bd.size;have OY:w.heap.size+1+1 < w3.heap.size:=sq bd.size;have Hy:w1.heap.size < w3.heap.size:=sq bd.size;have bM:am w3 (w.heap.size+1+1+1) x [.slice dG x.V.length bV,.slice dS x.O.length dJ,.int .i64 x.next,.int .i64 x.weights.pack,.int .i64 x.weights.af,.int .i64 x.weights.an] G1:=(((jX.mono S').alloc _).ext aq).ext bd;exact CS
 ·have HF:=I (show ij x u = (⟨x.V,x.O,x.next,u⟩,0) by unfold ij;rw [hc,ik];simp);have HC:=I hc;have Du:=I ik;clear hc ik;go_enter Tryz.func109,Tryz.ntmps109;go_wp2_with fail
  refine (BO x _ _ _ (aZ h b9) HW.out).mono ?_;rintro e w1 ⟨lj,G1,rfl,jX,bp⟩;have cP:=jX.rd;obtain ⟨dG,bV,xq,dS,dJ,Bz,aD,hG1,oO,tq,wI,iV,gI,iW⟩:=aO cP;subst aD;clear hG1 cP;obtain ⟨dP,eT⟩:=ay bp;have VQ:w.heap.size < w1.heap.size:=sq bp.size;have lN:w.heap.size+1 < w1.heap.size:=sq bp.size;have Rb:w.heap.size+1+1 < w1.heap.size:=sq bp.size;have fs:=jX.lt;go_wp2_with fail
  refine (qM x _ _ _ (aZ h b9) HW.out).mono ?_;rw [HC.out];rintro e w2 ⟨rfl,aq⟩;obtain ⟨cj,cN⟩:=ay aq;have VR:w.heap.size < w2.heap.size:=sq aq.size;have lO:w.heap.size+1 < w2.heap.size:=sq aq.size;have Rc:w.heap.size+1+1 < w2.heap.size:=sq aq.size;have VT:w1.heap.size < w2.heap.size:=sq aq.size;go_wp2_with fail
  refine (pW u.pack u.af u.an _).mono ?_;rw [Du.out];rintro e w3 ⟨rfl,bd⟩;obtain ⟨dx,hf3⟩:=ay bd;have Hx:w.heap.size < w3.heap.size:=sq bd.size;have qL:w.heap.size+1 < w3.heap.size:=sq bd.size;have OY:w.heap.size+1+1 < w3.heap.size:=sq bd.size;have Hy:w1.heap.size < w3.heap.size:=sq bd.size;have bM:am w3 (w.heap.size+1+1+1) x [.slice dG x.V.length bV,.slice dS x.O.length dJ,.int .i64 x.next,.int .i64 x.weights.pack,.int .i64 x.weights.af,.int .i64 x.weights.an] G1:=(((jX.mono S').alloc _).ext aq).ext bd;have RZ:=I bM;clear jX bM h h';go_wp2_with fail
  try dsimp only
  iterate 60 (first | go_step | skip)
  refine bodyPost_ret (v:=.tuple #[.agg #[.slice dG x.V.length bV,.slice dS x.O.length dJ,.int .i64 x.next,.int .i64 u.pack,.int .i64 u.af,.int .i64 u.an],.int .i64 0]) (by simp [results,Tryz.results109,go_sem, *]) rfl ?_;rw [HF.out]
  first
   | refine ⟨[.slice dG x.V.length bV,.slice dS x.O.length dJ,.int .i64 x.next,.int .i64 u.pack,.int .i64 u.af,.int .i64 u.an],G1,rfl,?_,?_⟩
   | refine ⟨[.slice dG x.V.length bV,.slice dS x.O.length dJ,.int .i64 x.next,.int .i64 u.pack,.int .i64 u.af,.int .i64 u.an],rfl,⟨G1,?_⟩,?_⟩
  ·try dsimp only
   refine am.mono (B:=w.heap.size+1+1+1) ?_ J;exact (by repeat (first | with_reducible exact (RZ.out.ag1 u Sr Jm Sv) | with_reducible refine am.setCell ?_ bC _ | with_reducible refine OC ?_ (fun y hy=>fs y hy)))
  ·exact pD
theorem am.vl {α β:Type} [bb α] [bb β] {w:World} {B:Nat} {x:α} {y:β} {c1 c2:List Value} {F1 F2:List Nat} (Z:am w B x c1 F1) (h2:am w B y c2 F2) (hd:∀b∈F1,b∉F2):am w B (x,y) (c1++c2) (F1++F2):=by
 exact xr
theorem am.UJ {w:World} {B:Nat} {x:aU} {Ah Ap:Option Addr} {nh ch np cp:Nat} {n p q f:Int} {G:List Nat} (h:am w B x [.slice Ah nh ch,.slice Ap np cp,.int .i64 n,.int .i64 p,.int .i64 q,.int .i64 f] G) :
 ∃Gh Gp,am w B x.V [.slice Ah nh ch] Gh∧am w B x.O [.slice Ap np cp] Gp∧(∀y∈Gh,y∉Gp)∧(∀y∈Gh,y∈G)∧(∀y∈Gp,y∈G):=by
 obtain ⟨⟨c1,c2,F1,F2,e1,rfl,hh,d1,d2,G1,G2,e3,rfl,hp,g1,g2,H1,H2,e5,e6,⟨e7,e8,X⟩,ik⟩,hnd,U,gP⟩:=h;obtain ⟨A,c,rfl,_⟩:=jB hh;obtain ⟨A2,c2',rfl,_⟩:=jB hp;subst e7 e5 e3;simp only [List.cons_append,List.nil_append,List.cons.injEq] at e1;obtain ⟨ea,eb,_⟩:=e1;rw [List.nodup_append,List.nodup_append] at hnd;refine ⟨F1,G1,⟨by rw [ea];exact hh,hnd.1,fun y hy=>U y (by simp [hy]),fun y hy=>gP y (by simp [hy])⟩,⟨by rw [eb];exact hp,hnd.2.1.1,fun y hy=>U y (by simp [hy]),fun y hy=>gP y (by simp [hy])⟩,fun y hy ly=>hnd.2.2 y hy y (by simp [ly]) rfl,fun y hy=>by simp [hy],fun y hy=>by simp [hy]⟩
theorem am.UK {w:World} {B:Nat} {H:List aR} {Q:List ag} {Ah Ap:Option Addr} {nh ch np cp:Nat} {n p q f:Int} {Gh Gp:List Nat} (h:am w B H [.slice Ah nh ch] Gh) (k:am w B Q [.slice Ap np cp] Gp) (hd:∀y∈Gh,y∉Gp) (X:bt n) (hp:bt p) (hq:bt q) (hf:bt f) :
 am w B (⟨H,Q,n,⟨p,q,f⟩⟩:aU) [.slice Ah nh ch,.slice Ap np cp,.int .i64 n,.int .i64 p,.int .i64 q,.int .i64 f] (Gh++Gp):=by
 refine am.up (B':=B) (fun x:aU=>(x.V,x.O,x.next,x.weights)) ?_ (Nat.le_refl _);have h5:am w B (⟨p,q,f⟩:rZ) ([.int .i64 p]++([.int .i64 q]++[.int .i64 f])) []:=by exact xF
 have h6:=am.cons (jL w n X) h5;have h7:=am.vl h (am.vl k h6 (fun b _ U=>by cases U)) (fun b U eo=>hd b U (by simpa using eo));simpa using h7
theorem am.i' {w:World} {B:Nat} {p:ag} {ck:List Value} {F:List Nat} (h:am w B p ck F) (s:ByteArray) (hs:s.size≤maxLen):am w B (⟨p.aS,s,p.seq⟩:ag) (ck.set 7 (.string s)) F:=by
 obtain ⟨⟨c1,c2,F1,F2,rfl,rfl,QS,c3,c4,F3,F4,rfl,rfl,⟨rfl,rfl,gO⟩,⟨rfl,rfl,Ue⟩⟩,hnd,U,gP⟩:=h;have hl:c1.length = 7:=bb.len QS;have e:(c1++([Value.string p.on]++[Value.int .i64 p.seq])).set 7 (.string s) = c1++([.string s]++[.int .i64 p.seq]):=by rw [List.set_append_right _ _ J,hl];rfl
 rw [e];exact ⟨⟨c1,_,F1,_,rfl,rfl,QS,_,_,_,_,rfl,rfl,⟨rfl,rfl,hs⟩,⟨rfl,rfl,Ue⟩⟩,hnd,U,gP⟩
def zl (x:aU) (k:Nat) (q:ag):aU × ByteArray × Int :=
 if q.on.size = 0 then (if vj x q.aS = true then (⟨x.V,x.O.set k ⟨q.aS,mW x q.aS,q.seq⟩,x.next,x.weights⟩,mW x q.aS,0) else (x,⟨#[]⟩,6)) else (x,⟨#[]⟩,5)
def ka (x:aU) (nm:ByteArray):aU × ByteArray × Int :=
 if iI x = true then (match x.O[(pK (CG nm) x.O).toNat]? with
   | some q=>if pK (CG nm) x.O < 0 then (x,⟨#[]⟩,3) else zl x (pK (CG nm) x.O).toNat q
   | none=>(x,⟨#[]⟩,3))
 else (x,⟨#[]⟩,1)
theorem azY {x:aU} {nm:ByteArray} (h:iI x = false):ka x nm = (x,⟨#[]⟩,1):=by unfold ka;rw [h];rfl
theorem UL {x:aU} {nm:ByteArray} (h:iI x = true) (X:pK (CG nm) x.O < 0):ka x nm = (x,⟨#[]⟩,3):=by
 unfold ka;rw [if_pos h];split
 ·exact if_pos X
 ·rfl
theorem UM {x:aU} {nm:ByteArray} {k:Nat} (h:iI x = true) (fc:pK (CG nm) x.O = k) (hk:k < x.O.length):ka x nm = zl x k x.O[k]:=by
 unfold ka;rw [if_pos h,fc,Int.toNat_natCast,List.getElem?_eq_getElem hk];exact if_neg J
theorem aCF (x:aU) (p:nI) (hw:(x.wt:Int)≤1048576):((mW x p).size:Int)≤1048576:=by
 unfold mW;cases h:Jh x p with
 | nil=>exact (by decide:((⟨#[]⟩:ByteArray).size:Int)≤1048576)
 | cons y l =>
   have hm:y∈Jh x p:=(by rw [h];simp);unfold Jh at hm;rcases OR _ _ hm with Z | Z
   ·cases Z
   ·unfold Ar at Z;obtain ⟨z,hz,rfl⟩:=List.mem_map.1 Z;have h2:=Bq (f:=aR.wt) (List.mem_filter.1 hz).1;have h3:aR.wt z = z.name.size+kL ao.wt z.labels+kL iU.wt z.aT:=rfl;have h4:x.wt = kL aR.wt x.V+kL ag.wt x.O:=rfl;show ((z.name).size:Int)≤_;omega
def tI (x:aU) (nm:ByteArray):Bool:=(ka x nm).2.2 == 0
def BX (x:aU):aU × ByteArray × ByteArray × Int :=
 if iI x = true then
   (match (GI x.O).find? (tI x) with
   | some nm=>((ka x nm).1,nm,(ka x nm).2.1,0)
   | none=>(x,⟨#[]⟩,⟨#[]⟩,if (GI x.O).length = 0 then 7 else 6))
 else (x,⟨#[]⟩,⟨#[]⟩,1)
theorem aJ4 {x:aU} (h:iI x = false):BX x = (x,⟨#[]⟩,⟨#[]⟩,1):=by unfold BX;rw [h];rfl
theorem aJi {x:aU} (hc:iI x = true) {k:Nat} (hk:k < (GI x.O).length) (U:∀j (hj:j < (GI x.O).length),j < k→tI x (GI x.O)[j] = false) (h:tI x (GI x.O)[k] = true):BX x = ((ka x (GI x.O)[k]).1,(GI x.O)[k],(ka x (GI x.O)[k]).2.1,0):=by
 have e:(GI x.O).find? (tI x) = some (GI x.O)[k]:=List.find?_eq_some_iff_getElem.2 ⟨h,k,hk,rfl,fun j hj=>by rw [U j J hj];rfl⟩;unfold BX;rw [if_pos hc,e]
theorem UR {x:aU} (hc:iI x = true) (U:∀j (hj:j < (GI x.O).length),tI x (GI x.O)[j] = false):BX x = (x,⟨#[]⟩,⟨#[]⟩,if (GI x.O).length = 0 then 7 else 6):=by
 have e:(GI x.O).find? (tI x) = none:=List.find?_eq_none.2 fun y hy=>by
  obtain ⟨j,hj,rfl⟩:=List.getElem_of_mem hy;rw [U j hj];simp
 unfold BX;rw [if_pos hc,e]
theorem azU {P:Program} {l:List Oper} {C:World→Prop} {Q:Exit→Act→World→Prop} {id:Nat} {a:Act} {w:World} (n:Nat) (hm:P.follows .mixedOrders = true) (X:l.toArray.size = n) (hw:C w.drew)
 (h:kI P l Q C n (Array.replicate n false) a w.drew):(Code.region id l.toArray true).wp P Q a w:=by
 subst X;exact wp_region_held_drew (S:=C) hm hw fun _=>h
theorem Bu {α:Type} [bb α] {w:World} {B c i:Nat} {u:Value} {x:α} {cs:List Value} {F:List Nat} (h:am w B x cs F) (hF:∀y∈F,y≠c):am (w.setCell ⟨c,i,none⟩ u) B x cs F :=
 h.bm (fun y hy=>Below.heap_setCell _ _ _ _ yd) ew
theorem zn {α:Type} [bb α] {w:World} {B c i:Nat} {u:Value} {x:α} {cs:List Value} {F:List Nat} (h:am w B x cs F) (hF:∀y∈F,y≠c):am (w.setCell ⟨c,i,none⟩ u) B x cs F :=
 h.bm (fun y hy=>Below.heap_setCell _ _ _ _ yd) ew
theorem LG (x:aU) (cs:List Value) (F:List Nat) (nm:ByteArray) (w:World) (h:rd w x cs F) (hw:(x.wt:Int)≤1048576) :
 Calls Tryz.prog 107 #[.agg cs.toArray,.string nm] w fun e w'=>∃ds G,e = .returned (.tuple #[.agg ds.toArray,.string (ka x nm).2.1,.int .i64 (ka x nm).2.2])∧am w' w.heap.size (ka x nm).1 ds G∧Below w.heap.size w w':=by
 have gv:x.wt = kL aR.wt x.V+kL ag.wt x.O:=rfl;have gP:(x.O.length:Int)≤1048576:=by have Z:=gJ ag.wt x.O;omega
 have Lh:=I (fun k (hk:k < x.O.length)=>(show (nI.wt x.O[k].aS:Int)≤1048576 by have:=rM (f:=ag.wt) hk;have e:ag.wt x.O[k] = nI.wt x.O[k].aS+x.O[k].on.size:=rfl;omega));have HW:=I hw;have Ji:=I gP;clear hw gv;have hr:=h;obtain ⟨bG,bD,fQ,dn,bW,jg,aD,qp,bQ,dM,hnext,aV,aP,aW⟩:=aO hr;subst aD;clear qp hr;have Bx:=Nc (p:=CG nm) x.O;obtain ⟨r,d'⟩:∃r,pK (CG nm) x.O = r:=⟨_,rfl⟩;have HR:=I d';rw [d'] at Bx;clear d';have KT:=(oG.new w [.slice bG x.V.length bD,.slice dn x.O.length bW,.int .i64 x.next,.int .i64 x.weights.pack,.int .i64 x.weights.af,.int .i64 x.weights.an] 29).ext (ak (aj _) (.cells ([.slice none 0 0,.slice none 0 0,.int .i64 0,.int .i64 0,.int .i64 0,.int .i64 0]:List Value).toArray 29));have KR:oG ((w.alloc (.cells ([.slice bG x.V.length bD,.slice dn x.O.length bW,.int .i64 x.next,.int .i64 x.weights.pack,.int .i64 x.weights.af,.int .i64 x.weights.an]:List Value).toArray 29)).alloc (.cells ([.slice none 0 0,.slice none 0 0,.int .i64 0,.int .i64 0,.int .i64 0,.int .i64 0]:List Value).toArray 29)) (w.heap.size+1) [.slice none 0 0,.slice none 0 0,.int .i64 0,.int .i64 0,.int .i64 0,.int .i64 0]:=by have:=oG.new (w.alloc (.cells ([.slice bG x.V.length bD,.slice dn x.O.length bW,.int .i64 x.next,.int .i64 x.weights.pack,.int .i64 x.weights.af,.int .i64 x.weights.an]:List Value).toArray 29)) [.slice none 0 0,.slice none 0 0,.int .i64 0,.int .i64 0,.int .i64 0,.int .i64 0] 29;rw [World.size_alloc] at this;exact this
 go_enter Tryz.func107,Tryz.ntmps107;go_wp2_with fail
 refine (BO x _ _ _ (aZ h (ak (ak (aj _) _) _)) HW.out).mono ?_;rintro e w1 ⟨lj,G1,rfl,hO,bp⟩;have cP:=hO.rd;obtain ⟨dG,bV,xq,dS,dJ,Bz,aD,hG1,oO,tq,wI,iV,gI,iW⟩:=aO cP;subst aD;clear hG1 cP;have HG1:=I (show ∀y∈G1,y < w1.heap.size from hO.lt);replace hO:=hO.mono (B':=w.heap.size+1+1) S';have hB:Below w.heap.size w w1:=ah (ak (ak (aj _) _) _) bp;have cq:w.heap.size+1 < w1.heap.size:=by have:=bp.size;simp at this;omega
 replace KT:=KT.ext bp;replace KR:=KR.ext bp;have KB:=oG.new w1 [.slice dG x.V.length bV,.slice dS x.O.length dJ,.int .i64 x.next,.int .i64 x.weights.pack,.int .i64 x.weights.af,.int .i64 x.weights.an] 29;have hA:Below w1.heap.size w1 (w1.alloc (.cells ([.slice dG x.V.length bV,.slice dS x.O.length dJ,.int .i64 x.next,.int .i64 x.weights.pack,.int .i64 x.weights.af,.int .i64 x.weights.an]:List Value).toArray 29)):=ak (aj _) _;have n':w1.heap.size < (w1.alloc (.cells ([.slice dG x.V.length bV,.slice dS x.O.length dJ,.int .i64 x.next,.int .i64 x.weights.pack,.int .i64 x.weights.af,.int .i64 x.weights.an]:List Value).toArray 29)).heap.size:=by rw [World.size_alloc];omega
 replace KT:=KT.ext hA;replace KR:=KR.ext hA;replace hO:=hO.ext hA;replace hB:=ah hB hA;clear hA bp;obtain ⟨t0,t1,t2,t3,t4,t5⟩:=dy KT;have tl:=KT.lt;go_wp2_with fail
 clear t0 t1 t2 t3 t4 t5 tl;have KO:=qM x _ _ _ (aZ h hB) HW.out;cases hc:iI x
 case' false =>
  rw [hc] at KO;have HF:=I (azY (nm:=nm) hc);clear hc;refine KO.mono ?_;rintro e w3 ⟨rfl,bd⟩;replace KT:=KT.ext bd;replace KB:=KB.ext bd;replace KR:=KR.ext bd;replace hO:=hO.ext bd;replace hB:=ah hB bd;replace n':=Nat.lt_of_lt_of_le n' (Below.size bd);clear KO bd;obtain ⟨m0,m1,m2,m3,m4,m5⟩:=dy KB;have ml:=KB.lt;obtain ⟨r0,r1,r2,r3,r4,r5⟩:=dy KR;have rf:=KR.fz;have rl:=KR.lt;have HO:=I hO;have HB:=I hB;clear hO hB KB KR KT;go_wp2_with fail
  try dsimp only
  iterate 60 (first | go_step | skip)
  refine bodyPost_ret (v:=.tuple #[.agg #[.slice dG x.V.length bV,.slice dS x.O.length dJ,.int .i64 x.next,.int .i64 x.weights.pack,.int .i64 x.weights.af,.int .i64 x.weights.an],.string ⟨#[]⟩,.int .i64 1]) (by simp [results,Tryz.results107,go_sem, *]) rfl ?_;exact sC
 rw [hc] at KO;have HC:=I hc;clear hc;refine KO.mono ?_;rintro e w3 ⟨rfl,bd⟩;replace KT:=KT.ext bd;replace KB:=KB.ext bd;replace KR:=KR.ext bd;replace hO:=hO.ext bd;replace hB:=ah hB bd;replace n':=Nat.lt_of_lt_of_le n' (Below.size bd);clear KO bd;obtain ⟨t0,t1,t2,t3,t4,t5⟩:=dy KT;have tl:=KT.lt;go_wp2_with fail
 clear t0 t1 t2 t3 t4 t5 tl;have KP:=xa x _ _ nm _ (aZ h hB) Ji.out;rw [HR.out] at KP;refine KP.mono ?_;clear KP;rintro e w2 ⟨rfl,aq⟩;replace KT:=KT.ext aq;replace KB:=KB.ext aq;replace KR:=KR.ext aq;replace hO:=hO.ext aq;replace hB:=ah hB aq;replace n':=Nat.lt_of_lt_of_le n' (Below.size aq);by_cases hng:r < 0
 case' pos =>
  have HF:=I (UL (nm:=nm) HC.out (by rw [HR.out];exact hng));obtain ⟨m0,m1,m2,m3,m4,m5⟩:=dy KB;have ml:=KB.lt;obtain ⟨r0,r1,r2,r3,r4,r5⟩:=dy KR;have rf:=KR.fz;have rl:=KR.lt;have HO:=I hO;have HB:=I hB;clear hO hB KB KR KT;go_wp2_with fail
  try dsimp only
  iterate 60 (first | go_step | skip)
  refine bodyPost_ret (v:=.tuple #[.agg #[.slice dG x.V.length bV,.slice dS x.O.length dJ,.int .i64 x.next,.int .i64 x.weights.pack,.int .i64 x.weights.af,.int .i64 x.weights.an],.string ⟨#[]⟩,.int .i64 3]) (by simp [results,Tryz.results107,go_sem, *]) rfl ?_;exact sC
 obtain ⟨k,fc⟩:∃k:Nat,r = k:=⟨r.toNat,J⟩;have hk:k < x.O.length:=by omega
 have HP:=I (UM (nm:=nm) HC.out (HR.out.trans fc) hk);subst fc;have hWK:=Lh.out k hk;obtain ⟨b,o,ck,Fk,hA,o9,hbs,hr,bA,hcc⟩:=Sl.get (α:=ag) dM hk;subst hA;have g0:=hr;obtain ⟨c1,c2,F1,F2,hce,_,QS,_,_,_,_,hce2,_,⟨hon0,_,gO⟩,⟨hsq0,_,Ue⟩⟩:=g0;have r7:=QS;obtain ⟨jM,jO,sN,aBv,aBw,aGy,aJD,aJE,aBx,hckp,hFp,zM,qY,Gt,Gw,hrank3,aGz,aBy⟩:=dL r7;subst hon0 hsq0 hce2 hckp hce;clear hFp r7 bA;have q0:w2.cell? ⟨b,o+k * 9,none⟩ = some (.string x.O[k].aS.name):=r' hB (by exact hcc 0 _ rfl) hbs;have q1:w2.cell? ⟨b,o+k * 9+1,none⟩ = some (.slice jM x.O[k].aS.labels.length jO):=r' hB (by rw [Nat.add_assoc];exact hcc 1 _ rfl) hbs;have q2:w2.cell? ⟨b,o+k * 9+2,none⟩ = some (.int .i64 x.O[k].aS.az):=r' hB (by rw [Nat.add_assoc];exact hcc 2 _ rfl) hbs;have q3:w2.cell? ⟨b,o+k * 9+3,none⟩ = some (.int .i64 x.O[k].aS.mem):=r' hB (by rw [Nat.add_assoc];exact hcc 3 _ rfl) hbs;have q4:w2.cell? ⟨b,o+k * 9+4,none⟩ = some (.int .i64 x.O[k].aS.aw):=r' hB (by rw [Nat.add_assoc];exact hcc 4 _ rfl) hbs;have q5:w2.cell? ⟨b,o+k * 9+5,none⟩ = some (.slice aBv x.O[k].aS.ai.length aBw):=r' hB (by rw [Nat.add_assoc];exact hcc 5 _ rfl) hbs;have q6:w2.cell? ⟨b,o+k * 9+6,none⟩ = some (.slice aJD x.O[k].aS.ae.length aJE):=r' hB (by rw [Nat.add_assoc];exact hcc 6 _ rfl) hbs;have q7:w2.cell? ⟨b,o+k * 9+7,none⟩ = some (.string x.O[k].on):=r' hB (by rw [Nat.add_assoc];exact hcc 7 _ rfl) hbs;have q8:w2.cell? ⟨b,o+k * 9+8,none⟩ = some (.int .i64 x.O[k].seq):=r' hB (by rw [Nat.add_assoc];exact hcc 8 _ rfl) hbs;have qb:=Nat.lt_of_lt_of_le hbs hB.size;obtain ⟨t0,t1,t2,t3,t4,t5⟩:=dy KT;have tl:=KT.lt;by_cases anH:0 < x.O[k].on.size
 case' pos =>
  have bX:=Y3 anH;have tg:(x.O[k].on.toList != []) = true:=by rw [bne,bX];rfl
  have HF:=I (HP.out.trans (show zl x k x.O[k] = (x,⟨#[]⟩,5) by unfold zl;exact if_neg J));clear anH;obtain ⟨m0,m1,m2,m3,m4,m5⟩:=dy KB;have ml:=KB.lt;obtain ⟨r0,r1,r2,r3,r4,r5⟩:=dy KR;have rf:=KR.fz;have rl:=KR.lt;have HO:=I hO;have HB:=I hB;clear hO hB KB KR KT;go_wp2_with fail
  try dsimp only
  iterate 60 (first | go_step | skip)
  refine bodyPost_ret (v:=.tuple #[.agg #[.slice dG x.V.length bV,.slice dS x.O.length dJ,.int .i64 x.next,.int .i64 x.weights.pack,.int .i64 x.weights.af,.int .i64 x.weights.an],.string ⟨#[]⟩,.int .i64 5]) (by simp [results,Tryz.results107,go_sem, *]) rfl ?_;exact sC
 have O8:x.O[k].on = ⟨#[]⟩:=Y4 J;have LH:=I (HP.out.trans (show zl x k x.O[k] = (if vj x x.O[k].aS = true then (⟨x.V,x.O.set k ⟨x.O[k].aS,mW x x.O[k].aS,x.O[k].seq⟩,x.next,x.weights⟩,mW x x.O[k].aS,0) else (x,⟨#[]⟩,6)) by unfold zl;exact if_pos (by rw [O8];rfl)));rw [O8] at q7;clear O8 anH;have hBS:=aCF x x.O[k].aS HW.out;go_wp2_with fail
 have O9:=I (fun wq (hq:Below w.heap.size w wq)=>ahX x x.O[k].aS _ _ _ _ wq (aZ h hq) (aZ QS hq) HW.out hWK);cases iP:vj x x.O[k].aS
 all_goals
  rw [iP] at O9 LH;clear iP;refine aF _ U' U' (aj _) ?_
  repeat (first
   | (apply aG
      case hw=>rfl
      simp only [Act.put,pz])
   | (apply aH
      case hw=>rfl
      case h =>
       intro wq hq;have dE:=(aB hq).1;have lJ:=(aB hq).2;go_simp
       first
        | exact ⟨hq,rfl⟩
        | exact ⟨aQ hq _,rfl⟩
        | (refine (O9.out _ (ah hB hq.out)).mono ?_;rintro e w8 ⟨rfl,gH⟩;exact ⟨rfl,aI hq gH⟩)
        | (simp only [↓IntWalk.iteOmega];exact ⟨hq,rfl⟩)
      simp only [Act.put,pz]))
  refine aN ?_;intro wn X;replace X:=X.out;replace KT:=KT.ext X;replace KB:=KB.ext X;replace KR:=KR.ext X;replace hO:=hO.ext X;replace hB:=ah hB X;replace n':=Nat.lt_of_lt_of_le n' (Below.size X);clear q0 q1 q2 q3 q4 q5 q6 q7 q8 qb t0 t1 t2 t3 t4 t5 tl
 ·have HF:=I (show ka x nm = (x,⟨#[]⟩,6) from LH.out.trans (if_neg S'));obtain ⟨m0,m1,m2,m3,m4,m5⟩:=dy KB;have ml:=KB.lt;obtain ⟨r0,r1,r2,r3,r4,r5⟩:=dy KR;have rf:=KR.fz;have rl:=KR.lt;have HO:=I hO;have HB:=I hB;clear hO hB KB KR KT;go_wp2_with fail
  try dsimp only
  iterate 60 (first | go_step | skip)
  refine bodyPost_ret (v:=.tuple #[.agg #[.slice dG x.V.length bV,.slice dS x.O.length dJ,.int .i64 x.next,.int .i64 x.weights.pack,.int .i64 x.weights.af,.int .i64 x.weights.an],.string ⟨#[]⟩,.int .i64 6]) (by simp [results,Tryz.results107,go_sem, *]) rfl ?_;exact sC
 ·have HF:=I (show ka x nm = (⟨x.V,x.O.set k ⟨x.O[k].aS,mW x x.O[k].aS,x.O[k].seq⟩,x.next,x.weights⟩,mW x x.O[k].aS,0) from LH.out.trans (if_pos rfl));clear LH O9;obtain ⟨s,hs⟩:∃s,mW x x.O[k].aS = s:=⟨_,rfl⟩;rw [hs] at HF hBS;try rw [hs]
  clear hs;have fs:∀y∈G1,y < w1.heap.size:=HG1.out;have db:=hO.base;obtain ⟨Gh,Gp,Xp,OL,hdis,o0,ju⟩:=hO.UJ;obtain ⟨b2,o2,ck2,Fk2,hA2,ayO,abT,mv,hE0,hE,hback⟩:=am.Bj OL hk;subst hA2;have fS:w.heap.size+1 < b2∧b2 < w1.heap.size:=⟨by have:=OL.base b2 ayO;omega,fs b2 (ju b2 ayO)⟩;obtain ⟨hgb1,zo⟩:=fS;have qN:=hE0.rd;have By:ck2.length = 9:=bb.len qN;obtain ⟨d1,d2,J1,J2,hde,_,hdp,_,_,_,_,hde2,_,⟨hdo0,_,_⟩,⟨hds0,_,_⟩⟩:=qN;have Pc:ck2[7]? = some (.string x.O[k].on):=by
   subst hde hde2 hdo0 hds0;have:d1.length = 7:=bb.len hdp;rw [List.getElem?_append_right J,this];rfl
  have e7:=hE.kv (j:=7) (q:=o2+k * 9+7) rfl (u:=.string x.O[k].on) Pc;have ef:=hE.plain.frozen;have el:=hE.plain.lt;have BA:=hE.set (j:=7) (q:=o2+k * 9+7) J rfl (.string s);have bM:=(hE0.i' s j4).bm (w':=World.setCell _ ⟨b2,o2+k * 9+7,none⟩ (.string s)) (fun y hy=>Below.heap_setCell _ _ _ _ (by dsimp only;rintro rfl;exact mv hy)) ew;have tJ:=hback _ _ _ bM BA;have tK:=zn (c:=b2) (i:=o2+k * 9+7) (u:=.string s) Xp (fun y hy e=>hdis y hy (by rw [e];exact ayO));have LI:=am.UK tK tJ hdis hnext aV aP aW;have Vc:=KB.bj (c:=b2) J (o2+k * 9+7) (.string s);have Vd:=KR.bj (c:=b2) J (o2+k * 9+7) (.string s);have eS:=aC hB (p:=⟨b2,o2+k * 9+7,none⟩) bC (.string s);have b1:=KB.cell (i:=1) (u:=.slice (some ⟨b2,o2,none⟩) x.O.length dJ) rfl;have bl:=KB.lt;clear KB KR hB hO Xp OL hE hE0 hback bM BA tJ tK hdp KT;have KB:=Vc;have KR:=Vd;have hB:=eS;have hO:=LI;have KT:=True.intro;obtain ⟨m0,m1,m2,m3,m4,m5⟩:=dy KB;have ml:=KB.lt;obtain ⟨r0,r1,r2,r3,r4,r5⟩:=dy KR;have rf:=KR.fz;have rl:=KR.lt;have HO:=I hO;have HB:=I hB;clear hO hB KB KR KT Vc Vd eS LI;go_wp2_with fail
  try dsimp only
  iterate 60 (first | go_step | skip)
  refine bodyPost_ret (v:=.tuple #[.agg #[.slice dG x.V.length bV,.slice (some ⟨b2,o2,none⟩) x.O.length dJ,.int .i64 x.next,.int .i64 x.weights.pack,.int .i64 x.weights.af,.int .i64 x.weights.an],.string s,.int .i64 0]) (by simp [results,Tryz.results107,go_sem, *]) rfl ?_;rw [HF.out]
  first
   | refine ⟨[.slice dG x.V.length bV,.slice (some ⟨b2,o2,none⟩) x.O.length dJ,.int .i64 x.next,.int .i64 x.weights.pack,.int .i64 x.weights.af,.int .i64 x.weights.an],Gh++Gp,rfl,?_,?_⟩
   | refine ⟨[.slice dG x.V.length bV,.slice (some ⟨b2,o2,none⟩) x.O.length dJ,.int .i64 x.next,.int .i64 x.weights.pack,.int .i64 x.weights.af,.int .i64 x.weights.an],rfl,⟨Gh++Gp,?_⟩,?_⟩
  ·try dsimp only
   refine am.mono (B:=w.heap.size+1+1) ?_ J;have hO:=HO.out;exact Rf
  ·have hB:=HB.out;exact Rg
end Go.Proofs.YtajbbmembionpaaGreat
