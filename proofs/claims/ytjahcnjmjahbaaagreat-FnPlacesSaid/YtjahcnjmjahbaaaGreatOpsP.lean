/- DeletePod, of the program. No condition. -/
import Derived.Test.YtjahcnjmjahbaaaGreatCopyS
import Derived.Test.YtjahcnjmjahbaaaGreatClusterI
namespace Go.Proofs.YtjahcnjmjahbaaaGreat
open Go.ChangeShapes Go.WideShapes Go.ChangeAt Go.RowKit
set_option linter.unusedVariables false
set_option linter.unusedSimpArgs false
set_option maxHeartbeats 4000000
set_option maxRecDepth 100000
theorem am.join {α β:Type} [bk α] [bk β] {w:World} {B:Nat} {x:α} {y:β} {c1 c2:List Value} {F1 F2:List Nat} (h1:am w B x c1 F1) (h2:am w B y c2 F2) (hd:∀b∈F1,b∉F2):am w B (x,y) (c1++c2) (F1++F2):=by
 exact AS
theorem am.parts {w:World} {B:Nat} {x:aU} {Ah Ap:Option Addr} {nh ch np cp:Nat} {n p q f:Int} {G:List Nat} (h:am w B x [.slice Ah nh ch,.slice Ap np cp,.int .i64 n,.int .i64 p,.int .i64 q,.int .i64 f] G) :
 ∃Gh Gp,am w B x.aa [.slice Ah nh ch] Gh∧am w B x.J [.slice Ap np cp] Gp∧(∀y∈Gh,y∉Gp)∧(∀y∈Gh,y∈G)∧(∀y∈Gp,y∈G):=by
 obtain ⟨⟨c1,c2,F1,F2,e1,rfl,hh,d1,d2,G1,G2,e3,rfl,hp,g1,g2,H1,H2,e5,e6,⟨e7,e8,hn⟩,gn⟩,hnd,hb,fk⟩:=h;obtain ⟨A,c,rfl,_⟩:=jB hh;obtain ⟨A2,c2',rfl,_⟩:=jB hp;subst e7 e5 e3;simp only [List.cons_append,List.nil_append,List.cons.injEq] at e1;obtain ⟨ea,eb,_⟩:=e1;rw [List.nodup_append,List.nodup_append] at hnd;refine ⟨F1,G1,⟨by rw [ea];exact hh,hnd.1,fun y hy=>hb y (by simp [hy]),fun y hy=>fk y (by simp [hy])⟩,⟨by rw [eb];exact hp,hnd.2.1.1,fun y hy=>hb y (by simp [hy]),fun y hy=>fk y (by simp [hy])⟩,fun y hy l7=>hnd.2.2 y hy y (by simp [l7]) rfl,fun y hy=>by simp [hy],fun y hy=>by simp [hy]⟩
theorem am.whole {w:World} {B:Nat} {H:List ba} {Q:List ag} {Ah Ap:Option Addr} {nh ch np cp:Nat} {n p q f:Int} {Gh Gp:List Nat} (h:am w B H [.slice Ah nh ch] Gh) (k:am w B Q [.slice Ap np cp] Gp) (hd:∀y∈Gh,y∉Gp) (hn:bv n) (hp:bv p) (hq:bv q) (hf:bv f) :
 am w B (⟨H,Q,n,⟨p,q,f⟩⟩:aU) [.slice Ah nh ch,.slice Ap np cp,.int .i64 n,.int .i64 p,.int .i64 q,.int .i64 f] (Gh++Gp):=by
 refine am.up (B':=B) (fun x:aU=>(x.aa,x.J,x.next,x.weights)) ?_ (Nat.le_refl _);have h5:am w B (⟨p,q,f⟩:rZ) ([.int .i64 p]++([.int .i64 q]++[.int .i64 f])) []:=by exact Bi
 have h6:=am.cons (jL w n hn) h5;have h7:=am.join h (am.join k h6 (fun b _ hb=>by cases hb)) (fun b hb ei=>hd b hb (by simpa using ei));simpa using h7
def Ut (x:aU) (nm:ByteArray):aU × Int :=
 if iI x = true then (if pK (CG nm) x.J < 0 then (x,3) else (⟨x.aa,x.J.eraseIdx (pK (CG nm) x.J).toNat,x.next,x.weights⟩,0)) else (x,1)
def QW (nm:ByteArray) (p:ag):ag:=if p.on.toList == nm.toList then ⟨p.aS,⟨#[]⟩,p.seq⟩ else p
def VP (nm:ByteArray) (k:Nat) (xs:List ag):List ag:=(xs.take k).map (QW nm)++xs.drop k
theorem agW (nm:ByteArray) (k:Nat) (xs:List ag) (hk:k≤xs.length):(VP nm k xs).length = xs.length:=by unfold VP;rw [List.length_append,List.length_map,List.length_take,List.length_drop];omega
theorem ai0 (nm:ByteArray) (xs:List ag):VP nm 0 xs = xs:=by simp [VP]
theorem amE (nm:ByteArray) (xs:List ag):VP nm xs.length xs = xs.map (QW nm):=by simp [VP]
theorem agX {nm:ByteArray} {k:Nat} {xs:List ag} (hk:k < xs.length) (h:k < (VP nm k xs).length):(VP nm k xs)[k] = xs[k]:=by
 have h1:((xs.take k).map (QW nm)).length = k:=by rw [List.length_map,List.length_take];omega
 simp only [VP];rw [List.getElem_append_right O];simp [show min k xs.length = k from by omega]
theorem agY {nm:ByteArray} {k:Nat} {xs:List ag} (hk:k < xs.length):(VP nm k xs).set k (QW nm xs[k]) = VP nm (k+1) xs:=by
 have h1:((xs.take k).map (QW nm)).length = k:=by rw [List.length_map,List.length_take];omega
 unfold VP;rw [List.set_append_right _ _ O,h1,Nat.sub_self,← List.getElem_cons_drop hk,List.set_cons_zero,List.take_succ_eq_append_getElem hk,List.map_append];simp
theorem ai1 {nm:ByteArray} {k:Nat} {xs:List ag} (hk:k < xs.length) (h:QW nm xs[k] = xs[k]):VP nm (k+1) xs = VP nm k xs:=by
 rw [← agY hk,h];have h2:k < (VP nm k xs).length:=by rw [agW nm k xs O];exact hk
 rw [← agX (nm:=nm) hk h2,List.set_getElem_self]
theorem am.off {w:World} {B:Nat} {p:ag} {ck:List Value} {F:List Nat} (h:am w B p ck F):am w B (⟨p.aS,⟨#[]⟩,p.seq⟩:ag) (ck.set 7 (.string ⟨#[]⟩)) F:=by
 obtain ⟨⟨c1,c2,F1,F2,rfl,rfl,QS,c3,c4,F3,F4,rfl,rfl,⟨rfl,rfl,ed⟩,⟨rfl,rfl,Ue⟩⟩,hnd,hb,fk⟩:=h;have hl:c1.length = 7:=bk.len QS;have e:(c1++([Value.string p.on]++[Value.int .i64 p.seq])).set 7 (.string ⟨#[]⟩) = c1++([.string ⟨#[]⟩]++[.int .i64 p.seq]):=by rw [List.set_append_right _ _ O,hl];rfl
 rw [e];exact ⟨⟨c1,_,F1,_,rfl,rfl,QS,_,_,_,_,rfl,rfl,⟨rfl,rfl,(show (0:Nat)≤maxLen from Nat.zero_le _)⟩,⟨rfl,rfl,Ue⟩⟩,hnd,hb,fk⟩
theorem akU {α:Type} [bk α] {w:World} {B c i:Nat} {u:Value} {x:α} {cs:List Value} {F:List Nat} (h:am w B x cs F) (hF:∀y∈F,y≠c):am (w.setCell ⟨c,i,none⟩ u) B x cs F :=
 h.bJ (fun y hy=>Below.heap_setCell _ _ _ _ xP) fj
def Ko (x:aU) (nm:ByteArray):aU × Int :=
 if iI x = true then (if pK (iM nm) x.aa < 0 then (x,3) else (⟨x.aa.eraseIdx (pK (iM nm) x.aa).toNat,x.J.map (QW nm),x.next,x.weights⟩,0)) else (x,1)
def iS (x:aU) (u:rZ):aU × Int:=if iI x = true∧zL u.pack u.af u.al = true then (⟨x.aa,x.J,x.next,u⟩,0) else (x,1)
theorem am.ag1 {w:World} {B:Nat} {x:aU} {Ah Ap:Option Addr} {nh ch np cp:Nat} {n p q f:Int} {G:List Nat} (h:am w B x [.slice Ah nh ch,.slice Ap np cp,.int .i64 n,.int .i64 p,.int .i64 q,.int .i64 f] G) (u:rZ) (h1:bv u.pack) (h2:bv u.af) (h3:bv u.al) :
 am w B (⟨x.aa,x.J,x.next,u⟩:aU) [.slice Ah nh ch,.slice Ap np cp,.int .i64 n,.int .i64 u.pack,.int .i64 u.af,.int .i64 u.al] G:=by
 obtain ⟨⟨c1,c2,F1,F2,e1,e2,hh,d1,d2,G1,G2,e3,e4,hp,g1,g2,H1,H2,e5,e6,⟨e7,e8,hn⟩,gn⟩,hnd,hb,fk⟩:=h;obtain ⟨A,c,rfl,_⟩:=jB hh;obtain ⟨A2,c2',rfl,_⟩:=jB hp;subst e7 e5 e3;simp only [List.cons_append,List.nil_append,List.cons.injEq] at e1;obtain ⟨ea,eb,ec,_⟩:=e1;refine ⟨⟨_,[.slice Ap np cp,.int .i64 n,.int .i64 u.pack,.int .i64 u.af,.int .i64 u.al],F1,F2,(by rw [ea];rfl),e2,hh,_,[.int .i64 n,.int .i64 u.pack,.int .i64 u.af,.int .i64 u.al],G1,G2,(by rw [eb];rfl),e4,hp,_,[.int .i64 u.pack,.int .i64 u.af,.int .i64 u.al],H1,H2,(by rw [ec];rfl),e6,⟨rfl,e8,hn⟩,?_⟩,hnd,hb,fk⟩;obtain ⟨rfl,hF,_⟩:=mg gn;rw [hF];exact Zj w u h1 h2 h3
theorem aeu (x:aU) (cs:List Value) (F:List Nat) (u:rZ) (us:List Value) (Fu:List Nat) (w:World) (h:rd w x cs F) (h':rd w u us Fu) (hw:(x.wt:Int)≤1048576) :
 Calls Tryz.prog 112 #[.agg cs.toArray,.agg us.toArray] w fun e w'=>∃ds G,e = .returned (.tuple #[.agg ds.toArray,.int .i64 (iS x u).2])∧am w' w.heap.size (iS x u).1 ds G∧Below w.heap.size w w':=by
 have HW:=I hw;clear hw;have hr:=h;have cj:=h';obtain ⟨bG,bD,fQ,dn,bW,jg,ax,qp,bQ,dM,hnext,aV,aP,aW⟩:=aO hr;subst ax;obtain ⟨ax,hG0,Sr,Jm,Sv⟩:=mg cj;subst ax;clear qp hG0 hr cj;cases hc:iI x <;> cases gn:zL u.pack u.af u.al
 ·exact GO
 ·exact GO
 ·have HF:=I (show iS x u = (x,1) by unfold iS;rw [hc,gn];simp);have HC:=I hc;have Du:=I gn;clear hc gn;go_enter Tryz.func112,Tryz.ntmps112;go_wp2_with fail
  refine (BO x _ _ _ (aZ h cf) HW.out).mono ?_;rintro e w1 ⟨lw,G1,rfl,jX,bm⟩;have cT:=jX.rd;obtain ⟨dG,bV,xq,dS,dJ,Bz,ax,hG1,oO,tq,wI,iV,gI,iW⟩:=aO cT;subst ax;clear hG1 cT;obtain ⟨db,eB⟩:=ay bm;have VQ:w.heap.size < w1.heap.size:=sq bm.size;have mo:w.heap.size+1 < w1.heap.size:=sq bm.size;have Wt:w.heap.size+1+1 < w1.heap.size:=sq bm.size;have fh:=jX.lt;go_wp2_with fail
  refine (qM x _ _ _ (aZ h cf) HW.out).mono ?_;rw [HC.out];rintro e w2 ⟨rfl,ao⟩;obtain ⟨cb,cG⟩:=ay ao;have VR:w.heap.size < w2.heap.size:=sq ao.size;have mq:w.heap.size+1 < w2.heap.size:=sq ao.size;have Ww:w.heap.size+1+1 < w2.heap.size:=sq ao.size;have VT:w1.heap.size < w2.heap.size:=sq ao.size;go_wp2_with fail
  refine (pW u.pack u.af u.al _).mono ?_;rw [Du.out];rintro e w3 ⟨rfl,bd⟩;obtain ⟨cX,hf3⟩:=ay bd;have M':w.heap.size < w3.heap.size:=sq bd.size;have s9:w.heap.size+1 < w3.heap.size:=sq bd.size;have UB:w.heap.size+1+1 < w3.heap.size:=sq bd.size;have Nd:w1.heap.size < w3.heap.size:=sq bd.size;have bC:am w3 (w.heap.size+1+1+1) x [.slice dG x.aa.length bV,.slice dS x.J.length dJ,.int .i64 x.next,.int .i64 x.weights.pack,.int .i64 x.weights.af,.int .i64 x.weights.al] G1:=(((jX.mono S').alloc _).ext ao).ext bd;exact GP
 ·have HF:=I (show iS x u = (⟨x.aa,x.J,x.next,u⟩,0) by unfold iS;rw [hc,gn];simp);have HC:=I hc;have Du:=I gn;clear hc gn;go_enter Tryz.func112,Tryz.ntmps112;go_wp2_with fail
  refine (BO x _ _ _ (aZ h cf) HW.out).mono ?_;rintro e w1 ⟨lw,G1,rfl,jX,bm⟩;have cT:=jX.rd;obtain ⟨dG,bV,xq,dS,dJ,Bz,ax,hG1,oO,tq,wI,iV,gI,iW⟩:=aO cT;subst ax;clear hG1 cT;obtain ⟨db,eB⟩:=ay bm;have VQ:w.heap.size < w1.heap.size:=sq bm.size;have mo:w.heap.size+1 < w1.heap.size:=sq bm.size;have Wt:w.heap.size+1+1 < w1.heap.size:=sq bm.size;have fh:=jX.lt;go_wp2_with fail
  refine (qM x _ _ _ (aZ h cf) HW.out).mono ?_;rw [HC.out];rintro e w2 ⟨rfl,ao⟩;obtain ⟨cb,cG⟩:=ay ao;have VR:w.heap.size < w2.heap.size:=sq ao.size;have mq:w.heap.size+1 < w2.heap.size:=sq ao.size;have Ww:w.heap.size+1+1 < w2.heap.size:=sq ao.size;have VT:w1.heap.size < w2.heap.size:=sq ao.size;go_wp2_with fail
  refine (pW u.pack u.af u.al _).mono ?_;rw [Du.out];rintro e w3 ⟨rfl,bd⟩;obtain ⟨cX,hf3⟩:=ay bd;have M':w.heap.size < w3.heap.size:=sq bd.size;have s9:w.heap.size+1 < w3.heap.size:=sq bd.size;have UB:w.heap.size+1+1 < w3.heap.size:=sq bd.size;have Nd:w1.heap.size < w3.heap.size:=sq bd.size;have bC:am w3 (w.heap.size+1+1+1) x [.slice dG x.aa.length bV,.slice dS x.J.length dJ,.int .i64 x.next,.int .i64 x.weights.pack,.int .i64 x.weights.af,.int .i64 x.weights.al] G1:=(((jX.mono S').alloc _).ext ao).ext bd;have RZ:=I bC;clear jX bC h h';go_wp2_with fail
  try dsimp only
  iterate 60 (first | go_step | skip)
  refine bodyPost_ret (v:=.tuple #[.agg #[.slice dG x.aa.length bV,.slice dS x.J.length dJ,.int .i64 x.next,.int .i64 u.pack,.int .i64 u.af,.int .i64 u.al],.int .i64 0]) (by simp [results,Tryz.results112,go_sem, *]) rfl ?_;rw [HF.out]
  first
   | refine ⟨[.slice dG x.aa.length bV,.slice dS x.J.length dJ,.int .i64 x.next,.int .i64 u.pack,.int .i64 u.af,.int .i64 u.al],G1,rfl,?_,?_⟩
   | refine ⟨[.slice dG x.aa.length bV,.slice dS x.J.length dJ,.int .i64 x.next,.int .i64 u.pack,.int .i64 u.af,.int .i64 u.al],rfl,⟨G1,?_⟩,?_⟩
  ·try dsimp only
   refine am.mono (B:=w.heap.size+1+1+1) ?_ O;exact (by repeat (first | with_reducible exact (RZ.out.ag1 u Sr Jm Sv) | with_reducible refine am.setCell ?_ bM _ | with_reducible refine OC ?_ (fun y hy=>fh y hy)))
  ·exact rx
theorem RD {P:Program} {t e:TypeId} {z:Value} {size bytes:Nat} (hE:DL P t e z size bytes) {o:Oper} {a:Act} {K:Act→World→Prop} {Q:Exit→Act→World→Prop} (s x:Operand)
 (ho:o.op = .call { callee:=.builtin .append,args:=#[s,x],argTypes:=#[t,t] })
 (w:World) (base:Nat) (v:Value) (n:Nat) (xs:List Value) (aR:w.ownsRow base e size v n xs) (hs:a.eval s = v)
 (ad:Addr) (m c:Nat) (fT:List Value) (hx:a.eval x = .slice (some ad) m c) (hl:fT.length = m * size) (jS:∀j u,fT[j]? = some u→w.cell? (ad.add j) = some u) (h1:∀u∈fT,u.oneCell' = true)
 (hn:n+m≤2097152) (pn:bytes≤4096) (dh:base≤w.heap.size)
 (h:∀v' w',w'.ownsRow base e size v' (n+m) (xs++fT)→w.grownBy w' v.ownBlock→(v'.ownBlock = v.ownBlock∨v'.ownBlock = some w.heap.size)→K (a.put o.dst v') w'):o.wp P a w K Q:=by
 obtain ⟨ht,hi0,mS,gv⟩:=hE;obtain ⟨i,hi,hz,hsize,hb⟩:=info_parts hi0;have fR:(n+m) * bytes≤2097152 * 4096:=Nat.mul_le_mul hn pn;obtain ⟨v',w',hr,h2,h3,h4,h5⟩:=run_append_own_at (P:=P) w base t o.type e i z size bytes ht hi hz hsize hb mS gv v n xs aR ad m c fT hl jS h1 mK O dh;unfold Oper.wp execOp;simp only [ho,resolve,invoke,builtin,Sem.run_bind,Sem.run_pure,Result.andThen_ok,List.map_toArray,List.map_cons,List.map_nil,hs,hx,hr];exact h v' w' h2 h3 h5
theorem am.apw {α:Type} [bk α] {w:World} {B:Nat} {xs:List α} {ds:List Value} {F:List Nat} {e:TypeId} {v:Value} (h0:w.ownsRow B e (bk.size α) v xs.length ds) (h:aY w B xs ds F) (cA:∀g,v.ownBlock = some g→g∉F):∃A c G,v = .slice A xs.length c∧am w B xs [.slice A xs.length c] G∧∀y∈G,y∈F∨v.ownBlock = some y:=by
 exact Hs
theorem Dd {α:Type} [bk α] {w:World} {B c i:Nat} {u:Value} {x:α} {cs:List Value} {F:List Nat} (h:am w B x cs F) (hF:∀y∈F,y≠c):am (w.setCell ⟨c,i,none⟩ u) B x cs F :=
 h.bJ (fun y hy=>Below.heap_setCell _ _ _ _ xP) fj
theorem am.amG {α:Type} [bk α] {w:World} {B c:Nat} {xs:List α} {A:Option Addr} {F:List Nat} (h:am w B xs [.slice A xs.length c] F) {i:Nat} (hi:i < xs.length) :
 ∃b o ds G,A = some ⟨b,o,none⟩∧b∈F∧b < w.heap.size∧xs.length≤c∧c≤maxLen∧ds.length = xs.length * bk.size α∧(∀u∈ds,u.oneCell' = true)∧xV w b o ds ∧
  aY w B (xs.eraseIdx i) (ds.take (i * bk.size α)++ds.drop ((i+1) * bk.size α)) G∧(∀y∈G,y∈F):=by
 obtain ⟨⟨A',c',G,ds,e,db,cb,hc,h0⟩,hnd,dh,hplain⟩:=h;simp only [List.cons.injEq,Value.slice.injEq,and_true,true_and] at e;obtain ⟨rfl,rfl⟩:=e;rcases h0 with h0 | ⟨b,o,rfl,rfl,hb,cq⟩
 ·rw [h0.1] at hi;cases hi
 have nX:=hc.one;have b5:=hc.len;obtain ⟨d1,ck,d2,G1,Fk,G2,rfl,rfl,r1,r2,r3,xX⟩:=hc.split hi;have Md:=bk.len r2;have e1:(d1++(ck++d2)).take (i * bk.size α) = d1:=by rw [← xX,List.take_left]
 have e2:(d1++(ck++d2)).drop ((i+1) * bk.size α) = d2:=by rw [← List.append_assoc,show (i+1) * bk.size α = (d1++ck).length by rw [List.length_append,xX,Md,Nat.succ_mul],List.drop_left]
 simp only [List.nodup_cons,List.nodup_append,List.mem_append,not_or] at hnd;have hx:(xs.eraseIdx i) = xs.take i++xs.drop (i+1):=List.eraseIdx_eq_take_drop_succ ..;have br:∀y∈G1++G2,y∈b :: (G1++(Fk++G2)):=fun y hy=>by
  rcases List.mem_append.1 hy with hy | hy <;> simp [hy]
 refine ⟨b,o,_,G1++G2,rfl,List.mem_cons_self ..,hb,db,cb,b5,nX,cq,⟨?_,?_,fun y hy=>dh y (br y hy),fun y hy=>hplain y (br y hy)⟩,br⟩
 ·rw [hx,e1,e2];exact r1.append r3
 ·rw [List.nodup_append];exact ⟨hnd.2.1,hnd.2.2.1.2.1,fun x hx y hy=>hnd.2.2.2 x hx y (Or.inr hy)⟩
theorem afS (x:aU) (cs:List Value) (F:List Nat) (nm:ByteArray) (w:World) (h:rd w x cs F) (hw:(x.wt:Int)≤1048576) :
 Calls Tryz.prog 109 #[.agg cs.toArray,.string nm] w fun e w'=>∃ds G,e = .returned (.tuple #[.agg ds.toArray,.int .i64 (Ut x nm).2])∧am w' w.heap.size (Ut x nm).1 ds G∧Below w.heap.size w w':=by
 have fk:(x.J.length:Int)≤1048576:=by have h1:=gJ ag.wt x.J;have h2:x.wt = kL ba.wt x.aa+kL ag.wt x.J:=rfl;omega
 have HW:=I hw;have Ji:=I fk;clear hw;have hr:=h;obtain ⟨bG,bD,fQ,dn,bW,jg,ax,qp,bQ,dM,hnext,aV,aP,aW⟩:=aO hr;subst ax;clear qp hr;have yn:=Nc (p:=CG nm) x.J;cases hc:iI x
 ·have HF:=I (show Ut x nm = (x,1) by unfold Ut;rw [hc];simp);have HC:=I hc;clear hc;obtain ⟨r,cZ⟩:∃r,pK (CG nm) x.J = r:=⟨_,rfl⟩;have HI:=I cZ;clear cZ;go_enter Tryz.func109,Tryz.ntmps109;go_wp2_with fail
  refine (BO x _ _ _ (aZ h cf) HW.out).mono ?_;rintro e w1 ⟨lw,G1,rfl,jX,bm⟩;have cT:=jX.rd;obtain ⟨dG,bV,xq,dS,dJ,Bz,ax,hG1,oO,tq,wI,iV,gI,iW⟩:=aO cT;subst ax;clear hG1 cT;obtain ⟨db,eB⟩:=ay bm;have VQ:w.heap.size < w1.heap.size:=sq bm.size;have mo:w.heap.size+1 < w1.heap.size:=sq bm.size;have fh:=jX.lt;go_wp2_with fail
  refine (qM x _ _ _ (aZ h cf) HW.out).mono ?_;rw [HC.out];rintro e w2 ⟨rfl,ao⟩;obtain ⟨cb,cG⟩:=ay ao;have VR:w.heap.size < w2.heap.size:=sq ao.size;have mq:w.heap.size+1 < w2.heap.size:=sq ao.size;have VT:w1.heap.size < w2.heap.size:=sq ao.size;have bC:am w2 (w.heap.size+1+1) x [.slice dG x.aa.length bV,.slice dS x.J.length dJ,.int .i64 x.next,.int .i64 x.weights.pack,.int .i64 x.weights.af,.int .i64 x.weights.al] G1:=((jX.mono S').alloc _).ext ao;have RZ:=I bC;clear jX bC h;go_wp2_with fail
  try dsimp only
  iterate 60 (first | go_step | skip)
  refine bodyPost_ret (v:=.tuple #[.agg #[.slice dG x.aa.length bV,.slice dS x.J.length dJ,.int .i64 x.next,.int .i64 x.weights.pack,.int .i64 x.weights.af,.int .i64 x.weights.al],.int .i64 1]) (by simp [results,Tryz.results109,go_sem, *]) rfl ?_;exact va
 ·by_cases hng:pK (CG nm) x.J < 0
  ·have HF:=I (show Ut x nm = (x,3) by unfold Ut;rw [hc,if_pos rfl,if_pos hng]);have HC:=I hc;clear hc;obtain ⟨r,cZ⟩:∃r,pK (CG nm) x.J = r:=⟨_,rfl⟩;have HI:=I cZ;rw [cZ] at hng;clear cZ;go_enter Tryz.func109,Tryz.ntmps109;go_wp2_with fail
   refine (BO x _ _ _ (aZ h cf) HW.out).mono ?_;rintro e w1 ⟨lw,G1,rfl,jX,bm⟩;have cT:=jX.rd;obtain ⟨dG,bV,xq,dS,dJ,Bz,ax,hG1,oO,tq,wI,iV,gI,iW⟩:=aO cT;subst ax;clear hG1 cT;obtain ⟨db,eB⟩:=ay bm;have VQ:w.heap.size < w1.heap.size:=sq bm.size;have mo:w.heap.size+1 < w1.heap.size:=sq bm.size;have fh:=jX.lt;go_wp2_with fail
   refine (qM x _ _ _ (aZ h cf) HW.out).mono ?_;rw [HC.out];rintro e w2 ⟨rfl,ao⟩;obtain ⟨cb,cG⟩:=ay ao;have VR:w.heap.size < w2.heap.size:=sq ao.size;have mq:w.heap.size+1 < w2.heap.size:=sq ao.size;have VT:w1.heap.size < w2.heap.size:=sq ao.size;go_wp2_with fail
   refine (uN x _ _ nm _ (aZ h cf) Ji.out).mono ?_;rw [HI.out];rintro e w3 ⟨rfl,bd⟩;obtain ⟨cX,hf3⟩:=ay bd;have M':w.heap.size < w3.heap.size:=sq bd.size;have s9:w.heap.size+1 < w3.heap.size:=sq bd.size;have Nd:w1.heap.size < w3.heap.size:=sq bd.size;have bC:am w3 (w.heap.size+1+1) x [.slice dG x.aa.length bV,.slice dS x.J.length dJ,.int .i64 x.next,.int .i64 x.weights.pack,.int .i64 x.weights.af,.int .i64 x.weights.al] G1:=(((jX.mono S').alloc _).ext ao).ext bd;have RZ:=I bC;clear jX bC h;go_wp2_with fail
   try dsimp only
   iterate 60 (first | go_step | skip)
   refine bodyPost_ret (v:=.tuple #[.agg #[.slice dG x.aa.length bV,.slice dS x.J.length dJ,.int .i64 x.next,.int .i64 x.weights.pack,.int .i64 x.weights.af,.int .i64 x.weights.al],.int .i64 3]) (by simp [results,Tryz.results109,go_sem, *]) rfl ?_;exact va
  ·obtain ⟨k,fd⟩:∃k:Nat,pK (CG nm) x.J = k:=⟨(pK (CG nm) x.J).toNat,O⟩;have hk:k < x.J.length:=O;have HF:=I (show Ut x nm = (⟨x.aa,x.J.eraseIdx k,x.next,x.weights⟩,0) by unfold Ut;rw [hc,if_pos rfl,if_neg O,fd,Int.toNat_natCast]);have HC:=I hc;clear hc;have HI:=I fd;clear fd hng;go_enter Tryz.func109,Tryz.ntmps109;go_wp2_with fail
   refine (BO x _ _ _ (aZ h cf) HW.out).mono ?_;rintro e w1 ⟨lw,G1,rfl,jX,bm⟩;have cT:=jX.rd;obtain ⟨dG,bV,xq,dS,dJ,Bz,ax,hG1,oO,tq,wI,iV,gI,iW⟩:=aO cT;subst ax;clear hG1 cT;obtain ⟨db,eB⟩:=ay bm;have VQ:w.heap.size < w1.heap.size:=sq bm.size;have mo:w.heap.size+1 < w1.heap.size:=sq bm.size;have fh:=jX.lt;go_wp2_with fail
   refine (qM x _ _ _ (aZ h cf) HW.out).mono ?_;rw [HC.out];rintro e w2 ⟨rfl,ao⟩;obtain ⟨cb,cG⟩:=ay ao;have VR:w.heap.size < w2.heap.size:=sq ao.size;have mq:w.heap.size+1 < w2.heap.size:=sq ao.size;have VT:w1.heap.size < w2.heap.size:=sq ao.size;go_wp2_with fail
   refine (uN x _ _ nm _ (aZ h cf) Ji.out).mono ?_;rw [HI.out];rintro e w3 ⟨rfl,bd⟩;obtain ⟨cX,hf3⟩:=ay bd;have M':w.heap.size < w3.heap.size:=sq bd.size;have s9:w.heap.size+1 < w3.heap.size:=sq bd.size;have Nd:w1.heap.size < w3.heap.size:=sq bd.size;have bC:am w3 (w.heap.size+1+1) x [.slice dG x.aa.length bV,.slice dS x.J.length dJ,.int .i64 x.next,.int .i64 x.weights.pack,.int .i64 x.weights.af,.int .i64 x.weights.al] G1:=(((jX.mono S').alloc _).ext ao).ext bd;obtain ⟨Gh,Gp,Xp,OL,hdis,nQ,ke⟩:=bC.parts;obtain ⟨b,o,ds,G3,rfl,o9,hbs,nH,lL,gw,nX,cq,X5,hG3⟩:=OL.amG hk;have hS:bk.size ag = 9:=rfl;rw [hS] at gw X5;clear hS;have hg:∀y∈Gp,w.heap.size+1 < y∧y < w1.heap.size:=fun y hy=>⟨by have:=OL.base y hy;omega,fh y (ke y hy)⟩;have az:=hg b o9;have KB:oG w3 w1.heap.size [.slice dG x.aa.length bV,.slice (some ⟨b,o,none⟩) x.J.length dJ,.int .i64 x.next,.int .i64 x.weights.pack,.int .i64 x.weights.af,.int .i64 x.weights.al]:=(((oG.new w1 [.slice dG x.aa.length bV,.slice (some ⟨b,o,none⟩) x.J.length dJ,.int .i64 x.next,.int .i64 x.weights.pack,.int .i64 x.weights.af,.int .i64 x.weights.al] 29).ext ao).ext bd);have sw:oG ((w.alloc (.cells ([.slice bG x.aa.length bD,.slice dn x.J.length bW,.int .i64 x.next,.int .i64 x.weights.pack,.int .i64 x.weights.af,.int .i64 x.weights.al]:List Value).toArray 29)).alloc (.cells ([.slice none 0 0,.slice none 0 0,.int .i64 0,.int .i64 0,.int .i64 0,.int .i64 0]:List Value).toArray 29)) (w.heap.size+1) [.slice none 0 0,.slice none 0 0,.int .i64 0,.int .i64 0,.int .i64 0,.int .i64 0]:=(by have:=oG.new (w.alloc (.cells ([.slice bG x.aa.length bD,.slice dn x.J.length bW,.int .i64 x.next,.int .i64 x.weights.pack,.int .i64 x.weights.af,.int .i64 x.weights.al]:List Value).toArray 29)) [.slice none 0 0,.slice none 0 0,.int .i64 0,.int .i64 0,.int .i64 0,.int .i64 0] 29;rw [World.size_alloc] at this;exact this);have KR:oG w3 (w.heap.size+1) [.slice none 0 0,.slice none 0 0,.int .i64 0,.int .i64 0,.int .i64 0,.int .i64 0]:=((((sw.ext bm).ext (ak (aj _) _)).ext ao).ext bd);have dy:Below w.heap.size w w3:=cf;have o8:=I (show ∀y∈Gh++G3,y < w1.heap.size from fun y hy=>by rcases List.mem_append.1 hy with hy | hy;exact fh y (nQ y hy);exact fh y (ke y (hG3 y hy)));have De:=I (show ∀y∈Gh,y∉G3 from fun y hy l7=>hdis y hy (hG3 y l7));have fg:(ds.take (k * 9)).length = k * 9:=(by rw [List.length_take,gw];omega);have cC:(ds.drop ((k+1) * 9)).length = (x.J.length - (k+1)) * 9:=(by rw [List.length_drop,gw];omega);have Ql:(k:Int)+1≤x.J.length:=O;have MH:k≤dJ:=O;have Vf:k+1≤dJ:=O;obtain ⟨A0,hA0,de⟩:∃A0:Addr,(if dJ = k+1 then some (⟨b,o,none⟩:Addr) else some ⟨b,o+(k+1) * 9,none⟩) = some A0∧Hid (A0.block = b∧∀q u,(ds.drop ((k+1) * 9))[q]? = some u→w3.cell? (A0.add q) = some u):=by
    by_cases hc:dJ = k+1
    ·refine ⟨⟨b,o,none⟩,by simp [hc],rfl,fun q u hu=>?_⟩;have h0:(ds.drop ((k+1) * 9)).length = 0:=(by rw [cC];omega);exact pg
    ·refine ⟨⟨b,o+(k+1) * 9,none⟩,by simp [hc],rfl,fun q u hu=>?_⟩;rw [List.getElem?_drop] at hu;rw [Addr.add_lit,show o+(k+1) * 9+q = o+((k+1) * 9+q) by omega];exact cq _ u hu
   have mr:IntKind.i64.wrap ((k:Int)+1) = (k:Int)+1:=IntWalk.i64_in _ O;have mv:((k:Int)+1).toNat = k+1:=O;have x0:(fun w'=>w'.cell? ⟨w1.heap.size,1,none⟩ = some (.slice (some ⟨b,o,none⟩) x.J.length dJ)) w3.drew:=(KB.ext (aA (aj _))).cell (i:=1) (u:=.slice (some ⟨b,o,none⟩) x.J.length dJ) rfl;have tR:=I cq;have lR:=I X5;have jD:=I nX;have HOH:=I Xp;clear cq X5 nX Xp gw jX bC OL hdis nQ ke hG3;go_wp2_with fail
   refine uq (fun w'=>w'.cell? ⟨w1.heap.size,1,none⟩ = some (.slice (some ⟨b,o,none⟩) x.J.length dJ)) [1,2,3,4,6,7,8,9,10] [0,5,11] [12,13] U' U' H' x0 ?_;clear x0;simp only [cR,List.getElem?_cons_succ,List.getElem?_cons_zero]
   iterate 9
    (apply dR
     case hy =>refine Or.inl ⟨rfl,fun wq hq=>?_⟩;go_simp;try rfl
     simp only [Act.put,pz])
   refine fE ?_;have df:Below w3.heap.size w3 (w3.alloc (.cells #[] 48)).drew:=aA (ak (aj _) _);have Dg:=KB.ext df;have Nw:=KR.ext df;have mD:(w3.alloc (.cells #[] 48)).drew.ownsRow w3.heap.size 48 9 (.slice (some ⟨w3.heap.size,0,none⟩) 0 0) 0 []:=OU w3 48 9 w3.heap.size rfl;refine iK rfl (fun K hK=>?_);go_simp;refine hK _ _ (Dg.cell (i:=1) (u:=.slice (some ⟨b,o,none⟩) x.J.length dJ) rfl) ?_;try simp only [Act.put,pz]
   clear hK K;have gv:(w3.alloc (.cells #[] 48)).drew.heap.size = w3.heap.size+1:=S';generalize (w3.alloc (.cells #[] 48)).drew = wd at *;refine iK rfl (fun K hK=>?_)
   refine RD YH _ _ Z wd w3.heap.size _ 0 [] mD Z ⟨b,o,none⟩ k dJ (ds.take (k * 9)) Z fg (fun q u hu=>by
    rw [List.getElem?_take] at hu;split at hu
    ·rw [Addr.add_lit];exact (df.cell (p:=⟨b,o+q,none⟩) bM).trans (tR.out q u hu)
    ·cases hu) (fun u hu=>jD.out u (List.mem_of_mem_take hu)) O O O ?_
   intro v5 w5 bi cD fu;have tg:∀q,(Value.slice (some ⟨w3.heap.size,0,none⟩) 0 0).ownBlock = some q→q = w3.heap.size:=fun q hq=>by simp [Value.ownBlock] at hq;omega
   have ux:=Dg.grown cD (fun q hq=>by have:=tg q hq;omega);have yq:=Nw.grown cD (fun q hq=>by have:=tg q hq;omega);have Di:∀y,y < w3.heap.size→w5.heap[y]? = w3.heap[y]?:=fun y hy=>(cD.block y O (fun e=>by have:=tg y e.symm;omega)).trans (df.block y hy);have gM:∀q,v5.ownBlock = some q→w3.heap.size≤q:=fun q hq=>(bi.lt q hq).1;refine hK _ _ (ux.cell (i:=1) (u:=.slice (some ⟨b,o,none⟩) x.J.length dJ) rfl) ?_;try simp only [Act.put,pz]
   clear hK K;refine iK rfl (fun K hK=>?_)
   refine RD YH _ _ Z w5 w3.heap.size v5 _ _ bi Z A0 (x.J.length - (k+1)) (dJ - (k+1)) (ds.drop ((k+1) * 9)) Z cC (fun q u hu=>by
    refine (World.cell?_of_block ?_).trans (de.out.2 q u hu);refine Di _ ?_;rw [show (A0.add q).block = A0.block from by unfold Addr.add;split <;> rfl,de.out.1]
    omega) (fun u hu=>jD.out u (List.mem_of_mem_drop hu)) O O (by have:=cD.size;omega) ?_
   intro v7 w7 nK Ua lP;have oB:=Ua.size;have Es:=cD.size;have gA:=ux.grown Ua (fun q hq=>by have:=gM q hq;omega);have Dj:=yq.grown Ua (fun q hq=>by have:=gM q hq;omega);have wK:∀y,y < w3.heap.size→w7.heap[y]? = w3.heap[y]?:=fun y hy=>(Ua.block y O (fun e=>by have:=gM y e.symm;omega)).trans (Di y hy);rw [show 0+k+(x.J.length - (k+1)) = x.J.length - 1 by omega,List.nil_append] at nK;obtain ⟨A7,c7,hv7⟩:=mY nK;subst hv7;refine hK _ _ (gA.cell (i:=1) (u:=.slice (some ⟨b,o,none⟩) x.J.length dJ) rfl) ?_;try simp only [Act.put,pz]
   clear hK K;have er:(x.J.eraseIdx k).length = x.J.length - 1:=(by rw [List.length_eraseIdx,if_pos hk]);have th:aY w7 (w.heap.size+1+1) (x.J.eraseIdx k) (ds.take (k * 9)++ds.drop ((k+1) * 9)) G3:=lR.out.bJ (fun y hy=>wK y (by have:=o8.out y (by simp [hy]);omega)) O;obtain ⟨A8,c8,G8,hv8,sV,hG8⟩:=am.apw (xs:=x.J.eraseIdx k) (by rw [er];exact vP nK O) th (fun g Vg hm=>by have:=(nK.lt g Vg).1;have:=o8.out g (by simp [hm]);omega);rw [er] at hv8 sV;simp only [Value.slice.injEq,true_and] at hv8;obtain ⟨rfl,rfl⟩:=hv8;have Nx:am w7 (w.heap.size+1+1) x.aa [.slice dG x.aa.length bV] Gh:=HOH.out.bJ (fun y hy=>wK y (by have:=o8.out y (by simp [hy]);omega)) O
   have xu:=I (am.whole Nx sV (fun y hy l7=>by
    rcases hG8 y l7 with h9 | h9
    ·exact De.out y hy h9
    ·have:=(nK.lt y h9).1;have:=o8.out y (by simp [hy]);omega) wI iV gI iW)
   have HGN:=I (show ∀y∈Gh++G8,y≠w1.heap.size from fun y hy e=>by
    rcases List.mem_append.1 hy with hy | hy
    ·have:=o8.out y (by simp [hy]);omega
    ·rcases hG8 y hy with h9 | h9
     ·have:=o8.out y (by simp [h9]);omega
     ·have:=(nK.lt y h9).1;omega)
   have WE:Below w.heap.size w w7:=dy.trans ⟨Ua.os.trans (cD.os.trans df.os),Ua.tape.trans (cD.tape.trans df.tape),Ua.output.trans (cD.output.trans df.output),O,fun y hy=>wK y O⟩;obtain ⟨m0,m1,m2,m3,m4,m5⟩:=cH gA;have mf:=gA.fz;have ml:=gA.lt;obtain ⟨r0,r1,r2,r3,r4,r5⟩:=cH Dj;have rf:=Dj.fz;have rl:=Dj.lt;clear db cb cX eB cG hf3 KB KR sw Dg Nw ux yq gA Dj mD bi nK cD Ua fu lP Di wK tg gM th sV Nx hG8 bm ao bd df hg h mr mv hA0;refine yG ?_;go_wp2_with fail
   try dsimp only
   iterate 60 (first | go_step | skip)
   refine bodyPost_ret (v:=.tuple #[.agg #[.slice dG x.aa.length bV,.slice A7 (x.J.length - 1) c7,.int .i64 x.next,.int .i64 x.weights.pack,.int .i64 x.weights.af,.int .i64 x.weights.al],.int .i64 0]) (by simp [results,Tryz.results109,go_sem, *]) rfl ?_;rw [HF.out]
   first
    | refine ⟨[.slice dG x.aa.length bV,.slice A7 (x.J.length - 1) c7,.int .i64 x.next,.int .i64 x.weights.pack,.int .i64 x.weights.af,.int .i64 x.weights.al],Gh++G8,rfl,?_,?_⟩
    | refine ⟨[.slice dG x.aa.length bV,.slice A7 (x.J.length - 1) c7,.int .i64 x.next,.int .i64 x.weights.pack,.int .i64 x.weights.af,.int .i64 x.weights.al],rfl,⟨Gh++G8,?_⟩,?_⟩
   ·try dsimp only
    refine am.mono (B:=w.heap.size+1+1) ?_ O;exact (by repeat (first | with_reducible exact xu.out | with_reducible refine am.setCell ?_ bM _ | with_reducible refine Dd ?_ HGN.out))
   ·exact rx
end Go.Proofs.YtjahcnjmjahbaaaGreat
