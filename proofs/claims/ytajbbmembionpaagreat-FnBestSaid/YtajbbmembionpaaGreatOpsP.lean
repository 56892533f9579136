/- DeletePod, of the program. No condition. -/
import Derived.Test.YtajbbmembionpaaGreatCopyS
import Derived.Test.YtajbbmembionpaaGreatClusterS
namespace Go.Proofs.YtajbbmembionpaaGreat
open Go.ChangeShapes Go.WideShapes Go.ChangeAt Go.RowKit
set_option linter.unusedVariables false
set_option linter.unusedSimpArgs false
set_option maxHeartbeats 4000000
set_option maxRecDepth 100000
theorem am.join {α β:Type} [ba α] [ba β] {w:World} {B:Nat} {x:α} {y:β} {c1 c2:List Value} {F1 F2:List Nat} (h1:am w B x c1 F1) (h2:am w B y c2 F2) (hd:∀b∈F1,b∉F2):am w B (x,y) (c1++c2) (F1++F2):=by
 exact zb
theorem am.parts {w:World} {B:Nat} {x:aU} {Ah Ap:Option Addr} {nh ch np cp:Nat} {n p q f:Int} {G:List Nat} (h:am w B x [.slice Ah nh ch,.slice Ap np cp,.int .i64 n,.int .i64 p,.int .i64 q,.int .i64 f] G) :
 ∃Gh Gp,am w B x.aa [.slice Ah nh ch] Gh∧am w B x.au [.slice Ap np cp] Gp∧(∀y∈Gh,y∉Gp)∧(∀y∈Gh,y∈G)∧(∀y∈Gp,y∈G):=by
 obtain ⟨⟨c1,c2,F1,F2,e1,rfl,hh,d1,d2,G1,G2,e3,rfl,hp,g1,g2,H1,H2,e5,e6,⟨e7,e8,hn⟩,iZ⟩,hnd,hb,ij⟩:=h;obtain ⟨A,c,rfl,_⟩:=jB hh;obtain ⟨A2,c2',rfl,_⟩:=jB hp;subst e7 e5 e3;simp only [List.cons_append,List.nil_append,List.cons.injEq] at e1;obtain ⟨ea,eb,_⟩:=e1;rw [List.nodup_append,List.nodup_append] at hnd;refine ⟨F1,G1,⟨by rw [ea];exact hh,hnd.1,fun y hy=>hb y (by simp [hy]),fun y hy=>ij y (by simp [hy])⟩,⟨by rw [eb];exact hp,hnd.2.1.1,fun y hy=>hb y (by simp [hy]),fun y hy=>ij y (by simp [hy])⟩,fun y hy mn=>hnd.2.2 y hy y (by simp [mn]) rfl,fun y hy=>by simp [hy],fun y hy=>by simp [hy]⟩
theorem am.whole {w:World} {B:Nat} {H:List aM} {Q:List af} {Ah Ap:Option Addr} {nh ch np cp:Nat} {n p q f:Int} {Gh Gp:List Nat} (h:am w B H [.slice Ah nh ch] Gh) (k:am w B Q [.slice Ap np cp] Gp) (hd:∀y∈Gh,y∉Gp) (hn:bp n) (hp:bp p) (hq:bp q) (hf:bp f) :
 am w B (⟨H,Q,n,⟨p,q,f⟩⟩:aU) [.slice Ah nh ch,.slice Ap np cp,.int .i64 n,.int .i64 p,.int .i64 q,.int .i64 f] (Gh++Gp):=by
 refine am.up (B':=B) (fun x:aU=>(x.aa,x.au,x.next,x.weights)) ?_ (Nat.le_refl _);have h5:am w B (⟨p,q,f⟩:rZ) ([.int .i64 p]++([.int .i64 q]++[.int .i64 f])) []:=by exact zm
 have h6:=am.cons (jL w n hn) h5;have h7:=am.join h (am.join k h6 (fun b _ hb=>by cases hb)) (fun b hb ei=>hd b hb (by simpa using ei));simpa using h7
def Ut (x:aU) (nm:ByteArray):aU × Int :=
 if iI x = true then (if pK (CG nm) x.au < 0 then (x,3) else (⟨x.aa,x.au.eraseIdx (pK (CG nm) x.au).toNat,x.next,x.weights⟩,0)) else (x,1)
def QW (nm:ByteArray) (p:af):af:=if p.on.toList == nm.toList then ⟨p.aS,⟨#[]⟩,p.seq⟩ else p
def VP (nm:ByteArray) (k:Nat) (xs:List af):List af:=(xs.take k).map (QW nm)++xs.drop k
theorem Xc (nm:ByteArray) (k:Nat) (xs:List af) (hk:k≤xs.length):(VP nm k xs).length = xs.length:=by unfold VP;rw [List.length_append,List.length_map,List.length_take,List.length_drop];omega
theorem ai0 (nm:ByteArray) (xs:List af):VP nm 0 xs = xs:=by simp [VP]
theorem amE (nm:ByteArray) (xs:List af):VP nm xs.length xs = xs.map (QW nm):=by simp [VP]
theorem Xd {nm:ByteArray} {k:Nat} {xs:List af} (hk:k < xs.length) (h:k < (VP nm k xs).length):(VP nm k xs)[k] = xs[k]:=by
 have h1:((xs.take k).map (QW nm)).length = k:=by rw [List.length_map,List.length_take];omega
 simp only [VP];rw [List.getElem_append_right J];simp [show min k xs.length = k from by omega]
theorem Xf {nm:ByteArray} {k:Nat} {xs:List af} (hk:k < xs.length):(VP nm k xs).set k (QW nm xs[k]) = VP nm (k+1) xs:=by
 have h1:((xs.take k).map (QW nm)).length = k:=by rw [List.length_map,List.length_take];omega
 unfold VP;rw [List.set_append_right _ _ J,h1,Nat.sub_self,← List.getElem_cons_drop hk,List.set_cons_zero,List.take_succ_eq_append_getElem hk,List.map_append];simp
theorem ai1 {nm:ByteArray} {k:Nat} {xs:List af} (hk:k < xs.length) (h:QW nm xs[k] = xs[k]):VP nm (k+1) xs = VP nm k xs:=by
 rw [← Xf hk,h];have h2:k < (VP nm k xs).length:=by rw [Xc nm k xs J];exact hk
 rw [← Xd (nm:=nm) hk h2,List.set_getElem_self]
theorem am.off {w:World} {B:Nat} {p:af} {ck:List Value} {F:List Nat} (h:am w B p ck F):am w B (⟨p.aS,⟨#[]⟩,p.seq⟩:af) (ck.set 7 (.string ⟨#[]⟩)) F:=by
 obtain ⟨⟨c1,c2,F1,F2,rfl,rfl,QS,c3,c4,F3,F4,rfl,rfl,⟨rfl,rfl,ie⟩,⟨rfl,rfl,Ue⟩⟩,hnd,hb,ij⟩:=h;have hl:c1.length = 7:=ba.len QS;have e:(c1++([Value.string p.on]++[Value.int .i64 p.seq])).set 7 (.string ⟨#[]⟩) = c1++([.string ⟨#[]⟩]++[.int .i64 p.seq]):=by rw [List.set_append_right _ _ J,hl];rfl
 rw [e];exact ⟨⟨c1,_,F1,_,rfl,rfl,QS,_,_,_,_,rfl,rfl,⟨rfl,rfl,(show (0:Nat)≤maxLen from Nat.zero_le _)⟩,⟨rfl,rfl,Ue⟩⟩,hnd,hb,ij⟩
theorem Xi {α:Type} [ba α] {w:World} {B c i:Nat} {u:Value} {x:α} {cs:List Value} {F:List Nat} (h:am w B x cs F) (hF:∀y∈F,y≠c):am (w.setCell ⟨c,i,none⟩ u) B x cs F :=
 h.keep (fun y hy=>Below.heap_setCell _ _ _ _ zW) eI
def Ko (x:aU) (nm:ByteArray):aU × Int :=
 if iI x = true then (if pK (iM nm) x.aa < 0 then (x,3) else (⟨x.aa.eraseIdx (pK (iM nm) x.aa).toNat,x.au.map (QW nm),x.next,x.weights⟩,0)) else (x,1)
def setW (x:aU) (u:rZ):aU × Int:=if iI x = true∧zL u.pack u.spread u.soft = true then (⟨x.aa,x.au,x.next,u⟩,0) else (x,1)
theorem am.ag1 {w:World} {B:Nat} {x:aU} {Ah Ap:Option Addr} {nh ch np cp:Nat} {n p q f:Int} {G:List Nat} (h:am w B x [.slice Ah nh ch,.slice Ap np cp,.int .i64 n,.int .i64 p,.int .i64 q,.int .i64 f] G) (u:rZ) (h1:bp u.pack) (h2:bp u.spread) (h3:bp u.soft) :
 am w B (⟨x.aa,x.au,x.next,u⟩:aU) [.slice Ah nh ch,.slice Ap np cp,.int .i64 n,.int .i64 u.pack,.int .i64 u.spread,.int .i64 u.soft] G:=by
 obtain ⟨⟨c1,c2,F1,F2,e1,e2,hh,d1,d2,G1,G2,e3,e4,hp,g1,g2,H1,H2,e5,e6,⟨e7,e8,hn⟩,iZ⟩,hnd,hb,ij⟩:=h;obtain ⟨A,c,rfl,_⟩:=jB hh;obtain ⟨A2,c2',rfl,_⟩:=jB hp;subst e7 e5 e3;simp only [List.cons_append,List.nil_append,List.cons.injEq] at e1;obtain ⟨ea,eb,ec,_⟩:=e1;refine ⟨⟨_,[.slice Ap np cp,.int .i64 n,.int .i64 u.pack,.int .i64 u.spread,.int .i64 u.soft],F1,F2,(by rw [ea];rfl),e2,hh,_,[.int .i64 n,.int .i64 u.pack,.int .i64 u.spread,.int .i64 u.soft],G1,G2,(by rw [eb];rfl),e4,hp,_,[.int .i64 u.pack,.int .i64 u.spread,.int .i64 u.soft],H1,H2,(by rw [ec];rfl),e6,⟨rfl,e8,hn⟩,?_⟩,hnd,hb,ij⟩;obtain ⟨rfl,hF,_⟩:=mg iZ;rw [hF];exact Zj w u h1 h2 h3
theorem aeu (x:aU) (cs:List Value) (F:List Nat) (u:rZ) (us:List Value) (Fu:List Nat) (w:World) (h:rd w x cs F) (h':rd w u us Fu) (hw:(x.wt:Int)≤1048576) :
 Calls Tryz.prog 109 #[.agg cs.toArray,.agg us.toArray] w fun e w'=>∃ds G,e = .returned (.tuple #[.agg ds.toArray,.int .i64 (setW x u).2])∧am w' w.heap.size (setW x u).1 ds G∧Below w.heap.size w w':=by
 have HW:=I hw;clear hw;have hr:=h;have cI:=h';obtain ⟨bG,bD,fQ,dn,bW,jg,aw,qp,bQ,dM,hnext,aV,aP,aW⟩:=aO hr;subst aw;obtain ⟨aw,hG0,Sr,Jm,Sv⟩:=mg cI;subst aw;clear qp hG0 hr cI;cases hc:iI x <;> cases iZ:zL u.pack u.spread u.soft
 ·exact EG
 ·exact EG
 ·have HF:=I (show setW x u = (x,1) by unfold setW;rw [hc,iZ];simp);have HC:=I hc;have Du:=I iZ;clear hc iZ;go_enter Tryz.func109,Tryz.ntmps109;go_wp2_with fail
  refine (BO x _ _ _ (aZ h bS) HW.out).mono ?_;rintro e w1 ⟨l0,G1,rfl,jX,bo⟩;have cr:=jX.rd;obtain ⟨dG,bV,xq,dS,dJ,Bz,aw,hG1,oO,tq,wI,iV,gI,iW⟩:=aO cr;subst aw;clear hG1 cr;obtain ⟨cU,eS⟩:=ay bo;have VQ:w.heap.size < w1.heap.size:=sq bo.size;have mw:w.heap.size+1 < w1.heap.size:=sq bo.size;have Tv:w.heap.size+1+1 < w1.heap.size:=sq bo.size;have fT:=jX.lt;go_wp2_with fail
  refine (qM x _ _ _ (aZ h bS) HW.out).mono ?_;rw [HC.out];rintro e w2 ⟨rfl,ap⟩;obtain ⟨bX,cG⟩:=ay ap;have VR:w.heap.size < w2.heap.size:=sq ap.size;have mx:w.heap.size+1 < w2.heap.size:=sq ap.size;have Tw:w.heap.size+1+1 < w2.heap.size:=sq ap.size;have VT:w1.heap.size < w2.heap.size:=sq ap.size;go_wp2_with fail
  refine (pW u.pack u.spread u.soft _).mono ?_;rw [Du.out];rintro e w3 ⟨rfl,aR⟩;obtain ⟨dk,hf3⟩:=ay aR;have Ki:w.heap.size < w3.heap.size:=sq aR.size;have sC:w.heap.size+1 < w3.heap.size:=sq aR.size;have Rh:w.heap.size+1+1 < w3.heap.size:=sq aR.size;have Kj:w1.heap.size < w3.heap.size:=sq aR.size;have bE:am w3 (w.heap.size+1+1+1) x [.slice dG x.aa.length bV,.slice dS x.au.length dJ,.int .i64 x.next,.int .i64 x.weights.pack,.int .i64 x.weights.spread,.int .i64 x.weights.soft] G1:=(((jX.mono S').alloc _).ext ap).ext aR;exact EH
 ·have HF:=I (show setW x u = (⟨x.aa,x.au,x.next,u⟩,0) by unfold setW;rw [hc,iZ];simp);have HC:=I hc;have Du:=I iZ;clear hc iZ;go_enter Tryz.func109,Tryz.ntmps109;go_wp2_with fail
  refine (BO x _ _ _ (aZ h bS) HW.out).mono ?_;rintro e w1 ⟨l0,G1,rfl,jX,bo⟩;have cr:=jX.rd;obtain ⟨dG,bV,xq,dS,dJ,Bz,aw,hG1,oO,tq,wI,iV,gI,iW⟩:=aO cr;subst aw;clear hG1 cr;obtain ⟨cU,eS⟩:=ay bo;have VQ:w.heap.size < w1.heap.size:=sq bo.size;have mw:w.heap.size+1 < w1.heap.size:=sq bo.size;have Tv:w.heap.size+1+1 < w1.heap.size:=sq bo.size;have fT:=jX.lt;go_wp2_with fail
  refine (qM x _ _ _ (aZ h bS) HW.out).mono ?_;rw [HC.out];rintro e w2 ⟨rfl,ap⟩;obtain ⟨bX,cG⟩:=ay ap;have VR:w.heap.size < w2.heap.size:=sq ap.size;have mx:w.heap.size+1 < w2.heap.size:=sq ap.size;have Tw:w.heap.size+1+1 < w2.heap.size:=sq ap.size;have VT:w1.heap.size < w2.heap.size:=sq ap.size;go_wp2_with fail
  refine (pW u.pack u.spread u.soft _).mono ?_;rw [Du.out];rintro e w3 ⟨rfl,aR⟩;obtain ⟨dk,hf3⟩:=ay aR;have Ki:w.heap.size < w3.heap.size:=sq aR.size;have sC:w.heap.size+1 < w3.heap.size:=sq aR.size;have Rh:w.heap.size+1+1 < w3.heap.size:=sq aR.size;have Kj:w1.heap.size < w3.heap.size:=sq aR.size;have bE:am w3 (w.heap.size+1+1+1) x [.slice dG x.aa.length bV,.slice dS x.au.length dJ,.int .i64 x.next,.int .i64 x.weights.pack,.int .i64 x.weights.spread,.int .i64 x.weights.soft] G1:=(((jX.mono S').alloc _).ext ap).ext aR;have RZ:=I bE;clear jX bE h h';go_wp2_with fail
  try dsimp only
  iterate 60 (first | go_step | skip)
  refine bodyPost_ret (v:=.tuple #[.agg #[.slice dG x.aa.length bV,.slice dS x.au.length dJ,.int .i64 x.next,.int .i64 u.pack,.int .i64 u.spread,.int .i64 u.soft],.int .i64 0]) (by simp [results,Tryz.results109,go_sem, *]) rfl ?_;rw [HF.out]
  first
   | refine ⟨[.slice dG x.aa.length bV,.slice dS x.au.length dJ,.int .i64 x.next,.int .i64 u.pack,.int .i64 u.spread,.int .i64 u.soft],G1,rfl,?_,?_⟩
   | refine ⟨[.slice dG x.aa.length bV,.slice dS x.au.length dJ,.int .i64 x.next,.int .i64 u.pack,.int .i64 u.spread,.int .i64 u.soft],rfl,⟨G1,?_⟩,?_⟩
  ·try dsimp only
   refine am.mono (B:=w.heap.size+1+1+1) ?_ J;exact (by repeat (first | with_reducible exact (RZ.out.ag1 u Sr Jm Sv) | with_reducible refine am.setCell ?_ bA _ | with_reducible refine OC ?_ (fun y hy=>fT y hy)))
  ·exact rh
theorem RD {P:Program} {t e:TypeId} {z:Value} {size bytes:Nat} (hE:DL P t e z size bytes) {o:Oper} {a:Act} {K:Act→World→Prop} {Q:Exit→Act→World→Prop} (s x:Operand)
 (ho:o.op = .call { callee:=.builtin .append,args:=#[s,x],argTypes:=#[t,t] })
 (w:World) (base:Nat) (v:Value) (n:Nat) (xs:List Value) (bd:w.ownsRow base e size v n xs) (hs:a.eval s = v)
 (ad:Addr) (m c:Nat) (news:List Value) (hx:a.eval x = .slice (some ad) m c) (hl:news.length = m * size) (jK:∀j u,news[j]? = some u→w.cell? (ad.add j) = some u) (h1:∀u∈news,u.oneCell' = true)
 (hn:n+m≤2097152) (n9:bytes≤4096) (cP:base≤w.heap.size)
 (h:∀v' w',w'.ownsRow base e size v' (n+m) (xs++news)→w.grownBy w' v.ownBlock→(v'.ownBlock = v.ownBlock∨v'.ownBlock = some w.heap.size)→K (a.put o.dst v') w'):o.wp P a w K Q:=by
 obtain ⟨ht,hi0,mb,gg⟩:=hE;obtain ⟨i,hi,hz,hsize,hb⟩:=info_parts hi0;have fL:(n+m) * bytes≤2097152 * 4096:=Nat.mul_le_mul hn n9;obtain ⟨v',w',hr,h2,h3,h4,h5⟩:=run_append_own_at (P:=P) w base t o.type e i z size bytes ht hi hz hsize hb mb gg v n xs bd ad m c news hl jK h1 lA J cP;unfold Oper.wp execOp;simp only [ho,resolve,invoke,builtin,Sem.run_bind,Sem.run_pure,Result.andThen_ok,List.map_toArray,List.map_cons,List.map_nil,hs,hx,hr];exact h v' w' h2 h3 h5
theorem am.Zo {α:Type} [ba α] {w:World} {B:Nat} {xs:List α} {ds:List Value} {F:List Nat} {e:TypeId} {v:Value} (h0:w.ownsRow B e (ba.size α) v xs.length ds) (h:aY w B xs ds F) (bN:∀g,v.ownBlock = some g→g∉F):∃A c G,v = .slice A xs.length c∧am w B xs [.slice A xs.length c] G∧∀y∈G,y∈F∨v.ownBlock = some y:=by
 exact E0
theorem BB {α:Type} [ba α] {w:World} {B c i:Nat} {u:Value} {x:α} {cs:List Value} {F:List Nat} (h:am w B x cs F) (hF:∀y∈F,y≠c):am (w.setCell ⟨c,i,none⟩ u) B x cs F :=
 h.keep (fun y hy=>Below.heap_setCell _ _ _ _ zW) eI
theorem am.Zp {α:Type} [ba α] {w:World} {B c:Nat} {xs:List α} {A:Option Addr} {F:List Nat} (h:am w B xs [.slice A xs.length c] F) {i:Nat} (hi:i < xs.length) :
 ∃b o ds G,A = some ⟨b,o,none⟩∧b∈F∧b < w.heap.size∧xs.length≤c∧c≤maxLen∧ds.length = xs.length * ba.size α∧(∀u∈ds,u.oneCell' = true)∧wC w b o ds ∧
  aY w B (xs.eraseIdx i) (ds.take (i * ba.size α)++ds.drop ((i+1) * ba.size α)) G∧(∀y∈G,y∈F):=by
 obtain ⟨⟨A',c',G,ds,e,cU,bX,hc,h0⟩,hnd,cP,hplain⟩:=h;simp only [List.cons.injEq,Value.slice.injEq,and_true,true_and] at e;obtain ⟨rfl,rfl⟩:=e;rcases h0 with h0 | ⟨b,o,rfl,rfl,hb,bC⟩
 ·rw [h0.1] at hi;cases hi
 have ou:=hc.one;have bR:=hc.len;obtain ⟨d1,ck,d2,G1,Fk,G2,rfl,rfl,r1,r2,r3,hd1⟩:=hc.split hi;have IN:=ba.len r2;have e1:(d1++(ck++d2)).take (i * ba.size α) = d1:=by rw [← hd1,List.take_left]
 have e2:(d1++(ck++d2)).drop ((i+1) * ba.size α) = d2:=by rw [← List.append_assoc,show (i+1) * ba.size α = (d1++ck).length by rw [List.length_append,hd1,IN,Nat.succ_mul],List.drop_left]
 simp only [List.nodup_cons,List.nodup_append,List.mem_append,not_or] at hnd;have hx:(xs.eraseIdx i) = xs.take i++xs.drop (i+1):=List.eraseIdx_eq_take_drop_succ ..;have bv:∀y∈G1++G2,y∈b :: (G1++(Fk++G2)):=fun y hy=>by
  rcases List.mem_append.1 hy with hy | hy <;> simp [hy]
 refine ⟨b,o,_,G1++G2,rfl,List.mem_cons_self ..,hb,cU,bX,bR,ou,bC,⟨?_,?_,fun y hy=>cP y (bv y hy),fun y hy=>hplain y (bv y hy)⟩,bv⟩
 ·rw [hx,e1,e2];exact r1.append r3
 ·rw [List.nodup_append];exact ⟨hnd.2.1,hnd.2.2.1.2.1,fun x hx y hy=>hnd.2.2.2 x hx y (Or.inr hy)⟩
theorem afS (x:aU) (cs:List Value) (F:List Nat) (nm:ByteArray) (w:World) (h:rd w x cs F) (hw:(x.wt:Int)≤1048576) :
 Calls Tryz.prog 106 #[.agg cs.toArray,.string nm] w fun e w'=>∃ds G,e = .returned (.tuple #[.agg ds.toArray,.int .i64 (Ut x nm).2])∧am w' w.heap.size (Ut x nm).1 ds G∧Below w.heap.size w w':=by
 have ij:(x.au.length:Int)≤1048576:=by have h1:=gJ af.wt x.au;have h2:x.wt = kL aM.wt x.aa+kL af.wt x.au:=rfl;omega
 have HW:=I hw;have Ji:=I ij;clear hw;have hr:=h;obtain ⟨bG,bD,fQ,dn,bW,jg,aw,qp,bQ,dM,hnext,aV,aP,aW⟩:=aO hr;subst aw;clear qp hr;have Dz:=Nc (p:=CG nm) x.au;cases hc:iI x
 ·have HF:=I (show Ut x nm = (x,1) by unfold Ut;rw [hc];simp);have HC:=I hc;clear hc;obtain ⟨r,d7⟩:∃r,pK (CG nm) x.au = r:=⟨_,rfl⟩;have HI:=I d7;clear d7;go_enter Tryz.func106,Tryz.ntmps106;go_wp2_with fail
  refine (BO x _ _ _ (aZ h bS) HW.out).mono ?_;rintro e w1 ⟨l0,G1,rfl,jX,bo⟩;have cr:=jX.rd;obtain ⟨dG,bV,xq,dS,dJ,Bz,aw,hG1,oO,tq,wI,iV,gI,iW⟩:=aO cr;subst aw;clear hG1 cr;obtain ⟨cU,eS⟩:=ay bo;have VQ:w.heap.size < w1.heap.size:=sq bo.size;have mw:w.heap.size+1 < w1.heap.size:=sq bo.size;have fT:=jX.lt;go_wp2_with fail
  refine (qM x _ _ _ (aZ h bS) HW.out).mono ?_;rw [HC.out];rintro e w2 ⟨rfl,ap⟩;obtain ⟨bX,cG⟩:=ay ap;have VR:w.heap.size < w2.heap.size:=sq ap.size;have mx:w.heap.size+1 < w2.heap.size:=sq ap.size;have VT:w1.heap.size < w2.heap.size:=sq ap.size;have bE:am w2 (w.heap.size+1+1) x [.slice dG x.aa.length bV,.slice dS x.au.length dJ,.int .i64 x.next,.int .i64 x.weights.pack,.int .i64 x.weights.spread,.int .i64 x.weights.soft] G1:=((jX.mono S').alloc _).ext ap;have RZ:=I bE;clear jX bE h;go_wp2_with fail
  try dsimp only
  iterate 60 (first | go_step | skip)
  refine bodyPost_ret (v:=.tuple #[.agg #[.slice dG x.aa.length bV,.slice dS x.au.length dJ,.int .i64 x.next,.int .i64 x.weights.pack,.int .i64 x.weights.spread,.int .i64 x.weights.soft],.int .i64 1]) (by simp [results,Tryz.results106,go_sem, *]) rfl ?_;exact uy
 ·by_cases tS:pK (CG nm) x.au < 0
  ·have HF:=I (show Ut x nm = (x,3) by unfold Ut;rw [hc,if_pos rfl,if_pos tS]);have HC:=I hc;clear hc;obtain ⟨r,d7⟩:∃r,pK (CG nm) x.au = r:=⟨_,rfl⟩;have HI:=I d7;rw [d7] at tS;clear d7;go_enter Tryz.func106,Tryz.ntmps106;go_wp2_with fail
   refine (BO x _ _ _ (aZ h bS) HW.out).mono ?_;rintro e w1 ⟨l0,G1,rfl,jX,bo⟩;have cr:=jX.rd;obtain ⟨dG,bV,xq,dS,dJ,Bz,aw,hG1,oO,tq,wI,iV,gI,iW⟩:=aO cr;subst aw;clear hG1 cr;obtain ⟨cU,eS⟩:=ay bo;have VQ:w.heap.size < w1.heap.size:=sq bo.size;have mw:w.heap.size+1 < w1.heap.size:=sq bo.size;have fT:=jX.lt;go_wp2_with fail
   refine (qM x _ _ _ (aZ h bS) HW.out).mono ?_;rw [HC.out];rintro e w2 ⟨rfl,ap⟩;obtain ⟨bX,cG⟩:=ay ap;have VR:w.heap.size < w2.heap.size:=sq ap.size;have mx:w.heap.size+1 < w2.heap.size:=sq ap.size;have VT:w1.heap.size < w2.heap.size:=sq ap.size;go_wp2_with fail
   refine (CP x _ _ nm _ (aZ h bS) Ji.out).mono ?_;rw [HI.out];rintro e w3 ⟨rfl,aR⟩;obtain ⟨dk,hf3⟩:=ay aR;have Ki:w.heap.size < w3.heap.size:=sq aR.size;have sC:w.heap.size+1 < w3.heap.size:=sq aR.size;have Kj:w1.heap.size < w3.heap.size:=sq aR.size;have bE:am w3 (w.heap.size+1+1) x [.slice dG x.aa.length bV,.slice dS x.au.length dJ,.int .i64 x.next,.int .i64 x.weights.pack,.int .i64 x.weights.spread,.int .i64 x.weights.soft] G1:=(((jX.mono S').alloc _).ext ap).ext aR;have RZ:=I bE;clear jX bE h;go_wp2_with fail
   try dsimp only
   iterate 60 (first | go_step | skip)
   refine bodyPost_ret (v:=.tuple #[.agg #[.slice dG x.aa.length bV,.slice dS x.au.length dJ,.int .i64 x.next,.int .i64 x.weights.pack,.int .i64 x.weights.spread,.int .i64 x.weights.soft],.int .i64 3]) (by simp [results,Tryz.results106,go_sem, *]) rfl ?_;exact uy
  ·obtain ⟨k,fj⟩:∃k:Nat,pK (CG nm) x.au = k:=⟨(pK (CG nm) x.au).toNat,J⟩;have hk:k < x.au.length:=J;have HF:=I (show Ut x nm = (⟨x.aa,x.au.eraseIdx k,x.next,x.weights⟩,0) by unfold Ut;rw [hc,if_pos rfl,if_neg J,fj,Int.toNat_natCast]);have HC:=I hc;clear hc;have HI:=I fj;clear fj tS;go_enter Tryz.func106,Tryz.ntmps106;go_wp2_with fail
   refine (BO x _ _ _ (aZ h bS) HW.out).mono ?_;rintro e w1 ⟨l0,G1,rfl,jX,bo⟩;have cr:=jX.rd;obtain ⟨dG,bV,xq,dS,dJ,Bz,aw,hG1,oO,tq,wI,iV,gI,iW⟩:=aO cr;subst aw;clear hG1 cr;obtain ⟨cU,eS⟩:=ay bo;have VQ:w.heap.size < w1.heap.size:=sq bo.size;have mw:w.heap.size+1 < w1.heap.size:=sq bo.size;have fT:=jX.lt;go_wp2_with fail
   refine (qM x _ _ _ (aZ h bS) HW.out).mono ?_;rw [HC.out];rintro e w2 ⟨rfl,ap⟩;obtain ⟨bX,cG⟩:=ay ap;have VR:w.heap.size < w2.heap.size:=sq ap.size;have mx:w.heap.size+1 < w2.heap.size:=sq ap.size;have VT:w1.heap.size < w2.heap.size:=sq ap.size;go_wp2_with fail
   refine (CP x _ _ nm _ (aZ h bS) Ji.out).mono ?_;rw [HI.out];rintro e w3 ⟨rfl,aR⟩;obtain ⟨dk,hf3⟩:=ay aR;have Ki:w.heap.size < w3.heap.size:=sq aR.size;have sC:w.heap.size+1 < w3.heap.size:=sq aR.size;have Kj:w1.heap.size < w3.heap.size:=sq aR.size;have bE:am w3 (w.heap.size+1+1) x [.slice dG x.aa.length bV,.slice dS x.au.length dJ,.int .i64 x.next,.int .i64 x.weights.pack,.int .i64 x.weights.spread,.int .i64 x.weights.soft] G1:=(((jX.mono S').alloc _).ext ap).ext aR;obtain ⟨Gh,Gp,Xp,OL,hdis,mL,lb⟩:=bE.parts;obtain ⟨b,o,ds,G3,rfl,o9,bc,hcap,mO,gD,ou,bC,X5,hG3⟩:=OL.Zp hk;have hS:ba.size af = 9:=rfl;rw [hS] at gD X5;clear hS;have hg:∀y∈Gp,w.heap.size+1 < y∧y < w1.heap.size:=fun y hy=>⟨by have:=OL.base y hy;omega,fT y (lb y hy)⟩;have ax:=hg b o9;have KB:oG w3 w1.heap.size [.slice dG x.aa.length bV,.slice (some ⟨b,o,none⟩) x.au.length dJ,.int .i64 x.next,.int .i64 x.weights.pack,.int .i64 x.weights.spread,.int .i64 x.weights.soft]:=(((oG.new w1 [.slice dG x.aa.length bV,.slice (some ⟨b,o,none⟩) x.au.length dJ,.int .i64 x.next,.int .i64 x.weights.pack,.int .i64 x.weights.spread,.int .i64 x.weights.soft] 29).ext ap).ext aR);have sa:oG ((w.alloc (.cells ([.slice bG x.aa.length bD,.slice dn x.au.length bW,.int .i64 x.next,.int .i64 x.weights.pack,.int .i64 x.weights.spread,.int .i64 x.weights.soft]:List Value).toArray 29)).alloc (.cells ([.slice none 0 0,.slice none 0 0,.int .i64 0,.int .i64 0,.int .i64 0,.int .i64 0]:List Value).toArray 29)) (w.heap.size+1) [.slice none 0 0,.slice none 0 0,.int .i64 0,.int .i64 0,.int .i64 0,.int .i64 0]:=(by have:=oG.new (w.alloc (.cells ([.slice bG x.aa.length bD,.slice dn x.au.length bW,.int .i64 x.next,.int .i64 x.weights.pack,.int .i64 x.weights.spread,.int .i64 x.weights.soft]:List Value).toArray 29)) [.slice none 0 0,.slice none 0 0,.int .i64 0,.int .i64 0,.int .i64 0,.int .i64 0] 29;rw [World.size_alloc] at this;exact this);have KR:oG w3 (w.heap.size+1) [.slice none 0 0,.slice none 0 0,.int .i64 0,.int .i64 0,.int .i64 0,.int .i64 0]:=((((sa.ext bo).ext (ak (aj _) _)).ext ap).ext aR);have di:Below w.heap.size w w3:=bS;have px:=I (show ∀y∈Gh++G3,y < w1.heap.size from fun y hy=>by rcases List.mem_append.1 hy with hy | hy;exact fT y (mL y hy);exact fT y (lb y (hG3 y hy)));have BC:=I (show ∀y∈Gh,y∉G3 from fun y hy mn=>hdis y hy (hG3 y mn));have iY:(ds.take (k * 9)).length = k * 9:=(by rw [List.length_take,gD];omega);have cK:(ds.drop ((k+1) * 9)).length = (x.au.length - (k+1)) * 9:=(by rw [List.length_drop,gD];omega);have QB:(k:Int)+1≤x.au.length:=J;have Jx:k≤dJ:=J;have RC:k+1≤dJ:=J;obtain ⟨A0,hA0,cE⟩:∃A0:Addr,(if dJ = k+1 then some (⟨b,o,none⟩:Addr) else some ⟨b,o+(k+1) * 9,none⟩) = some A0∧Hid (A0.block = b∧∀q u,(ds.drop ((k+1) * 9))[q]? = some u→w3.cell? (A0.add q) = some u):=by
    by_cases hc:dJ = k+1
    ·refine ⟨⟨b,o,none⟩,by simp [hc],rfl,fun q u hu=>?_⟩;have h0:(ds.drop ((k+1) * 9)).length = 0:=(by rw [cK];omega);exact pA
    ·refine ⟨⟨b,o+(k+1) * 9,none⟩,by simp [hc],rfl,fun q u hu=>?_⟩;rw [List.getElem?_drop] at hu;rw [Addr.add_lit,show o+(k+1) * 9+q = o+((k+1) * 9+q) by omega];exact bC _ u hu
   have oI:IntKind.i64.wrap ((k:Int)+1) = (k:Int)+1:=IntWalk.i64_in _ J;have om:((k:Int)+1).toNat = k+1:=J;have x0:(fun w'=>w'.cell? ⟨w1.heap.size,1,none⟩ = some (.slice (some ⟨b,o,none⟩) x.au.length dJ)) w3.drew:=(KB.ext (aA (aj _))).cell (i:=1) (u:=.slice (some ⟨b,o,none⟩) x.au.length dJ) rfl;have tz:=I bC;have l4:=I X5;have jG:=I ou;have HOH:=I Xp;clear bC X5 ou Xp gD jX bE OL hdis mL lb hG3;go_wp2_with fail
   refine uq (fun w'=>w'.cell? ⟨w1.heap.size,1,none⟩ = some (.slice (some ⟨b,o,none⟩) x.au.length dJ)) [1,2,3,4,6,7,8,9,10] [0,5,11] [12,13] U' U' H' x0 ?_;clear x0;simp only [pick,List.getElem?_cons_succ,List.getElem?_cons_zero]
   iterate 9
    (apply dR
     case hy =>exact zD
     simp only [Act.put,pz])
   refine fE ?_;have dB:Below w3.heap.size w3 (w3.alloc (.cells #[] 53)).drew:=aA (ak (aj _) _);have BE:=KB.ext dB;have Ku:=KR.ext dB;have mR:(w3.alloc (.cells #[] 53)).drew.ownsRow w3.heap.size 53 9 (.slice (some ⟨w3.heap.size,0,none⟩) 0 0) 0 []:=OU w3 53 9 w3.heap.size rfl;refine iK rfl (fun K hK=>?_);go_simp;refine hK _ _ (BE.cell (i:=1) (u:=.slice (some ⟨b,o,none⟩) x.au.length dJ) rfl) ?_;try simp only [Act.put,pz]
   clear hK K;have gg:(w3.alloc (.cells #[] 53)).drew.heap.size = w3.heap.size+1:=S';generalize (w3.alloc (.cells #[] 53)).drew = wd at *;refine iK rfl (fun K hK=>?_)
   refine RD YH _ _ O wd w3.heap.size _ 0 [] mR O ⟨b,o,none⟩ k dJ (ds.take (k * 9)) O iY (fun q u hu=>by
    rw [List.getElem?_take] at hu;split at hu
    ·rw [Addr.add_lit];exact (dB.cell (p:=⟨b,o+q,none⟩) bA).trans (tz.out q u hu)
    ·cases hu) (fun u hu=>jG.out u (List.mem_of_mem_take hu)) J J J ?_
   intro v5 w5 az cc fG;have vr:∀q,(Value.slice (some ⟨w3.heap.size,0,none⟩) 0 0).ownBlock = some q→q = w3.heap.size:=fun q hq=>by simp [Value.ownBlock] at hq;omega
   have tU:=BE.grown cc (fun q hq=>by have:=vr q hq;omega);have xp:=Ku.grown cc (fun q hq=>by have:=vr q hq;omega);have BP:∀y,y < w3.heap.size→w5.heap[y]? = w3.heap[y]?:=fun y hy=>(cc.block y J (fun e=>by have:=vr y e.symm;omega)).trans (dB.block y hy);have d8:∀q,v5.ownBlock = some q→w3.heap.size≤q:=fun q hq=>(az.lt q hq).1;refine hK _ _ (tU.cell (i:=1) (u:=.slice (some ⟨b,o,none⟩) x.au.length dJ) rfl) ?_;try simp only [Act.put,pz]
   clear hK K;refine iK rfl (fun K hK=>?_)
   refine RD YH _ _ O w5 w3.heap.size v5 _ _ az O A0 (x.au.length - (k+1)) (dJ - (k+1)) (ds.drop ((k+1) * 9)) O cK (fun q u hu=>by
    refine (World.cell?_of_block ?_).trans (cE.out.2 q u hu);refine BP _ ?_;rw [show (A0.add q).block = A0.block from by unfold Addr.add;split <;> rfl,cE.out.1]
    omega) (fun u hu=>jG.out u (List.mem_of_mem_drop hu)) J J (by have:=cc.size;omega) ?_
   intro v7 w7 nK Ua lX;have mz:=Ua.size;have Es:=cc.size;have gn:=tU.grown Ua (fun q hq=>by have:=d8 q hq;omega);have BQ:=xp.grown Ua (fun q hq=>by have:=d8 q hq;omega);have vt:∀y,y < w3.heap.size→w7.heap[y]? = w3.heap[y]?:=fun y hy=>(Ua.block y J (fun e=>by have:=d8 y e.symm;omega)).trans (BP y hy);rw [show 0+k+(x.au.length - (k+1)) = x.au.length - 1 by omega,List.nil_append] at nK;obtain ⟨A7,c7,hv7⟩:=mY nK;subst hv7;refine hK _ _ (gn.cell (i:=1) (u:=.slice (some ⟨b,o,none⟩) x.au.length dJ) rfl) ?_;try simp only [Act.put,pz]
   clear hK K;have eM:(x.au.eraseIdx k).length = x.au.length - 1:=(by rw [List.length_eraseIdx,if_pos hk]);have sF:aY w7 (w.heap.size+1+1) (x.au.eraseIdx k) (ds.take (k * 9)++ds.drop ((k+1) * 9)) G3:=l4.out.keep (fun y hy=>vt y (by have:=px.out y (by simp [hy]);omega)) J;obtain ⟨A8,c8,G8,hv8,sV,hG8⟩:=am.Zo (xs:=x.au.eraseIdx k) (by rw [eM];exact vP nK J) sF (fun g RE hm=>by have:=(nK.lt g RE).1;have:=px.out g (by simp [hm]);omega);rw [eM] at hv8 sV;simp only [Value.slice.injEq,true_and] at hv8;obtain ⟨rfl,rfl⟩:=hv8;have Kv:am w7 (w.heap.size+1+1) x.aa [.slice dG x.aa.length bV] Gh:=HOH.out.keep (fun y hy=>vt y (by have:=px.out y (by simp [hy]);omega)) J
   have vR:=I (am.whole Kv sV (fun y hy mn=>by
    rcases hG8 y mn with h9 | h9
    ·exact BC.out y hy h9
    ·have:=(nK.lt y h9).1;have:=px.out y (by simp [hy]);omega) wI iV gI iW)
   have HGN:=I (show ∀y∈Gh++G8,y≠w1.heap.size from fun y hy e=>by
    rcases List.mem_append.1 hy with hy | hy
    ·have:=px.out y (by simp [hy]);omega
    ·rcases hG8 y hy with h9 | h9
     ·have:=px.out y (by simp [h9]);omega
     ·have:=(nK.lt y h9).1;omega)
   have WE:Below w.heap.size w w7:=di.trans ⟨Ua.os.trans (cc.os.trans dB.os),Ua.tape.trans (cc.tape.trans dB.tape),Ua.output.trans (cc.output.trans dB.output),J,fun y hy=>vt y J⟩;obtain ⟨m0,m1,m2,m3,m4,m5⟩:=dp gn;have mf:=gn.fz;have ml:=gn.lt;obtain ⟨r0,r1,r2,r3,r4,r5⟩:=dp BQ;have rf:=BQ.fz;have rl:=BQ.lt;clear cU bX dk eS cG hf3 KB KR sa BE Ku tU xp gn BQ mR az nK cc Ua fG lX BP vt vr d8 sF sV Kv hG8 bo ap aR dB hg h oI om hA0;refine yG ?_;go_wp2_with fail
   try dsimp only
   iterate 60 (first | go_step | skip)
   refine bodyPost_ret (v:=.tuple #[.agg #[.slice dG x.aa.length bV,.slice A7 (x.au.length - 1) c7,.int .i64 x.next,.int .i64 x.weights.pack,.int .i64 x.weights.spread,.int .i64 x.weights.soft],.int .i64 0]) (by simp [results,Tryz.results106,go_sem, *]) rfl ?_;rw [HF.out]
   first
    | refine ⟨[.slice dG x.aa.length bV,.slice A7 (x.au.length - 1) c7,.int .i64 x.next,.int .i64 x.weights.pack,.int .i64 x.weights.spread,.int .i64 x.weights.soft],Gh++G8,rfl,?_,?_⟩
    | refine ⟨[.slice dG x.aa.length bV,.slice A7 (x.au.length - 1) c7,.int .i64 x.next,.int .i64 x.weights.pack,.int .i64 x.weights.spread,.int .i64 x.weights.soft],rfl,⟨Gh++G8,?_⟩,?_⟩
   ·try dsimp only
    refine am.mono (B:=w.heap.size+1+1) ?_ J;exact (by repeat (first | with_reducible exact vR.out | with_reducible refine am.setCell ?_ bA _ | with_reducible refine BB ?_ HGN.out))
   ·exact rh
end Go.Proofs.YtajbbmembionpaaGreat
