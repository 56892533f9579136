/- ClusterOk, of the program. No condition. -/
import Derived.Test.YtjahcnjmjahbaaaGreatClusterIC
import Derived.Test.YtjahcnjmjahbaaaGreatClusterS
namespace Go.Proofs.YtjahcnjmjahbaaaGreat
open Go.ChangeShapes Go.WideShapes Go.ChangeAt Go.RowKit
set_option linter.unusedVariables false
set_option linter.unusedSimpArgs false
set_option maxHeartbeats 4000000
set_option maxRecDepth 100000
theorem qL (x:aU) (cs:List Value) (F:List Nat) (w:World) (h:rd w x cs F) (hw:(x.wt:Int)<=1048576) :
 Calls Tryz.prog 28 #[.agg cs.toArray] w λe w'=>e = .returned (.bool (iI x))/\Below w.heap.size w w':=by
 have fv:x.wt = kL az.wt x.aa+kL ag.wt x.O:=rfl;have cA:(x.aa.length:Int)<=1048576:=by have:=gJ az.wt x.aa;omega
 have vk:(x.O.length:Int)<=1048576:=by have:=gJ ag.wt x.O;omega
 refine aeh x cs F w h cA vk (λy hy=>?_) (λy hy=>?_)
 ·obtain ⟨k,hk,rfl⟩:=List.getElem_of_mem hy;exact U6.o4 _ (by have:=rM (f:=az.wt) hk;omega)
 ·exact M1
theorem ai.join {α β:Type} [bd α] [bd β] {w:World} {B:Nat} {x:α} {y:β} {c1 c2:List Value} {F1 F2:List Nat} (h1:ai w B x c1 F1) (h2:ai w B y c2 F2) (hd:∀b∈F1,b∉F2):ai w B (x,y) (c1++c2) (F1++F2):=by
 exact CZ
theorem ai.parts {w:World} {B:Nat} {x:aU} {Ah Ap:Option Addr} {nh ch np cp:Nat} {n p q f:Int} {G:List Nat} (h:ai w B x [.slice Ah nh ch,.slice Ap np cp,.int .i64 n,.int .i64 p,.int .i64 q,.int .i64 f] G) :
 ∃Gh Gp,ai w B x.aa [.slice Ah nh ch] Gh/\ai w B x.O [.slice Ap np cp] Gp/\(∀y∈Gh,y∉Gp)/\(∀y∈Gh,y∈G)/\(∀y∈Gp,y∈G):=by
 obtain ⟨⟨c1,c2,F1,F2,e1,rfl,hh,d1,d2,G1,G2,e3,rfl,hp,g1,g2,H1,H2,e5,e6,⟨e7,e8,hn⟩,fS⟩,hnd,hb,fk⟩:=h;obtain ⟨A,c,rfl,_⟩:=jB hh;obtain ⟨A2,c2',rfl,_⟩:=jB hp;subst e7 e5 e3;simp only [List.cons_append,List.nil_append,List.cons.injEq] at e1;obtain ⟨ea,eb,_⟩:=e1;rw [List.nodup_append,List.nodup_append] at hnd;refine ⟨F1,G1,⟨by rw [ea];exact hh,hnd.1,λy hy=>hb y (by simp [hy]),λy hy=>fk y (by simp [hy])⟩,⟨by rw [eb];exact hp,hnd.2.1.1,λy hy=>hb y (by simp [hy]),λy hy=>fk y (by simp [hy])⟩,λy hy mx=>hnd.2.2 y hy y (by simp [mx]) rfl,λy hy=>by simp [hy],λy hy=>by simp [hy]⟩
theorem ai.whole {w:World} {B:Nat} {H:List az} {Q:List ag} {Ah Ap:Option Addr} {nh ch np cp:Nat} {n p q f:Int} {Gh Gp:List Nat} (h:ai w B H [.slice Ah nh ch] Gh) (k:ai w B Q [.slice Ap np cp] Gp) (hd:∀y∈Gh,y∉Gp) (hn:aR n) (hp:aR p) (hq:aR q) (hf:aR f) :
 ai w B (⟨H,Q,n,⟨p,q,f⟩⟩:aU) [.slice Ah nh ch,.slice Ap np cp,.int .i64 n,.int .i64 p,.int .i64 q,.int .i64 f] (Gh++Gp):=by
 refine ai.up (B':=B) (λx:aU=>(x.aa,x.O,x.next,x.weights)) ?_ (Nat.le_refl _);have h5:ai w B (⟨p,q,f⟩:rZ) ([.int .i64 p]++([.int .i64 q]++[.int .i64 f])) []:=by exact C'
 have h6:=ai.cons (jL w n hn) h5;have h7:=ai.join h (ai.join k h6 (λb _ hb=>by cases hb)) (λb hb d8=>hd b hb (by simpa using d8));simpa using h7
def Ut (x:aU) (nm:ByteArray):aU × Int :=
 if iI x = true then (if pK (CG nm) x.O < 0 then (x,3) else (⟨x.aa,x.O.eraseIdx (pK (CG nm) x.O).toNat,x.next,x.weights⟩,0)) else (x,1)
def QW (nm:ByteArray) (p:ag):ag:=if p.on.toList == nm.toList then ⟨p.aS,⟨#[]⟩,p.seq⟩ else p
def VP (nm:ByteArray) (k:Nat) (xs:List ag):List ag:=(xs.take k).map (QW nm)++xs.drop k
theorem agW (nm:ByteArray) (k:Nat) (xs:List ag) (hk:k<=xs.length):(VP nm k xs).length = xs.length:=by unfold VP;rw [List.length_append,List.length_map,List.length_take,List.length_drop];omega
theorem ai0 (nm:ByteArray) (xs:List ag):VP nm 0 xs = xs:=by simp [VP]
theorem amE (nm:ByteArray) (xs:List ag):VP nm xs.length xs = xs.map (QW nm):=by simp [VP]
theorem agX {nm:ByteArray} {k:Nat} {xs:List ag} (hk:k < xs.length) (h:k < (VP nm k xs).length):(VP nm k xs)[k] = xs[k]:=by
 have h1:((xs.take k).map (QW nm)).length = k:=by rw [List.length_map,List.length_take];omega
 simp only [VP];rw [List.getElem_append_right J];simp [show min k xs.length = k from by omega]
theorem agY {nm:ByteArray} {k:Nat} {xs:List ag} (hk:k < xs.length):(VP nm k xs).set k (QW nm xs[k]) = VP nm (k+1) xs:=by
 have h1:((xs.take k).map (QW nm)).length = k:=by rw [List.length_map,List.length_take];omega
 unfold VP;rw [List.set_append_right _ _ J,h1,Nat.sub_self,<- List.getElem_cons_drop hk,List.set_cons_zero,List.take_succ_eq_append_getElem hk,List.map_append];simp
theorem ai1 {nm:ByteArray} {k:Nat} {xs:List ag} (hk:k < xs.length) (h:QW nm xs[k] = xs[k]):VP nm (k+1) xs = VP nm k xs:=by
 rw [<- agY hk,h];have h2:k < (VP nm k xs).length:=by rw [agW nm k xs J];exact hk
 rw [<- agX (nm:=nm) hk h2,List.set_getElem_self]
theorem ai.off {w:World} {B:Nat} {p:ag} {ck:List Value} {F:List Nat} (h:ai w B p ck F):ai w B (⟨p.aS,⟨#[]⟩,p.seq⟩:ag) (ck.set 7 (.string ⟨#[]⟩)) F:=by
 obtain ⟨⟨c1,c2,F1,F2,rfl,rfl,QS,c3,c4,F3,F4,rfl,rfl,⟨rfl,rfl,eI⟩,⟨rfl,rfl,Ue⟩⟩,hnd,hb,fk⟩:=h;have hl:c1.length = 7:=bd.len QS;have e:(c1++([Value.string p.on]++[Value.int .i64 p.seq])).set 7 (.string ⟨#[]⟩) = c1++([.string ⟨#[]⟩]++[.int .i64 p.seq]):=by rw [List.set_append_right _ _ J,hl];rfl
 rw [e];exact ⟨⟨c1,_,F1,_,rfl,rfl,QS,_,_,_,_,rfl,rfl,⟨rfl,rfl,(show (0:Nat)<=maxLen from Nat.zero_le _)⟩,⟨rfl,rfl,Ue⟩⟩,hnd,hb,fk⟩
theorem akU {α:Type} [bd α] {w:World} {B c i:Nat} {u:Value} {x:α} {cs:List Value} {F:List Nat} (h:ai w B x cs F) (hF:∀y∈F,y≠c):ai (w.setCell ⟨c,i,none⟩ u) B x cs F :=
 h.keep (λy hy=>Below.heap_setCell _ _ _ _ D0) d9
def Ko (x:aU) (nm:ByteArray):aU × Int :=
 if iI x = true then (if pK (iM nm) x.aa < 0 then (x,3) else (⟨x.aa.eraseIdx (pK (iM nm) x.aa).toNat,x.O.map (QW nm),x.next,x.weights⟩,0)) else (x,1)
def setW (x:aU) (u:rZ):aU × Int:=if iI x = true/\zL u.pack u.spread u.soft = true then (⟨x.aa,x.O,x.next,u⟩,0) else (x,1)
theorem ai.ag1 {w:World} {B:Nat} {x:aU} {Ah Ap:Option Addr} {nh ch np cp:Nat} {n p q f:Int} {G:List Nat} (h:ai w B x [.slice Ah nh ch,.slice Ap np cp,.int .i64 n,.int .i64 p,.int .i64 q,.int .i64 f] G) (u:rZ) (h1:aR u.pack) (h2:aR u.spread) (h3:aR u.soft) :
 ai w B (⟨x.aa,x.O,x.next,u⟩:aU) [.slice Ah nh ch,.slice Ap np cp,.int .i64 n,.int .i64 u.pack,.int .i64 u.spread,.int .i64 u.soft] G:=by
 obtain ⟨⟨c1,c2,F1,F2,e1,e2,hh,d1,d2,G1,G2,e3,e4,hp,g1,g2,H1,H2,e5,e6,⟨e7,e8,hn⟩,fS⟩,hnd,hb,fk⟩:=h;obtain ⟨A,c,rfl,_⟩:=jB hh;obtain ⟨A2,c2',rfl,_⟩:=jB hp;subst e7 e5 e3;simp only [List.cons_append,List.nil_append,List.cons.injEq] at e1;obtain ⟨ea,eb,ec,_⟩:=e1;refine ⟨⟨_,[.slice Ap np cp,.int .i64 n,.int .i64 u.pack,.int .i64 u.spread,.int .i64 u.soft],F1,F2,(by rw [ea];rfl),e2,hh,_,[.int .i64 n,.int .i64 u.pack,.int .i64 u.spread,.int .i64 u.soft],G1,G2,(by rw [eb];rfl),e4,hp,_,[.int .i64 u.pack,.int .i64 u.spread,.int .i64 u.soft],H1,H2,(by rw [ec];rfl),e6,⟨rfl,e8,hn⟩,?_⟩,hnd,hb,fk⟩;obtain ⟨rfl,hF,_⟩:=mg fS;rw [hF];exact Zj w u h1 h2 h3
theorem aeu (x:aU) (cs:List Value) (F:List Nat) (u:rZ) (us:List Value) (Fu:List Nat) (w:World) (h:rd w x cs F) (h':rd w u us Fu) (hw:(x.wt:Int)<=1048576) :
 Calls Tryz.prog 112 #[.agg cs.toArray,.agg us.toArray] w λe w'=>∃ds G,e = .returned (.tuple #[.agg ds.toArray,.int .i64 (setW x u).2])/\ai w' w.heap.size (setW x u).1 ds G/\Below w.heap.size w w':=by
 have HW:=I hw;clear hw;have hr:=h;have cJ:=h';obtain ⟨bG,bD,fQ,dn,bW,jg,aq,qp,bQ,dM,hnext,aV,aP,aW⟩:=aO hr;subst aq;obtain ⟨aq,hG0,Sr,Jm,Sv⟩:=mg cJ;subst aq;clear qp hG0 hr cJ;cases hc:iI x <;> cases fS:zL u.pack u.spread u.soft
 ·exact K7
 ·exact K7
 ·have HF:=I (show setW x u = (x,1) by unfold setW;rw [hc,fS];simp);have HC:=I hc;have Du:=I fS;clear hc fS;go_enter Tryz.func112,Tryz.ntmps112;go_wp2_with fail
  refine (BO x _ _ _ (aZ h cc) HW.out).mono ?_;rintro e w1 ⟨mi,G1,rfl,jX,bi⟩;have dk:=jX.rd;obtain ⟨dG,bV,xq,dS,dJ,Bz,aq,hG1,oO,tq,wI,iV,gI,iW⟩:=aO dk;subst aq;clear hG1 dk;obtain ⟨cO,eO⟩:=ay bi;have VQ:w.heap.size < w1.heap.size:=sq bi.size;have mC:w.heap.size+1 < w1.heap.size:=sq bi.size;have akV:w.heap.size+1+1 < w1.heap.size:=sq bi.size;have fm:=jX.lt;go_wp2_with fail
  refine (qM x _ _ _ (aZ h cc) HW.out).mono ?_;rw [HC.out];rintro e w2 ⟨rfl,ap⟩;obtain ⟨bX,cE⟩:=ay ap;have VR:w.heap.size < w2.heap.size:=sq ap.size;have mD:w.heap.size+1 < w2.heap.size:=sq ap.size;have aoy:w.heap.size+1+1 < w2.heap.size:=sq ap.size;have VT:w1.heap.size < w2.heap.size:=sq ap.size;go_wp2_with fail
  refine (pW u.pack u.spread u.soft _).mono ?_;rw [Du.out];rintro e w3 ⟨rfl,ba⟩;obtain ⟨cK,hf3⟩:=ay ba;have Qi:w.heap.size < w3.heap.size:=sq ba.size;have tC:w.heap.size+1 < w3.heap.size:=sq ba.size;have ZA:w.heap.size+1+1 < w3.heap.size:=sq ba.size;have Qj:w1.heap.size < w3.heap.size:=sq ba.size;have bA:ai w3 (w.heap.size+1+1+1) x [.slice dG x.aa.length bV,.slice dS x.O.length dJ,.int .i64 x.next,.int .i64 x.weights.pack,.int .i64 x.weights.spread,.int .i64 x.weights.soft] G1:=(((jX.mono S').alloc _).ext ap).ext ba;exact K8
 ·have HF:=I (show setW x u = (⟨x.aa,x.O,x.next,u⟩,0) by unfold setW;rw [hc,fS];simp);have HC:=I hc;have Du:=I fS;clear hc fS;go_enter Tryz.func112,Tryz.ntmps112;go_wp2_with fail
  refine (BO x _ _ _ (aZ h cc) HW.out).mono ?_;rintro e w1 ⟨mi,G1,rfl,jX,bi⟩;have dk:=jX.rd;obtain ⟨dG,bV,xq,dS,dJ,Bz,aq,hG1,oO,tq,wI,iV,gI,iW⟩:=aO dk;subst aq;clear hG1 dk;obtain ⟨cO,eO⟩:=ay bi;have VQ:w.heap.size < w1.heap.size:=sq bi.size;have mC:w.heap.size+1 < w1.heap.size:=sq bi.size;have akV:w.heap.size+1+1 < w1.heap.size:=sq bi.size;have fm:=jX.lt;go_wp2_with fail
  refine (qM x _ _ _ (aZ h cc) HW.out).mono ?_;rw [HC.out];rintro e w2 ⟨rfl,ap⟩;obtain ⟨bX,cE⟩:=ay ap;have VR:w.heap.size < w2.heap.size:=sq ap.size;have mD:w.heap.size+1 < w2.heap.size:=sq ap.size;have aoy:w.heap.size+1+1 < w2.heap.size:=sq ap.size;have VT:w1.heap.size < w2.heap.size:=sq ap.size;go_wp2_with fail
  refine (pW u.pack u.spread u.soft _).mono ?_;rw [Du.out];rintro e w3 ⟨rfl,ba⟩;obtain ⟨cK,hf3⟩:=ay ba;have Qi:w.heap.size < w3.heap.size:=sq ba.size;have tC:w.heap.size+1 < w3.heap.size:=sq ba.size;have ZA:w.heap.size+1+1 < w3.heap.size:=sq ba.size;have Qj:w1.heap.size < w3.heap.size:=sq ba.size;have bA:ai w3 (w.heap.size+1+1+1) x [.slice dG x.aa.length bV,.slice dS x.O.length dJ,.int .i64 x.next,.int .i64 x.weights.pack,.int .i64 x.weights.spread,.int .i64 x.weights.soft] G1:=(((jX.mono S').alloc _).ext ap).ext ba;have RZ:=I bA;clear jX bA h h';go_wp2_with fail
  try dsimp only
  iterate 60 (first | go_step | skip)
  refine bodyPost_ret (v:=.tuple #[.agg #[.slice dG x.aa.length bV,.slice dS x.O.length dJ,.int .i64 x.next,.int .i64 u.pack,.int .i64 u.spread,.int .i64 u.soft],.int .i64 0]) (by simp [results,Tryz.results112,go_sem, *]) rfl ?_;rw [HF.out]
  first
   | refine ⟨[.slice dG x.aa.length bV,.slice dS x.O.length dJ,.int .i64 x.next,.int .i64 u.pack,.int .i64 u.spread,.int .i64 u.soft],G1,rfl,?_,?_⟩
   | refine ⟨[.slice dG x.aa.length bV,.slice dS x.O.length dJ,.int .i64 x.next,.int .i64 u.pack,.int .i64 u.spread,.int .i64 u.soft],rfl,⟨G1,?_⟩,?_⟩
  ·try dsimp only
   refine ai.mono (B:=w.heap.size+1+1+1) ?_ J;exact (by repeat (first | with_reducible exact (RZ.out.ag1 u Sr Jm Sv) | with_reducible refine ai.setCell ?_ bv _ | with_reducible refine OC ?_ (λy hy=>fm y hy)))
  ·exact sl
theorem aif (x:aU) (cs:List Value) (F:List Nat) (w:World) (h:rd w x cs F) (hw:(x.wt:Int)<=1048576) :
 Calls Tryz.prog 8 #[.agg cs.toArray] w λe w'=>e = .returned (.string (JC x))/\Below w.heap.size w w':=by
 have fv:x.wt = kL az.wt x.aa+kL ag.wt x.O:=rfl;have cA:(x.aa.length:Int)<=1048576:=by have:=gJ az.wt x.aa;omega
 have vk:(x.O.length:Int)<=1048576:=by have:=gJ ag.wt x.O;omega
 have th:=I (λk (hk:k < x.aa.length)=>(show (az.wt x.aa[k]:Int)<=1048576 by have:=rM (f:=az.wt) hk;omega));have qq:=I (λk (hk:k < x.O.length)=>(show (nI.wt x.O[k].aS:Int)<=1048576 by have:=rM (f:=ag.wt) hk;have e:ag.wt x.O[k] = nI.wt x.O[k].aS+x.O[k].on.size:=rfl;omega));have hr:=h;obtain ⟨bG,bD,fQ,dn,bW,jg,aq,hF,bQ,dM,hnext,aV,aP,aW⟩:=aO hr;subst aq;clear hF hr fv
 have Gc:=I (show ∀y∈x.aa,(wS y).size<=4500000000000 by
  intro y hy;obtain ⟨k,hk,rfl⟩:=List.getElem_of_mem hy;obtain ⟨b,o,ck,Fk,_,_,_,hr,_⟩:=bQ.get hk
  exact Yt hr (th.out k hk))
 have Rc:=I (show ∀y∈x.O,(Bg y.aS).size<=9000000000000 by
  intro y hy;obtain ⟨k,hk,rfl⟩:=List.getElem_of_mem hy;obtain ⟨b,o,ck,Fk,_,_,_,hr,_⟩:=dM.get hk;obtain ⟨_,_,_,_,_,_,UK,_⟩:=hr
  exact Z7 UK (qq.out k hk))
 have Re:=I dM.Ec;cases hR:iI x with
 | false =>
   have HF:=I (show JC x = ⟨#[]⟩ by unfold JC;rw [hR];rfl);have HR:=I hR;clear hR;go_enter Tryz.func8,Tryz.ntmps8;go_wp2_with fail
   refine (qL x _ _ _ (aJ h bc) hw).mono ?_;exact od
 | true =>
   have HF:=I (show JC x = Ig x x.O.length by unfold JC;rw [hR];rfl);have HR:=I hR;have HC:=HR;obtain ⟨IF,EG⟩:=Z8 hR;clear hR;go_enter Tryz.func8,Tryz.ntmps8;go_wp2_with fail
   refine (qL x _ _ _ (aJ h bc) hw).mono ?_;rw [HR.out];rintro e w2 ⟨rfl,ap⟩;obtain ⟨bX,cE⟩:=ay ap;have cr:w.heap.size < w2.heap.size:=(sq ap.size);have lz:=bM x.weights.pack aV;have me:=bM x.weights.spread aP;have FH:=bM x.weights.soft aW;have FJ:=bM x.next hnext;have ua:aR (x.aa.length:Int):=(by unfold aR;omega);have Rf:aR (x.O.length:Int):=(by unfold aR;omega);have FK:=bM x.aa.length ua;have FL:=bM x.O.length Rf;have B2:=I ((oG.new w [.slice bG x.aa.length bD,.slice dn x.O.length bW,.int .i64 x.next,.int .i64 x.weights.pack,.int .i64 x.weights.spread,.int .i64 x.weights.soft] 29).ext ap);have eu:Below w.heap.size w w2:=bc;have Q2:(UR x).size<=50:=by unfold UR;simp only [ByteArray.size_append];omega
   have HX:=I h;go_wp2_with fail
   refine aF w2 U' U' (aj _) ?_
   repeat (first
    | (apply aG
       case hw=>rfl
       simp only [Act.put,pz])
    | (apply aH
       case hw=>rfl
       case h =>
        intro wq hq;have cN:=(aB hq).1;have lJ:=(aB hq).2;go_simp
        first
         | exact ⟨hq,rfl⟩
         | exact ⟨aQ hq _,rfl⟩
         | (refine (wE _ _ pB).mono ?_;rintro e wz ⟨rfl,nV⟩;exact ⟨rfl,aI hq nV⟩)
         | (simp only [↓IntWalk.iteOmega];exact ⟨hq,rfl⟩)
       simp only [Act.put,pz]))
   refine aN ?_;intro wn hn;replace hn:=hn.out;have BN:=B2.out.ext hn;obtain ⟨d0,d1,d2,d3,d4,d5⟩:=cw BN;have I6:Below w.heap.size w wn:=ah eu hn;go_wp2_with fail
   go_loopw [3,37] (λs i wr=>∃k:Nat,k<=x.aa.length/\i = .int .i64 k/\s = .string (zn x k)/\oG wr w.heap.size [.slice bG x.aa.length bD,.slice dn x.O.length bW,.int .i64 x.next,.int .i64 x.weights.pack,.int .i64 x.weights.spread,.int .i64 x.weights.soft]/\Below w.heap.size w wr) (λ_ i _=>x.aa.length - (intOf i).toNat)
   case atStart=>exact ⟨0,Nat.zero_le _,rfl,rfl,BN,I6⟩
   case round =>
    obtain ⟨k,hk,rfl,rfl,hBK,ax⟩:=hrel;have dd:w.heap.size < wr.heap.size:=hBK.lt;obtain ⟨wo,hwo⟩:∃wo,wo = wr:=⟨_,rfl⟩;subst hwo;obtain ⟨c0,c1,c2,c3,c4,c5⟩:=cw hBK;by_cases am:k < x.aa.length
    ·obtain ⟨b,o,ck,Fk,rfl,o9,hbs,hr,bm,hc⟩:=(Sl.ext (w':=wo) (A:=bG) (c:=bD) bQ ax).get am;have ek:=hr;obtain ⟨jM,jO,sN,jE,jF,sO,aq,su,zM,qY,Gt,Gw,xg,qA⟩:=iy ek;subst aq;obtain ⟨q0,q1,q2,q3,q4,q5⟩:=mN 6 hc;clear hc ek;have PE:=Ih x Gc.out k hk;have hhb:=Gc.out x.aa[k] (List.getElem_mem ..);have lU:k * 4500000000000<=8 * 4500000000000:=Nat.mul_le_mul_right _ J;have Jf:=I (QG am);generalize hS:zn x k = S0 at Jf PE |-;go_wp2_with fail
     refine (XK x.aa[k] _ _ _ (aJ hr bc) (th.out k am)).mono ?_;rintro e yW ⟨rfl,gv⟩;go_wp2;exact ⟨⟨k+1,J,N',by rw [Jf.out],(hBK.ext (ak (aj _) _)).ext gv,ah (ak ax _) gv⟩,by simp [intOf];omega⟩
    ·have bs:k = x.aa.length:=J;subst bs;have PE:=Ih x Gc.out x.aa.length (Nat.le_refl _);have lU:x.aa.length * 4500000000000<=8 * 4500000000000:=Nat.mul_le_mul_right _ J;have yX:(RY x).size<=(zn x x.aa.length).size+10:=by
      unfold RY;rw [ByteArray.size_append];omega
     have HM:=I (show RY x = zn x x.aa.length++jD x.O.length from rfl);generalize hS:zn x x.aa.length = S0 at HM PE yX |-;go_wp2_with fail
     refine (wE _ _ Rf).mono ?_;rintro e F6 ⟨rfl,gf⟩;have BM:=hBK.ext gf;obtain ⟨e0,e1,e2,e3,e4,e5⟩:=cw BM;have hBm:Below w.heap.size w F6:=ah ax gf;go_wp2_with fail
     go_loopw [3,55] (λs i wr=>∃k:Nat,k<=x.O.length/\i = .int .i64 k/\s = .string (Ig x k)/\oG wr w.heap.size [.slice bG x.aa.length bD,.slice dn x.O.length bW,.int .i64 x.next,.int .i64 x.weights.pack,.int .i64 x.weights.spread,.int .i64 x.weights.soft]/\Below w.heap.size w wr) (λ_ i _=>x.O.length - (intOf i).toNat)
     case atStart=>exact ⟨0,Nat.zero_le _,rfl,by rw [<- HM.out];rfl,BM,hBm⟩
     case round =>
      obtain ⟨k,hk,rfl,rfl,hBL,alg⟩:=hrel;have aar:w.heap.size < wr.heap.size:=hBL.lt;obtain ⟨f0,f1,f2,f3,f4,f5⟩:=cw hBL;by_cases am:k < x.O.length
      ·obtain ⟨b,o,ck,Fk,rfl,o9,hbs,hr,bm,hc⟩:=(Sl.ext (w':=wr) (A:=dn) (c:=bW) dM alg).get am;have ek:=hr;have lN:=hr;obtain ⟨fC,fD,yD,gB,gG,AA,bT,bU,qI,aq,su,Dv,yE,FY,FZ,Dw,AB,qJ,aeg,Wv⟩:=kE ek;subst aq;obtain ⟨q0,q1,q2,q3,q4,q5,q6,q7,q8⟩:=oY 9 hc;clear hc ek;obtain ⟨yR,don,U4,Gon,hdc,hdG,kG,_⟩:=lN;have ku:rd wr x.O[k].aS [.string x.O[k].aS.name,.slice fC x.O[k].aS.labels.length fD,.int .i64 x.O[k].aS.aw,.int .i64 x.O[k].aS.mem,.int .i64 x.O[k].aS.av,.slice gB x.O[k].aS.af.length gG,.slice bT x.O[k].aS.ae.length bU] U4:=by
        exact mE
       clear hdc hdG kG;have HQ:=I ku;clear ku;have uZ:=I alg;have QH:=I hBL;have PE:=TT x Rc.out cA Re.out k hk;have hhb:=Rc.out x.O[k] (List.getElem_mem ..);have kR:=Yu (x:=x) (p:=x.O[k]) cA (Re.out _ (List.getElem_mem ..));have lU:k * 9000000000020<=12 * 9000000000020:=Nat.mul_le_mul_right _ J;have Jf:=I (TU am);generalize hS:Ig x k = S0 at Jf PE |-;go_wp2_with fail
       refine aF _ U' U' (aj _) ?_
       repeat (first
        | (apply aG
           case hw=>rfl
           simp only [Act.put,pz])
        | (apply aH
           case hw=>rfl
           case h =>
            intro wq hq;have cN:=(aB hq).1;have lJ:=(aB hq).2;have BQ:=QH.out.ext (ah bc hq);obtain ⟨q0,q1,q2,q3,q4,q5⟩:=cw BQ;go_simp
            first
             | exact ⟨hq,rfl⟩
             | exact ⟨aQ hq _,rfl⟩
             | (first | (refine (ZC x.O[k].aS _ _ _ (aJ HQ.out (ah bc hq)) (qq.out k am)).mono ?_;rintro e wz ⟨rfl,nV⟩;exact ⟨rfl,aI hq nV⟩) | (refine (aeF x _ _ x.O[k] _ _ _ (aJ HX.out (ah uZ.out (ah bc hq))) (aJ hr (ah bc hq)) cA).mono ?_;rintro e wz ⟨rfl,nV⟩;exact ⟨rfl,aI hq nV⟩))
             | (simp only [↓IntWalk.iteOmega];exact ⟨hq,rfl⟩)
           simp only [Act.put,pz]))
       refine aN ?_;intro wn5 YW;replace YW:=YW.out;go_wp2;exact ⟨⟨k+1,J,N',by rw [Jf.out];unfold I9;simp only [ByteArray.append_assoc],(hBL.ext (ak (aj _) _)).ext YW,ah (ak alg _) YW⟩,by simp [intOf];omega⟩
      ·exact M9
theorem aie (x:aU) (cs:List Value) (F:List Nat) (w:World) (h:rd w x cs F) (hw:(x.wt:Int)<=1048576) :
 Calls Tryz.prog 43 #[.agg cs.toArray] w λe w'=>e = .returned (.string (JC x))/\Below w.heap.size w w':=by
 have fv:x.wt = kL az.wt x.aa+kL ag.wt x.O:=rfl;have cA:(x.aa.length:Int)<=1048576:=by have:=gJ az.wt x.aa;omega
 have vk:(x.O.length:Int)<=1048576:=by have:=gJ ag.wt x.O;omega
 have th:=I (λk (hk:k < x.aa.length)=>(show (az.wt x.aa[k]:Int)<=1048576 by have:=rM (f:=az.wt) hk;omega));have qq:=I (λk (hk:k < x.O.length)=>(show (nI.wt x.O[k].aS:Int)<=1048576 by have:=rM (f:=ag.wt) hk;have e:ag.wt x.O[k] = nI.wt x.O[k].aS+x.O[k].on.size:=rfl;omega));have hr:=h;obtain ⟨bG,bD,fQ,dn,bW,jg,aq,hF,bQ,dM,hnext,aV,aP,aW⟩:=aO hr;subst aq;clear hF hr fv
 have Gc:=I (show ∀y∈x.aa,(wS y).size<=4500000000000 by
  intro y hy;obtain ⟨k,hk,rfl⟩:=List.getElem_of_mem hy;obtain ⟨b,o,ck,Fk,_,_,_,hr,_⟩:=bQ.get hk
  exact Yt hr (th.out k hk))
 have Rc:=I (show ∀y∈x.O,(Bg y.aS).size<=9000000000000 by
  intro y hy;obtain ⟨k,hk,rfl⟩:=List.getElem_of_mem hy;obtain ⟨b,o,ck,Fk,_,_,_,hr,_⟩:=dM.get hk;obtain ⟨_,_,_,_,_,_,UK,_⟩:=hr
  exact Z7 UK (qq.out k hk))
 have Re:=I dM.Ec;cases hR:iI x with
 | false =>
   have HF:=I (show JC x = ⟨#[]⟩ by unfold JC;rw [hR];rfl);have HR:=I hR;clear hR;go_enter Tryz.func43,Tryz.ntmps43;go_wp2_with fail
   refine (qM x _ _ _ (aJ h bc) hw).mono ?_;exact od
 | true =>
   have HF:=I (show JC x = Ig x x.O.length by unfold JC;rw [hR];rfl);have HR:=I hR;have HC:=HR;obtain ⟨IF,EG⟩:=Z8 hR;clear hR;go_enter Tryz.func43,Tryz.ntmps43;go_wp2_with fail
   refine (qM x _ _ _ (aJ h bc) hw).mono ?_;rw [HR.out];rintro e w2 ⟨rfl,ap⟩;obtain ⟨bX,cE⟩:=ay ap;have cr:w.heap.size < w2.heap.size:=(sq ap.size);have lz:=bM x.weights.pack aV;have me:=bM x.weights.spread aP;have FH:=bM x.weights.soft aW;have FJ:=bM x.next hnext;have ua:aR (x.aa.length:Int):=(by unfold aR;omega);have Rf:aR (x.O.length:Int):=(by unfold aR;omega);have FK:=bM x.aa.length ua;have FL:=bM x.O.length Rf;have B2:=I ((oG.new w [.slice bG x.aa.length bD,.slice dn x.O.length bW,.int .i64 x.next,.int .i64 x.weights.pack,.int .i64 x.weights.spread,.int .i64 x.weights.soft] 29).ext ap);have eu:Below w.heap.size w w2:=bc;have Q2:(UR x).size<=50:=by unfold UR;simp only [ByteArray.size_append];omega
   have HX:=I h;go_wp2_with fail
   refine aF w2 U' U' (aj _) ?_
   repeat (first
    | (apply aG
       case hw=>rfl
       simp only [Act.put,pz])
    | (apply aH
       case hw=>rfl
       case h =>
        intro wq hq;have cN:=(aB hq).1;have lJ:=(aB hq).2;go_simp
        first
         | exact ⟨hq,rfl⟩
         | exact ⟨aQ hq _,rfl⟩
         | (refine (uP _ _ pB).mono ?_;rintro e wz ⟨rfl,nV⟩;exact ⟨rfl,aI hq nV⟩)
         | (simp only [↓IntWalk.iteOmega];exact ⟨hq,rfl⟩)
       simp only [Act.put,pz]))
   refine aN ?_;intro wn hn;replace hn:=hn.out;have BN:=B2.out.ext hn;obtain ⟨d0,d1,d2,d3,d4,d5⟩:=cw BN;have I6:Below w.heap.size w wn:=ah eu hn;go_wp2_with fail
   go_loopw [3,4] (λs i wr=>∃k:Nat,k<=x.aa.length/\i = .int .i64 k/\s = .string (zn x k)/\oG wr w.heap.size [.slice bG x.aa.length bD,.slice dn x.O.length bW,.int .i64 x.next,.int .i64 x.weights.pack,.int .i64 x.weights.spread,.int .i64 x.weights.soft]/\Below w.heap.size w wr) (λ_ i _=>x.aa.length - (intOf i).toNat)
   case atStart=>exact ⟨0,Nat.zero_le _,rfl,rfl,BN,I6⟩
   case round =>
    obtain ⟨k,hk,rfl,rfl,hBK,ax⟩:=hrel;have dd:w.heap.size < wr.heap.size:=hBK.lt;obtain ⟨wo,hwo⟩:∃wo,wo = wr:=⟨_,rfl⟩;subst hwo;obtain ⟨c0,c1,c2,c3,c4,c5⟩:=cw hBK;by_cases am:k < x.aa.length
    ·obtain ⟨b,o,ck,Fk,rfl,o9,hbs,hr,bm,hc⟩:=(Sl.ext (w':=wo) (A:=bG) (c:=bD) bQ ax).get am;have ek:=hr;obtain ⟨jM,jO,sN,jE,jF,sO,aq,su,zM,qY,Gt,Gw,xg,qA⟩:=iy ek;subst aq;obtain ⟨q0,q1,q2,q3,q4,q5⟩:=mN 6 hc;clear hc ek;have PE:=Ih x Gc.out k hk;have hhb:=Gc.out x.aa[k] (List.getElem_mem ..);have lU:k * 4500000000000<=8 * 4500000000000:=Nat.mul_le_mul_right _ J;have Jf:=I (QG am);generalize hS:zn x k = S0 at Jf PE |-;go_wp2_with fail
     refine (XJ x.aa[k] _ _ _ (aJ hr bc) (th.out k am)).mono ?_;rintro e yW ⟨rfl,gv⟩;go_wp2;exact ⟨⟨k+1,J,N',by rw [Jf.out],hBK.ext gv,ah ax gv⟩,by simp [intOf];omega⟩
    ·have bs:k = x.aa.length:=J;subst bs;have PE:=Ih x Gc.out x.aa.length (Nat.le_refl _);have lU:x.aa.length * 4500000000000<=8 * 4500000000000:=Nat.mul_le_mul_right _ J;have yX:(RY x).size<=(zn x x.aa.length).size+10:=by
      unfold RY;rw [ByteArray.size_append];omega
     have HM:=I (show RY x = zn x x.aa.length++jD x.O.length from rfl);generalize hS:zn x x.aa.length = S0 at HM PE yX |-;go_wp2_with fail
     refine (uP _ _ Rf).mono ?_;rintro e F6 ⟨rfl,gf⟩;have BM:=hBK.ext gf;obtain ⟨e0,e1,e2,e3,e4,e5⟩:=cw BM;have hBm:Below w.heap.size w F6:=ah ax gf;go_wp2_with fail
     go_loopw [3,5] (λs i wr=>∃k:Nat,k<=x.O.length/\i = .int .i64 k/\s = .string (Ig x k)/\oG wr w.heap.size [.slice bG x.aa.length bD,.slice dn x.O.length bW,.int .i64 x.next,.int .i64 x.weights.pack,.int .i64 x.weights.spread,.int .i64 x.weights.soft]/\Below w.heap.size w wr) (λ_ i _=>x.O.length - (intOf i).toNat)
     case atStart=>exact ⟨0,Nat.zero_le _,rfl,by rw [<- HM.out];rfl,BM,hBm⟩
     case round =>
      obtain ⟨k,hk,rfl,rfl,hBL,alg⟩:=hrel;have aar:w.heap.size < wr.heap.size:=hBL.lt;obtain ⟨f0,f1,f2,f3,f4,f5⟩:=cw hBL;by_cases am:k < x.O.length
      ·obtain ⟨b,o,ck,Fk,rfl,o9,hbs,hr,bm,hc⟩:=(Sl.ext (w':=wr) (A:=dn) (c:=bW) dM alg).get am;have ek:=hr;have lN:=hr;obtain ⟨fC,fD,yD,gB,gG,AA,bT,bU,qI,aq,su,Dv,yE,FY,FZ,Dw,AB,qJ,aeg,Wv⟩:=kE ek;subst aq;obtain ⟨q0,q1,q2,q3,q4,q5,q6,q7,q8⟩:=oY 9 hc;clear hc ek;obtain ⟨yR,don,U4,Gon,hdc,hdG,kG,_⟩:=lN;have ku:rd wr x.O[k].aS [.string x.O[k].aS.name,.slice fC x.O[k].aS.labels.length fD,.int .i64 x.O[k].aS.aw,.int .i64 x.O[k].aS.mem,.int .i64 x.O[k].aS.av,.slice gB x.O[k].aS.af.length gG,.slice bT x.O[k].aS.ae.length bU] U4:=by
        exact mE
       clear hdc hdG kG;have HQ:=I ku;clear ku;have uZ:=I alg;have QH:=I hBL;have PE:=TT x Rc.out cA Re.out k hk;have hhb:=Rc.out x.O[k] (List.getElem_mem ..);have kR:=Yu (x:=x) (p:=x.O[k]) cA (Re.out _ (List.getElem_mem ..));have lU:k * 9000000000020<=12 * 9000000000020:=Nat.mul_le_mul_right _ J;have Jf:=I (TU am);generalize hS:Ig x k = S0 at Jf PE |-;go_wp2_with fail
       refine aF _ U' U' (aj _) ?_
       repeat (first
        | (apply aG
           case hw=>rfl
           simp only [Act.put,pz])
        | (apply aH
           case hw=>rfl
           case h =>
            intro wq hq;have cN:=(aB hq).1;have lJ:=(aB hq).2;have BQ:=QH.out.ext (ah bc hq);obtain ⟨q0,q1,q2,q3,q4,q5⟩:=cw BQ;go_simp
            first
             | exact ⟨hq,rfl⟩
             | exact ⟨aQ hq _,rfl⟩
             | (first | (refine (ZB x.O[k].aS _ _ _ (aJ HQ.out (ah bc hq)) (qq.out k am)).mono ?_;rintro e wz ⟨rfl,nV⟩;exact ⟨rfl,aI hq nV⟩) | (refine (ag3 x _ _ x.O[k] _ _ _ (aJ HX.out (ah uZ.out (ah bc hq))) (aJ hr (ah bc hq)) cA HC.out).mono ?_;rintro e wz ⟨rfl,nV⟩;exact ⟨rfl,aI hq nV⟩))
             | (simp only [↓IntWalk.iteOmega];exact ⟨hq,rfl⟩)
           simp only [Act.put,pz]))
       refine aN ?_;intro wn5 YW;replace YW:=YW.out;go_wp2;exact ⟨⟨k+1,J,N',by rw [Jf.out];unfold I9;simp only [ByteArray.append_assoc],hBL.ext YW,ah alg YW⟩,by simp [intOf];omega⟩
      ·exact M9
end Go.Proofs.YtjahcnjmjahbaaaGreat
