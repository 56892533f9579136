/- DeletePod, of the program. No condition. -/
import Derived.Test.YtkjeocdobidadaaGreatCopyS
import Derived.Test.YtkjeocdobidadaaGreatUsed
import Derived.Deep.RegionLaw
import Derived.Deep.MidRow
import Derived.Test.YtkjeocdobidadaaGreatClusterI
import Derived.Test.YtkjeocdobidadaaGreatToBase
import Derived.Test.YtkjeocdobidadaaGreatMark
import Derived.Test.YtkjeocdobidadaaGreatData
import Derived.Test.YtkjeocdobidadaaGreatClusterS
import Derived.Test.YtkjeocdobidadaaGreatRankP
import Derived.Test.YtkjeocdobidadaaGreatCmp2
import Derived.Test.YtkjeocdobidadaaGreatRegionIx
import Derived.Test.YtkjeocdobidadaaGreatRankS
import Derived.Test.YtkjeocdobidadaaGreatCpP
import Derived.Test.YtkjeocdobidadaaGreatWordsS
import Derived.Test.YtkjeocdobidadaaGreatStabM
import Derived.Test.YtkjeocdobidadaaGreatRegionCut
namespace Go.Proofs.YtkjeocdobidadaaGreat
open Go.ChangeShapes Go.WideShapes Go.ChangeAt Go.RowKit
set_option linter.unusedVariables false
set_option linter.unusedSimpArgs false
set_option maxHeartbeats 4000000
set_option maxRecDepth 100000
theorem Own.join {α β:Type} [Dat α] [Dat β] {w:World} {B:Nat} {x:α} {y:β} {c1 c2:List Value} {F1 F2:List Nat} (h1:Own w B x c1 F1) (h2:Own w B y c2 F2) (hd:∀b∈F1,b∉F2):Own w B (x,y) (c1++c2) (F1++F2):=by
 exact Zab5
theorem Own.parts {w:World} {B:Nat} {x:aU} {Ah Ap:Option Addr} {nh ch np cp:Nat} {n p q f:Int} {G:List Nat} (h:Own w B x [.slice Ah nh ch,.slice Ap np cp,.int .i64 n,.int .i64 p,.int .i64 q,.int .i64 f] G) :
 ∃Gh Gp,Own w B x.hosts [.slice Ah nh ch] Gh∧Own w B x.au [.slice Ap np cp] Gp∧(∀y∈Gh,y∉Gp)∧(∀y∈Gh,y∈G)∧(∀y∈Gp,y∈G):=by
 obtain ⟨⟨c1,c2,F1,F2,e1,rfl,hh,d1,d2,G1,G2,e3,rfl,hp,g1,g2,H1,H2,e5,e6,⟨e7,e8,hn⟩,hwt⟩,hnd,hb,hpl⟩:=h;obtain ⟨A,c,rfl,_⟩:=jB hh;obtain ⟨A2,c2',rfl,_⟩:=jB hp;subst e7 e5 e3;simp only [List.cons_append,List.nil_append,List.cons.injEq] at e1;obtain ⟨ea,eb,_⟩:=e1;rw [List.nodup_append,List.nodup_append] at hnd;refine ⟨F1,G1,⟨by rw [ea];exact hh,hnd.1,fun y hy=>hb y (by simp [hy]),fun y hy=>hpl y (by simp [hy])⟩,⟨by rw [eb];exact hp,hnd.2.1.1,fun y hy=>hb y (by simp [hy]),fun y hy=>hpl y (by simp [hy])⟩,fun y hy hy'=>hnd.2.2 y hy y (by simp [hy']) rfl,fun y hy=>by simp [hy],fun y hy=>by simp [hy]⟩
theorem Own.whole {w:World} {B:Nat} {H:List Host} {Q:List Placed} {Ah Ap:Option Addr} {nh ch np cp:Nat} {n p q f:Int} {Gh Gp:List Nat} (h:Own w B H [.slice Ah nh ch] Gh) (k:Own w B Q [.slice Ap np cp] Gp) (hd:∀y∈Gh,y∉Gp) (hn:I64 n) (hp:I64 p) (hq:I64 q) (hf:I64 f) :
 Own w B (⟨H,Q,n,⟨p,q,f⟩⟩:aU) [.slice Ah nh ch,.slice Ap np cp,.int .i64 n,.int .i64 p,.int .i64 q,.int .i64 f] (Gh++Gp):=by
 refine Own.up (B':=B) (fun x:aU=>(x.hosts,x.au,x.next,x.weights)) ?_ (Nat.le_refl _);have h5:Own w B (⟨p,q,f⟩:rZ) ([.int .i64 p]++([.int .i64 q]++[.int .i64 f])) []:=by exact Zacw
 have h6:=Own.cons (jL w n hn) h5;have h7:=Own.join h (Own.join k h6 (fun b _ hb=>by cases hb)) (fun b hb hb'=>hd b hb (by simpa using hb'));simpa using h7
def Ut (x:aU) (nm:ByteArray):aU × Int :=
 if iI x = true then (if pK (CG nm) x.au < 0 then (x,3) else (⟨x.hosts,x.au.eraseIdx (pK (CG nm) x.au).toNat,x.next,x.weights⟩,0)) else (x,1)
def QW (nm:ByteArray) (p:Placed):Placed:=if p.on.toList == nm.toList then ⟨p.aS,⟨#[]⟩,p.seq⟩ else p
def VP (nm:ByteArray) (k:Nat) (xs:List Placed):List Placed:=(xs.take k).map (QW nm)++xs.drop k
theorem agW (nm:ByteArray) (k:Nat) (xs:List Placed) (hk:k≤xs.length):(VP nm k xs).length = xs.length:=by unfold VP;rw [List.length_append,List.length_map,List.length_take,List.length_drop];omega
theorem ai0 (nm:ByteArray) (xs:List Placed):VP nm 0 xs = xs:=by simp [VP]
theorem amE (nm:ByteArray) (xs:List Placed):VP nm xs.length xs = xs.map (QW nm):=by simp [VP]
theorem agX {nm:ByteArray} {k:Nat} {xs:List Placed} (hk:k < xs.length) (h:k < (VP nm k xs).length):(VP nm k xs)[k] = xs[k]:=by
 have h1:((xs.take k).map (QW nm)).length = k:=by rw [List.length_map,List.length_take];omega
 simp only [VP];rw [List.getElem_append_right O'];simp [show min k xs.length = k from by omega]
theorem agY {nm:ByteArray} {k:Nat} {xs:List Placed} (hk:k < xs.length):(VP nm k xs).set k (QW nm xs[k]) = VP nm (k+1) xs:=by
 have h1:((xs.take k).map (QW nm)).length = k:=by rw [List.length_map,List.length_take];omega
 unfold VP;rw [List.set_append_right _ _ O',h1,Nat.sub_self,← List.getElem_cons_drop hk,List.set_cons_zero,List.take_succ_eq_append_getElem hk,List.map_append];simp
theorem ai1 {nm:ByteArray} {k:Nat} {xs:List Placed} (hk:k < xs.length) (h:QW nm xs[k] = xs[k]):VP nm (k+1) xs = VP nm k xs:=by
 rw [← agY hk,h];have h2:k < (VP nm k xs).length:=by rw [agW nm k xs O'];exact hk
 rw [← agX (nm:=nm) hk h2,List.set_getElem_self]
theorem Own.off {w:World} {B:Nat} {p:Placed} {ck:List Value} {F:List Nat} (h:Own w B p ck F):Own w B (⟨p.aS,⟨#[]⟩,p.seq⟩:Placed) (ck.set 7 (.string ⟨#[]⟩)) F:=by
 obtain ⟨⟨c1,c2,F1,F2,rfl,rfl,QS,c3,c4,F3,F4,rfl,rfl,⟨rfl,rfl,hon⟩,⟨rfl,rfl,Ue⟩⟩,hnd,hb,hpl⟩:=h;have hl:c1.length = 7:=Dat.len QS;have e:(c1++([Value.string p.on]++[Value.int .i64 p.seq])).set 7 (.string ⟨#[]⟩) = c1++([.string ⟨#[]⟩]++[.int .i64 p.seq]):=by rw [List.set_append_right _ _ O',hl];rfl
 rw [e];exact ⟨⟨c1,_,F1,_,rfl,rfl,QS,_,_,_,_,rfl,rfl,⟨rfl,rfl,(show (0:Nat)≤maxLen from Nat.zero_le _)⟩,⟨rfl,rfl,Ue⟩⟩,hnd,hb,hpl⟩
theorem akU {α:Type} [Dat α] {w:World} {B c i:Nat} {u:Value} {x:α} {cs:List Value} {F:List Nat} (h:Own w B x cs F) (hF:∀y∈F,y≠c):Own (w.setCell ⟨c,i,none⟩ u) B x cs F :=
 h.keep (fun y hy=>Below.heap_setCell _ _ _ _ avg) aua
def Ko (x:aU) (nm:ByteArray):aU × Int :=
 if iI x = true then (if pK (iM nm) x.hosts < 0 then (x,3) else (⟨x.hosts.eraseIdx (pK (iM nm) x.hosts).toNat,x.au.map (QW nm),x.next,x.weights⟩,0)) else (x,1)
def setW (x:aU) (u:rZ):aU × Int:=if iI x = true∧zL u.pack u.spread u.soft = true then (⟨x.hosts,x.au,x.next,u⟩,0) else (x,1)
theorem Own.ag1 {w:World} {B:Nat} {x:aU} {Ah Ap:Option Addr} {nh ch np cp:Nat} {n p q f:Int} {G:List Nat} (h:Own w B x [.slice Ah nh ch,.slice Ap np cp,.int .i64 n,.int .i64 p,.int .i64 q,.int .i64 f] G) (u:rZ) (h1:I64 u.pack) (h2:I64 u.spread) (h3:I64 u.soft) :
 Own w B (⟨x.hosts,x.au,x.next,u⟩:aU) [.slice Ah nh ch,.slice Ap np cp,.int .i64 n,.int .i64 u.pack,.int .i64 u.spread,.int .i64 u.soft] G:=by
 obtain ⟨⟨c1,c2,F1,F2,e1,e2,hh,d1,d2,G1,G2,e3,e4,hp,g1,g2,H1,H2,e5,e6,⟨e7,e8,hn⟩,hwt⟩,hnd,hb,hpl⟩:=h;obtain ⟨A,c,rfl,_⟩:=jB hh;obtain ⟨A2,c2',rfl,_⟩:=jB hp;subst e7 e5 e3;simp only [List.cons_append,List.nil_append,List.cons.injEq] at e1;obtain ⟨ea,eb,ec,_⟩:=e1;refine ⟨⟨_,[.slice Ap np cp,.int .i64 n,.int .i64 u.pack,.int .i64 u.spread,.int .i64 u.soft],F1,F2,(by rw [ea];rfl),e2,hh,_,[.int .i64 n,.int .i64 u.pack,.int .i64 u.spread,.int .i64 u.soft],G1,G2,(by rw [eb];rfl),e4,hp,_,[.int .i64 u.pack,.int .i64 u.spread,.int .i64 u.soft],H1,H2,(by rw [ec];rfl),e6,⟨rfl,e8,hn⟩,?_⟩,hnd,hb,hpl⟩;obtain ⟨rfl,hF,_⟩:=mg hwt;rw [hF];exact Zj w u h1 h2 h3
theorem aeu (x:aU) (cs:List Value) (F:List Nat) (u:rZ) (us:List Value) (Fu:List Nat) (w:World) (h:rd w x cs F) (h':rd w u us Fu) (hw:(x.wt:Int)≤1048576) :
 Calls Tryz.prog 55 #[.agg cs.toArray,.agg us.toArray] w fun e w'=>∃ds G,e = .returned (.tuple #[.agg ds.toArray,.int .i64 (setW x u).2])∧Own w' w.heap.size (setW x u).1 ds G∧Below w.heap.size w w':=by
 have HW:=I' hw;clear hw;have hr:=h;have hr':=h';obtain ⟨bG,bD,fQ,dn,bW,jg,hck,qp,bQ,dM,hnext,aV,aP,aW⟩:=aO hr;subst hck;obtain ⟨hck,hG0,Sr,Jm,Sv⟩:=mg hr';subst hck;clear qp hG0 hr hr';cases hc:iI x <;> cases hwt:zL u.pack u.spread u.soft
 ·exact Zabd
 ·exact Zabd
 ·have HF:=I' (show setW x u = (x,1) by unfold setW;rw [hc,hwt];simp);have HC:=I' hc;have Du:=I' hwt;clear hc hwt;go_enter Tryz.func55,Tryz.ntmps55;go_wp2_with fail
  refine (BO x _ _ _ (aZ h atT) HW.out).mono ?_;rintro e w1 ⟨cs1,G1,rfl,jX,hb1⟩;have hR1:=jX.rd;obtain ⟨dG,bV,xq,dS,dJ,Bz,hck,hG1,oO,tq,wI,iV,gI,iW⟩:=aO hR1;subst hck;clear hG1 hR1;obtain ⟨hc1,hf1⟩:=ay hb1;have VQ:w.heap.size < w1.heap.size:=sq hb1.size;have hz1b:w.heap.size+1 < w1.heap.size:=sq hb1.size;have akV:w.heap.size+1+1 < w1.heap.size:=sq hb1.size;have hlt1:=jX.lt;go_wp2_with fail
  refine (qM x _ _ _ (aZ h atT) HW.out).mono ?_;rw [HC.out];rintro e w2 ⟨rfl,hb2⟩;obtain ⟨hc2,hf2⟩:=ay hb2;have VR:w.heap.size < w2.heap.size:=sq hb2.size;have hz2b:w.heap.size+1 < w2.heap.size:=sq hb2.size;have aoy:w.heap.size+1+1 < w2.heap.size:=sq hb2.size;have VT:w1.heap.size < w2.heap.size:=sq hb2.size;go_wp2_with fail
  refine (pW u.pack u.spread u.soft _).mono ?_;rw [Du.out];rintro e w3 ⟨rfl,hb3⟩;obtain ⟨hc3,hf3⟩:=ay hb3;have adg:w.heap.size < w3.heap.size:=sq hb3.size;have hz3b:w.heap.size+1 < w3.heap.size:=sq hb3.size;have hz3c:w.heap.size+1+1 < w3.heap.size:=sq hb3.size;have adh:w1.heap.size < w3.heap.size:=sq hb3.size;have hO2:Own w3 (w.heap.size+1+1+1) x [.slice dG x.hosts.length bV,.slice dS x.au.length dJ,.int .i64 x.next,.int .i64 x.weights.pack,.int .i64 x.weights.spread,.int .i64 x.weights.soft] G1:=(((jX.mono S').alloc _).ext hb2).ext hb3;exact Zaef
 ·have HF:=I' (show setW x u = (⟨x.hosts,x.au,x.next,u⟩,0) by unfold setW;rw [hc,hwt];simp);have HC:=I' hc;have Du:=I' hwt;clear hc hwt;go_enter Tryz.func55,Tryz.ntmps55;go_wp2_with fail
  refine (BO x _ _ _ (aZ h atT) HW.out).mono ?_;rintro e w1 ⟨cs1,G1,rfl,jX,hb1⟩;have hR1:=jX.rd;obtain ⟨dG,bV,xq,dS,dJ,Bz,hck,hG1,oO,tq,wI,iV,gI,iW⟩:=aO hR1;subst hck;clear hG1 hR1;obtain ⟨hc1,hf1⟩:=ay hb1;have VQ:w.heap.size < w1.heap.size:=sq hb1.size;have hz1b:w.heap.size+1 < w1.heap.size:=sq hb1.size;have akV:w.heap.size+1+1 < w1.heap.size:=sq hb1.size;have hlt1:=jX.lt;go_wp2_with fail
  refine (qM x _ _ _ (aZ h atT) HW.out).mono ?_;rw [HC.out];rintro e w2 ⟨rfl,hb2⟩;obtain ⟨hc2,hf2⟩:=ay hb2;have VR:w.heap.size < w2.heap.size:=sq hb2.size;have hz2b:w.heap.size+1 < w2.heap.size:=sq hb2.size;have aoy:w.heap.size+1+1 < w2.heap.size:=sq hb2.size;have VT:w1.heap.size < w2.heap.size:=sq hb2.size;go_wp2_with fail
  refine (pW u.pack u.spread u.soft _).mono ?_;rw [Du.out];rintro e w3 ⟨rfl,hb3⟩;obtain ⟨hc3,hf3⟩:=ay hb3;have adg:w.heap.size < w3.heap.size:=sq hb3.size;have hz3b:w.heap.size+1 < w3.heap.size:=sq hb3.size;have hz3c:w.heap.size+1+1 < w3.heap.size:=sq hb3.size;have adh:w1.heap.size < w3.heap.size:=sq hb3.size;have hO2:Own w3 (w.heap.size+1+1+1) x [.slice dG x.hosts.length bV,.slice dS x.au.length dJ,.int .i64 x.next,.int .i64 x.weights.pack,.int .i64 x.weights.spread,.int .i64 x.weights.soft] G1:=(((jX.mono S').alloc _).ext hb2).ext hb3;have RZ:=I' hO2;clear jX hO2 h h';go_wp2_with fail
  try dsimp only
  iterate 60 (first | go_step | skip)
  refine bodyPost_ret (v:=.tuple #[.agg #[.slice dG x.hosts.length bV,.slice dS x.au.length dJ,.int .i64 x.next,.int .i64 u.pack,.int .i64 u.spread,.int .i64 u.soft],.int .i64 0]) (by simp [results,Tryz.results55,go_sem, *]) rfl ?_;rw [HF.out]
  first
   | refine ⟨[.slice dG x.hosts.length bV,.slice dS x.au.length dJ,.int .i64 x.next,.int .i64 u.pack,.int .i64 u.spread,.int .i64 u.soft],G1,rfl,?_,?_⟩
   | refine ⟨[.slice dG x.hosts.length bV,.slice dS x.au.length dJ,.int .i64 x.next,.int .i64 u.pack,.int .i64 u.spread,.int .i64 u.soft],rfl,⟨G1,?_⟩,?_⟩
  ·try dsimp only
   refine Own.mono (B:=w.heap.size+1+1+1) ?_ O';exact (by repeat (first | with_reducible exact (RZ.out.ag1 u Sr Jm Sv) | with_reducible refine Own.setCell ?_ atX _ | with_reducible refine OC ?_ (fun y hy=>hlt1 y hy)))
  ·exact aui
def aff (x:aU) (p:nI):ByteArray:=(Jh x p).headD ⟨#[]⟩
def afg (x:aU) (p:nI):Bool:=!(Jh x p).isEmpty
theorem ahX (x:aU) (p:nI) (cs ps:List Value) (F G:List Nat) (w:World) (h:rd w x cs F) (h':rd w p ps G) (hw:(x.wt:Int)≤1048576) (hw':(p.wt:Int)≤1048576) :
 Calls Tryz.prog 105 #[.agg cs.toArray,.agg ps.toArray] w fun e w'=>e = .returned (.tuple #[.string (aff x p),.bool (afg x p)])∧Below w.heap.size w w':=by
 have HW:=I' hw;have Uc:=I' hw';clear hw hw';have hr:=h;have hr':=h';obtain ⟨bG,bD,fQ,dn,bW,jg,hck,hF,bQ,dM,hnext,aV,aP,aW⟩:=aO hr;obtain ⟨bY,bZ,iq,eU,eX,jV,bg,bn,dK,jU,hG,jW,dA,kQ,lg,lG,iO,bK⟩:=dL hr';subst hck jU;clear hF hG hr hr';have HB:=I' (show ∀l,Jh x p = l→aff x p = l.headD ⟨#[]⟩∧afg x p = !l.isEmpty from fun l hl=>by unfold aff afg;rw [hl];exact ⟨rfl,rfl⟩);go_enter Tryz.func105,Tryz.ntmps105;go_wp2_with fail
 refine (Xh x p _ _ _ _ _ (aJ h atT) (aJ h' atT) HW.out Uc.out).mono ?_;rintro e w1 ⟨A,c,G1,rfl,hO,hb1⟩;have hBB:Below w.heap.size w w1:=ah atT hb1;obtain ⟨l,hl⟩:∃l,Jh x p = l:=⟨_,rfl⟩;rw [hl] at hO ⊢;have HL:=I' (HB.out l hl);clear hl;cases l with
 | nil =>
   simp only [List.length_nil] at hO ⊢;go_wp2;go_ret2
   exact ⟨by rw [HL.out.1,HL.out.2];rfl,hBB⟩
 | cons y ys =>
   have hlt:(0:Nat) < (y :: ys).length:=S';obtain ⟨b,o,ck,Fk,hA,hbG,hbs,hrdk,_,hcells⟩:=Sl.get hO.rd hlt;subst hA;obtain ⟨hck,su,hsz⟩:=hrdk;subst hck;have hyc:w1.cell? ⟨b,o,none⟩ = some (.string y):=(by have:=hcells 0 _ rfl;simpa using this);have hne:(((y :: ys).length:Int) == 0) = false:=(by simp;omega);clear hcells hO hsz;obtain ⟨n,hn⟩:∃n,(y :: ys).length = n:=⟨_,rfl⟩;rw [hn] at hlt hne ⊢;clear hn;go_wp2;go_ret2
   exact ⟨by rw [HL.out.1,HL.out.2];rfl,hBB⟩
theorem Own.joinA {α β:Type} [Dat α] [Dat β] {w:World} {B:Nat} {x:α} {y:β} {c1 c2:List Value} {F1 F2:List Nat} (h1:Own w B x c1 F1) (h2:Own w B y c2 F2) (hd:∀b∈F1,b∉F2):Own w B (x,y) (c1++c2) (F1++F2):=by
 exact Zab5
theorem Own.partsA {w:World} {B:Nat} {x:aU} {Ah Ap:Option Addr} {nh ch np cp:Nat} {n p q f:Int} {G:List Nat} (h:Own w B x [.slice Ah nh ch,.slice Ap np cp,.int .i64 n,.int .i64 p,.int .i64 q,.int .i64 f] G) :
 ∃Gh Gp,Own w B x.hosts [.slice Ah nh ch] Gh∧Own w B x.au [.slice Ap np cp] Gp∧(∀y∈Gh,y∉Gp)∧(∀y∈Gh,y∈G)∧(∀y∈Gp,y∈G):=by
 obtain ⟨⟨c1,c2,F1,F2,e1,rfl,hh,d1,d2,G1,G2,e3,rfl,hp,g1,g2,H1,H2,e5,e6,⟨e7,e8,hn⟩,hwt⟩,hnd,hb,hpl⟩:=h;obtain ⟨A,c,rfl,_⟩:=jB hh;obtain ⟨A2,c2',rfl,_⟩:=jB hp;subst e7 e5 e3;simp only [List.cons_append,List.nil_append,List.cons.injEq] at e1;obtain ⟨ea,eb,_⟩:=e1;rw [List.nodup_append,List.nodup_append] at hnd;refine ⟨F1,G1,⟨by rw [ea];exact hh,hnd.1,fun y hy=>hb y (by simp [hy]),fun y hy=>hpl y (by simp [hy])⟩,⟨by rw [eb];exact hp,hnd.2.1.1,fun y hy=>hb y (by simp [hy]),fun y hy=>hpl y (by simp [hy])⟩,fun y hy hy'=>hnd.2.2 y hy y (by simp [hy']) rfl,fun y hy=>by simp [hy],fun y hy=>by simp [hy]⟩
theorem Own.wholeA {w:World} {B:Nat} {H:List Host} {Q:List Placed} {Ah Ap:Option Addr} {nh ch np cp:Nat} {n p q f:Int} {Gh Gp:List Nat} (h:Own w B H [.slice Ah nh ch] Gh) (k:Own w B Q [.slice Ap np cp] Gp) (hd:∀y∈Gh,y∉Gp) (hn:I64 n) (hp:I64 p) (hq:I64 q) (hf:I64 f) :
 Own w B (⟨H,Q,n,⟨p,q,f⟩⟩:aU) [.slice Ah nh ch,.slice Ap np cp,.int .i64 n,.int .i64 p,.int .i64 q,.int .i64 f] (Gh++Gp):=by
 refine Own.up (B':=B) (fun x:aU=>(x.hosts,x.au,x.next,x.weights)) ?_ (Nat.le_refl _);have h5:Own w B (⟨p,q,f⟩:rZ) ([.int .i64 p]++([.int .i64 q]++[.int .i64 f])) []:=by exact Zacw
 have h6:=Own.cons (jL w n hn) h5;have h7:=Own.joinA h (Own.joinA k h6 (fun b _ hb=>by cases hb)) (fun b hb hb'=>hd b hb (by simpa using hb'));simpa using h7
theorem wp_append0 {P:Program} {t e:TypeId} {z:Value} {size bytes:Nat} (hE:DL P t e z size bytes) {o:Oper} {a:Act} {K:Act→World→Prop} {Q:Exit→Act→World→Prop} (s x:Operand)
 (ho:o.op = .call { callee:=.builtin .append,args:=#[s,x],argTypes:=#[t,t] })
 (w:World) (base:Nat) (v:Value) (n:Nat) (xs:List Value) (hown:w.ownsRow base e size v n xs) (hs:a.eval s = v) (c:Nat) (hx:a.eval x = .slice none 0 c)
 (h:∀v' w',w'.ownsRow base e size v' (n+0) (xs++[])→w.grownBy w' v.ownBlock→(v'.ownBlock = v.ownBlock∨v'.ownBlock = some w.heap.size)→K (a.put o.dst v') w'):o.wp P a w K Q:=by
 obtain ⟨ht,hi0,hzs,hsz⟩:=hE;obtain ⟨i,hi,hz,hsize,hb⟩:=info_parts hi0;have fin:∀(A2:Option Addr) (cap:Nat),v = .slice A2 n cap→n≤cap→o.wp P a w K Q:=by intro A2 cap hv hle;have hr:=run_append_nothing (P:=P) w t t o.type e i ht hi A2 n cap hle (.slice none 0 c) (Src.ofNil w ht c);unfold Oper.wp execOp;simp only [ho,resolve,invoke,builtin,Sem.run_bind,Sem.run_pure,Result.andThen_ok,List.map_toArray,List.map_cons,List.map_nil,hs,hv,hx,hr];subst hv;exact h _ w (by simpa using hown) ⟨rfl,rfl,rfl,Nat.le_refl _,fun _ _ _=>rfl⟩ (.inl rfl)
 rcases hown.2 with ⟨hv,hn0⟩ | ⟨g,cap,cur,hv,_,_,hle,_⟩
 ·exact fin none 0 (by rw [hv,hn0]) O'
 ·exact fin _ cap hv hle
theorem wpList_append0 {P:Program} {t e:TypeId} {z:Value} {size bytes:Nat} (hE:DL P t e z size bytes) {ops:Array Oper} {rest:List Oper} {o:Oper} {a:Act} {Q:Exit→Act→World→Prop} (hgd:o.guard = none) (s x:Operand)
 (ho:o.op = .call { callee:=.builtin .append,args:=#[s,x],argTypes:=#[t,t] })
 (w:World) (base:Nat) (v:Value) (n:Nat) (xs:List Value) (hown:w.ownsRow base e size v n xs) (hs:a.eval s = v) (c:Nat) (hx:a.eval x = .slice none 0 c)
 (h:∀v' w',w'.ownsRow base e size v' (n+0) (xs++[])→w.grownBy w' v.ownBlock→(v'.ownBlock = v.ownBlock∨v'.ownBlock = some w.heap.size)→wpList P ops Q rest (a.put o.dst v') w'):wpList P ops Q (o :: rest) a w :=
 wpList_plain hgd fun K hK=>wp_append0 hE s x ho w base v n xs hown hs c hx fun v' w' h1 h2 h3=>hK _ _ (h v' w' h1 h2 h3)
theorem ownNeA {α:Type} [Dat α] {w:World} {B c i:Nat} {u:Value} {x:α} {cs:List Value} {F:List Nat} (h:Own w B x cs F) (hF:∀y∈F,y≠c):Own (w.setCell ⟨c,i,none⟩ u) B x cs F :=
 h.keep (fun y hy=>Below.heap_setCell _ _ _ _ avg) aua
theorem Own.joinP {α β:Type} [Dat α] [Dat β] {w:World} {B:Nat} {x:α} {y:β} {c1 c2:List Value} {F1 F2:List Nat} (h1:Own w B x c1 F1) (h2:Own w B y c2 F2) (hd:∀b∈F1,b∉F2):Own w B (x,y) (c1++c2) (F1++F2):=by
 exact Zab5
theorem Own.partsP {w:World} {B:Nat} {x:aU} {Ah Ap:Option Addr} {nh ch np cp:Nat} {n p q f:Int} {G:List Nat} (h:Own w B x [.slice Ah nh ch,.slice Ap np cp,.int .i64 n,.int .i64 p,.int .i64 q,.int .i64 f] G) :
 ∃Gh Gp,Own w B x.hosts [.slice Ah nh ch] Gh∧Own w B x.au [.slice Ap np cp] Gp∧(∀y∈Gh,y∉Gp)∧(∀y∈Gh,y∈G)∧(∀y∈Gp,y∈G):=by
 obtain ⟨⟨c1,c2,F1,F2,e1,rfl,hh,d1,d2,G1,G2,e3,rfl,hp,g1,g2,H1,H2,e5,e6,⟨e7,e8,hn⟩,hwt⟩,hnd,hb,hpl⟩:=h;obtain ⟨A,c,rfl,_⟩:=jB hh;obtain ⟨A2,c2',rfl,_⟩:=jB hp;subst e7 e5 e3;simp only [List.cons_append,List.nil_append,List.cons.injEq] at e1;obtain ⟨ea,eb,_⟩:=e1;rw [List.nodup_append,List.nodup_append] at hnd;refine ⟨F1,G1,⟨by rw [ea];exact hh,hnd.1,fun y hy=>hb y (by simp [hy]),fun y hy=>hpl y (by simp [hy])⟩,⟨by rw [eb];exact hp,hnd.2.1.1,fun y hy=>hb y (by simp [hy]),fun y hy=>hpl y (by simp [hy])⟩,fun y hy hy'=>hnd.2.2 y hy y (by simp [hy']) rfl,fun y hy=>by simp [hy],fun y hy=>by simp [hy]⟩
theorem Own.wholeP {w:World} {B:Nat} {H:List Host} {Q:List Placed} {Ah Ap:Option Addr} {nh ch np cp:Nat} {n p q f:Int} {Gh Gp:List Nat} (h:Own w B H [.slice Ah nh ch] Gh) (k:Own w B Q [.slice Ap np cp] Gp) (hd:∀y∈Gh,y∉Gp) (hn:I64 n) (hp:I64 p) (hq:I64 q) (hf:I64 f) :
 Own w B (⟨H,Q,n,⟨p,q,f⟩⟩:aU) [.slice Ah nh ch,.slice Ap np cp,.int .i64 n,.int .i64 p,.int .i64 q,.int .i64 f] (Gh++Gp):=by
 refine Own.up (B':=B) (fun x:aU=>(x.hosts,x.au,x.next,x.weights)) ?_ (Nat.le_refl _);have h5:Own w B (⟨p,q,f⟩:rZ) ([.int .i64 p]++([.int .i64 q]++[.int .i64 f])) []:=by exact Zacw
 have h6:=Own.cons (jL w n hn) h5;have h7:=Own.joinP h (Own.joinP k h6 (fun b _ hb=>by cases hb)) (fun b hb hb'=>hd b hb (by simpa using hb'));simpa using h7
theorem Own.onP {w:World} {B:Nat} {p:Placed} {ck:List Value} {F:List Nat} (h:Own w B p ck F) (s:ByteArray) (hs:s.size≤maxLen):Own w B (⟨p.aS,s,p.seq⟩:Placed) (ck.set 7 (.string s)) F:=by
 obtain ⟨⟨c1,c2,F1,F2,rfl,rfl,QS,c3,c4,F3,F4,rfl,rfl,⟨rfl,rfl,hon⟩,⟨rfl,rfl,Ue⟩⟩,hnd,hb,hpl⟩:=h;have hl:c1.length = 7:=Dat.len QS;have e:(c1++([Value.string p.on]++[Value.int .i64 p.seq])).set 7 (.string s) = c1++([.string s]++[.int .i64 p.seq]):=by rw [List.set_append_right _ _ O',hl];rfl
 rw [e];exact ⟨⟨c1,_,F1,_,rfl,rfl,QS,_,_,_,_,rfl,rfl,⟨rfl,rfl,hs⟩,⟨rfl,rfl,Ue⟩⟩,hnd,hb,hpl⟩
def placeQ (x:aU) (k:Nat) (q:Placed):aU × ByteArray × Int :=
 if q.on.size = 0 then (if afg x q.aS = true then (⟨x.hosts,x.au.set k ⟨q.aS,aff x q.aS,q.seq⟩,x.next,x.weights⟩,aff x q.aS,0) else (x,⟨#[]⟩,6)) else (x,⟨#[]⟩,5)
def placeP (x:aU) (nm:ByteArray):aU × ByteArray × Int :=
 if iI x = true then (match x.au[(pK (CG nm) x.au).toNat]? with
   | some q=>if pK (CG nm) x.au < 0 then (x,⟨#[]⟩,3) else placeQ x (pK (CG nm) x.au).toNat q
   | none=>(x,⟨#[]⟩,3))
 else (x,⟨#[]⟩,1)
theorem placeP_bad {x:aU} {nm:ByteArray} (h:iI x = false):placeP x nm = (x,⟨#[]⟩,1):=by unfold placeP;rw [h];rfl
theorem placeP_none {x:aU} {nm:ByteArray} (h:iI x = true) (hn:pK (CG nm) x.au < 0):placeP x nm = (x,⟨#[]⟩,3):=by
 unfold placeP;rw [if_pos h];split
 ·exact if_pos hn
 ·rfl
theorem placeP_at {x:aU} {nm:ByteArray} {k:Nat} (h:iI x = true) (hk0:pK (CG nm) x.au = k) (hk:k < x.au.length):placeP x nm = placeQ x k x.au[k]:=by
 unfold placeP;rw [if_pos h,hk0,Int.toNat_natCast,List.getElem?_eq_getElem hk];exact if_neg O'
theorem bestS_le (x:aU) (p:nI) (hw:(x.wt:Int)≤1048576):((aff x p).size:Int)≤1048576:=by
 unfold aff;cases h:Jh x p with
 | nil=>exact (by decide:((⟨#[]⟩:ByteArray).size:Int)≤1048576)
 | cons y l =>
   have hm:y∈Jh x p:=(by rw [h];simp);unfold Jh at hm;rcases adi _ _ hm with h1 | h1
   ·cases h1
   ·unfold Ar at h1;obtain ⟨z,hz,rfl⟩:=List.mem_map.1 h1;have h2:=Bq (f:=Host.wt) (List.mem_filter.1 hz).1;have h3:Host.wt z = z.name.size+kL Label.wt z.labels+kL iU.wt z.aT:=rfl;have h4:x.wt = kL Host.wt x.hosts+kL Placed.wt x.au:=rfl;show ((z.name).size:Int)≤_;omega
def okN (x:aU) (nm:ByteArray):Bool:=(placeP x nm).2.2 == 0
def placeNextP (x:aU):aU × ByteArray × ByteArray × Int :=
 if iI x = true then
   (match (GI x.au).find? (okN x) with
   | some nm=>((placeP x nm).1,nm,(placeP x nm).2.1,0)
   | none=>(x,⟨#[]⟩,⟨#[]⟩,if (GI x.au).length = 0 then 7 else 6))
 else (x,⟨#[]⟩,⟨#[]⟩,1)
theorem placeNextP_bad {x:aU} (h:iI x = false):placeNextP x = (x,⟨#[]⟩,⟨#[]⟩,1):=by unfold placeNextP;rw [h];rfl
theorem placeNextP_at {x:aU} (hc:iI x = true) {k:Nat} (hk:k < (GI x.au).length) (hb:∀j (hj:j < (GI x.au).length),j < k→okN x (GI x.au)[j] = false) (h:okN x (GI x.au)[k] = true):placeNextP x = ((placeP x (GI x.au)[k]).1,(GI x.au)[k],(placeP x (GI x.au)[k]).2.1,0):=by
 have e:(GI x.au).find? (okN x) = some (GI x.au)[k]:=List.find?_eq_some_iff_getElem.2 ⟨h,k,hk,rfl,fun j hj=>by rw [hb j O' hj];rfl⟩;unfold placeNextP;rw [if_pos hc,e]
theorem placeNextP_none {x:aU} (hc:iI x = true) (hb:∀j (hj:j < (GI x.au).length),okN x (GI x.au)[j] = false):placeNextP x = (x,⟨#[]⟩,⟨#[]⟩,if (GI x.au).length = 0 then 7 else 6):=by
 have e:(GI x.au).find? (okN x) = none:=List.find?_eq_none.2 fun y hy=>by
  obtain ⟨j,hj,rfl⟩:=List.getElem_of_mem hy;rw [hb j hj];simp
 unfold placeNextP;rw [if_pos hc,e]
theorem wp_region_anyN {P:Program} {l:List Oper} {C:World→Prop} {Q:Exit→Act→World→Prop} {id:Nat} {a:Act} {w:World} (n:Nat) (hm:P.follows .mixedOrders = true) (hn:l.toArray.size = n) (hw:C w.drew)
 (h:adq P l Q C n (Array.replicate n false) a w.drew):(Code.region id l.toArray true).wp P Q a w:=by
 subst hn;exact wp_region_held_drew (S:=C) hm hw fun _=>h
theorem ownNeN {α:Type} [Dat α] {w:World} {B c i:Nat} {u:Value} {x:α} {cs:List Value} {F:List Nat} (h:Own w B x cs F) (hF:∀y∈F,y≠c):Own (w.setCell ⟨c,i,none⟩ u) B x cs F :=
 h.keep (fun y hy=>Below.heap_setCell _ _ _ _ avg) aua
end Go.Proofs.YtkjeocdobidadaaGreat
