/- Applied of the reference, over an operation as data. No condition. -/
import Derived.Test.YtdegaofigemegaaGreatAppM
import Derived.Test.YtdegaofigemegaaGreatOpsHS
import Derived.Test.YtdegaofigemegaaGreatDrawM
namespace Go.Proofs.YtdegaofigemegaaGreat
open Go.ChangeShapes Go.WideShapes Go.ChangeAt Go.RowKit
set_option linter.unusedVariables false
set_option linter.unusedSimpArgs false
set_option maxHeartbeats 8000000
set_option maxRecDepth 100000
def ep (x:aU) (d:BC):aU × Int :=
 if d.kind = 1 then mS x d.xA else if d.kind = 2 then Ko x d.name else if d.kind = 3 then Ut x d.name else if d.kind = 4 then ((lW x d.name).1,(lW x d.name).2.2)
 else if d.kind = 5 then ((BX x).1,(BX x).2.2.2) else if d.kind = 6 then setW x d.weights else (x,if iI x = true then 8 else 1)
theorem XQ {x:aU} (G:Good x) (m:bN):Good (mS x m).1:=by
 unfold mS;split
 ·exact aD3 G _
 ·split
  ·exact aD4 G _
  ·exact G
theorem aBf {x:aU} (G:Good x) (d:BC):Good (ep x d).1:=by
 unfold ep;split
 ·exact XQ G _
 ·split
  ·exact Xs G _
  ·split
   ·exact Xf G _
   ·split
    ·exact ayo G _
    ·split
     ·exact ayD G
     ·split
      ·exact aD6 G _
      ·exact G
theorem aBg (x:aU) (cs:List Value) (F:List Nat) (d:BC) (ms:List Value) (Fm:List Nat) (w:World) (h:rd w x cs F) (h':rd w d ms Fm) (hw:(x.wt:Int)<=1048576) (hm:(d.xA.wt:Int)<=1048576) :
 Calls Tryz.prog 25 #[.agg cs.toArray,.agg ms.toArray] w λe w'=>∃ds G,e = .returned (.tuple #[.agg ds.toArray,.int .i64 (ep x d).2])/\ai w' w.heap.size (ep x d).1 ds G/\Below w.heap.size w w':=by
 have HW:=I hw;clear hw;have hr:=h;obtain ⟨FL,ayW,aDE,aBb,aBd,aEE,ar,qp,aDF,aEF,aEG,axh,aJM,axi⟩:=aO hr;subst ar;clear qp hr;obtain ⟨k,nm,m,wt⟩:=d;have PQ:=I hm;clear hm;dsimp only at PQ;obtain ⟨_,_,_,_,rfl,rfl,⟨rfl,rfl,hkind⟩,_,_,_,_,rfl,rfl,⟨rfl,rfl,nE⟩,_,_,_,_,rfl,rfl,hman,hwts⟩:=h';dsimp only at hkind nE hman hwts |-;have pm:=hman;have zA:=hwts;obtain ⟨lX,aHw,aBO,aHD,aHE,aCW,GR,G7,ayE,aHp,aHq,aBh,aHr,aHs,aBi,ar,hFm,hkindm,aD7,aBP,aEN,aEO,aD8,aCX,ayF,aCY,aBj,aD9,aEa,aBQ,aBk⟩:=NS pm;subst ar;obtain ⟨ar,hFw,xF,iC,XR⟩:=mg zA;subst ar;clear hFm hFw pm zA;unfold ep;dsimp only;by_cases h1:k = 1
 ·as_aux_lemma =>
  subst h1;rw [if_pos rfl];have HS:=I (λcs F us Fu wq a b=>axA x cs F m us Fu wq a b HW.out PQ.out);generalize mS x m = RR at *;obtain ⟨R,cd⟩:=RR;dsimp only at HS |-;go_enter Tryz.func25,Tryz.ntmps25;go_wp2_with fail
  refine (HS.out _ _ _ _ _ (aZ h bA) (aZ hman bA)).mono ?_;exact CE
 rw [if_neg h1];by_cases h2:k = 2
 ·as_aux_lemma =>
  subst h2;rw [if_pos rfl];have HS:=I (λcs F wq a=>ah2 x cs F nm wq a HW.out);generalize Ko x nm = RR at *;exact Ny
 rw [if_neg h2];by_cases h3:k = 3
 ·as_aux_lemma =>
  subst h3;rw [if_pos rfl];have HS:=I (λcs F wq a=>afS x cs F nm wq a HW.out);generalize Ut x nm = RR at *;exact Ny
 rw [if_neg h3];by_cases h4:k = 4
 ·as_aux_lemma =>
  subst h4;rw [if_pos rfl];have HS:=I (λcs F wq a=>SF x cs F nm wq a HW.out);generalize lW x nm = RR at *;obtain ⟨R,lM,cd⟩:=RR;dsimp only at HS |-;go_enter Tryz.func25,Tryz.ntmps25;go_wp2_with fail
  refine (HS.out _ _ _ (aZ h bA)).mono ?_;rintro e w1 ⟨ds,G,rfl,hO,aR⟩;have hR:=hO.rd;obtain ⟨kM,kN,ND,ny,nC,TD,ar,hGr,NG,TF,TG,xI,uD,xJ⟩:=aO hR;subst ar;clear hGr hR;have cI:=aR.size;simp at cI;have XB:=I (oG.ext (oG.ext (oG.tf w _ _ [.slice none 0 0,.slice none 0 0,.int .i64 0,.int .i64 0,.int .i64 0,.int .i64 0] 29) aR) (ak (aj _) (.cells ([.slice none 0 0,.slice none 0 0,.int .i64 0,.int .i64 0,.int .i64 0,.int .i64 0]:List Value).toArray 29)));have HO:=I ((hO.mono (B':=w.heap.size+1+1+1) S').alloc (.cells ([.slice none 0 0,.slice none 0 0,.int .i64 0,.int .i64 0,.int .i64 0,.int .i64 0]:List Value).toArray 29));have H9:=I hO.lt;have HB:=I (ak (ah bA aR:Below w.heap.size w w1) (.cells ([.slice none 0 0,.slice none 0 0,.int .i64 0,.int .i64 0,.int .i64 0,.int .i64 0]:List Value).toArray 29));clear hO aR h;try dsimp only
  iterate 17 go_step
  refine ly 29 _ _ rfl w1.heap.size 0 [.slice kM R.O.length kN,.slice ny R.M.length nC,.int .i64 R.next,.int .i64 R.weights.pack,.int .i64 R.weights.spread,.int .i64 R.weights.soft] [.slice none 0 0,.slice none 0 0,.int .i64 0,.int .i64 0,.int .i64 0,.int .i64 0] rfl rfl (oG.new w1 _ 29) S' U' fm ?_;intro w2 YB OB;replace YB:oG w2 w1.heap.size [.slice kM R.O.length kN,.slice ny R.M.length nC,.int .i64 R.next,.int .i64 R.weights.pack,.int .i64 R.weights.spread,.int .i64 R.weights.soft]:=YB;have ZT:=XB.out.only OB J;try dsimp only [Act.put]
  iterate 6 go_step
  first
   | (refine BF 29 _ rfl w1.heap.size [.slice kM R.O.length kN,.slice ny R.M.length nC,.int .i64 R.next,.int .i64 R.weights.pack,.int .i64 R.weights.spread,.int .i64 R.weights.soft] rfl _ YB Tryz.underlying29 rfl U' ?_)
   | (go_step;refine BF 29 _ rfl w1.heap.size [.slice kM R.O.length kN,.slice ny R.M.length nC,.int .i64 R.next,.int .i64 R.weights.pack,.int .i64 R.weights.spread,.int .i64 R.weights.soft] rfl _ YB Tryz.underlying29 rfl U' ?_)
   | (go_step;go_step;refine BF 29 _ rfl w1.heap.size [.slice kM R.O.length kN,.slice ny R.M.length nC,.int .i64 R.next,.int .i64 R.weights.pack,.int .i64 R.weights.spread,.int .i64 R.weights.soft] rfl _ YB Tryz.underlying29 rfl U' ?_)
   | (go_step;go_step;go_step;refine BF 29 _ rfl w1.heap.size [.slice kM R.O.length kN,.slice ny R.M.length nC,.int .i64 R.next,.int .i64 R.weights.pack,.int .i64 R.weights.spread,.int .i64 R.weights.soft] rfl _ YB Tryz.underlying29 rfl U' ?_)
   | (go_step;go_step;go_step;go_step;refine BF 29 _ rfl w1.heap.size [.slice kM R.O.length kN,.slice ny R.M.length nC,.int .i64 R.next,.int .i64 R.weights.pack,.int .i64 R.weights.spread,.int .i64 R.weights.soft] rfl _ YB Tryz.underlying29 rfl U' ?_)
   | (go_step;go_step;go_step;go_step;go_step;refine BF 29 _ rfl w1.heap.size [.slice kM R.O.length kN,.slice ny R.M.length nC,.int .i64 R.next,.int .i64 R.weights.pack,.int .i64 R.weights.spread,.int .i64 R.weights.soft] rfl _ YB Tryz.underlying29 rfl U' ?_)
   | (go_step;go_step;go_step;go_step;go_step;go_step;refine BF 29 _ rfl w1.heap.size [.slice kM R.O.length kN,.slice ny R.M.length nC,.int .i64 R.next,.int .i64 R.weights.pack,.int .i64 R.weights.spread,.int .i64 R.weights.soft] rfl _ YB Tryz.underlying29 rfl U' ?_)
   | (go_step;go_step;go_step;go_step;go_step;go_step;go_step;refine BF 29 _ rfl w1.heap.size [.slice kM R.O.length kN,.slice ny R.M.length nC,.int .i64 R.next,.int .i64 R.weights.pack,.int .i64 R.weights.spread,.int .i64 R.weights.soft] rfl _ YB Tryz.underlying29 rfl U' ?_)
   | (go_step;go_step;go_step;go_step;go_step;go_step;go_step;go_step;refine BF 29 _ rfl w1.heap.size [.slice kM R.O.length kN,.slice ny R.M.length nC,.int .i64 R.next,.int .i64 R.weights.pack,.int .i64 R.weights.spread,.int .i64 R.weights.soft] rfl _ YB Tryz.underlying29 rfl U' ?_)
   | (go_step;go_step;go_step;go_step;go_step;go_step;go_step;go_step;go_step;refine BF 29 _ rfl w1.heap.size [.slice kM R.O.length kN,.slice ny R.M.length nC,.int .i64 R.next,.int .i64 R.weights.pack,.int .i64 R.weights.spread,.int .i64 R.weights.soft] rfl _ YB Tryz.underlying29 rfl U' ?_)
   | (go_step;go_step;go_step;go_step;go_step;go_step;go_step;go_step;go_step;go_step;refine BF 29 _ rfl w1.heap.size [.slice kM R.O.length kN,.slice ny R.M.length nC,.int .i64 R.next,.int .i64 R.weights.pack,.int .i64 R.weights.spread,.int .i64 R.weights.soft] rfl _ YB Tryz.underlying29 rfl U' ?_)
   | (go_step;go_step;go_step;go_step;go_step;go_step;go_step;go_step;go_step;go_step;go_step;refine BF 29 _ rfl w1.heap.size [.slice kM R.O.length kN,.slice ny R.M.length nC,.int .i64 R.next,.int .i64 R.weights.pack,.int .i64 R.weights.spread,.int .i64 R.weights.soft] rfl _ YB Tryz.underlying29 rfl U' ?_)
   | (go_step;go_step;go_step;go_step;go_step;go_step;go_step;go_step;go_step;go_step;go_step;go_step;refine BF 29 _ rfl w1.heap.size [.slice kM R.O.length kN,.slice ny R.M.length nC,.int .i64 R.next,.int .i64 R.weights.pack,.int .i64 R.weights.spread,.int .i64 R.weights.soft] rfl _ YB Tryz.underlying29 rfl U' ?_)
   | (go_step;go_step;go_step;go_step;go_step;go_step;go_step;go_step;go_step;go_step;go_step;go_step;go_step;refine BF 29 _ rfl w1.heap.size [.slice kM R.O.length kN,.slice ny R.M.length nC,.int .i64 R.next,.int .i64 R.weights.pack,.int .i64 R.weights.spread,.int .i64 R.weights.soft] rfl _ YB Tryz.underlying29 rfl U' ?_)
  exact KX
 rw [if_neg h4];by_cases h5:k = 5
 ·as_aux_lemma =>
  subst h5;rw [if_pos rfl];have HS:=I (λcs F wq a=>azi x cs F wq a HW.out);generalize BX x = RR at *;obtain ⟨R,lM,hst2,cd⟩:=RR;dsimp only at HS |-;go_enter Tryz.func25,Tryz.ntmps25;go_wp2_with fail
  refine (HS.out _ _ _ (aZ h bA)).mono ?_;rintro e w1 ⟨ds,G,rfl,hO,aR⟩;have hR:=hO.rd;obtain ⟨kM,kN,ND,ny,nC,TD,ar,hGr,NG,TF,TG,xI,uD,xJ⟩:=aO hR;subst ar;clear hGr hR;have cI:=aR.size;simp at cI;have XB:=I (oG.ext (oG.ext (oG.tf w _ _ [.slice none 0 0,.slice none 0 0,.int .i64 0,.int .i64 0,.int .i64 0,.int .i64 0] 29) aR) (ak (aj _) (.cells ([.slice none 0 0,.slice none 0 0,.int .i64 0,.int .i64 0,.int .i64 0,.int .i64 0]:List Value).toArray 29)));have HO:=I ((hO.mono (B':=w.heap.size+1+1+1) S').alloc (.cells ([.slice none 0 0,.slice none 0 0,.int .i64 0,.int .i64 0,.int .i64 0,.int .i64 0]:List Value).toArray 29));have H9:=I hO.lt;have HB:=I (ak (ah bA aR:Below w.heap.size w w1) (.cells ([.slice none 0 0,.slice none 0 0,.int .i64 0,.int .i64 0,.int .i64 0,.int .i64 0]:List Value).toArray 29));clear hO aR h;try dsimp only
  iterate 20 go_step
  refine ly 29 _ _ rfl w1.heap.size 0 [.slice kM R.O.length kN,.slice ny R.M.length nC,.int .i64 R.next,.int .i64 R.weights.pack,.int .i64 R.weights.spread,.int .i64 R.weights.soft] [.slice none 0 0,.slice none 0 0,.int .i64 0,.int .i64 0,.int .i64 0,.int .i64 0] rfl rfl (oG.new w1 _ 29) S' U' fm ?_;intro w2 YB OB;replace YB:oG w2 w1.heap.size [.slice kM R.O.length kN,.slice ny R.M.length nC,.int .i64 R.next,.int .i64 R.weights.pack,.int .i64 R.weights.spread,.int .i64 R.weights.soft]:=YB;have ZT:=XB.out.only OB J;try dsimp only [Act.put]
  iterate 9 go_step
  first
   | (refine BF 29 _ rfl w1.heap.size [.slice kM R.O.length kN,.slice ny R.M.length nC,.int .i64 R.next,.int .i64 R.weights.pack,.int .i64 R.weights.spread,.int .i64 R.weights.soft] rfl _ YB Tryz.underlying29 rfl U' ?_)
   | (go_step;refine BF 29 _ rfl w1.heap.size [.slice kM R.O.length kN,.slice ny R.M.length nC,.int .i64 R.next,.int .i64 R.weights.pack,.int .i64 R.weights.spread,.int .i64 R.weights.soft] rfl _ YB Tryz.underlying29 rfl U' ?_)
   | (go_step;go_step;refine BF 29 _ rfl w1.heap.size [.slice kM R.O.length kN,.slice ny R.M.length nC,.int .i64 R.next,.int .i64 R.weights.pack,.int .i64 R.weights.spread,.int .i64 R.weights.soft] rfl _ YB Tryz.underlying29 rfl U' ?_)
   | (go_step;go_step;go_step;refine BF 29 _ rfl w1.heap.size [.slice kM R.O.length kN,.slice ny R.M.length nC,.int .i64 R.next,.int .i64 R.weights.pack,.int .i64 R.weights.spread,.int .i64 R.weights.soft] rfl _ YB Tryz.underlying29 rfl U' ?_)
   | (go_step;go_step;go_step;go_step;refine BF 29 _ rfl w1.heap.size [.slice kM R.O.length kN,.slice ny R.M.length nC,.int .i64 R.next,.int .i64 R.weights.pack,.int .i64 R.weights.spread,.int .i64 R.weights.soft] rfl _ YB Tryz.underlying29 rfl U' ?_)
   | (go_step;go_step;go_step;go_step;go_step;refine BF 29 _ rfl w1.heap.size [.slice kM R.O.length kN,.slice ny R.M.length nC,.int .i64 R.next,.int .i64 R.weights.pack,.int .i64 R.weights.spread,.int .i64 R.weights.soft] rfl _ YB Tryz.underlying29 rfl U' ?_)
   | (go_step;go_step;go_step;go_step;go_step;go_step;refine BF 29 _ rfl w1.heap.size [.slice kM R.O.length kN,.slice ny R.M.length nC,.int .i64 R.next,.int .i64 R.weights.pack,.int .i64 R.weights.spread,.int .i64 R.weights.soft] rfl _ YB Tryz.underlying29 rfl U' ?_)
   | (go_step;go_step;go_step;go_step;go_step;go_step;go_step;refine BF 29 _ rfl w1.heap.size [.slice kM R.O.length kN,.slice ny R.M.length nC,.int .i64 R.next,.int .i64 R.weights.pack,.int .i64 R.weights.spread,.int .i64 R.weights.soft] rfl _ YB Tryz.underlying29 rfl U' ?_)
   | (go_step;go_step;go_step;go_step;go_step;go_step;go_step;go_step;refine BF 29 _ rfl w1.heap.size [.slice kM R.O.length kN,.slice ny R.M.length nC,.int .i64 R.next,.int .i64 R.weights.pack,.int .i64 R.weights.spread,.int .i64 R.weights.soft] rfl _ YB Tryz.underlying29 rfl U' ?_)
   | (go_step;go_step;go_step;go_step;go_step;go_step;go_step;go_step;go_step;refine BF 29 _ rfl w1.heap.size [.slice kM R.O.length kN,.slice ny R.M.length nC,.int .i64 R.next,.int .i64 R.weights.pack,.int .i64 R.weights.spread,.int .i64 R.weights.soft] rfl _ YB Tryz.underlying29 rfl U' ?_)
   | (go_step;go_step;go_step;go_step;go_step;go_step;go_step;go_step;go_step;go_step;refine BF 29 _ rfl w1.heap.size [.slice kM R.O.length kN,.slice ny R.M.length nC,.int .i64 R.next,.int .i64 R.weights.pack,.int .i64 R.weights.spread,.int .i64 R.weights.soft] rfl _ YB Tryz.underlying29 rfl U' ?_)
   | (go_step;go_step;go_step;go_step;go_step;go_step;go_step;go_step;go_step;go_step;go_step;refine BF 29 _ rfl w1.heap.size [.slice kM R.O.length kN,.slice ny R.M.length nC,.int .i64 R.next,.int .i64 R.weights.pack,.int .i64 R.weights.spread,.int .i64 R.weights.soft] rfl _ YB Tryz.underlying29 rfl U' ?_)
   | (go_step;go_step;go_step;go_step;go_step;go_step;go_step;go_step;go_step;go_step;go_step;go_step;refine BF 29 _ rfl w1.heap.size [.slice kM R.O.length kN,.slice ny R.M.length nC,.int .i64 R.next,.int .i64 R.weights.pack,.int .i64 R.weights.spread,.int .i64 R.weights.soft] rfl _ YB Tryz.underlying29 rfl U' ?_)
   | (go_step;go_step;go_step;go_step;go_step;go_step;go_step;go_step;go_step;go_step;go_step;go_step;go_step;refine BF 29 _ rfl w1.heap.size [.slice kM R.O.length kN,.slice ny R.M.length nC,.int .i64 R.next,.int .i64 R.weights.pack,.int .i64 R.weights.spread,.int .i64 R.weights.soft] rfl _ YB Tryz.underlying29 rfl U' ?_)
  exact KX
 rw [if_neg h5];by_cases h6:k = 6
 ·as_aux_lemma =>
  subst h6;rw [if_pos rfl];have HS:=I (λcs F us Fu wq a b=>aeu x cs F wt us Fu wq a b HW.out);generalize setW x wt = RR at *;obtain ⟨R,cd⟩:=RR;dsimp only at HS |-;go_enter Tryz.func25,Tryz.ntmps25;go_wp2_with fail
  refine (HS.out _ _ _ _ _ (aZ h bA) (aZ hwts bA)).mono ?_;exact CE
 rw [if_neg h6];cases hc:iI x
 ·as_aux_lemma =>
  have HC:=I hc;clear hc;simp only [Bool.false_eq_true,if_false];go_enter Tryz.func25,Tryz.ntmps25;go_wp2_with fail
  refine (qM x _ _ _ (aZ h bA) HW.out).mono ?_;rw [HC.out];rintro e w0 ⟨rfl,cY⟩;obtain ⟨FM,hf0⟩:=ay cY;have bX:=cY.size;simp at bX;have i6:Below w.heap.size w w0:=ah bA cY;go_wp2_with fail
  refine (BO x _ _ _ (aZ h bA) HW.out).mono ?_;rintro e w1 ⟨ds,G,rfl,hO,aR⟩;have hR:=hO.rd;obtain ⟨kM,kN,ND,ny,nC,TD,ar,hGr,NG,TF,TG,xI,uD,xJ⟩:=aO hR;subst ar;clear hGr hR;have XB:oG w1 (w.heap.size+1+1) [.slice none 0 0,.slice none 0 0,.int .i64 0,.int .i64 0,.int .i64 0,.int .i64 0]:=oG.ext (oG.ext (oG.tf w _ _ [.slice none 0 0,.slice none 0 0,.int .i64 0,.int .i64 0,.int .i64 0,.int .i64 0] 29) cY) aR;have HO:=I (hO.mono (B':=w.heap.size+1+1+1) J);have am:Below w.heap.size w w1:=ah i6 aR;clear hO aR h cY;try dsimp only
  iterate 2 go_step
  refine ly 29 _ _ rfl (w.heap.size+1+1) 0 [.slice kM x.O.length kN,.slice ny x.M.length nC,.int .i64 x.next,.int .i64 x.weights.pack,.int .i64 x.weights.spread,.int .i64 x.weights.soft] [.slice none 0 0,.slice none 0 0,.int .i64 0,.int .i64 0,.int .i64 0,.int .i64 0] rfl rfl XB S' U' fm ?_;intro w2 YB OB;replace YB:oG w2 (w.heap.size+1+1) [.slice kM x.O.length kN,.slice ny x.M.length nC,.int .i64 x.next,.int .i64 x.weights.pack,.int .i64 x.weights.spread,.int .i64 x.weights.soft]:=YB;try dsimp only [Act.put]
  go_wp2;refine bodyPost_ret (v:=.tuple #[.agg #[.slice kM x.O.length kN,.slice ny x.M.length nC,.int .i64 x.next,.int .i64 x.weights.pack,.int .i64 x.weights.spread,.int .i64 x.weights.soft],.int .i64 1]) (xc Tryz.results25 _ (w.heap.size+1+1) [.slice kM x.O.length kN,.slice ny x.M.length nC,.int .i64 x.next,.int .i64 x.weights.pack,.int .i64 x.weights.spread,.int .i64 x.weights.soft] _ _ rfl rfl YB Tryz.underlying29 rfl U') rfl ?_;exact sk
 ·as_aux_lemma =>
  have HC:=I hc;clear hc;simp only [if_true];go_enter Tryz.func25,Tryz.ntmps25;go_wp2_with fail
  refine (qM x _ _ _ (aZ h bA) HW.out).mono ?_;rw [HC.out];rintro e w0 ⟨rfl,cY⟩;obtain ⟨FM,hf0⟩:=ay cY;have bX:=cY.size;simp at bX;have i6:Below w.heap.size w w0:=ah bA cY;go_wp2_with fail
  refine (BO x _ _ _ (aZ h bA) HW.out).mono ?_;rintro e w1 ⟨ds,G,rfl,hO,aR⟩;have hR:=hO.rd;obtain ⟨kM,kN,ND,ny,nC,TD,ar,hGr,NG,TF,TG,xI,uD,xJ⟩:=aO hR;subst ar;clear hGr hR;have XB:oG w1 (w.heap.size+1+1) [.slice none 0 0,.slice none 0 0,.int .i64 0,.int .i64 0,.int .i64 0,.int .i64 0]:=oG.ext (oG.ext (oG.tf w _ _ [.slice none 0 0,.slice none 0 0,.int .i64 0,.int .i64 0,.int .i64 0,.int .i64 0] 29) cY) aR;have HO:=I (hO.mono (B':=w.heap.size+1+1+1) J);have am:Below w.heap.size w w1:=ah i6 aR;clear hO aR h cY;try dsimp only
  iterate 2 go_step
  refine ly 29 _ _ rfl (w.heap.size+1+1) 0 [.slice kM x.O.length kN,.slice ny x.M.length nC,.int .i64 x.next,.int .i64 x.weights.pack,.int .i64 x.weights.spread,.int .i64 x.weights.soft] [.slice none 0 0,.slice none 0 0,.int .i64 0,.int .i64 0,.int .i64 0,.int .i64 0] rfl rfl XB S' U' fm ?_;intro w2 YB OB;replace YB:oG w2 (w.heap.size+1+1) [.slice kM x.O.length kN,.slice ny x.M.length nC,.int .i64 x.next,.int .i64 x.weights.pack,.int .i64 x.weights.spread,.int .i64 x.weights.soft]:=YB;try dsimp only [Act.put]
  go_wp2;refine bodyPost_ret (v:=.tuple #[.agg #[.slice kM x.O.length kN,.slice ny x.M.length nC,.int .i64 x.next,.int .i64 x.weights.pack,.int .i64 x.weights.spread,.int .i64 x.weights.soft],.int .i64 8]) (xc Tryz.results25 _ (w.heap.size+1+1) [.slice kM x.O.length kN,.slice ny x.M.length nC,.int .i64 x.next,.int .i64 x.weights.pack,.int .i64 x.weights.spread,.int .i64 x.weights.soft] _ _ rfl rfl YB Tryz.underlying29 rfl U') rfl ?_;exact sk
theorem aEW (w:World):Calls Tryz.prog 23 #[] w λe w'=>e = .returned (.agg #[.slice none 0 0,.slice none 0 0,.int .i64 1,.int .i64 2,.int .i64 1,.int .i64 3])/\Below w.heap.size w w':=by
 go_enter Tryz.func23,Tryz.ntmps23;go_wp2;refine bodyPost_ret (v:=.agg #[.slice none 0 0,.slice none 0 0,.int .i64 1,.int .i64 2,.int .i64 1,.int .i64 3]) (by simp [results,Tryz.results23,go_sem, *]) rfl ⟨rfl,bA⟩
def we:aU:=⟨[],[],1,⟨2,1,3⟩⟩
theorem aEc:Good we :=
 ⟨by decide,by decide,by decide,by decide,by decide,(λh hh=>by cases hh),(λh hh=>by cases hh),List.Pairwise.nil,(λp hp=>by cases hp),(λp hp=>by cases hp),(λp hp=>by cases hp),List.Pairwise.nil,List.Pairwise.nil⟩
theorem ai.we (w:World) (B:Nat):ai w B Go.Proofs.YtdegaofigemegaaGreat.we [.slice none 0 0,.slice none 0 0,.int .i64 1,.int .i64 2,.int .i64 1,.int .i64 3] []:=by
 refine ai.up (B':=B) (λx:aU=>(x.O,x.M,x.next,x.weights)) ?_ (Nat.le_refl _);have h1:ai w B ([]:List ba) [.slice none 0 0] []:=ai.flat (Sl.nil w none 0 (Nat.zero_le _));have h2:ai w B ([]:List ag) [.slice none 0 0] []:=ai.flat (Sl.nil w none 0 (Nat.zero_le _));have h3:ai w B ((1:Int),(⟨2,1,3⟩:rZ)) ([.int .i64 1]++[.int .i64 2,.int .i64 1,.int .i64 3]) []:=ai.cons (jL w 1 xo) (ai.flat (Zj w ⟨2,1,3⟩ T' T' T'));exact ai.pair h1 (ai.pair h2 h3 (Nat.le_refl _) (λb hb=>by cases hb)) (Nat.le_refl _) (λb hb=>by cases hb)
theorem nF (x:aU) (d:BC):(ep x d).1.next<=x.next+1:=by
 have hp:∀(y:aU) (nm:ByteArray),(lW y nm).1.next = y.next:=λy nm=>by
  unfold lW BV;repeat' split
  all_goals rfl
 have hn:(BX x).1.next = x.next:=by
  unfold BX;repeat' split
  all_goals first | rfl | exact hp _ _
 unfold ep mS;repeat' split
 all_goals first
  | (unfold ff;(repeat' split);all_goals dsimp only;all_goals omega)
  | (unfold f';(repeat' split);all_goals dsimp only;all_goals omega)
  | (unfold Ko;(repeat' split);all_goals dsimp only;all_goals omega)
  | (unfold Ut;(repeat' split);all_goals dsimp only;all_goals omega)
  | (unfold setW;(repeat' split);all_goals dsimp only;all_goals omega)
  | (dsimp only;rw [hp];omega)
  | (dsimp only;rw [hn];omega)
  | (dsimp only;omega)
theorem zV (w:World) (c:Nat) (A:Option Addr) (n cap:Nat) (h:cD w c A n cap) :
 Calls Tryz.prog 12 #[.pointer (some ⟨c,0,none⟩)] w λe w'=>∃(x:aU) (cs:List Value) (G:List Nat),e = .returned (.agg cs.toArray)/\ai w' w.heap.size x cs G/\(Good x/\x.next<=21)/\cD w' c A n cap/\nN [c] w w':=by
 have ap:=h.lt;have HC:=I h;clear h;go_enter Tryz.func12,Tryz.ntmps12;go_wp2_with fail
 refine (aEW _).mono ?_;rintro e w1 ⟨rfl,aR⟩;have cI:=aR.size;simp at cI;have X1:=I (((oG.new w [.slice none 0 0,.slice none 0 0,.int .i64 0,.int .i64 0,.int .i64 0,.int .i64 0] 29).ext aR).ext (ak (aj _) (.cells ([.slice none 0 0,.slice none 0 0,.int .i64 0,.int .i64 0,.int .i64 0,.int .i64 0]:List Value).toArray 29)));have hJ:=I ((HC.out.ext (ak (aj _) (.cells ([.slice none 0 0,.slice none 0 0,.int .i64 0,.int .i64 0,.int .i64 0,.int .i64 0]:List Value).toArray 29))).ext aR);have cU:=hJ.out.lt;have lZ:=I (hJ.out.ext (ak (aj _) (.cells ([.slice none 0 0,.slice none 0 0,.int .i64 0,.int .i64 0,.int .i64 0,.int .i64 0]:List Value).toArray 29)));have HB:=I (nN.lq [c] (ak (ah bA aR:Below w.heap.size w w1) (.cells ([.slice none 0 0,.slice none 0 0,.int .i64 0,.int .i64 0,.int .i64 0,.int .i64 0]:List Value).toArray 29)));clear aR HC hJ;try dsimp only
 iterate 5 go_step
 refine ly 29 _ _ rfl w1.heap.size 0 [.slice none 0 0,.slice none 0 0,.int .i64 1,.int .i64 2,.int .i64 1,.int .i64 3] [.slice none 0 0,.slice none 0 0,.int .i64 0,.int .i64 0,.int .i64 0,.int .i64 0] rfl rfl (oG.new w1 _ 29) S' U' fm ?_;intro w2 Y2 O2;replace Y2:oG w2 w1.heap.size [.slice none 0 0,.slice none 0 0,.int .i64 1,.int .i64 2,.int .i64 1,.int .i64 3]:=Y2;have ca:w2.heap.size = w1.heap.size+1:=by rw [O2.size];simp
 have X2:=I (X1.out.only O2 J);have pw:=I (HB.out.only O2 J);have r7:=I (lZ.out.only O2 J);have DY:=I Y2;have HZ2:=I ca;clear X1 HB lZ O2 Y2 ca;go_wp2_with fail
 go_loopw [4] (λi wr=>∃(k:Nat) (x:aU) (Ah Ap:Option Addr) (ch cp:Nat) (G:List Nat),i = .int .i64 k/\(k:Int)<=20/\Hid (x.next<=1+k)/\Hid (ai wr (w1.heap.size+1) x [.slice Ah x.O.length ch,.slice Ap x.M.length cp,.int .i64 x.next,.int .i64 x.weights.pack,.int .i64 x.weights.spread,.int .i64 x.weights.soft] G/\Good x/\oG wr w1.heap.size [.slice Ah x.O.length ch,.slice Ap x.M.length cp,.int .i64 x.next,.int .i64 x.weights.pack,.int .i64 x.weights.spread,.int .i64 x.weights.soft]/\oG wr w.heap.size [.slice none 0 0,.slice none 0 0,.int .i64 0,.int .i64 0,.int .i64 0,.int .i64 0]/\cD wr c A n cap/\nN [c] w wr/\w1.heap.size+1<=wr.heap.size)) (λi _=>20 - (intOf i).toNat)
 case atStart =>exact ⟨0,we,none,none,0,0,[],rfl,J,I (by decide),I ⟨ai.we _ _,aEc,DY.out,X2.out,r7.out,pw.out,by rw [HZ2.out];exact Nat.le_refl _⟩⟩
 case round =>
  obtain ⟨k,x,Ah,Ap,ch,cp,G,rfl,hk,Jf,HX⟩:=hrel;obtain ⟨hO,hG,hY,hX,hC,hU,hz⟩:=HX.out;have HG:=I hG;clear hG HX X2 pw r7 DY HZ2;have HO:=I hO;have HY:=I hY;have PS:=I hX;have HC:=I hC;have HU:=I hU;clear hO hY hX hC hU;go_wp2_with fail
  refine (oe 16 J _ c A n cap HC.out).mono ?_;rintro e w3 ⟨r,rfl,hr,H3,cP⟩;have gN:=I (HO.out.drawn cP J);have qq:=I (HY.out.ce cP J);have zW:=I (PS.out.ce cP J);have px:=I (HU.out.trans cP);have iA:=I H3;have eB:=cP.size;clear H3 cP HO HY PS HU HC;by_cases hkr:(k:Int) < 4+r
  ·go_wp2_with fail
   refine azp (λw'=>oG w' w1.heap.size [.slice Ah x.O.length ch,.slice Ap x.M.length cp,.int .i64 x.next,.int .i64 x.weights.pack,.int .i64 x.weights.spread,.int .i64 x.weights.soft]) (λ_=>True) [0] [1,2] 5 U' U' H' (qq.out.ext (aA (aj _))) ?_;simp only [pick,List.getElem?_cons_succ,List.getElem?_cons_zero];refine dR (.agg #[.slice Ah x.O.length ch,.slice Ap x.M.length cp,.int .i64 x.next,.int .i64 x.weights.pack,.int .i64 x.weights.spread,.int .i64 x.weights.soft]) (yieldsIf_load_mid rfl 29 _ rfl w1.heap.size 0 rfl [.slice Ah x.O.length ch,.slice Ap x.M.length cp,.int .i64 x.next,.int .i64 x.weights.pack,.int .i64 x.weights.spread,.int .i64 x.weights.soft] _ (λw' kv=>kv.range) Tryz.underlying29 rfl U') ?_;simp only [Act.put,pz];refine fE ?_;refine iK rfl (λK hK=>?_);go_simp;refine hK _ _ (qq.out.ext (aA (aj _))) ?_;try simp only [Act.put,pz]
   clear hK K;refine iK rfl (λK hK=>?_);go_simp;refine (aGl _ c A n cap iA.out.drew).mono ?_;rintro e w4 ⟨d,ds,Gd,rfl,hOd,hwd,hnd,hnn,H4,Td⟩;have IR:=(nN.lq [c] (aA (aj w3))).trans Td;have ng:=I (gN.out.drawn IR J);have IY:=I (qq.out.ce IR J);have Gj:=I (zW.out.ce IR J);have pF:=I (px.out.trans IR);have j9:=I H4;have HOD:=I hOd;have Wy:=IR.size;clear H4 Td IR gN qq zW px iA hOd;refine hK _ _ IY.out ?_;try simp only [Act.put,pz]
   clear hK K;refine yG ?_;have ie:=IH HG.out;refine bP 3 J' U' J' (λK hK=>?_);go_simp;refine (aBg x _ _ d _ _ w4 ng.out.rd HOD.out.rd J J).mono ?_;have HG5:=I (aBf HG.out d);have HN5:=I (show (ep x d).1.next<=1+((k+1:Nat):Int) by have:=nF x d;have:=Jf.out;omega);generalize ep x d = RR at *;obtain ⟨R,cd⟩:=RR;rintro e w5 ⟨es,G5,rfl,fH,bu⟩;dsimp only at fH |-;have hR:=fH.rd;obtain ⟨kM,kN,ND,ny,nC,TD,ar,hGr,NG,TF,TG,xI,uD,xJ⟩:=aO hR;subst ar;clear hGr hR;have tj:=I fH;have GC:=IY.out.ext bu;have zP:=I (Gj.out.ext bu);have xj:=I (pF.out.sl bu J);have mh:=I (j9.out.ext bu);have Es:=bu.size;clear bu fH ng IY Gj pF j9 HOD;refine hK _ _ trivial ?_;try simp only [Act.put,pz]
   clear hK K;refine bP 4 J' U' J' (λK hK=>?_);go_simp;refine hK _ _ trivial ?_;try simp only [Act.put,pz]
   clear hK K
   refine aX 5 _ J' U' H' trivial (Or.inl ⟨rfl,λwq hq=>by
    go_simp
    try rfl⟩) ?_
   try simp only [Act.put,pz]
   refine aX 6 _ J' U' H' trivial (Or.inl ⟨rfl,λwq hq=>by
    go_simp
    try rfl⟩) ?_
   try simp only [Act.put,pz]
   refine bP 7 J' U' J' (λK hK=>?_);refine ly 29 _ _ rfl w1.heap.size 0 [.slice kM R.O.length kN,.slice ny R.M.length nC,.int .i64 R.next,.int .i64 R.weights.pack,.int .i64 R.weights.spread,.int .i64 R.weights.soft] [.slice Ah x.O.length ch,.slice Ap x.M.length cp,.int .i64 x.next,.int .i64 x.weights.pack,.int .i64 x.weights.spread,.int .i64 x.weights.soft] rfl rfl GC S' U' fm ?_;intro w6 Y6 O6;replace Y6:oG w6 w1.heap.size [.slice kM R.O.length kN,.slice ny R.M.length nC,.int .i64 R.next,.int .i64 R.weights.pack,.int .i64 R.weights.spread,.int .i64 R.weights.soft]:=Y6;refine hK _ _ trivial ?_;try simp only [Act.put,pz]
   clear hK K;refine nR U' ?_;have B9:=I ((tj.out.only O6 (λb hb=>by have:=tj.out.base b hb;omega)).mono (B':=w1.heap.size+1) J);have Yd:=I (zP.out.only O6 J);have HU6:=I (xj.out.only O6 J);have xH:=I (mh.out.only O6 cU);have tg:=O6.size;have GD:=I Y6;have B6:(k:Int)+1<=20:=J;clear tj GC zP xj mh O6 Y6;go_wp2;exact ⟨⟨k+1,R,_,_,_,_,G5,N',J,HN5,I ⟨B9.out,HG5.out,GD.out,Yd.out,xH.out,HU6.out,J⟩⟩,by simp only [intOf];omega⟩
  ·have yy:=qq.out;have xx:=zW.out;obtain ⟨xL,aAC,aAD,aAE,aAF,aAG,aAH,aAI,aAJ,aAK,aAL,aAM⟩:=rL yy;obtain ⟨Gx,azr,azs,azt,azu,azv,azw,azx,azy,azz,azA,azB⟩:=rL xx;clear yy xx qq zW;go_wp2;refine bodyPost_ret (v:=.agg #[.slice Ah x.O.length ch,.slice Ap x.M.length cp,.int .i64 x.next,.int .i64 x.weights.pack,.int .i64 x.weights.spread,.int .i64 x.weights.soft]) (by simp [results,Tryz.results12,go_sem, *]) rfl ?_;exact ⟨x,[.slice Ah x.O.length ch,.slice Ap x.M.length cp,.int .i64 x.next,.int .i64 x.weights.pack,.int .i64 x.weights.spread,.int .i64 x.weights.soft],G,rfl,(((((((gN.out.setCell (p:=⟨w.heap.size,0,none⟩) bx _).setCell (p:=⟨w.heap.size,1,none⟩) bx _).setCell (p:=⟨w.heap.size,2,none⟩) bx _).setCell (p:=⟨w.heap.size,3,none⟩) bx _).setCell (p:=⟨w.heap.size,4,none⟩) bx _).setCell (p:=⟨w.heap.size,5,none⟩) bx _)).mono J,⟨HG.out,by have:=Jf.out;omega⟩,((((((iA.out.bL ap 0 _).bL ap 1 _).bL ap 2 _).bL ap 3 _).bL ap 4 _).bL ap 5 _),((((((px.out.new (Nat.le_refl _) 0 _).new (Nat.le_refl _) 1 _).new (Nat.le_refl _) 2 _).new (Nat.le_refl _) 3 _).new (Nat.le_refl _) 4 _).new (Nat.le_refl _) 5 _)⟩
theorem l0 (w:World) (A:Option Addr) (n cap:Nat) (hn:(n:Int)<=1048576) (cC:∀k,k < n->∃(g o:Nat) (v:Int),A = some ⟨g,o,none⟩/\g < w.heap.size/\w.cell? ⟨g,o+k,none⟩ = some (.int .u8 v)/\0<=v/\v<=255) :
 Calls Tryz.prog 5 #[.slice A n cap] w λe w'=>∃(x:aU) (cs:List Value) (G:List Nat),e = .returned (.agg cs.toArray)/\ai w' w.heap.size x cs G/\(Good x/\x.next<=21)/\Below w.heap.size w w':=by
 have HS:=I cC;clear cC;go_enter Tryz.func5,Tryz.ntmps5;go_wp2_with fail
 refine (aBW _ A n cap hn (λk hk=>?_)).mono ?_
 ·exact Mt
 rintro e w1 ⟨c,rfl,hc,H1,aR⟩;have cI:=aR.size;simp at cI hc;have HX:=I ((oG.new w [.slice none 0 0,.slice none 0 0,.int .i64 0,.int .i64 0,.int .i64 0,.int .i64 0] 29).ext aR);have HB:=I (ah bA aR:Below w.heap.size w w1);have HC:=I H1;clear H1 aR HS;go_wp2_with fail
 refine (zV _ c A n cap HC.out).mono ?_;rintro e w2 ⟨x,cs,G,rfl,hO,hG,H2,dB⟩;have hR:=hO.rd;obtain ⟨kM,kN,ND,ny,nC,TD,ar,hGr,NG,TF,TG,xI,uD,xJ⟩:=aO hR;subst ar;clear hGr hR;have HO:=I hO;have HG:=I hG;have xx:=HX.out.ce dB J;have fp:=I (HB.out.trans (dB.below (B:=w.heap.size) (λb hb=>by rw [List.mem_singleton] at hb;omega) J));have ca:=dB.size;obtain ⟨Gx,azr,azs,azt,azu,azv,azw,azx,azy,azz,azA,azB⟩:=rL xx;clear xx hO hG H2 dB HB HC HX;go_wp2;refine bodyPost_ret (v:=.agg #[.slice kM x.O.length kN,.slice ny x.M.length nC,.int .i64 x.next,.int .i64 x.weights.pack,.int .i64 x.weights.spread,.int .i64 x.weights.soft]) (by simp [results,Tryz.results5,go_sem, *]) rfl ?_;refine ⟨x,[.slice kM x.O.length kN,.slice ny x.M.length nC,.int .i64 x.next,.int .i64 x.weights.pack,.int .i64 x.weights.spread,.int .i64 x.weights.soft],G,rfl,(((((((HO.out.setCell (p:=⟨w.heap.size,0,none⟩) bx _).setCell (p:=⟨w.heap.size,1,none⟩) bx _).setCell (p:=⟨w.heap.size,2,none⟩) bx _).setCell (p:=⟨w.heap.size,3,none⟩) bx _).setCell (p:=⟨w.heap.size,4,none⟩) bx _).setCell (p:=⟨w.heap.size,5,none⟩) bx _)).mono J,HG.out,?_⟩;exact (by repeat (first | with_reducible exact fp.out | with_reducible refine aC ?_ bx _))
theorem ayY (A:Option Addr) (n cap:Nat) (w:World):Calls Tryz.prog 4 #[.slice A n cap] w λe w'=>e = .returned (.bool (decide ((1048576:Int) < n)))/\Below w.heap.size w w':=by
 by_cases h:(1048576:Int) < n
 all_goals
  go_enter Tryz.func4,Tryz.ntmps4;go_wp2;go_ret
  exact ⟨(by simp;omega),aj _⟩
theorem aFG {w:World} {x:aU} {Ah Ap:Option Addr} {nh ch np cp:Nat} {r:List Value} {F:List Nat} (h:rd w x (.slice Ah nh ch :: .slice Ap np cp :: r) F):∃F1 F2,Sl w x.O Ah ch F1/\Sl w x.M Ap cp F2:=by
 obtain ⟨A1,c1,F1,A2,c2,F2,ar,_,h1,h2,_⟩:=aO h;simp only [List.cons.injEq,Value.slice.injEq] at ar;obtain ⟨⟨rfl,_,rfl⟩,⟨rfl,_,rfl⟩,_⟩:=ar;exact ⟨F1,F2,h1,h2⟩
theorem ai.P5 {α:Type} [ax α] {w w':World} {B:Nat} {x:α} {cs:List Value} {F:List Nat} (h:ai w B x cs F) (hb:Below w.heap.size w w'):Go.Proofs.YtdegaofigemegaaGreat.ax.rd w' x cs F:=(h.ext hb).rd
theorem aAQ {w:World} {xs:List UInt8} {A:Option Addr} {cap:Nat} {F:List Nat} (h:Sl w xs A cap F):∀k,k < xs.length->∃(g o:Nat) (v:Int),A = some ⟨g,o,none⟩/\g < w.heap.size/\w.cell? ⟨g,o+k,none⟩ = some (.int .u8 v)/\0<=v/\v<=255:=by
 intro k hk;obtain ⟨b,o,ck,Fk,rfl,_,hb,hr,_,hc⟩:=h.get hk;have h0:=hc 0 (.int .u8 (xs[k].toNat:Int)) (by rw [hr.1];rfl);rw [show o+(k * ax.size UInt8+0) = o+k by show o+(k * 1+0) = o+k;omega] at h0;have:=xs[k].toNat_lt;exact ⟨b,o,_,rfl,hb,h0,J,J⟩
end Go.Proofs.YtdegaofigemegaaGreat
