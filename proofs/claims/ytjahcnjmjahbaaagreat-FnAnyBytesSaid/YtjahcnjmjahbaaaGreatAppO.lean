/- Applied of the reference, over an operation as data. No condition. -/
import Derived.Test.YtjahcnjmjahbaaaGreatAppM
import Derived.Test.YtjahcnjmjahbaaaGreatKeepQ
import Derived.Test.YtjahcnjmjahbaaaGreatOpsPS
namespace Go.Proofs.YtjahcnjmjahbaaaGreat
open Go.ChangeShapes Go.WideShapes Go.ChangeAt Go.RowKit
set_option linter.unusedVariables false
set_option linter.unusedSimpArgs false
set_option maxHeartbeats 8000000
set_option maxRecDepth 100000
def d' (x:aU) (d:AF):aU × Int :=
 if d.kind = 1 then AE x d.vr else if d.kind = 2 then Ko x d.name else if d.kind = 3 then Ut x d.name else if d.kind = 4 then ((jA x d.name).1,(jA x d.name).2.2)
 else if d.kind = 5 then ((BX x).1,(BX x).2.2.2) else if d.kind = 6 then setW x d.weights else (x,if iI x = true then 8 else 1)
theorem aBN {x:aU} (G:Good x) (m:cg):Good (AE x m).1:=by
 unfold AE;split
 ·exact aD3 G _
 ·split
  ·exact aD4 G _
  ·exact G
theorem aBf {x:aU} (G:Good x) (d:AF):Good (d' x d).1:=by
 unfold d';split
 ·exact aBN G _
 ·split
  ·exact aCV G _
  ·split
   ·exact aD5 G _
   ·split
    ·exact ayo G _
    ·split
     ·exact ayD G
     ·split
      ·exact aD6 G _
      ·exact G
theorem aBg (x:aU) (cs:List Value) (F:List Nat) (d:AF) (ms:List Value) (Fm:List Nat) (w:World) (h:rd w x cs F) (h':rd w d ms Fm) (hw:(x.wt:Int)<=1048576) (hm:(d.vr.wt:Int)<=1048576) :
 Calls Tryz.prog 66 #[.agg cs.toArray,.agg ms.toArray] w λe w'=>∃ds G,e = .returned (.tuple #[.agg ds.toArray,.int .i64 (d' x d).2])/\ai w' w.heap.size (d' x d).1 ds G/\Below w.heap.size w w':=by
 have HW:=I hw;clear hw;have hr:=h;obtain ⟨ayV,ayW,aDE,aBb,aBd,aEE,aq,qp,aDF,aEF,aEG,axh,aJM,axi⟩:=aO hr;subst aq;clear qp hr;obtain ⟨k,nm,m,wt⟩:=d;have HWM:=I hm;clear hm;dsimp only at HWM;obtain ⟨_,_,_,_,rfl,rfl,⟨rfl,rfl,hkind⟩,_,_,_,_,rfl,rfl,⟨rfl,rfl,iA⟩,_,_,_,_,rfl,rfl,hman,hwts⟩:=h';dsimp only at hkind iA hman hwts |-;have pT:=hman;have nF:=hwts;obtain ⟨pp,aHw,aBO,aHD,aHE,aCW,GR,G7,ayE,aHp,aHq,aBh,aHr,aHs,aBi,aq,hFm,hkindm,aD7,aBP,aEN,aEO,aD8,aCX,ayF,aCY,aBj,aD9,aEa,aBQ,aBk⟩:=NS pT;subst aq;obtain ⟨aq,hFw,hpk,jt,hso⟩:=mg nF;subst aq;clear hFm hFw pT nF;unfold d';dsimp only;by_cases h1:k = 1
 ·as_aux_lemma =>
  subst h1;rw [if_pos rfl];have HS:=I (λcs F us Fu wq a b=>axA x cs F m us Fu wq a b HW.out HWM.out);generalize AE x m = RR at *;obtain ⟨R,cd⟩:=RR;dsimp only at HS |-;go_enter Tryz.func66,Tryz.ntmps66;go_wp2_with fail
  refine (HS.out _ _ _ _ _ (aZ h cc) (aZ hman cc)).mono ?_;exact B6
 rw [if_neg h1];by_cases h2:k = 2
 ·as_aux_lemma =>
  subst h2;rw [if_pos rfl];have HS:=I (λcs F wq a=>ah2 x cs F nm wq a HW.out);generalize Ko x nm = RR at *;exact Of
 rw [if_neg h2];by_cases h3:k = 3
 ·as_aux_lemma =>
  subst h3;rw [if_pos rfl];have HS:=I (λcs F wq a=>afS x cs F nm wq a HW.out);generalize Ut x nm = RR at *;exact Of
 rw [if_neg h3];by_cases h4:k = 4
 ·as_aux_lemma =>
  subst h4;rw [if_pos rfl];have HS:=I (λcs F wq a=>Uz x cs F nm wq a HW.out);generalize jA x nm = RR at *;obtain ⟨R,Uw,cd⟩:=RR;dsimp only at HS |-;go_enter Tryz.func66,Tryz.ntmps66;go_wp2_with fail
  refine (HS.out _ _ _ (aZ h cc)).mono ?_;rintro e w1 ⟨ds,G,rfl,hO,bi⟩;have hR:=hO.rd;obtain ⟨kM,kN,ND,ny,nC,TD,aq,hGr,NG,TF,TG,xI,uD,xJ⟩:=aO hR;subst aq;clear hGr hR;have cG:=bi.size;simp at cG;have XB:=I (oG.ext (oG.ext (oG.zA w _ _ [.slice none 0 0,.slice none 0 0,.int .i64 0,.int .i64 0,.int .i64 0,.int .i64 0] 29) bi) (ak (aj _) (.cells ([.slice none 0 0,.slice none 0 0,.int .i64 0,.int .i64 0,.int .i64 0,.int .i64 0]:List Value).toArray 29)));have HO:=I ((hO.mono (B':=w.heap.size+1+1+1) S').alloc (.cells ([.slice none 0 0,.slice none 0 0,.int .i64 0,.int .i64 0,.int .i64 0,.int .i64 0]:List Value).toArray 29));have HGL:=I hO.lt;have HB:=I (ak (ah cc bi:Below w.heap.size w w1) (.cells ([.slice none 0 0,.slice none 0 0,.int .i64 0,.int .i64 0,.int .i64 0,.int .i64 0]:List Value).toArray 29));clear hO bi h;try dsimp only
  iterate 17 go_step
  refine mA 29 _ _ rfl w1.heap.size 0 [.slice kM R.aa.length kN,.slice ny R.O.length nC,.int .i64 R.next,.int .i64 R.weights.pack,.int .i64 R.weights.spread,.int .i64 R.weights.soft] [.slice none 0 0,.slice none 0 0,.int .i64 0,.int .i64 0,.int .i64 0,.int .i64 0] rfl rfl (oG.new w1 _ 29) S' U' dv ?_;intro w2 YB OB;replace YB:oG w2 w1.heap.size [.slice kM R.aa.length kN,.slice ny R.O.length nC,.int .i64 R.next,.int .i64 R.weights.pack,.int .i64 R.weights.spread,.int .i64 R.weights.soft]:=YB;have XB2:=XB.out.only OB J;try dsimp only [Act.put]
  iterate 6 go_step
  first
   | (refine BF 29 _ rfl w1.heap.size [.slice kM R.aa.length kN,.slice ny R.O.length nC,.int .i64 R.next,.int .i64 R.weights.pack,.int .i64 R.weights.spread,.int .i64 R.weights.soft] rfl _ YB Tryz.underlying29 rfl U' ?_)
   | (go_step;refine BF 29 _ rfl w1.heap.size [.slice kM R.aa.length kN,.slice ny R.O.length nC,.int .i64 R.next,.int .i64 R.weights.pack,.int .i64 R.weights.spread,.int .i64 R.weights.soft] rfl _ YB Tryz.underlying29 rfl U' ?_)
   | (go_step;go_step;refine BF 29 _ rfl w1.heap.size [.slice kM R.aa.length kN,.slice ny R.O.length nC,.int .i64 R.next,.int .i64 R.weights.pack,.int .i64 R.weights.spread,.int .i64 R.weights.soft] rfl _ YB Tryz.underlying29 rfl U' ?_)
   | (go_step;go_step;go_step;refine BF 29 _ rfl w1.heap.size [.slice kM R.aa.length kN,.slice ny R.O.length nC,.int .i64 R.next,.int .i64 R.weights.pack,.int .i64 R.weights.spread,.int .i64 R.weights.soft] rfl _ YB Tryz.underlying29 rfl U' ?_)
   | (go_step;go_step;go_step;go_step;refine BF 29 _ rfl w1.heap.size [.slice kM R.aa.length kN,.slice ny R.O.length nC,.int .i64 R.next,.int .i64 R.weights.pack,.int .i64 R.weights.spread,.int .i64 R.weights.soft] rfl _ YB Tryz.underlying29 rfl U' ?_)
   | (go_step;go_step;go_step;go_step;go_step;refine BF 29 _ rfl w1.heap.size [.slice kM R.aa.length kN,.slice ny R.O.length nC,.int .i64 R.next,.int .i64 R.weights.pack,.int .i64 R.weights.spread,.int .i64 R.weights.soft] rfl _ YB Tryz.underlying29 rfl U' ?_)
   | (go_step;go_step;go_step;go_step;go_step;go_step;refine BF 29 _ rfl w1.heap.size [.slice kM R.aa.length kN,.slice ny R.O.length nC,.int .i64 R.next,.int .i64 R.weights.pack,.int .i64 R.weights.spread,.int .i64 R.weights.soft] rfl _ YB Tryz.underlying29 rfl U' ?_)
   | (go_step;go_step;go_step;go_step;go_step;go_step;go_step;refine BF 29 _ rfl w1.heap.size [.slice kM R.aa.length kN,.slice ny R.O.length nC,.int .i64 R.next,.int .i64 R.weights.pack,.int .i64 R.weights.spread,.int .i64 R.weights.soft] rfl _ YB Tryz.underlying29 rfl U' ?_)
   | (go_step;go_step;go_step;go_step;go_step;go_step;go_step;go_step;refine BF 29 _ rfl w1.heap.size [.slice kM R.aa.length kN,.slice ny R.O.length nC,.int .i64 R.next,.int .i64 R.weights.pack,.int .i64 R.weights.spread,.int .i64 R.weights.soft] rfl _ YB Tryz.underlying29 rfl U' ?_)
   | (go_step;go_step;go_step;go_step;go_step;go_step;go_step;go_step;go_step;refine BF 29 _ rfl w1.heap.size [.slice kM R.aa.length kN,.slice ny R.O.length nC,.int .i64 R.next,.int .i64 R.weights.pack,.int .i64 R.weights.spread,.int .i64 R.weights.soft] rfl _ YB Tryz.underlying29 rfl U' ?_)
   | (go_step;go_step;go_step;go_step;go_step;go_step;go_step;go_step;go_step;go_step;refine BF 29 _ rfl w1.heap.size [.slice kM R.aa.length kN,.slice ny R.O.length nC,.int .i64 R.next,.int .i64 R.weights.pack,.int .i64 R.weights.spread,.int .i64 R.weights.soft] rfl _ YB Tryz.underlying29 rfl U' ?_)
   | (go_step;go_step;go_step;go_step;go_step;go_step;go_step;go_step;go_step;go_step;go_step;refine BF 29 _ rfl w1.heap.size [.slice kM R.aa.length kN,.slice ny R.O.length nC,.int .i64 R.next,.int .i64 R.weights.pack,.int .i64 R.weights.spread,.int .i64 R.weights.soft] rfl _ YB Tryz.underlying29 rfl U' ?_)
   | (go_step;go_step;go_step;go_step;go_step;go_step;go_step;go_step;go_step;go_step;go_step;go_step;refine BF 29 _ rfl w1.heap.size [.slice kM R.aa.length kN,.slice ny R.O.length nC,.int .i64 R.next,.int .i64 R.weights.pack,.int .i64 R.weights.spread,.int .i64 R.weights.soft] rfl _ YB Tryz.underlying29 rfl U' ?_)
   | (go_step;go_step;go_step;go_step;go_step;go_step;go_step;go_step;go_step;go_step;go_step;go_step;go_step;refine BF 29 _ rfl w1.heap.size [.slice kM R.aa.length kN,.slice ny R.O.length nC,.int .i64 R.next,.int .i64 R.weights.pack,.int .i64 R.weights.spread,.int .i64 R.weights.soft] rfl _ YB Tryz.underlying29 rfl U' ?_)
  exact Lb
 rw [if_neg h4];by_cases h5:k = 5
 ·as_aux_lemma =>
  subst h5;rw [if_pos rfl];have HS:=I (λcs F wq a=>azi x cs F wq a HW.out);generalize BX x = RR at *;obtain ⟨R,Uw,hst2,cd⟩:=RR;dsimp only at HS |-;go_enter Tryz.func66,Tryz.ntmps66;go_wp2_with fail
  refine (HS.out _ _ _ (aZ h cc)).mono ?_;rintro e w1 ⟨ds,G,rfl,hO,bi⟩;have hR:=hO.rd;obtain ⟨kM,kN,ND,ny,nC,TD,aq,hGr,NG,TF,TG,xI,uD,xJ⟩:=aO hR;subst aq;clear hGr hR;have cG:=bi.size;simp at cG;have XB:=I (oG.ext (oG.ext (oG.zA w _ _ [.slice none 0 0,.slice none 0 0,.int .i64 0,.int .i64 0,.int .i64 0,.int .i64 0] 29) bi) (ak (aj _) (.cells ([.slice none 0 0,.slice none 0 0,.int .i64 0,.int .i64 0,.int .i64 0,.int .i64 0]:List Value).toArray 29)));have HO:=I ((hO.mono (B':=w.heap.size+1+1+1) S').alloc (.cells ([.slice none 0 0,.slice none 0 0,.int .i64 0,.int .i64 0,.int .i64 0,.int .i64 0]:List Value).toArray 29));have HGL:=I hO.lt;have HB:=I (ak (ah cc bi:Below w.heap.size w w1) (.cells ([.slice none 0 0,.slice none 0 0,.int .i64 0,.int .i64 0,.int .i64 0,.int .i64 0]:List Value).toArray 29));clear hO bi h;try dsimp only
  iterate 20 go_step
  refine mA 29 _ _ rfl w1.heap.size 0 [.slice kM R.aa.length kN,.slice ny R.O.length nC,.int .i64 R.next,.int .i64 R.weights.pack,.int .i64 R.weights.spread,.int .i64 R.weights.soft] [.slice none 0 0,.slice none 0 0,.int .i64 0,.int .i64 0,.int .i64 0,.int .i64 0] rfl rfl (oG.new w1 _ 29) S' U' dv ?_;intro w2 YB OB;replace YB:oG w2 w1.heap.size [.slice kM R.aa.length kN,.slice ny R.O.length nC,.int .i64 R.next,.int .i64 R.weights.pack,.int .i64 R.weights.spread,.int .i64 R.weights.soft]:=YB;have XB2:=XB.out.only OB J;try dsimp only [Act.put]
  iterate 9 go_step
  first
   | (refine BF 29 _ rfl w1.heap.size [.slice kM R.aa.length kN,.slice ny R.O.length nC,.int .i64 R.next,.int .i64 R.weights.pack,.int .i64 R.weights.spread,.int .i64 R.weights.soft] rfl _ YB Tryz.underlying29 rfl U' ?_)
   | (go_step;refine BF 29 _ rfl w1.heap.size [.slice kM R.aa.length kN,.slice ny R.O.length nC,.int .i64 R.next,.int .i64 R.weights.pack,.int .i64 R.weights.spread,.int .i64 R.weights.soft] rfl _ YB Tryz.underlying29 rfl U' ?_)
   | (go_step;go_step;refine BF 29 _ rfl w1.heap.size [.slice kM R.aa.length kN,.slice ny R.O.length nC,.int .i64 R.next,.int .i64 R.weights.pack,.int .i64 R.weights.spread,.int .i64 R.weights.soft] rfl _ YB Tryz.underlying29 rfl U' ?_)
   | (go_step;go_step;go_step;refine BF 29 _ rfl w1.heap.size [.slice kM R.aa.length kN,.slice ny R.O.length nC,.int .i64 R.next,.int .i64 R.weights.pack,.int .i64 R.weights.spread,.int .i64 R.weights.soft] rfl _ YB Tryz.underlying29 rfl U' ?_)
   | (go_step;go_step;go_step;go_step;refine BF 29 _ rfl w1.heap.size [.slice kM R.aa.length kN,.slice ny R.O.length nC,.int .i64 R.next,.int .i64 R.weights.pack,.int .i64 R.weights.spread,.int .i64 R.weights.soft] rfl _ YB Tryz.underlying29 rfl U' ?_)
   | (go_step;go_step;go_step;go_step;go_step;refine BF 29 _ rfl w1.heap.size [.slice kM R.aa.length kN,.slice ny R.O.length nC,.int .i64 R.next,.int .i64 R.weights.pack,.int .i64 R.weights.spread,.int .i64 R.weights.soft] rfl _ YB Tryz.underlying29 rfl U' ?_)
   | (go_step;go_step;go_step;go_step;go_step;go_step;refine BF 29 _ rfl w1.heap.size [.slice kM R.aa.length kN,.slice ny R.O.length nC,.int .i64 R.next,.int .i64 R.weights.pack,.int .i64 R.weights.spread,.int .i64 R.weights.soft] rfl _ YB Tryz.underlying29 rfl U' ?_)
   | (go_step;go_step;go_step;go_step;go_step;go_step;go_step;refine BF 29 _ rfl w1.heap.size [.slice kM R.aa.length kN,.slice ny R.O.length nC,.int .i64 R.next,.int .i64 R.weights.pack,.int .i64 R.weights.spread,.int .i64 R.weights.soft] rfl _ YB Tryz.underlying29 rfl U' ?_)
   | (go_step;go_step;go_step;go_step;go_step;go_step;go_step;go_step;refine BF 29 _ rfl w1.heap.size [.slice kM R.aa.length kN,.slice ny R.O.length nC,.int .i64 R.next,.int .i64 R.weights.pack,.int .i64 R.weights.spread,.int .i64 R.weights.soft] rfl _ YB Tryz.underlying29 rfl U' ?_)
   | (go_step;go_step;go_step;go_step;go_step;go_step;go_step;go_step;go_step;refine BF 29 _ rfl w1.heap.size [.slice kM R.aa.length kN,.slice ny R.O.length nC,.int .i64 R.next,.int .i64 R.weights.pack,.int .i64 R.weights.spread,.int .i64 R.weights.soft] rfl _ YB Tryz.underlying29 rfl U' ?_)
   | (go_step;go_step;go_step;go_step;go_step;go_step;go_step;go_step;go_step;go_step;refine BF 29 _ rfl w1.heap.size [.slice kM R.aa.length kN,.slice ny R.O.length nC,.int .i64 R.next,.int .i64 R.weights.pack,.int .i64 R.weights.spread,.int .i64 R.weights.soft] rfl _ YB Tryz.underlying29 rfl U' ?_)
   | (go_step;go_step;go_step;go_step;go_step;go_step;go_step;go_step;go_step;go_step;go_step;refine BF 29 _ rfl w1.heap.size [.slice kM R.aa.length kN,.slice ny R.O.length nC,.int .i64 R.next,.int .i64 R.weights.pack,.int .i64 R.weights.spread,.int .i64 R.weights.soft] rfl _ YB Tryz.underlying29 rfl U' ?_)
   | (go_step;go_step;go_step;go_step;go_step;go_step;go_step;go_step;go_step;go_step;go_step;go_step;refine BF 29 _ rfl w1.heap.size [.slice kM R.aa.length kN,.slice ny R.O.length nC,.int .i64 R.next,.int .i64 R.weights.pack,.int .i64 R.weights.spread,.int .i64 R.weights.soft] rfl _ YB Tryz.underlying29 rfl U' ?_)
   | (go_step;go_step;go_step;go_step;go_step;go_step;go_step;go_step;go_step;go_step;go_step;go_step;go_step;refine BF 29 _ rfl w1.heap.size [.slice kM R.aa.length kN,.slice ny R.O.length nC,.int .i64 R.next,.int .i64 R.weights.pack,.int .i64 R.weights.spread,.int .i64 R.weights.soft] rfl _ YB Tryz.underlying29 rfl U' ?_)
  exact Lb
 rw [if_neg h5];by_cases h6:k = 6
 ·as_aux_lemma =>
  subst h6;rw [if_pos rfl];have HS:=I (λcs F us Fu wq a b=>aeu x cs F wt us Fu wq a b HW.out);generalize setW x wt = RR at *;obtain ⟨R,cd⟩:=RR;dsimp only at HS |-;go_enter Tryz.func66,Tryz.ntmps66;go_wp2_with fail
  refine (HS.out _ _ _ _ _ (aZ h cc) (aZ hwts cc)).mono ?_;exact B6
 rw [if_neg h6];cases hc:iI x
 ·as_aux_lemma =>
  have HC:=I hc;clear hc;simp only [Bool.false_eq_true,if_false];go_enter Tryz.func66,Tryz.ntmps66;go_wp2_with fail
  refine (qM x _ _ _ (aZ h cc) HW.out).mono ?_;rw [HC.out];rintro e w0 ⟨rfl,fR⟩;obtain ⟨yo,P0⟩:=ay fR;have cb:=fR.size;simp at cb;have kd:Below w.heap.size w w0:=ah cc fR;go_wp2_with fail
  refine (BO x _ _ _ (aZ h cc) HW.out).mono ?_;rintro e w1 ⟨ds,G,rfl,hO,bi⟩;have hR:=hO.rd;obtain ⟨kM,kN,ND,ny,nC,TD,aq,hGr,NG,TF,TG,xI,uD,xJ⟩:=aO hR;subst aq;clear hGr hR;have XB:oG w1 (w.heap.size+1+1) [.slice none 0 0,.slice none 0 0,.int .i64 0,.int .i64 0,.int .i64 0,.int .i64 0]:=oG.ext (oG.ext (oG.zA w _ _ [.slice none 0 0,.slice none 0 0,.int .i64 0,.int .i64 0,.int .i64 0,.int .i64 0] 29) fR) bi;have HO:=I (hO.mono (B':=w.heap.size+1+1+1) J);have ap:Below w.heap.size w w1:=ah kd bi;clear hO bi h fR;try dsimp only
  iterate 2 go_step
  refine mA 29 _ _ rfl (w.heap.size+1+1) 0 [.slice kM x.aa.length kN,.slice ny x.O.length nC,.int .i64 x.next,.int .i64 x.weights.pack,.int .i64 x.weights.spread,.int .i64 x.weights.soft] [.slice none 0 0,.slice none 0 0,.int .i64 0,.int .i64 0,.int .i64 0,.int .i64 0] rfl rfl XB S' U' dv ?_;intro w2 YB OB;replace YB:oG w2 (w.heap.size+1+1) [.slice kM x.aa.length kN,.slice ny x.O.length nC,.int .i64 x.next,.int .i64 x.weights.pack,.int .i64 x.weights.spread,.int .i64 x.weights.soft]:=YB;try dsimp only [Act.put]
  go_wp2;refine bodyPost_ret (v:=.tuple #[.agg #[.slice kM x.aa.length kN,.slice ny x.O.length nC,.int .i64 x.next,.int .i64 x.weights.pack,.int .i64 x.weights.spread,.int .i64 x.weights.soft],.int .i64 1]) (B9 Tryz.results66 _ (w.heap.size+1+1) [.slice kM x.aa.length kN,.slice ny x.O.length nC,.int .i64 x.next,.int .i64 x.weights.pack,.int .i64 x.weights.spread,.int .i64 x.weights.soft] _ _ rfl rfl YB Tryz.underlying29 rfl U') rfl ?_;exact wY
 ·as_aux_lemma =>
  have HC:=I hc;clear hc;simp only [if_true];go_enter Tryz.func66,Tryz.ntmps66;go_wp2_with fail
  refine (qM x _ _ _ (aZ h cc) HW.out).mono ?_;rw [HC.out];rintro e w0 ⟨rfl,fR⟩;obtain ⟨yo,P0⟩:=ay fR;have cb:=fR.size;simp at cb;have kd:Below w.heap.size w w0:=ah cc fR;go_wp2_with fail
  refine (BO x _ _ _ (aZ h cc) HW.out).mono ?_;rintro e w1 ⟨ds,G,rfl,hO,bi⟩;have hR:=hO.rd;obtain ⟨kM,kN,ND,ny,nC,TD,aq,hGr,NG,TF,TG,xI,uD,xJ⟩:=aO hR;subst aq;clear hGr hR;have XB:oG w1 (w.heap.size+1+1) [.slice none 0 0,.slice none 0 0,.int .i64 0,.int .i64 0,.int .i64 0,.int .i64 0]:=oG.ext (oG.ext (oG.zA w _ _ [.slice none 0 0,.slice none 0 0,.int .i64 0,.int .i64 0,.int .i64 0,.int .i64 0] 29) fR) bi;have HO:=I (hO.mono (B':=w.heap.size+1+1+1) J);have ap:Below w.heap.size w w1:=ah kd bi;clear hO bi h fR;try dsimp only
  iterate 2 go_step
  refine mA 29 _ _ rfl (w.heap.size+1+1) 0 [.slice kM x.aa.length kN,.slice ny x.O.length nC,.int .i64 x.next,.int .i64 x.weights.pack,.int .i64 x.weights.spread,.int .i64 x.weights.soft] [.slice none 0 0,.slice none 0 0,.int .i64 0,.int .i64 0,.int .i64 0,.int .i64 0] rfl rfl XB S' U' dv ?_;intro w2 YB OB;replace YB:oG w2 (w.heap.size+1+1) [.slice kM x.aa.length kN,.slice ny x.O.length nC,.int .i64 x.next,.int .i64 x.weights.pack,.int .i64 x.weights.spread,.int .i64 x.weights.soft]:=YB;try dsimp only [Act.put]
  go_wp2;refine bodyPost_ret (v:=.tuple #[.agg #[.slice kM x.aa.length kN,.slice ny x.O.length nC,.int .i64 x.next,.int .i64 x.weights.pack,.int .i64 x.weights.spread,.int .i64 x.weights.soft],.int .i64 8]) (B9 Tryz.results66 _ (w.heap.size+1+1) [.slice kM x.aa.length kN,.slice ny x.O.length nC,.int .i64 x.next,.int .i64 x.weights.pack,.int .i64 x.weights.spread,.int .i64 x.weights.soft] _ _ rfl rfl YB Tryz.underlying29 rfl U') rfl ?_;exact wY
theorem aEW (w:World):Calls Tryz.prog 64 #[] w λe w'=>e = .returned (.agg #[.slice none 0 0,.slice none 0 0,.int .i64 1,.int .i64 2,.int .i64 1,.int .i64 3])/\Below w.heap.size w w':=by
 go_enter Tryz.func64,Tryz.ntmps64;go_wp2;refine bodyPost_ret (v:=.agg #[.slice none 0 0,.slice none 0 0,.int .i64 1,.int .i64 2,.int .i64 1,.int .i64 3]) (by simp [results,Tryz.results64,go_sem, *]) rfl ⟨rfl,cc⟩
def tW:aU:=⟨[],[],1,⟨2,1,3⟩⟩
theorem aEc:Good tW :=
 ⟨by decide,by decide,by decide,by decide,by decide,(λh hh=>by cases hh),(λh hh=>by cases hh),List.Pairwise.nil,(λp hp=>by cases hp),(λp hp=>by cases hp),(λp hp=>by cases hp),List.Pairwise.nil,List.Pairwise.nil⟩
theorem ai.tW (w:World) (B:Nat):ai w B Go.Proofs.YtjahcnjmjahbaaaGreat.tW [.slice none 0 0,.slice none 0 0,.int .i64 1,.int .i64 2,.int .i64 1,.int .i64 3] []:=by
 refine ai.up (B':=B) (λx:aU=>(x.aa,x.O,x.next,x.weights)) ?_ (Nat.le_refl _);have h1:ai w B ([]:List az) [.slice none 0 0] []:=ai.flat (Sl.nil w none 0 (Nat.zero_le _));have h2:ai w B ([]:List ag) [.slice none 0 0] []:=ai.flat (Sl.nil w none 0 (Nat.zero_le _));have h3:ai w B ((1:Int),(⟨2,1,3⟩:rZ)) ([.int .i64 1]++[.int .i64 2,.int .i64 1,.int .i64 3]) []:=ai.cons (jL w 1 p') (ai.flat (Zj w ⟨2,1,3⟩ Ir Ir Ir));exact Nu
theorem lZ (x:aU) (d:AF):(d' x d).1.next<=x.next+1:=by
 have hp:∀(y:aU) (nm:ByteArray),(jA y nm).1.next = y.next:=λy nm=>by
  unfold jA AM;repeat' split
  all_goals rfl
 have hn:(BX x).1.next = x.next:=by
  unfold BX;repeat' split
  all_goals first | rfl | exact hp _ _
 unfold d' AE;repeat' split
 all_goals first
  | (unfold lR;(repeat' split);all_goals dsimp only;all_goals omega)
  | (unfold m';(repeat' split);all_goals dsimp only;all_goals omega)
  | (unfold Ko;(repeat' split);all_goals dsimp only;all_goals omega)
  | (unfold Ut;(repeat' split);all_goals dsimp only;all_goals omega)
  | (unfold setW;(repeat' split);all_goals dsimp only;all_goals omega)
  | (dsimp only;rw [hp];omega)
  | (dsimp only;rw [hn];omega)
  | (dsimp only;omega)
theorem yN (w:World) (c:Nat) (A:Option Addr) (n cap:Nat) (h:cj w c A n cap) :
 Calls Tryz.prog 26 #[.pointer (some ⟨c,0,none⟩)] w λe w'=>∃(x:aU) (cs:List Value) (G:List Nat),e = .returned (.agg cs.toArray)/\ai w' w.heap.size x cs G/\(Good x/\x.next<=21)/\cj w' c A n cap/\nN [c] w w':=by
 have am:=h.lt;have HC:=I h;clear h;go_enter Tryz.func26,Tryz.ntmps26;go_wp2_with fail
 refine (aEW _).mono ?_;rintro e w1 ⟨rfl,bi⟩;have cG:=bi.size;simp at cG;have X1:=I (((oG.new w [.slice none 0 0,.slice none 0 0,.int .i64 0,.int .i64 0,.int .i64 0,.int .i64 0] 29).ext bi).ext (ak (aj _) (.cells ([.slice none 0 0,.slice none 0 0,.int .i64 0,.int .i64 0,.int .i64 0,.int .i64 0]:List Value).toArray 29)));have fo:=I ((HC.out.ext (ak (aj _) (.cells ([.slice none 0 0,.slice none 0 0,.int .i64 0,.int .i64 0,.int .i64 0,.int .i64 0]:List Value).toArray 29))).ext bi);have cO:=fo.out.lt;have gA:=I (fo.out.ext (ak (aj _) (.cells ([.slice none 0 0,.slice none 0 0,.int .i64 0,.int .i64 0,.int .i64 0,.int .i64 0]:List Value).toArray 29)));have HB:=I (nN.lq [c] (ak (ah cc bi:Below w.heap.size w w1) (.cells ([.slice none 0 0,.slice none 0 0,.int .i64 0,.int .i64 0,.int .i64 0,.int .i64 0]:List Value).toArray 29)));clear bi HC fo;try dsimp only
 iterate 5 go_step
 refine mA 29 _ _ rfl w1.heap.size 0 [.slice none 0 0,.slice none 0 0,.int .i64 1,.int .i64 2,.int .i64 1,.int .i64 3] [.slice none 0 0,.slice none 0 0,.int .i64 0,.int .i64 0,.int .i64 0,.int .i64 0] rfl rfl (oG.new w1 _ 29) S' U' dv ?_;intro w2 Y2 O2;replace Y2:oG w2 w1.heap.size [.slice none 0 0,.slice none 0 0,.int .i64 1,.int .i64 2,.int .i64 1,.int .i64 3]:=Y2;have cr:w2.heap.size = w1.heap.size+1:=by rw [O2.size];simp
 have X2:=I (X1.out.only O2 J);have lV:=I (HB.out.only O2 J);have pq:=I (gA.out.only O2 J);have UV:=I Y2;have HZ2:=I cr;clear X1 HB gA O2 Y2 cr;go_wp2_with fail
 go_loopw [4] (λi wr=>∃(k:Nat) (x:aU) (Ah Ap:Option Addr) (ch cp:Nat) (G:List Nat),i = .int .i64 k/\(k:Int)<=20/\Hid (x.next<=1+k)/\Hid (ai wr (w1.heap.size+1) x [.slice Ah x.aa.length ch,.slice Ap x.O.length cp,.int .i64 x.next,.int .i64 x.weights.pack,.int .i64 x.weights.spread,.int .i64 x.weights.soft] G/\Good x/\oG wr w1.heap.size [.slice Ah x.aa.length ch,.slice Ap x.O.length cp,.int .i64 x.next,.int .i64 x.weights.pack,.int .i64 x.weights.spread,.int .i64 x.weights.soft]/\oG wr w.heap.size [.slice none 0 0,.slice none 0 0,.int .i64 0,.int .i64 0,.int .i64 0,.int .i64 0]/\cj wr c A n cap/\nN [c] w wr/\w1.heap.size+1<=wr.heap.size)) (λi _=>20 - (intOf i).toNat)
 case atStart =>exact ⟨0,tW,none,none,0,0,[],rfl,J,I (by decide),I ⟨ai.tW _ _,aEc,UV.out,X2.out,pq.out,lV.out,by rw [HZ2.out];exact Nat.le_refl _⟩⟩
 case round =>
  obtain ⟨k,x,Ah,Ap,ch,cp,G,rfl,hk,Jf,HX⟩:=hrel;obtain ⟨hO,hG,hY,hX,hC,hU,hz⟩:=HX.out;have HG:=I hG;clear hG HX X2 lV pq UV HZ2;have HO:=I hO;have HY:=I hY;have QK:=I hX;have HC:=I hC;have HU:=I hU;clear hO hY hX hC hU;go_wp2_with fail
  refine (lk 16 J _ c A n cap HC.out).mono ?_;rintro e w3 ⟨r,rfl,hr,H3,bJ⟩;have gY:=I (HO.out.drawn bJ J);have rT:=I (HY.out.bE bJ J);have yP:=I (QK.out.bE bJ J);have kB:=I (HU.out.trans bJ);have e':=I H3;have eN:=bJ.size;clear H3 bJ HO HY QK HU HC;by_cases hkr:(k:Int) < 4+r
  ·go_wp2_with fail
   refine azp (λw'=>oG w' w1.heap.size [.slice Ah x.aa.length ch,.slice Ap x.O.length cp,.int .i64 x.next,.int .i64 x.weights.pack,.int .i64 x.weights.spread,.int .i64 x.weights.soft]) (λ_=>True) [0] [1,2] 5 U' U' H' (rT.out.ext (aA (aj _))) ?_;simp only [pick,List.getElem?_cons_succ,List.getElem?_cons_zero];refine dR (.agg #[.slice Ah x.aa.length ch,.slice Ap x.O.length cp,.int .i64 x.next,.int .i64 x.weights.pack,.int .i64 x.weights.spread,.int .i64 x.weights.soft]) (yieldsIf_load_mid rfl 29 _ rfl w1.heap.size 0 rfl [.slice Ah x.aa.length ch,.slice Ap x.O.length cp,.int .i64 x.next,.int .i64 x.weights.pack,.int .i64 x.weights.spread,.int .i64 x.weights.soft] _ (λw' ic=>ic.range) Tryz.underlying29 rfl U') ?_;simp only [Act.put,pz];refine fE ?_;refine iK rfl (λK hK=>?_);go_simp;refine hK _ _ (rT.out.ext (aA (aj _))) ?_;try simp only [Act.put,pz]
   clear hK K;refine iK rfl (λK hK=>?_);go_simp;refine (aGl _ c A n cap e'.out.drew).mono ?_;rintro e w4 ⟨d,ds,Gd,rfl,hOd,hwd,hnd,cS,H4,Td⟩;have pu:=(nN.lq [c] (aA (aj w3))).trans Td;have lB:=I (gY.out.drawn pu J);have HY4:=I (rT.out.bE pu J);have Fy:=I (yP.out.bE pu J);have mo:=I (kB.out.trans pu);have fT:=I H4;have HOD:=I hOd;have Wy:=pu.size;clear H4 Td pu gY rT yP kB e' hOd;refine hK _ _ HY4.out ?_;try simp only [Act.put,pz]
   clear hK K;refine yG ?_;have fS:=Us HG.out;refine bP 3 J' U' J' (λK hK=>?_);go_simp;refine (aBg x _ _ d _ _ w4 lB.out.rd HOD.out.rd J J).mono ?_;have HG5:=I (aBf HG.out d);have HN5:=I (show (d' x d).1.next<=1+((k+1:Nat):Int) by have:=lZ x d;have:=Jf.out;omega);generalize d' x d = RR at *;obtain ⟨R,cd⟩:=RR;rintro e w5 ⟨es,G5,rfl,fH,bj⟩;dsimp only at fH |-;have hR:=fH.rd;obtain ⟨kM,kN,ND,ny,nC,TD,aq,hGr,NG,TF,TG,xI,uD,xJ⟩:=aO hR;subst aq;clear hGr hR;have so:=I fH;have HY5:=HY4.out.ext bj;have yz:=I (Fy.out.ext bj);have uW:=I (mo.out.pH bj J);have j9:=I (fT.out.ext bj);have Es:=bj.size;clear bj fH lB HY4 Fy mo fT HOD;refine hK _ _ trivial ?_;try simp only [Act.put,pz]
   clear hK K;refine bP 4 J' U' J' (λK hK=>?_);go_simp;refine hK _ _ trivial ?_;try simp only [Act.put,pz]
   clear hK K
   refine aX 5 _ J' U' H' trivial (Or.inl ⟨rfl,λwq hq=>by
    go_simp
    try rfl⟩) ?_
   try simp only [Act.put,pz]
   refine aX 6 _ J' U' H' trivial (Or.inl ⟨rfl,λwq hq=>by
    go_simp
    try rfl⟩) ?_
   try simp only [Act.put,pz]
   refine bP 7 J' U' J' (λK hK=>?_);refine mA 29 _ _ rfl w1.heap.size 0 [.slice kM R.aa.length kN,.slice ny R.O.length nC,.int .i64 R.next,.int .i64 R.weights.pack,.int .i64 R.weights.spread,.int .i64 R.weights.soft] [.slice Ah x.aa.length ch,.slice Ap x.O.length cp,.int .i64 x.next,.int .i64 x.weights.pack,.int .i64 x.weights.spread,.int .i64 x.weights.soft] rfl rfl HY5 S' U' dv ?_;intro w6 Y6 O6;replace Y6:oG w6 w1.heap.size [.slice kM R.aa.length kN,.slice ny R.O.length nC,.int .i64 R.next,.int .i64 R.weights.pack,.int .i64 R.weights.spread,.int .i64 R.weights.soft]:=Y6;refine hK _ _ trivial ?_;try simp only [Act.put,pz]
   clear hK K;refine nR U' ?_;have yL:=I ((so.out.only O6 (λb hb=>by have:=so.out.base b hb;omega)).mono (B':=w1.heap.size+1) J);have aah:=I (yz.out.only O6 J);have HU6:=I (uW.out.only O6 J);have vz:=I (j9.out.only O6 cO);have uQ:=O6.size;have HY6:=I Y6;have UJ:(k:Int)+1<=20:=J;clear so HY5 yz uW j9 O6 Y6;go_wp2;exact ⟨⟨k+1,R,_,_,_,_,G5,N',J,HN5,I ⟨yL.out,HG5.out,HY6.out,aah.out,vz.out,HU6.out,J⟩⟩,by simp only [intOf];omega⟩
  ·have yy:=rT.out;have xx:=yP.out;obtain ⟨I8,aAC,aAD,aAE,aAF,aAG,aAH,aAI,aAJ,aAK,aAL,aAM⟩:=vi yy;obtain ⟨I7,azr,azs,azt,azu,azv,azw,azx,azy,azz,azA,azB⟩:=vi xx;clear yy xx rT yP;go_wp2;refine bodyPost_ret (v:=.agg #[.slice Ah x.aa.length ch,.slice Ap x.O.length cp,.int .i64 x.next,.int .i64 x.weights.pack,.int .i64 x.weights.spread,.int .i64 x.weights.soft]) (by simp [results,Tryz.results26,go_sem, *]) rfl ?_;exact ⟨x,[.slice Ah x.aa.length ch,.slice Ap x.O.length cp,.int .i64 x.next,.int .i64 x.weights.pack,.int .i64 x.weights.spread,.int .i64 x.weights.soft],G,rfl,(((((((gY.out.setCell (p:=⟨w.heap.size,0,none⟩) bv _).setCell (p:=⟨w.heap.size,1,none⟩) bv _).setCell (p:=⟨w.heap.size,2,none⟩) bv _).setCell (p:=⟨w.heap.size,3,none⟩) bv _).setCell (p:=⟨w.heap.size,4,none⟩) bv _).setCell (p:=⟨w.heap.size,5,none⟩) bv _)).mono J,⟨HG.out,by have:=Jf.out;omega⟩,((((((e'.out.br am 0 _).br am 1 _).br am 2 _).br am 3 _).br am 4 _).br am 5 _),((((((kB.out.new (Nat.le_refl _) 0 _).new (Nat.le_refl _) 1 _).new (Nat.le_refl _) 2 _).new (Nat.le_refl _) 3 _).new (Nat.le_refl _) 4 _).new (Nat.le_refl _) 5 _)⟩
theorem aAA (w:World) (c:Nat) (A:Option Addr) (n cap:Nat) (h:cj w c A n cap) :
 Calls Tryz.prog 26 #[.pointer (some ⟨c,0,none⟩)] w λe w'=>∃(x:aU) (cs:List Value) (G:List Nat),e = .returned (.agg cs.toArray)/\ai w' w.heap.size x cs G/\Good x/\cj w' c A n cap/\nN [c] w w' :=
 (yN w c A n cap h).mono λ_ _ ⟨x,cs,G,a,b,d,e⟩=>⟨x,cs,G,a,b,d.1,e⟩
theorem ayY (A:Option Addr) (n cap:Nat) (w:World):Calls Tryz.prog 6 #[.slice A n cap] w λe w'=>e = .returned (.bool (decide ((1048576:Int) < n)))/\Below w.heap.size w w':=by
 by_cases h:(1048576:Int) < n
 all_goals
  go_enter Tryz.func6,Tryz.ntmps6;go_wp2;go_ret
  exact ⟨(by simp;omega),aj _⟩
theorem aAQ {w:World} {xs:List UInt8} {A:Option Addr} {cap:Nat} {F:List Nat} (h:Sl w xs A cap F):∀k,k < xs.length->∃(g o:Nat) (v:Int),A = some ⟨g,o,none⟩/\g < w.heap.size/\w.cell? ⟨g,o+k,none⟩ = some (.int .u8 v)/\0<=v/\v<=255:=by
 intro k hk;obtain ⟨b,o,ck,Fk,rfl,_,hb,hr,_,hc⟩:=h.get hk;have h0:=hc 0 (.int .u8 (xs[k].toNat:Int)) (by rw [hr.1];rfl);rw [show o+(k * bd.size UInt8+0) = o+k by show o+(k * 1+0) = o+k;omega] at h0;have:=xs[k].toNat_lt;exact ⟨b,o,_,rfl,hb,h0,J,J⟩
def qS (w:World) (g:Nat) (l:List UInt8):Prop:=∃row t n,w.heap[g]? = some (.cells row t (n,n+1))/\l.length<=n/\∀j (hj:j < l.length),row[j]? = some (B8 l[j])
section
variable {w w':World} {g:Nat} {l:List UInt8}
theorem qS.lt (h:qS w g l):g < w.heap.size:=by
 obtain ⟨row,t,n,h1,_⟩:=h;rcases Nat.lt_or_ge g w.heap.size with h5 | h5
 ·exact h5
 ·rw [Array.getElem?_eq_none h5] at h1;cases h1
theorem qS.cell (h:qS w g l) {j:Nat} (hj:j < l.length):w.cell? ⟨g,j,none⟩ = some (B8 l[j]):=by
 obtain ⟨row,t,n,h1,_,h3⟩:=h;rw [cell_of_row w g j row t (n,n+1) h1];exact h3 j hj
theorem qS.fz (h:qS w g l) {j:Nat} (hj:j < l.length):w.frozen? ⟨g,j,none⟩ = false:=by
 obtain ⟨row,t,n,h1,h2,_⟩:=h;simp [World.frozen?,h1];omega
theorem qS.drawn {c:Nat} (h:qS w g l) (hu:nN [c] w w') (hc:g≠c):qS w' g l:=by
 have hl:=h.lt;obtain ⟨row,t,n,h1,h2⟩:=h;exact ⟨row,t,n,(hu.block g hl (by simpa using hc)).trans h1,h2⟩
theorem qS.put (h:qS w g l) (k:Nat) (x:UInt8):qS (w.setCell ⟨g,k,none⟩ (B8 x)) g (l.set k x):=by
 obtain ⟨row,t,n,h1,h2,h3⟩:=h;refine ⟨row.setIfInBounds k (B8 x),t,n,by simp [World.setCell,Array.getElem?_modify,h1],by simpa using h2,λj hj=>?_⟩;rw [List.length_set] at hj;have h4:=h3 j hj;rw [List.getElem_set];split
 ·rename_i e;subst e;rw [Array.getElem?_setIfInBounds_self];have:k < row.size:=by
   rcases Nat.lt_or_ge k row.size with h5 | h5
   ·exact h5
   ·rw [Array.getElem?_eq_none h5] at h4;cases h4
  simp [this]
 ·rename_i e;rw [Array.getElem?_setIfInBounds_ne e];exact h4
end
theorem aEf (w:World) (s:ByteArray) (cap:Nat) (t:TypeId):qS (w.drew.alloc (.cells (bytesRow s cap) t ((bytesRow s cap).size,(bytesRow s cap).size+1))) w.heap.size s.data.toList:=by
 have e:(bytesRow s cap).size = s.size+(cap - s.size):=by unfold bytesRow;simp
 refine ⟨bytesRow s cap,t,(bytesRow s cap).size,heap_alloc_new w.drew _,?_,λj hj=>?_⟩
 ·rw [e];show s.size<=_;omega
 ·unfold bytesRow;have OJ:j < s.data.size:=by simpa using hj
  rw [Array.getElem?_append_left (by simpa using OJ)];rw [Array.getElem?_map,Array.getElem?_eq_getElem OJ];rfl
theorem aCe (s:ByteArray) (hs:(s.size:Int)<=900000) (w:World) (c:Nat) (A:Option Addr) (n cap:Nat) (h:cj w c A n cap) :
 Calls Tryz.prog 45 #[.pointer (some ⟨c,0,none⟩),.string s] w λe w'=>∃t:ByteArray,e = .returned (.string t)/\(t.size:Int)<=900001/\cj w' c A n cap/\nN [c] w w':=by
 have am:=h.lt;have HC:=I h;clear h;by_cases h0:s.size = 0
 ·have SV:((s.size:Int) == 0) = true:=by rw [beq_iff_eq];omega
  go_enter Tryz.func45,Tryz.ntmps45;go_wp2;go_ret
  exact ⟨_,rfl,(by show ((1:Nat):Int)<=_;omega),HC.out,nN.refl _ _⟩
 ·have SV:((s.size:Int) == 0) = false:=by rw [beq_eq_false_iff_ne];omega
  have HP:=I (show 0 < s.size/\(s.size:Int)<=1000000000 by omega);have eJ:(1:Int)<=s.size:=by omega
  have hcv:=run_bytes_of_string (P:=Tryz.prog) w 9 22 5 s Tryz.underlying9 Tryz.underlying22 Tryz.underlying5;clear h0;have rS:=aEf w s (grownCap w s.size 0 5) 5;have ax:Below w.heap.size w (w.drew.alloc (.cells (bytesRow s (grownCap w s.size 0 5)) 5 ((bytesRow s (grownCap w s.size 0 5)).size,(bytesRow s (grownCap w s.size 0 5)).size+1))):=ak (aA (aj _)) _;generalize w.drew.alloc (.cells (bytesRow s (grownCap w s.size 0 5)) 5 ((bytesRow s (grownCap w s.size 0 5)).size,(bytesRow s (grownCap w s.size 0 5)).size+1)) = w1 at *;generalize grownCap w s.size 0 5 = gc at *;have rh:=I rS;have fo:=I (HC.out.ext ax);have oa:=I (nN.lq [c] ax);have cG:=ax.size;have lw:=rS.lt;clear rS ax HC;go_enter Tryz.func45,Tryz.ntmps45;go_wp2_with fail
  refine (lk s.size HP.out _ c A n cap fo.out).mono ?_;rintro e w2 ⟨k,rfl,hk,H2,ca⟩;have gA:=I H2;have lV:=I (oa.out.trans ca);have iY:=I (rh.out.drawn ca J);have cr:=ca.size;clear H2 ca fo oa rh hcv;go_wp2_with fail
  refine (lk 4 J _ c A n cap gA.out).mono ?_;rintro e w3 ⟨r,rfl,hr,H3,bJ⟩;have e':=I H3;have kB:=I (lV.out.trans bJ);have lE:=I (iY.out.drawn bJ J);have eN:=bJ.size;clear H3 bJ gA lV iY;by_cases h1:r = 0
  ·subst h1;go_wp2;go_ret
   exact ⟨_,rfl,(by rw [ByteArray.size_extract];omega),e'.out,kB.out⟩
  ·have d0:((r:Int) == 0) = false:=(by rw [beq_eq_false_iff_ne];omega);by_cases h2:r = 1
   ·subst h2;go_wp2_with fail
    refine (EV _ c A n cap e'.out).mono ?_;rintro e w4 ⟨v,rfl,hv,H4,Td⟩;have fT:=I H4;have mo:=I (kB.out.trans Td);obtain ⟨u,rfl⟩:∃u:UInt8,v = (u.toNat:Int):=⟨v.toNat.toUInt8,by rw [aDi _ J];omega⟩;have fZ:(u.toNat:Int) % 256 = u.toNat:=(by have:=u.toNat_lt;omega)
    have Ry:(convert 22 9 (.slice (some ⟨w4.heap.size,0,none⟩) 1 1)).run Tryz.prog (w4.alloc (.cells #[.int .u8 (u.toNat:Int)] 5)) = .ok (.string ⟨#[u]⟩) (w4.alloc (.cells #[.int .u8 (u.toNat:Int)] 5)) :=
     run_convert_bytes_back _ 22 9 5 ⟨w4.heap.size,0,none⟩ 1 [u] Tryz.underlying22 Tryz.underlying5 Tryz.underlying9 (λi hi=>by
      obtain rfl:i = 0:=by simpa using hi
      exact (cell_of_row _ w4.heap.size 0 #[.int .u8 (u.toNat:Int)] 5 (0,0) (heap_alloc_new w4 _)).trans rfl)
    have nf:(⟨#[u]⟩:ByteArray).size = 1:=rfl;clear H4 Td e' kB lE hv;go_wp2;go_ret
    exact ⟨_,rfl,(by rw [ByteArray.size_append];show ((s.size+1:Nat):Int)<=_;omega),fT.out.ext (ak (aj _) _),mo.out.alloc _⟩
   ·have d1:((r:Int) == 1) = false:=(by rw [beq_eq_false_iff_ne];omega);go_wp2_with fail
    refine (EV _ c A n cap e'.out).mono ?_;rintro e w4 ⟨v,rfl,hv,H4,Td⟩;have fT:=I H4;have mo:=I (kB.out.trans Td);have ka:=I (lE.out.drawn Td J);have Wy:=Td.size;obtain ⟨u,rfl⟩:∃u:UInt8,v = (u.toNat:Int):=⟨v.toNat.toUInt8,by rw [aDi _ J];omega⟩;have fZ:(u.toNat:Int) % 256 = u.toNat:=(by have:=u.toNat_lt;omega);have bs:k < s.data.toList.length:=(by simpa using hk);have q:=ka.out.cell (j:=k) bs;have hf:=ka.out.fz (j:=k) bs;have j8:=ka.out.lt;have Ry:(convert 22 9 (.slice (some ⟨w.heap.size,0,none⟩) s.size gc)).run Tryz.prog (w4.setCell ⟨w.heap.size,k,none⟩ (.int .u8 (u.toNat:Int))) = .ok (.string ⟨(s.data.toList.set k u).toArray⟩) (w4.setCell ⟨w.heap.size,k,none⟩ (.int .u8 (u.toNat:Int))):=by
     have hl:(s.data.toList.set k u).length = s.size:=(by rw [List.length_set];rfl)
     have:=run_convert_bytes_back (P:=Tryz.prog) (w4.setCell ⟨w.heap.size,k,none⟩ (.int .u8 (u.toNat:Int))) 22 9 5 ⟨w.heap.size,0,none⟩ gc (s.data.toList.set k u) Tryz.underlying22 Tryz.underlying5 Tryz.underlying9 (λi hi=>by
      rw [Addr.add_lit,Nat.zero_add]
      exact (ka.out.put k u).cell hi)
     rwa [hl] at this
    have vh:(k:Int) < s.size:=J;clear H4 Td e' kB lE hv;have di:((s.data.toList.set k u).length:Int)<=900001:=(by rw [List.length_set];show (s.size:Int)<=_;omega);generalize s.data.toList.set k u = l at *;go_wp2;go_ret
    exact ⟨_,rfl,(by show (l.toArray.size:Int)<=_;rw [List.size_toArray];exact di),fT.out.br am k _,mo.out.new (Nat.le_refl _) k _⟩
theorem aAk (w:World) (A:Option Addr) (n cap:Nat) (hn:(n:Int)<=1048576) (cL:∀k,k < n->∃(g o:Nat) (v:Int),A = some ⟨g,o,none⟩/\g < w.heap.size/\w.cell? ⟨g,o+k,none⟩ = some (.int .u8 v)/\0<=v/\v<=255) :
 Calls Tryz.prog 17 #[.slice A n cap] w λe w'=>∃s:ByteArray,e = .returned (.string s)/\(s.size:Int)<=900001/\Below w.heap.size w w':=by
 go_enter Tryz.func17,Tryz.ntmps17;go_wp2_with fail
 refine (aBW w A n cap hn cL).mono ?_;rintro e w1 ⟨c,rfl,hc,H1,bi⟩;have cG:=bi.size;have HB:=I bi;have HC:=I H1;clear H1 bi cL;go_wp2_with fail
 refine (aAA _ c A n cap HC.out).mono ?_;rintro e w2 ⟨x,cs,G,rfl,hO,hG,H2,ca⟩;have hR:=hO.rd;obtain ⟨kM,kN,ND,ny,nC,TD,aq,hGr,NG,TF,TG,xI,uD,xJ⟩:=aO hR;have HR:=I hR;subst aq;have fS:=Us hG;have eJ:=(aIn hG (aDM hR)).2;have iY:=I (HB.out.trans (ca.below (B:=w.heap.size) (λb hb=>by rw [List.mem_singleton] at hb;omega) J));have gA:=I H2;have cr:=ca.size;clear hGr hR hO H2 ca HB HC;go_wp2_with fail
 refine (aie x _ _ w2 HR.out J).mono ?_;generalize JC x = s at *;rintro e w3 ⟨rfl,ba⟩;have lE:=I (iY.out.trans (ba.mono J));have e':=I (gA.out.ext ba);have eN:=ba.size;clear ba iY gA HR;go_wp2_with fail
 refine (Ao 2 J _ c A n cap e'.out).mono ?_;rintro e w4 ⟨b,rfl,H4,Td⟩;have ka:=I (lE.out.trans (Td.below (B:=w.heap.size) (λb hb=>by rw [List.mem_singleton] at hb;omega) J));have fT:=I H4;have Wy:=Td.size;clear H4 Td lE e';cases b
 ·go_wp2;go_ret
  exact ⟨s,rfl,J,ka.out⟩
 ·go_wp2_with fail
  refine (aCe s J _ c A n cap fT.out).mono ?_;rintro e w5 ⟨t,rfl,ht,H5,hu5⟩;have Bk:=I (ka.out.trans (hu5.below (B:=w.heap.size) (λb hb=>by rw [List.mem_singleton] at hb;omega) J));clear hu5 ka;go_wp2;go_ret
  exact ⟨t,rfl,ht,Bk.out⟩
end Go.Proofs.YtjahcnjmjahbaaaGreat
