/- Applied of the reference, over an operation as data. No condition. -/
import Derived.Test.YtajbbmembionpaaGreatAppM
import Derived.Test.YtajbbmembionpaaGreatNextS
import Derived.Test.YtajbbmembionpaaGreatOpsHS
namespace Go.Proofs.YtajbbmembionpaaGreat
open Go.ChangeShapes Go.WideShapes Go.ChangeAt Go.RowKit
set_option linter.unusedVariables false
set_option linter.unusedSimpArgs false
set_option maxHeartbeats 8000000
set_option maxRecDepth 100000
def ed (x:aU) (d:xb):aU × Int :=
 if d.kind = 1 then xa x d.tP else if d.kind = 2 then Ko x d.name else if d.kind = 3 then Ut x d.name else if d.kind = 4 then ((j6 x d.name).1,(j6 x d.name).2.2)
 else if d.kind = 5 then ((BX x).1,(BX x).2.2.2) else if d.kind = 6 then setW x d.weights else (x,if iI x = true then 8 else 1)
theorem aBN {x:aU} (G:Good x) (m:b9):Good (xa x m).1:=by
 unfold xa;split
 ·exact aD3 G _
 ·split
  ·exact aD4 G _
  ·exact G
theorem aBf {x:aU} (G:Good x) (d:xb):Good (ed x d).1:=by
 unfold ed;split
 ·exact aBN G _
 ·split
  ·exact aCV G _
  ·split
   ·exact aD5 G _
   ·split
    ·exact YA G _
    ·split
     ·exact ayD G
     ·split
      ·exact aD6 G _
      ·exact G
theorem aBg (x:aU) (cs:List Value) (F:List Nat) (d:xb) (ms:List Value) (Fm:List Nat) (w:World) (h:rd w x cs F) (h':rd w d ms Fm) (hw:(x.wt:Int)≤1048576) (hm:(d.tP.wt:Int)≤1048576) :
 Calls Tryz.prog 66 #[.agg cs.toArray,.agg ms.toArray] w fun e w'=>∃ds G,e = .returned (.tuple #[.agg ds.toArray,.int .i64 (ed x d).2])∧am w' w.heap.size (ed x d).1 ds G∧Below w.heap.size w w':=by
 have HW:=I hw;clear hw;have hr:=h;obtain ⟨Nf,ayW,aDE,aBb,aBd,aEE,aw,qp,aDF,aEF,aEG,axh,aJM,axi⟩:=aO hr;subst aw;clear qp hr;obtain ⟨k,nm,m,wt⟩:=d;have Zt:=I hm;clear hm;dsimp only at Zt;obtain ⟨_,_,_,_,rfl,rfl,⟨rfl,rfl,hkind⟩,_,_,_,_,rfl,rfl,⟨rfl,rfl,il⟩,_,_,_,_,rfl,rfl,hman,hwts⟩:=h';dsimp only at hkind il hman hwts ⊢;have nQ:=hman;have om:=hwts;obtain ⟨pj,aHw,aBO,aHD,aHE,aCW,GR,G7,ayE,aHp,aHq,aBh,aHr,aHs,aBi,aw,hFm,hkindm,aD7,aBP,aEN,aEO,aD8,aCX,ayF,aCY,aBj,aD9,aEa,aBQ,aBk⟩:=NS nQ;subst aw;obtain ⟨aw,hFw,tQ,lb,QD⟩:=mg om;subst aw;clear hFm hFw nQ om;unfold ed;dsimp only;by_cases h1:k = 1
 ·as_aux_lemma =>
  subst h1;rw [if_pos rfl];have HS:=I (fun cs F us Fu wq a b=>axA x cs F m us Fu wq a b HW.out Zt.out);generalize xa x m = RR at *;obtain ⟨R,cd⟩:=RR;dsimp only at HS ⊢;go_enter Tryz.func66,Tryz.ntmps66;go_wp2_with fail
  refine (HS.out _ _ _ _ _ (aZ h bS) (aZ hman bS)).mono ?_;exact x5
 rw [if_neg h1];by_cases h2:k = 2
 ·as_aux_lemma =>
  subst h2;rw [if_pos rfl];have HS:=I (fun cs F wq a=>ah2 x cs F nm wq a HW.out);generalize Ko x nm = RR at *;exact Is
 rw [if_neg h2];by_cases h3:k = 3
 ·as_aux_lemma =>
  subst h3;rw [if_pos rfl];have HS:=I (fun cs F wq a=>afS x cs F nm wq a HW.out);generalize Ut x nm = RR at *;exact Is
 rw [if_neg h3];by_cases h4:k = 4
 ·as_aux_lemma =>
  subst h4;rw [if_pos rfl];have HS:=I (fun cs F wq a=>Nx x cs F nm wq a HW.out);generalize j6 x nm = RR at *;obtain ⟨R,gL,cd⟩:=RR;dsimp only at HS ⊢;go_enter Tryz.func66,Tryz.ntmps66;go_wp2_with fail
  refine (HS.out _ _ _ (aZ h bS)).mono ?_;rintro e w1 ⟨ds,G,rfl,hO,bo⟩;have hR:=hO.rd;obtain ⟨kM,kN,ND,ny,nC,TD,aw,hGr,NG,TF,TG,xI,uD,xJ⟩:=aO hR;subst aw;clear hGr hR;have cg:=bo.size;simp at cg;have XB:=I (oG.ext (oG.ext (oG.vM w _ _ [.slice none 0 0,.slice none 0 0,.int .i64 0,.int .i64 0,.int .i64 0,.int .i64 0] 29) bo) (ak (aj _) (.cells ([.slice none 0 0,.slice none 0 0,.int .i64 0,.int .i64 0,.int .i64 0,.int .i64 0]:List Value).toArray 29)));have HO:=I ((hO.mono (B':=w.heap.size+1+1+1) S').alloc (.cells ([.slice none 0 0,.slice none 0 0,.int .i64 0,.int .i64 0,.int .i64 0,.int .i64 0]:List Value).toArray 29));have yM:=I hO.lt;have HB:=I (ak (ah bS bo:Below w.heap.size w w1) (.cells ([.slice none 0 0,.slice none 0 0,.int .i64 0,.int .i64 0,.int .i64 0,.int .i64 0]:List Value).toArray 29));clear hO bo h;try dsimp only
  iterate 17 go_step
  refine ly 29 _ _ rfl w1.heap.size 0 [.slice kM R.aa.length kN,.slice ny R.au.length nC,.int .i64 R.next,.int .i64 R.weights.pack,.int .i64 R.weights.spread,.int .i64 R.weights.soft] [.slice none 0 0,.slice none 0 0,.int .i64 0,.int .i64 0,.int .i64 0,.int .i64 0] rfl rfl (oG.new w1 _ 29) S' U' eC ?_;intro w2 YB OB;replace YB:oG w2 w1.heap.size [.slice kM R.aa.length kN,.slice ny R.au.length nC,.int .i64 R.next,.int .i64 R.weights.pack,.int .i64 R.weights.spread,.int .i64 R.weights.soft]:=YB;have TC:=XB.out.only OB J;try dsimp only [Act.put]
  iterate 6 go_step
  first
   | (refine BF 29 _ rfl w1.heap.size [.slice kM R.aa.length kN,.slice ny R.au.length nC,.int .i64 R.next,.int .i64 R.weights.pack,.int .i64 R.weights.spread,.int .i64 R.weights.soft] rfl _ YB Tryz.underlying29 rfl U' ?_)
   | (go_step;refine BF 29 _ rfl w1.heap.size [.slice kM R.aa.length kN,.slice ny R.au.length nC,.int .i64 R.next,.int .i64 R.weights.pack,.int .i64 R.weights.spread,.int .i64 R.weights.soft] rfl _ YB Tryz.underlying29 rfl U' ?_)
   | (go_step;go_step;refine BF 29 _ rfl w1.heap.size [.slice kM R.aa.length kN,.slice ny R.au.length nC,.int .i64 R.next,.int .i64 R.weights.pack,.int .i64 R.weights.spread,.int .i64 R.weights.soft] rfl _ YB Tryz.underlying29 rfl U' ?_)
   | (go_step;go_step;go_step;refine BF 29 _ rfl w1.heap.size [.slice kM R.aa.length kN,.slice ny R.au.length nC,.int .i64 R.next,.int .i64 R.weights.pack,.int .i64 R.weights.spread,.int .i64 R.weights.soft] rfl _ YB Tryz.underlying29 rfl U' ?_)
   | (go_step;go_step;go_step;go_step;refine BF 29 _ rfl w1.heap.size [.slice kM R.aa.length kN,.slice ny R.au.length nC,.int .i64 R.next,.int .i64 R.weights.pack,.int .i64 R.weights.spread,.int .i64 R.weights.soft] rfl _ YB Tryz.underlying29 rfl U' ?_)
   | (go_step;go_step;go_step;go_step;go_step;refine BF 29 _ rfl w1.heap.size [.slice kM R.aa.length kN,.slice ny R.au.length nC,.int .i64 R.next,.int .i64 R.weights.pack,.int .i64 R.weights.spread,.int .i64 R.weights.soft] rfl _ YB Tryz.underlying29 rfl U' ?_)
   | (go_step;go_step;go_step;go_step;go_step;go_step;refine BF 29 _ rfl w1.heap.size [.slice kM R.aa.length kN,.slice ny R.au.length nC,.int .i64 R.next,.int .i64 R.weights.pack,.int .i64 R.weights.spread,.int .i64 R.weights.soft] rfl _ YB Tryz.underlying29 rfl U' ?_)
   | (go_step;go_step;go_step;go_step;go_step;go_step;go_step;refine BF 29 _ rfl w1.heap.size [.slice kM R.aa.length kN,.slice ny R.au.length nC,.int .i64 R.next,.int .i64 R.weights.pack,.int .i64 R.weights.spread,.int .i64 R.weights.soft] rfl _ YB Tryz.underlying29 rfl U' ?_)
   | (go_step;go_step;go_step;go_step;go_step;go_step;go_step;go_step;refine BF 29 _ rfl w1.heap.size [.slice kM R.aa.length kN,.slice ny R.au.length nC,.int .i64 R.next,.int .i64 R.weights.pack,.int .i64 R.weights.spread,.int .i64 R.weights.soft] rfl _ YB Tryz.underlying29 rfl U' ?_)
   | (go_step;go_step;go_step;go_step;go_step;go_step;go_step;go_step;go_step;refine BF 29 _ rfl w1.heap.size [.slice kM R.aa.length kN,.slice ny R.au.length nC,.int .i64 R.next,.int .i64 R.weights.pack,.int .i64 R.weights.spread,.int .i64 R.weights.soft] rfl _ YB Tryz.underlying29 rfl U' ?_)
   | (go_step;go_step;go_step;go_step;go_step;go_step;go_step;go_step;go_step;go_step;refine BF 29 _ rfl w1.heap.size [.slice kM R.aa.length kN,.slice ny R.au.length nC,.int .i64 R.next,.int .i64 R.weights.pack,.int .i64 R.weights.spread,.int .i64 R.weights.soft] rfl _ YB Tryz.underlying29 rfl U' ?_)
   | (go_step;go_step;go_step;go_step;go_step;go_step;go_step;go_step;go_step;go_step;go_step;refine BF 29 _ rfl w1.heap.size [.slice kM R.aa.length kN,.slice ny R.au.length nC,.int .i64 R.next,.int .i64 R.weights.pack,.int .i64 R.weights.spread,.int .i64 R.weights.soft] rfl _ YB Tryz.underlying29 rfl U' ?_)
   | (go_step;go_step;go_step;go_step;go_step;go_step;go_step;go_step;go_step;go_step;go_step;go_step;refine BF 29 _ rfl w1.heap.size [.slice kM R.aa.length kN,.slice ny R.au.length nC,.int .i64 R.next,.int .i64 R.weights.pack,.int .i64 R.weights.spread,.int .i64 R.weights.soft] rfl _ YB Tryz.underlying29 rfl U' ?_)
   | (go_step;go_step;go_step;go_step;go_step;go_step;go_step;go_step;go_step;go_step;go_step;go_step;go_step;refine BF 29 _ rfl w1.heap.size [.slice kM R.aa.length kN,.slice ny R.au.length nC,.int .i64 R.next,.int .i64 R.weights.pack,.int .i64 R.weights.spread,.int .i64 R.weights.soft] rfl _ YB Tryz.underlying29 rfl U' ?_)
  exact EO
 rw [if_neg h4];by_cases h5:k = 5
 ·as_aux_lemma =>
  subst h5;rw [if_pos rfl];have HS:=I (fun cs F wq a=>azi x cs F wq a HW.out);generalize BX x = RR at *;obtain ⟨R,gL,gw,cd⟩:=RR;dsimp only at HS ⊢;go_enter Tryz.func66,Tryz.ntmps66;go_wp2_with fail
  refine (HS.out _ _ _ (aZ h bS)).mono ?_;rintro e w1 ⟨ds,G,rfl,hO,bo⟩;have hR:=hO.rd;obtain ⟨kM,kN,ND,ny,nC,TD,aw,hGr,NG,TF,TG,xI,uD,xJ⟩:=aO hR;subst aw;clear hGr hR;have cg:=bo.size;simp at cg;have XB:=I (oG.ext (oG.ext (oG.vM w _ _ [.slice none 0 0,.slice none 0 0,.int .i64 0,.int .i64 0,.int .i64 0,.int .i64 0] 29) bo) (ak (aj _) (.cells ([.slice none 0 0,.slice none 0 0,.int .i64 0,.int .i64 0,.int .i64 0,.int .i64 0]:List Value).toArray 29)));have HO:=I ((hO.mono (B':=w.heap.size+1+1+1) S').alloc (.cells ([.slice none 0 0,.slice none 0 0,.int .i64 0,.int .i64 0,.int .i64 0,.int .i64 0]:List Value).toArray 29));have yM:=I hO.lt;have HB:=I (ak (ah bS bo:Below w.heap.size w w1) (.cells ([.slice none 0 0,.slice none 0 0,.int .i64 0,.int .i64 0,.int .i64 0,.int .i64 0]:List Value).toArray 29));clear hO bo h;try dsimp only
  iterate 20 go_step
  refine ly 29 _ _ rfl w1.heap.size 0 [.slice kM R.aa.length kN,.slice ny R.au.length nC,.int .i64 R.next,.int .i64 R.weights.pack,.int .i64 R.weights.spread,.int .i64 R.weights.soft] [.slice none 0 0,.slice none 0 0,.int .i64 0,.int .i64 0,.int .i64 0,.int .i64 0] rfl rfl (oG.new w1 _ 29) S' U' eC ?_;intro w2 YB OB;replace YB:oG w2 w1.heap.size [.slice kM R.aa.length kN,.slice ny R.au.length nC,.int .i64 R.next,.int .i64 R.weights.pack,.int .i64 R.weights.spread,.int .i64 R.weights.soft]:=YB;have TC:=XB.out.only OB J;try dsimp only [Act.put]
  iterate 9 go_step
  first
   | (refine BF 29 _ rfl w1.heap.size [.slice kM R.aa.length kN,.slice ny R.au.length nC,.int .i64 R.next,.int .i64 R.weights.pack,.int .i64 R.weights.spread,.int .i64 R.weights.soft] rfl _ YB Tryz.underlying29 rfl U' ?_)
   | (go_step;refine BF 29 _ rfl w1.heap.size [.slice kM R.aa.length kN,.slice ny R.au.length nC,.int .i64 R.next,.int .i64 R.weights.pack,.int .i64 R.weights.spread,.int .i64 R.weights.soft] rfl _ YB Tryz.underlying29 rfl U' ?_)
   | (go_step;go_step;refine BF 29 _ rfl w1.heap.size [.slice kM R.aa.length kN,.slice ny R.au.length nC,.int .i64 R.next,.int .i64 R.weights.pack,.int .i64 R.weights.spread,.int .i64 R.weights.soft] rfl _ YB Tryz.underlying29 rfl U' ?_)
   | (go_step;go_step;go_step;refine BF 29 _ rfl w1.heap.size [.slice kM R.aa.length kN,.slice ny R.au.length nC,.int .i64 R.next,.int .i64 R.weights.pack,.int .i64 R.weights.spread,.int .i64 R.weights.soft] rfl _ YB Tryz.underlying29 rfl U' ?_)
   | (go_step;go_step;go_step;go_step;refine BF 29 _ rfl w1.heap.size [.slice kM R.aa.length kN,.slice ny R.au.length nC,.int .i64 R.next,.int .i64 R.weights.pack,.int .i64 R.weights.spread,.int .i64 R.weights.soft] rfl _ YB Tryz.underlying29 rfl U' ?_)
   | (go_step;go_step;go_step;go_step;go_step;refine BF 29 _ rfl w1.heap.size [.slice kM R.aa.length kN,.slice ny R.au.length nC,.int .i64 R.next,.int .i64 R.weights.pack,.int .i64 R.weights.spread,.int .i64 R.weights.soft] rfl _ YB Tryz.underlying29 rfl U' ?_)
   | (go_step;go_step;go_step;go_step;go_step;go_step;refine BF 29 _ rfl w1.heap.size [.slice kM R.aa.length kN,.slice ny R.au.length nC,.int .i64 R.next,.int .i64 R.weights.pack,.int .i64 R.weights.spread,.int .i64 R.weights.soft] rfl _ YB Tryz.underlying29 rfl U' ?_)
   | (go_step;go_step;go_step;go_step;go_step;go_step;go_step;refine BF 29 _ rfl w1.heap.size [.slice kM R.aa.length kN,.slice ny R.au.length nC,.int .i64 R.next,.int .i64 R.weights.pack,.int .i64 R.weights.spread,.int .i64 R.weights.soft] rfl _ YB Tryz.underlying29 rfl U' ?_)
   | (go_step;go_step;go_step;go_step;go_step;go_step;go_step;go_step;refine BF 29 _ rfl w1.heap.size [.slice kM R.aa.length kN,.slice ny R.au.length nC,.int .i64 R.next,.int .i64 R.weights.pack,.int .i64 R.weights.spread,.int .i64 R.weights.soft] rfl _ YB Tryz.underlying29 rfl U' ?_)
   | (go_step;go_step;go_step;go_step;go_step;go_step;go_step;go_step;go_step;refine BF 29 _ rfl w1.heap.size [.slice kM R.aa.length kN,.slice ny R.au.length nC,.int .i64 R.next,.int .i64 R.weights.pack,.int .i64 R.weights.spread,.int .i64 R.weights.soft] rfl _ YB Tryz.underlying29 rfl U' ?_)
   | (go_step;go_step;go_step;go_step;go_step;go_step;go_step;go_step;go_step;go_step;refine BF 29 _ rfl w1.heap.size [.slice kM R.aa.length kN,.slice ny R.au.length nC,.int .i64 R.next,.int .i64 R.weights.pack,.int .i64 R.weights.spread,.int .i64 R.weights.soft] rfl _ YB Tryz.underlying29 rfl U' ?_)
   | (go_step;go_step;go_step;go_step;go_step;go_step;go_step;go_step;go_step;go_step;go_step;refine BF 29 _ rfl w1.heap.size [.slice kM R.aa.length kN,.slice ny R.au.length nC,.int .i64 R.next,.int .i64 R.weights.pack,.int .i64 R.weights.spread,.int .i64 R.weights.soft] rfl _ YB Tryz.underlying29 rfl U' ?_)
   | (go_step;go_step;go_step;go_step;go_step;go_step;go_step;go_step;go_step;go_step;go_step;go_step;refine BF 29 _ rfl w1.heap.size [.slice kM R.aa.length kN,.slice ny R.au.length nC,.int .i64 R.next,.int .i64 R.weights.pack,.int .i64 R.weights.spread,.int .i64 R.weights.soft] rfl _ YB Tryz.underlying29 rfl U' ?_)
   | (go_step;go_step;go_step;go_step;go_step;go_step;go_step;go_step;go_step;go_step;go_step;go_step;go_step;refine BF 29 _ rfl w1.heap.size [.slice kM R.aa.length kN,.slice ny R.au.length nC,.int .i64 R.next,.int .i64 R.weights.pack,.int .i64 R.weights.spread,.int .i64 R.weights.soft] rfl _ YB Tryz.underlying29 rfl U' ?_)
  exact EO
 rw [if_neg h5];by_cases h6:k = 6
 ·as_aux_lemma =>
  subst h6;rw [if_pos rfl];have HS:=I (fun cs F us Fu wq a b=>aeu x cs F wt us Fu wq a b HW.out);generalize setW x wt = RR at *;obtain ⟨R,cd⟩:=RR;dsimp only at HS ⊢;go_enter Tryz.func66,Tryz.ntmps66;go_wp2_with fail
  refine (HS.out _ _ _ _ _ (aZ h bS) (aZ hwts bS)).mono ?_;exact x5
 rw [if_neg h6];cases hc:iI x
 ·as_aux_lemma =>
  have HC:=I hc;clear hc;simp only [Bool.false_eq_true,if_false];go_enter Tryz.func66,Tryz.ntmps66;go_wp2_with fail
  refine (qM x _ _ _ (aZ h bS) HW.out).mono ?_;rw [HC.out];rintro e w0 ⟨rfl,fc⟩;obtain ⟨Qx,hf0⟩:=ay fc;have cL:=fc.size;simp at cL;have l6:Below w.heap.size w w0:=ah bS fc;go_wp2_with fail
  refine (BO x _ _ _ (aZ h bS) HW.out).mono ?_;rintro e w1 ⟨ds,G,rfl,hO,bo⟩;have hR:=hO.rd;obtain ⟨kM,kN,ND,ny,nC,TD,aw,hGr,NG,TF,TG,xI,uD,xJ⟩:=aO hR;subst aw;clear hGr hR;have XB:oG w1 (w.heap.size+1+1) [.slice none 0 0,.slice none 0 0,.int .i64 0,.int .i64 0,.int .i64 0,.int .i64 0]:=oG.ext (oG.ext (oG.vM w _ _ [.slice none 0 0,.slice none 0 0,.int .i64 0,.int .i64 0,.int .i64 0,.int .i64 0] 29) fc) bo;have HO:=I (hO.mono (B':=w.heap.size+1+1+1) J);have ap:Below w.heap.size w w1:=ah l6 bo;clear hO bo h fc;try dsimp only
  iterate 2 go_step
  refine ly 29 _ _ rfl (w.heap.size+1+1) 0 [.slice kM x.aa.length kN,.slice ny x.au.length nC,.int .i64 x.next,.int .i64 x.weights.pack,.int .i64 x.weights.spread,.int .i64 x.weights.soft] [.slice none 0 0,.slice none 0 0,.int .i64 0,.int .i64 0,.int .i64 0,.int .i64 0] rfl rfl XB S' U' eC ?_;intro w2 YB OB;replace YB:oG w2 (w.heap.size+1+1) [.slice kM x.aa.length kN,.slice ny x.au.length nC,.int .i64 x.next,.int .i64 x.weights.pack,.int .i64 x.weights.spread,.int .i64 x.weights.soft]:=YB;try dsimp only [Act.put]
  go_wp2;refine bodyPost_ret (v:=.tuple #[.agg #[.slice kM x.aa.length kN,.slice ny x.au.length nC,.int .i64 x.next,.int .i64 x.weights.pack,.int .i64 x.weights.spread,.int .i64 x.weights.soft],.int .i64 1]) (x6 Tryz.results66 _ (w.heap.size+1+1) [.slice kM x.aa.length kN,.slice ny x.au.length nC,.int .i64 x.next,.int .i64 x.weights.pack,.int .i64 x.weights.spread,.int .i64 x.weights.soft] _ _ rfl rfl YB Tryz.underlying29 rfl U') rfl ?_;exact uz
 ·as_aux_lemma =>
  have HC:=I hc;clear hc;simp only [if_true];go_enter Tryz.func66,Tryz.ntmps66;go_wp2_with fail
  refine (qM x _ _ _ (aZ h bS) HW.out).mono ?_;rw [HC.out];rintro e w0 ⟨rfl,fc⟩;obtain ⟨Qx,hf0⟩:=ay fc;have cL:=fc.size;simp at cL;have l6:Below w.heap.size w w0:=ah bS fc;go_wp2_with fail
  refine (BO x _ _ _ (aZ h bS) HW.out).mono ?_;rintro e w1 ⟨ds,G,rfl,hO,bo⟩;have hR:=hO.rd;obtain ⟨kM,kN,ND,ny,nC,TD,aw,hGr,NG,TF,TG,xI,uD,xJ⟩:=aO hR;subst aw;clear hGr hR;have XB:oG w1 (w.heap.size+1+1) [.slice none 0 0,.slice none 0 0,.int .i64 0,.int .i64 0,.int .i64 0,.int .i64 0]:=oG.ext (oG.ext (oG.vM w _ _ [.slice none 0 0,.slice none 0 0,.int .i64 0,.int .i64 0,.int .i64 0,.int .i64 0] 29) fc) bo;have HO:=I (hO.mono (B':=w.heap.size+1+1+1) J);have ap:Below w.heap.size w w1:=ah l6 bo;clear hO bo h fc;try dsimp only
  iterate 2 go_step
  refine ly 29 _ _ rfl (w.heap.size+1+1) 0 [.slice kM x.aa.length kN,.slice ny x.au.length nC,.int .i64 x.next,.int .i64 x.weights.pack,.int .i64 x.weights.spread,.int .i64 x.weights.soft] [.slice none 0 0,.slice none 0 0,.int .i64 0,.int .i64 0,.int .i64 0,.int .i64 0] rfl rfl XB S' U' eC ?_;intro w2 YB OB;replace YB:oG w2 (w.heap.size+1+1) [.slice kM x.aa.length kN,.slice ny x.au.length nC,.int .i64 x.next,.int .i64 x.weights.pack,.int .i64 x.weights.spread,.int .i64 x.weights.soft]:=YB;try dsimp only [Act.put]
  go_wp2;refine bodyPost_ret (v:=.tuple #[.agg #[.slice kM x.aa.length kN,.slice ny x.au.length nC,.int .i64 x.next,.int .i64 x.weights.pack,.int .i64 x.weights.spread,.int .i64 x.weights.soft],.int .i64 8]) (x6 Tryz.results66 _ (w.heap.size+1+1) [.slice kM x.aa.length kN,.slice ny x.au.length nC,.int .i64 x.next,.int .i64 x.weights.pack,.int .i64 x.weights.spread,.int .i64 x.weights.soft] _ _ rfl rfl YB Tryz.underlying29 rfl U') rfl ?_;exact uz
end Go.Proofs.YtajbbmembionpaaGreat
