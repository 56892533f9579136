/- Applied of the reference, over an operation as data. No condition. -/
import Derived.Test.YtajbbmembionpaaGreatAppM
import Derived.Test.YtajbbmembionpaaGreatKeepQ
import Derived.Test.YtajbbmembionpaaGreatNextS
import Derived.Test.YtajbbmembionpaaGreatOpsHS
namespace Go.Proofs.YtajbbmembionpaaGreat
open Go.ChangeShapes Go.WideShapes Go.ChangeAt Go.RowKit
set_option linter.unusedVariables false
set_option linter.unusedSimpArgs false
set_option maxHeartbeats 8000000
set_option maxRecDepth 100000
def fG (x:aU) (d:y8):aU × Int :=
 if d.kind = 1 then yZ x d.sz else if d.kind = 2 then Ko x d.name else if d.kind = 3 then Ut x d.name else if d.kind = 4 then ((ka x d.name).1,(ka x d.name).2.2)
 else if d.kind = 5 then ((BX x).1,(BX x).2.2.2) else if d.kind = 6 then ik x d.weights else (x,if iI x = true then 8 else 1)
theorem aBN {x:aU} (G:cI x) (m:cg):cI (yZ x m).1:=by
 unfold yZ;split
 ·exact ZC G _
 ·split
  ·exact Zx G _
  ·exact G
theorem aBf {x:aU} (G:cI x) (d:y8):cI (fG x d).1:=by
 unfold fG;split
 ·exact aBN G _
 ·split
  ·exact aCV G _
  ·split
   ·exact aD5 G _
   ·split
    ·exact Tc G _
    ·split
     ·exact ayD G
     ·split
      ·exact aD6 G _
      ·exact G
theorem aBg (x:aU) (cs:List Value) (F:List Nat) (d:y8) (ms:List Value) (Fm:List Nat) (w:World) (h:rd w x cs F) (h':rd w d ms Fm) (hw:(x.wt:Int)≤1048576) (hm:(d.sz.wt:Int)≤1048576) :
 Calls Tryz.prog 66 #[.agg cs.toArray,.agg ms.toArray] w fun e w'=>∃ds G,e = .returned (.tuple #[.agg ds.toArray,.int .i64 (fG x d).2])∧am w' w.heap.size (fG x d).1 ds G∧Below w.heap.size w w':=by
 have HW:=I hw;clear hw;have hr:=h;obtain ⟨Ku,ayW,aDE,aBb,aBd,aEE,aE,qp,aDF,aEF,aEG,axh,aJM,axi⟩:=aO hr;subst aE;clear qp hr;obtain ⟨k,nm,m,wt⟩:=d;have TQ:=I hm;clear hm;dsimp only at TQ;obtain ⟨_,_,_,_,rfl,rfl,⟨rfl,rfl,hkind⟩,_,_,_,_,rfl,rfl,⟨rfl,rfl,gF⟩,_,_,_,_,rfl,rfl,hman,hwts⟩:=h';dsimp only at hkind gF hman hwts ⊢;have lz:=hman;have rn:=hwts;obtain ⟨oy,aHw,aBO,aHD,aHE,aCW,GR,G7,ayE,aHp,aHq,aBh,aHr,aHs,aBi,aE,hFm,hkindm,aD7,aBP,aEN,aEO,aD8,aCX,ayF,aCY,aBj,aD9,aEa,aBQ,aBk⟩:=NS lz;subst aE;obtain ⟨aE,hFw,hpk,kn,hso⟩:=mg rn;subst aE;clear hFm hFw lz rn;unfold fG;dsimp only;by_cases h1:k = 1
 ·as_aux_lemma =>
  subst h1;rw [if_pos rfl];have HS:=I (fun cs F us Fu wq a b=>ZF x cs F m us Fu wq a b HW.out TQ.out);generalize yZ x m = RR at *;obtain ⟨R,cd⟩:=RR;dsimp only at HS ⊢;go_enter Tryz.func66,Tryz.ntmps66;go_wp2_with fail
  refine (HS.out _ _ _ _ _ (aZ h b5) (aZ hman b5)).mono ?_;exact vR
 rw [if_neg h1];by_cases h2:k = 2
 ·as_aux_lemma =>
  subst h2;rw [if_pos rfl];have HS:=I (fun cs F wq a=>ah2 x cs F nm wq a HW.out);generalize Ko x nm = RR at *;exact Ey
 rw [if_neg h2];by_cases h3:k = 3
 ·as_aux_lemma =>
  subst h3;rw [if_pos rfl];have HS:=I (fun cs F wq a=>afS x cs F nm wq a HW.out);generalize Ut x nm = RR at *;exact Ey
 rw [if_neg h3];by_cases h4:k = 4
 ·as_aux_lemma =>
  subst h4;rw [if_pos rfl];have HS:=I (fun cs F wq a=>KQ x cs F nm wq a HW.out);generalize ka x nm = RR at *;obtain ⟨R,ng,cd⟩:=RR;dsimp only at HS ⊢;go_enter Tryz.func66,Tryz.ntmps66;go_wp2_with fail
  refine (HS.out _ _ _ (aZ h b5)).mono ?_;rintro e w1 ⟨ds,G,rfl,hO,bo⟩;have hR:=hO.rd;obtain ⟨kM,kN,ND,ny,nC,TD,aE,hGr,NG,TF,TG,xI,uD,xJ⟩:=aO hR;subst aE;clear hGr hR;have cE:=bo.size;simp at cE;have XB:=I (oG.ext (oG.ext (oG.ul w _ _ [.slice none 0 0,.slice none 0 0,.int .i64 0,.int .i64 0,.int .i64 0,.int .i64 0] 29) bo) (ak (aj _) (.cells ([.slice none 0 0,.slice none 0 0,.int .i64 0,.int .i64 0,.int .i64 0,.int .i64 0]:List Value).toArray 29)));have HO:=I ((hO.mono (B':=w.heap.size+1+1+1) S').alloc (.cells ([.slice none 0 0,.slice none 0 0,.int .i64 0,.int .i64 0,.int .i64 0,.int .i64 0]:List Value).toArray 29));have CE:=I hO.lt;have HB:=I (ak (ah b5 bo:Below w.heap.size w w1) (.cells ([.slice none 0 0,.slice none 0 0,.int .i64 0,.int .i64 0,.int .i64 0,.int .i64 0]:List Value).toArray 29));clear hO bo h;try dsimp only
  iterate 17 go_step
  refine kB 29 _ _ rfl w1.heap.size 0 [.slice kM R.aa.length kN,.slice ny R.V.length nC,.int .i64 R.next,.int .i64 R.weights.pack,.int .i64 R.weights.af,.int .i64 R.weights.an] [.slice none 0 0,.slice none 0 0,.int .i64 0,.int .i64 0,.int .i64 0,.int .i64 0] rfl rfl (oG.new w1 _ 29) S' U' ex ?_;intro w2 YB OB;replace YB:oG w2 w1.heap.size [.slice kM R.aa.length kN,.slice ny R.V.length nC,.int .i64 R.next,.int .i64 R.weights.pack,.int .i64 R.weights.af,.int .i64 R.weights.an]:=YB;have PM:=XB.out.only OB J;try dsimp only [Act.put]
  iterate 6 go_step
  first
   | (refine BF 29 _ rfl w1.heap.size [.slice kM R.aa.length kN,.slice ny R.V.length nC,.int .i64 R.next,.int .i64 R.weights.pack,.int .i64 R.weights.af,.int .i64 R.weights.an] rfl _ YB Tryz.underlying29 rfl U' ?_)
   | (go_step;refine BF 29 _ rfl w1.heap.size [.slice kM R.aa.length kN,.slice ny R.V.length nC,.int .i64 R.next,.int .i64 R.weights.pack,.int .i64 R.weights.af,.int .i64 R.weights.an] rfl _ YB Tryz.underlying29 rfl U' ?_)
   | (go_step;go_step;refine BF 29 _ rfl w1.heap.size [.slice kM R.aa.length kN,.slice ny R.V.length nC,.int .i64 R.next,.int .i64 R.weights.pack,.int .i64 R.weights.af,.int .i64 R.weights.an] rfl _ YB Tryz.underlying29 rfl U' ?_)
   | (go_step;go_step;go_step;refine BF 29 _ rfl w1.heap.size [.slice kM R.aa.length kN,.slice ny R.V.length nC,.int .i64 R.next,.int .i64 R.weights.pack,.int .i64 R.weights.af,.int .i64 R.weights.an] rfl _ YB Tryz.underlying29 rfl U' ?_)
   | (go_step;go_step;go_step;go_step;refine BF 29 _ rfl w1.heap.size [.slice kM R.aa.length kN,.slice ny R.V.length nC,.int .i64 R.next,.int .i64 R.weights.pack,.int .i64 R.weights.af,.int .i64 R.weights.an] rfl _ YB Tryz.underlying29 rfl U' ?_)
   | (go_step;go_step;go_step;go_step;go_step;refine BF 29 _ rfl w1.heap.size [.slice kM R.aa.length kN,.slice ny R.V.length nC,.int .i64 R.next,.int .i64 R.weights.pack,.int .i64 R.weights.af,.int .i64 R.weights.an] rfl _ YB Tryz.underlying29 rfl U' ?_)
   | (go_step;go_step;go_step;go_step;go_step;go_step;refine BF 29 _ rfl w1.heap.size [.slice kM R.aa.length kN,.slice ny R.V.length nC,.int .i64 R.next,.int .i64 R.weights.pack,.int .i64 R.weights.af,.int .i64 R.weights.an] rfl _ YB Tryz.underlying29 rfl U' ?_)
   | (go_step;go_step;go_step;go_step;go_step;go_step;go_step;refine BF 29 _ rfl w1.heap.size [.slice kM R.aa.length kN,.slice ny R.V.length nC,.int .i64 R.next,.int .i64 R.weights.pack,.int .i64 R.weights.af,.int .i64 R.weights.an] rfl _ YB Tryz.underlying29 rfl U' ?_)
   | (go_step;go_step;go_step;go_step;go_step;go_step;go_step;go_step;refine BF 29 _ rfl w1.heap.size [.slice kM R.aa.length kN,.slice ny R.V.length nC,.int .i64 R.next,.int .i64 R.weights.pack,.int .i64 R.weights.af,.int .i64 R.weights.an] rfl _ YB Tryz.underlying29 rfl U' ?_)
   | (go_step;go_step;go_step;go_step;go_step;go_step;go_step;go_step;go_step;refine BF 29 _ rfl w1.heap.size [.slice kM R.aa.length kN,.slice ny R.V.length nC,.int .i64 R.next,.int .i64 R.weights.pack,.int .i64 R.weights.af,.int .i64 R.weights.an] rfl _ YB Tryz.underlying29 rfl U' ?_)
   | (go_step;go_step;go_step;go_step;go_step;go_step;go_step;go_step;go_step;go_step;refine BF 29 _ rfl w1.heap.size [.slice kM R.aa.length kN,.slice ny R.V.length nC,.int .i64 R.next,.int .i64 R.weights.pack,.int .i64 R.weights.af,.int .i64 R.weights.an] rfl _ YB Tryz.underlying29 rfl U' ?_)
   | (go_step;go_step;go_step;go_step;go_step;go_step;go_step;go_step;go_step;go_step;go_step;refine BF 29 _ rfl w1.heap.size [.slice kM R.aa.length kN,.slice ny R.V.length nC,.int .i64 R.next,.int .i64 R.weights.pack,.int .i64 R.weights.af,.int .i64 R.weights.an] rfl _ YB Tryz.underlying29 rfl U' ?_)
   | (go_step;go_step;go_step;go_step;go_step;go_step;go_step;go_step;go_step;go_step;go_step;go_step;refine BF 29 _ rfl w1.heap.size [.slice kM R.aa.length kN,.slice ny R.V.length nC,.int .i64 R.next,.int .i64 R.weights.pack,.int .i64 R.weights.af,.int .i64 R.weights.an] rfl _ YB Tryz.underlying29 rfl U' ?_)
   | (go_step;go_step;go_step;go_step;go_step;go_step;go_step;go_step;go_step;go_step;go_step;go_step;go_step;refine BF 29 _ rfl w1.heap.size [.slice kM R.aa.length kN,.slice ny R.V.length nC,.int .i64 R.next,.int .i64 R.weights.pack,.int .i64 R.weights.af,.int .i64 R.weights.an] rfl _ YB Tryz.underlying29 rfl U' ?_)
  exact CD
 rw [if_neg h4];by_cases h5:k = 5
 ·as_aux_lemma =>
  subst h5;rw [if_pos rfl];have HS:=I (fun cs F wq a=>azi x cs F wq a HW.out);generalize BX x = RR at *;obtain ⟨R,ng,ga,cd⟩:=RR;dsimp only at HS ⊢;go_enter Tryz.func66,Tryz.ntmps66;go_wp2_with fail
  refine (HS.out _ _ _ (aZ h b5)).mono ?_;rintro e w1 ⟨ds,G,rfl,hO,bo⟩;have hR:=hO.rd;obtain ⟨kM,kN,ND,ny,nC,TD,aE,hGr,NG,TF,TG,xI,uD,xJ⟩:=aO hR;subst aE;clear hGr hR;have cE:=bo.size;simp at cE;have XB:=I (oG.ext (oG.ext (oG.ul w _ _ [.slice none 0 0,.slice none 0 0,.int .i64 0,.int .i64 0,.int .i64 0,.int .i64 0] 29) bo) (ak (aj _) (.cells ([.slice none 0 0,.slice none 0 0,.int .i64 0,.int .i64 0,.int .i64 0,.int .i64 0]:List Value).toArray 29)));have HO:=I ((hO.mono (B':=w.heap.size+1+1+1) S').alloc (.cells ([.slice none 0 0,.slice none 0 0,.int .i64 0,.int .i64 0,.int .i64 0,.int .i64 0]:List Value).toArray 29));have CE:=I hO.lt;have HB:=I (ak (ah b5 bo:Below w.heap.size w w1) (.cells ([.slice none 0 0,.slice none 0 0,.int .i64 0,.int .i64 0,.int .i64 0,.int .i64 0]:List Value).toArray 29));clear hO bo h;try dsimp only
  iterate 20 go_step
  refine kB 29 _ _ rfl w1.heap.size 0 [.slice kM R.aa.length kN,.slice ny R.V.length nC,.int .i64 R.next,.int .i64 R.weights.pack,.int .i64 R.weights.af,.int .i64 R.weights.an] [.slice none 0 0,.slice none 0 0,.int .i64 0,.int .i64 0,.int .i64 0,.int .i64 0] rfl rfl (oG.new w1 _ 29) S' U' ex ?_;intro w2 YB OB;replace YB:oG w2 w1.heap.size [.slice kM R.aa.length kN,.slice ny R.V.length nC,.int .i64 R.next,.int .i64 R.weights.pack,.int .i64 R.weights.af,.int .i64 R.weights.an]:=YB;have PM:=XB.out.only OB J;try dsimp only [Act.put]
  iterate 9 go_step
  first
   | (refine BF 29 _ rfl w1.heap.size [.slice kM R.aa.length kN,.slice ny R.V.length nC,.int .i64 R.next,.int .i64 R.weights.pack,.int .i64 R.weights.af,.int .i64 R.weights.an] rfl _ YB Tryz.underlying29 rfl U' ?_)
   | (go_step;refine BF 29 _ rfl w1.heap.size [.slice kM R.aa.length kN,.slice ny R.V.length nC,.int .i64 R.next,.int .i64 R.weights.pack,.int .i64 R.weights.af,.int .i64 R.weights.an] rfl _ YB Tryz.underlying29 rfl U' ?_)
   | (go_step;go_step;refine BF 29 _ rfl w1.heap.size [.slice kM R.aa.length kN,.slice ny R.V.length nC,.int .i64 R.next,.int .i64 R.weights.pack,.int .i64 R.weights.af,.int .i64 R.weights.an] rfl _ YB Tryz.underlying29 rfl U' ?_)
   | (go_step;go_step;go_step;refine BF 29 _ rfl w1.heap.size [.slice kM R.aa.length kN,.slice ny R.V.length nC,.int .i64 R.next,.int .i64 R.weights.pack,.int .i64 R.weights.af,.int .i64 R.weights.an] rfl _ YB Tryz.underlying29 rfl U' ?_)
   | (go_step;go_step;go_step;go_step;refine BF 29 _ rfl w1.heap.size [.slice kM R.aa.length kN,.slice ny R.V.length nC,.int .i64 R.next,.int .i64 R.weights.pack,.int .i64 R.weights.af,.int .i64 R.weights.an] rfl _ YB Tryz.underlying29 rfl U' ?_)
   | (go_step;go_step;go_step;go_step;go_step;refine BF 29 _ rfl w1.heap.size [.slice kM R.aa.length kN,.slice ny R.V.length nC,.int .i64 R.next,.int .i64 R.weights.pack,.int .i64 R.weights.af,.int .i64 R.weights.an] rfl _ YB Tryz.underlying29 rfl U' ?_)
   | (go_step;go_step;go_step;go_step;go_step;go_step;refine BF 29 _ rfl w1.heap.size [.slice kM R.aa.length kN,.slice ny R.V.length nC,.int .i64 R.next,.int .i64 R.weights.pack,.int .i64 R.weights.af,.int .i64 R.weights.an] rfl _ YB Tryz.underlying29 rfl U' ?_)
   | (go_step;go_step;go_step;go_step;go_step;go_step;go_step;refine BF 29 _ rfl w1.heap.size [.slice kM R.aa.length kN,.slice ny R.V.length nC,.int .i64 R.next,.int .i64 R.weights.pack,.int .i64 R.weights.af,.int .i64 R.weights.an] rfl _ YB Tryz.underlying29 rfl U' ?_)
   | (go_step;go_step;go_step;go_step;go_step;go_step;go_step;go_step;refine BF 29 _ rfl w1.heap.size [.slice kM R.aa.length kN,.slice ny R.V.length nC,.int .i64 R.next,.int .i64 R.weights.pack,.int .i64 R.weights.af,.int .i64 R.weights.an] rfl _ YB Tryz.underlying29 rfl U' ?_)
   | (go_step;go_step;go_step;go_step;go_step;go_step;go_step;go_step;go_step;refine BF 29 _ rfl w1.heap.size [.slice kM R.aa.length kN,.slice ny R.V.length nC,.int .i64 R.next,.int .i64 R.weights.pack,.int .i64 R.weights.af,.int .i64 R.weights.an] rfl _ YB Tryz.underlying29 rfl U' ?_)
   | (go_step;go_step;go_step;go_step;go_step;go_step;go_step;go_step;go_step;go_step;refine BF 29 _ rfl w1.heap.size [.slice kM R.aa.length kN,.slice ny R.V.length nC,.int .i64 R.next,.int .i64 R.weights.pack,.int .i64 R.weights.af,.int .i64 R.weights.an] rfl _ YB Tryz.underlying29 rfl U' ?_)
   | (go_step;go_step;go_step;go_step;go_step;go_step;go_step;go_step;go_step;go_step;go_step;refine BF 29 _ rfl w1.heap.size [.slice kM R.aa.length kN,.slice ny R.V.length nC,.int .i64 R.next,.int .i64 R.weights.pack,.int .i64 R.weights.af,.int .i64 R.weights.an] rfl _ YB Tryz.underlying29 rfl U' ?_)
   | (go_step;go_step;go_step;go_step;go_step;go_step;go_step;go_step;go_step;go_step;go_step;go_step;refine BF 29 _ rfl w1.heap.size [.slice kM R.aa.length kN,.slice ny R.V.length nC,.int .i64 R.next,.int .i64 R.weights.pack,.int .i64 R.weights.af,.int .i64 R.weights.an] rfl _ YB Tryz.underlying29 rfl U' ?_)
   | (go_step;go_step;go_step;go_step;go_step;go_step;go_step;go_step;go_step;go_step;go_step;go_step;go_step;refine BF 29 _ rfl w1.heap.size [.slice kM R.aa.length kN,.slice ny R.V.length nC,.int .i64 R.next,.int .i64 R.weights.pack,.int .i64 R.weights.af,.int .i64 R.weights.an] rfl _ YB Tryz.underlying29 rfl U' ?_)
  exact CD
 rw [if_neg h5];by_cases h6:k = 6
 ·as_aux_lemma =>
  subst h6;rw [if_pos rfl];have HS:=I (fun cs F us Fu wq a b=>aeu x cs F wt us Fu wq a b HW.out);generalize ik x wt = RR at *;obtain ⟨R,cd⟩:=RR;dsimp only at HS ⊢;go_enter Tryz.func66,Tryz.ntmps66;go_wp2_with fail
  refine (HS.out _ _ _ _ _ (aZ h b5) (aZ hwts b5)).mono ?_;exact vR
 rw [if_neg h6];cases hc:iI x
 ·as_aux_lemma =>
  have HC:=I hc;clear hc;simp only [Bool.false_eq_true,if_false];go_enter Tryz.func66,Tryz.ntmps66;go_wp2_with fail
  refine (qM x _ _ _ (aZ h b5) HW.out).mono ?_;rw [HC.out];rintro e w0 ⟨rfl,gm⟩;obtain ⟨M7,hf0⟩:=ay gm;have cV:=gm.size;simp at cV;have mB:Below w.heap.size w w0:=ah b5 gm;go_wp2_with fail
  refine (BO x _ _ _ (aZ h b5) HW.out).mono ?_;rintro e w1 ⟨ds,G,rfl,hO,bo⟩;have hR:=hO.rd;obtain ⟨kM,kN,ND,ny,nC,TD,aE,hGr,NG,TF,TG,xI,uD,xJ⟩:=aO hR;subst aE;clear hGr hR;have XB:oG w1 (w.heap.size+1+1) [.slice none 0 0,.slice none 0 0,.int .i64 0,.int .i64 0,.int .i64 0,.int .i64 0]:=oG.ext (oG.ext (oG.ul w _ _ [.slice none 0 0,.slice none 0 0,.int .i64 0,.int .i64 0,.int .i64 0,.int .i64 0] 29) gm) bo;have HO:=I (hO.mono (B':=w.heap.size+1+1+1) J);have ar:Below w.heap.size w w1:=ah mB bo;clear hO bo h gm;try dsimp only
  iterate 2 go_step
  refine kB 29 _ _ rfl (w.heap.size+1+1) 0 [.slice kM x.aa.length kN,.slice ny x.V.length nC,.int .i64 x.next,.int .i64 x.weights.pack,.int .i64 x.weights.af,.int .i64 x.weights.an] [.slice none 0 0,.slice none 0 0,.int .i64 0,.int .i64 0,.int .i64 0,.int .i64 0] rfl rfl XB S' U' ex ?_;intro w2 YB OB;replace YB:oG w2 (w.heap.size+1+1) [.slice kM x.aa.length kN,.slice ny x.V.length nC,.int .i64 x.next,.int .i64 x.weights.pack,.int .i64 x.weights.af,.int .i64 x.weights.an]:=YB;try dsimp only [Act.put]
  go_wp2;refine bodyPost_ret (v:=.tuple #[.agg #[.slice kM x.aa.length kN,.slice ny x.V.length nC,.int .i64 x.next,.int .i64 x.weights.pack,.int .i64 x.weights.af,.int .i64 x.weights.an],.int .i64 1]) (vW Tryz.results66 _ (w.heap.size+1+1) [.slice kM x.aa.length kN,.slice ny x.V.length nC,.int .i64 x.next,.int .i64 x.weights.pack,.int .i64 x.weights.af,.int .i64 x.weights.an] _ _ rfl rfl YB Tryz.underlying29 rfl U') rfl ?_;exact tf
 ·as_aux_lemma =>
  have HC:=I hc;clear hc;simp only [if_true];go_enter Tryz.func66,Tryz.ntmps66;go_wp2_with fail
  refine (qM x _ _ _ (aZ h b5) HW.out).mono ?_;rw [HC.out];rintro e w0 ⟨rfl,gm⟩;obtain ⟨M7,hf0⟩:=ay gm;have cV:=gm.size;simp at cV;have mB:Below w.heap.size w w0:=ah b5 gm;go_wp2_with fail
  refine (BO x _ _ _ (aZ h b5) HW.out).mono ?_;rintro e w1 ⟨ds,G,rfl,hO,bo⟩;have hR:=hO.rd;obtain ⟨kM,kN,ND,ny,nC,TD,aE,hGr,NG,TF,TG,xI,uD,xJ⟩:=aO hR;subst aE;clear hGr hR;have XB:oG w1 (w.heap.size+1+1) [.slice none 0 0,.slice none 0 0,.int .i64 0,.int .i64 0,.int .i64 0,.int .i64 0]:=oG.ext (oG.ext (oG.ul w _ _ [.slice none 0 0,.slice none 0 0,.int .i64 0,.int .i64 0,.int .i64 0,.int .i64 0] 29) gm) bo;have HO:=I (hO.mono (B':=w.heap.size+1+1+1) J);have ar:Below w.heap.size w w1:=ah mB bo;clear hO bo h gm;try dsimp only
  iterate 2 go_step
  refine kB 29 _ _ rfl (w.heap.size+1+1) 0 [.slice kM x.aa.length kN,.slice ny x.V.length nC,.int .i64 x.next,.int .i64 x.weights.pack,.int .i64 x.weights.af,.int .i64 x.weights.an] [.slice none 0 0,.slice none 0 0,.int .i64 0,.int .i64 0,.int .i64 0,.int .i64 0] rfl rfl XB S' U' ex ?_;intro w2 YB OB;replace YB:oG w2 (w.heap.size+1+1) [.slice kM x.aa.length kN,.slice ny x.V.length nC,.int .i64 x.next,.int .i64 x.weights.pack,.int .i64 x.weights.af,.int .i64 x.weights.an]:=YB;try dsimp only [Act.put]
  go_wp2;refine bodyPost_ret (v:=.tuple #[.agg #[.slice kM x.aa.length kN,.slice ny x.V.length nC,.int .i64 x.next,.int .i64 x.weights.pack,.int .i64 x.weights.af,.int .i64 x.weights.an],.int .i64 8]) (vW Tryz.results66 _ (w.heap.size+1+1) [.slice kM x.aa.length kN,.slice ny x.V.length nC,.int .i64 x.next,.int .i64 x.weights.pack,.int .i64 x.weights.af,.int .i64 x.weights.an] _ _ rfl rfl YB Tryz.underlying29 rfl U') rfl ?_;exact tf
end Go.Proofs.YtajbbmembionpaaGreat
