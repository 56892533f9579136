/- Applied of the reference, over an operation as data. No condition. -/
import Derived.Test.YtjahcnjmjahbaaaGreatAppM
import Derived.Test.YtjahcnjmjahbaaaGreatNextI
import Derived.Test.YtjahcnjmjahbaaaGreatOpsHS
namespace Go.Proofs.YtjahcnjmjahbaaaGreat
open Go.ChangeShapes Go.WideShapes Go.ChangeAt Go.RowKit
set_option linter.unusedVariables false
set_option linter.unusedSimpArgs false
set_option maxHeartbeats 8000000
set_option maxRecDepth 100000
def fZ (x:aU) (d:CN):aU × Int :=
 if d.kind = 1 then CM x d.uk else if d.kind = 2 then Ko x d.name else if d.kind = 3 then Ut x d.name else if d.kind = 4 then ((hJ x d.name).1,(hJ x d.name).2.2)
 else if d.kind = 5 then ((BX x).1,(BX x).2.2.2) else if d.kind = 6 then iS x d.weights else (x,if iI x = true then 8 else 1)
theorem aBN {x:aU} (G:cr x) (m:cF):cr (CM x m).1:=by
 unfold CM;split
 ·exact aD3 G _
 ·split
  ·exact aD4 G _
  ·exact G
theorem aBf {x:aU} (G:cr x) (d:CN):cr (fZ x d).1:=by
 unfold fZ;split
 ·exact aBN G _
 ·split
  ·exact aCV G _
  ·split
   ·exact aD5 G _
   ·split
    ·exact ayo G _
    ·split
     ·exact ayD G
     ·split
      ·exact aD6 G _
      ·exact G
theorem aBg (x:aU) (cs:List Value) (F:List Nat) (d:CN) (ms:List Value) (Fm:List Nat) (w:World) (h:rd w x cs F) (h':rd w d ms Fm) (hw:(x.wt:Int)≤1048576) (hm:(d.uk.wt:Int)≤1048576) :
 Calls Tryz.prog 66 #[.agg cs.toArray,.agg ms.toArray] w fun e w'=>∃ds G,e = .returned (.tuple #[.agg ds.toArray,.int .i64 (fZ x d).2])∧am w' w.heap.size (fZ x d).1 ds G∧Below w.heap.size w w':=by
 have HW:=I hw;clear hw;have hr:=h;obtain ⟨Qk,ayW,aDE,aBb,aBd,aEE,ax,qp,aDF,aEF,aEG,axh,aJM,axi⟩:=aO hr;subst ax;clear qp hr;obtain ⟨k,nm,m,wt⟩:=d;have HWM:=I hm;clear hm;dsimp only at HWM;obtain ⟨_,_,_,_,rfl,rfl,⟨rfl,rfl,hkind⟩,_,_,_,_,rfl,rfl,⟨rfl,rfl,j6⟩,_,_,_,_,rfl,rfl,hman,hwts⟩:=h';dsimp only at hkind j6 hman hwts ⊢;have pk:=hman;have mv:=hwts;obtain ⟨oW,aHw,aBO,aHD,aHE,aCW,GR,G7,ayE,aHp,aHq,aBh,aHr,aHs,aBi,ax,hFm,hkindm,aD7,aBP,aEN,aEO,aD8,aCX,ayF,aCY,aBj,aD9,aEa,aBQ,aBk⟩:=NS pk;subst ax;obtain ⟨ax,hFw,l0,ke,Ey⟩:=mg mv;subst ax;clear hFm hFw pk mv;unfold fZ;dsimp only;by_cases h1:k = 1
 ·as_aux_lemma =>
  subst h1;rw [if_pos rfl];have HS:=I (fun cs F us Fu wq a b=>axA x cs F m us Fu wq a b HW.out HWM.out);generalize CM x m = RR at *;obtain ⟨R,cd⟩:=RR;dsimp only at HS ⊢;go_enter Tryz.func66,Tryz.ntmps66;go_wp2_with fail
  refine (HS.out _ _ _ _ _ (aZ h cf) (aZ hman cf)).mono ?_;exact zI
 rw [if_neg h1];by_cases h2:k = 2
 ·as_aux_lemma =>
  subst h2;rw [if_pos rfl];have HS:=I (fun cs F wq a=>ah2 x cs F nm wq a HW.out);generalize Ko x nm = RR at *;exact LN
 rw [if_neg h2];by_cases h3:k = 3
 ·as_aux_lemma =>
  subst h3;rw [if_pos rfl];have HS:=I (fun cs F wq a=>afS x cs F nm wq a HW.out);generalize Ut x nm = RR at *;exact LN
 rw [if_neg h3];by_cases h4:k = 4
 ·as_aux_lemma =>
  subst h4;rw [if_pos rfl];have HS:=I (fun cs F wq a=>Qt x cs F nm wq a HW.out);generalize hJ x nm = RR at *;obtain ⟨R,il,cd⟩:=RR;dsimp only at HS ⊢;go_enter Tryz.func66,Tryz.ntmps66;go_wp2_with fail
  refine (HS.out _ _ _ (aZ h cf)).mono ?_;rintro e w1 ⟨ds,G,rfl,hO,bm⟩;have hR:=hO.rd;obtain ⟨kM,kN,ND,ny,nC,TD,ax,hGr,NG,TF,TG,xI,uD,xJ⟩:=aO hR;subst ax;clear hGr hR;have cM:=bm.size;simp at cM;have XB:=I (oG.ext (oG.ext (oG.xr w _ _ [.slice none 0 0,.slice none 0 0,.int .i64 0,.int .i64 0,.int .i64 0,.int .i64 0] 29) bm) (ak (aj _) (.cells ([.slice none 0 0,.slice none 0 0,.int .i64 0,.int .i64 0,.int .i64 0,.int .i64 0]:List Value).toArray 29)));have HO:=I ((hO.mono (B':=w.heap.size+1+1+1) S').alloc (.cells ([.slice none 0 0,.slice none 0 0,.int .i64 0,.int .i64 0,.int .i64 0,.int .i64 0]:List Value).toArray 29));have xv:=I hO.lt;have HB:=I (ak (ah cf bm:Below w.heap.size w w1) (.cells ([.slice none 0 0,.slice none 0 0,.int .i64 0,.int .i64 0,.int .i64 0,.int .i64 0]:List Value).toArray 29));clear hO bm h;try dsimp only
  iterate 17 go_step
  refine km 29 _ _ rfl w1.heap.size 0 [.slice kM R.aa.length kN,.slice ny R.J.length nC,.int .i64 R.next,.int .i64 R.weights.pack,.int .i64 R.weights.af,.int .i64 R.weights.al] [.slice none 0 0,.slice none 0 0,.int .i64 0,.int .i64 0,.int .i64 0,.int .i64 0] rfl rfl (oG.new w1 _ 29) S' U' e' ?_;intro w2 YB OB;replace YB:oG w2 w1.heap.size [.slice kM R.aa.length kN,.slice ny R.J.length nC,.int .i64 R.next,.int .i64 R.weights.pack,.int .i64 R.weights.af,.int .i64 R.weights.al]:=YB;have WG:=XB.out.only OB O;try dsimp only [Act.put]
  iterate 6 go_step
  first
   | (refine BF 29 _ rfl w1.heap.size [.slice kM R.aa.length kN,.slice ny R.J.length nC,.int .i64 R.next,.int .i64 R.weights.pack,.int .i64 R.weights.af,.int .i64 R.weights.al] rfl _ YB Tryz.underlying29 rfl U' ?_)
   | (go_step;refine BF 29 _ rfl w1.heap.size [.slice kM R.aa.length kN,.slice ny R.J.length nC,.int .i64 R.next,.int .i64 R.weights.pack,.int .i64 R.weights.af,.int .i64 R.weights.al] rfl _ YB Tryz.underlying29 rfl U' ?_)
   | (go_step;go_step;refine BF 29 _ rfl w1.heap.size [.slice kM R.aa.length kN,.slice ny R.J.length nC,.int .i64 R.next,.int .i64 R.weights.pack,.int .i64 R.weights.af,.int .i64 R.weights.al] rfl _ YB Tryz.underlying29 rfl U' ?_)
   | (go_step;go_step;go_step;refine BF 29 _ rfl w1.heap.size [.slice kM R.aa.length kN,.slice ny R.J.length nC,.int .i64 R.next,.int .i64 R.weights.pack,.int .i64 R.weights.af,.int .i64 R.weights.al] rfl _ YB Tryz.underlying29 rfl U' ?_)
   | (go_step;go_step;go_step;go_step;refine BF 29 _ rfl w1.heap.size [.slice kM R.aa.length kN,.slice ny R.J.length nC,.int .i64 R.next,.int .i64 R.weights.pack,.int .i64 R.weights.af,.int .i64 R.weights.al] rfl _ YB Tryz.underlying29 rfl U' ?_)
   | (go_step;go_step;go_step;go_step;go_step;refine BF 29 _ rfl w1.heap.size [.slice kM R.aa.length kN,.slice ny R.J.length nC,.int .i64 R.next,.int .i64 R.weights.pack,.int .i64 R.weights.af,.int .i64 R.weights.al] rfl _ YB Tryz.underlying29 rfl U' ?_)
   | (go_step;go_step;go_step;go_step;go_step;go_step;refine BF 29 _ rfl w1.heap.size [.slice kM R.aa.length kN,.slice ny R.J.length nC,.int .i64 R.next,.int .i64 R.weights.pack,.int .i64 R.weights.af,.int .i64 R.weights.al] rfl _ YB Tryz.underlying29 rfl U' ?_)
   | (go_step;go_step;go_step;go_step;go_step;go_step;go_step;refine BF 29 _ rfl w1.heap.size [.slice kM R.aa.length kN,.slice ny R.J.length nC,.int .i64 R.next,.int .i64 R.weights.pack,.int .i64 R.weights.af,.int .i64 R.weights.al] rfl _ YB Tryz.underlying29 rfl U' ?_)
   | (go_step;go_step;go_step;go_step;go_step;go_step;go_step;go_step;refine BF 29 _ rfl w1.heap.size [.slice kM R.aa.length kN,.slice ny R.J.length nC,.int .i64 R.next,.int .i64 R.weights.pack,.int .i64 R.weights.af,.int .i64 R.weights.al] rfl _ YB Tryz.underlying29 rfl U' ?_)
   | (go_step;go_step;go_step;go_step;go_step;go_step;go_step;go_step;go_step;refine BF 29 _ rfl w1.heap.size [.slice kM R.aa.length kN,.slice ny R.J.length nC,.int .i64 R.next,.int .i64 R.weights.pack,.int .i64 R.weights.af,.int .i64 R.weights.al] rfl _ YB Tryz.underlying29 rfl U' ?_)
   | (go_step;go_step;go_step;go_step;go_step;go_step;go_step;go_step;go_step;go_step;refine BF 29 _ rfl w1.heap.size [.slice kM R.aa.length kN,.slice ny R.J.length nC,.int .i64 R.next,.int .i64 R.weights.pack,.int .i64 R.weights.af,.int .i64 R.weights.al] rfl _ YB Tryz.underlying29 rfl U' ?_)
   | (go_step;go_step;go_step;go_step;go_step;go_step;go_step;go_step;go_step;go_step;go_step;refine BF 29 _ rfl w1.heap.size [.slice kM R.aa.length kN,.slice ny R.J.length nC,.int .i64 R.next,.int .i64 R.weights.pack,.int .i64 R.weights.af,.int .i64 R.weights.al] rfl _ YB Tryz.underlying29 rfl U' ?_)
   | (go_step;go_step;go_step;go_step;go_step;go_step;go_step;go_step;go_step;go_step;go_step;go_step;refine BF 29 _ rfl w1.heap.size [.slice kM R.aa.length kN,.slice ny R.J.length nC,.int .i64 R.next,.int .i64 R.weights.pack,.int .i64 R.weights.af,.int .i64 R.weights.al] rfl _ YB Tryz.underlying29 rfl U' ?_)
   | (go_step;go_step;go_step;go_step;go_step;go_step;go_step;go_step;go_step;go_step;go_step;go_step;go_step;refine BF 29 _ rfl w1.heap.size [.slice kM R.aa.length kN,.slice ny R.J.length nC,.int .i64 R.next,.int .i64 R.weights.pack,.int .i64 R.weights.af,.int .i64 R.weights.al] rfl _ YB Tryz.underlying29 rfl U' ?_)
  exact GV
 rw [if_neg h4];by_cases h5:k = 5
 ·as_aux_lemma =>
  subst h5;rw [if_pos rfl];have HS:=I (fun cs F wq a=>azi x cs F wq a HW.out);generalize BX x = RR at *;obtain ⟨R,il,gF,cd⟩:=RR;dsimp only at HS ⊢;go_enter Tryz.func66,Tryz.ntmps66;go_wp2_with fail
  refine (HS.out _ _ _ (aZ h cf)).mono ?_;rintro e w1 ⟨ds,G,rfl,hO,bm⟩;have hR:=hO.rd;obtain ⟨kM,kN,ND,ny,nC,TD,ax,hGr,NG,TF,TG,xI,uD,xJ⟩:=aO hR;subst ax;clear hGr hR;have cM:=bm.size;simp at cM;have XB:=I (oG.ext (oG.ext (oG.xr w _ _ [.slice none 0 0,.slice none 0 0,.int .i64 0,.int .i64 0,.int .i64 0,.int .i64 0] 29) bm) (ak (aj _) (.cells ([.slice none 0 0,.slice none 0 0,.int .i64 0,.int .i64 0,.int .i64 0,.int .i64 0]:List Value).toArray 29)));have HO:=I ((hO.mono (B':=w.heap.size+1+1+1) S').alloc (.cells ([.slice none 0 0,.slice none 0 0,.int .i64 0,.int .i64 0,.int .i64 0,.int .i64 0]:List Value).toArray 29));have xv:=I hO.lt;have HB:=I (ak (ah cf bm:Below w.heap.size w w1) (.cells ([.slice none 0 0,.slice none 0 0,.int .i64 0,.int .i64 0,.int .i64 0,.int .i64 0]:List Value).toArray 29));clear hO bm h;try dsimp only
  iterate 20 go_step
  refine km 29 _ _ rfl w1.heap.size 0 [.slice kM R.aa.length kN,.slice ny R.J.length nC,.int .i64 R.next,.int .i64 R.weights.pack,.int .i64 R.weights.af,.int .i64 R.weights.al] [.slice none 0 0,.slice none 0 0,.int .i64 0,.int .i64 0,.int .i64 0,.int .i64 0] rfl rfl (oG.new w1 _ 29) S' U' e' ?_;intro w2 YB OB;replace YB:oG w2 w1.heap.size [.slice kM R.aa.length kN,.slice ny R.J.length nC,.int .i64 R.next,.int .i64 R.weights.pack,.int .i64 R.weights.af,.int .i64 R.weights.al]:=YB;have WG:=XB.out.only OB O;try dsimp only [Act.put]
  iterate 9 go_step
  first
   | (refine BF 29 _ rfl w1.heap.size [.slice kM R.aa.length kN,.slice ny R.J.length nC,.int .i64 R.next,.int .i64 R.weights.pack,.int .i64 R.weights.af,.int .i64 R.weights.al] rfl _ YB Tryz.underlying29 rfl U' ?_)
   | (go_step;refine BF 29 _ rfl w1.heap.size [.slice kM R.aa.length kN,.slice ny R.J.length nC,.int .i64 R.next,.int .i64 R.weights.pack,.int .i64 R.weights.af,.int .i64 R.weights.al] rfl _ YB Tryz.underlying29 rfl U' ?_)
   | (go_step;go_step;refine BF 29 _ rfl w1.heap.size [.slice kM R.aa.length kN,.slice ny R.J.length nC,.int .i64 R.next,.int .i64 R.weights.pack,.int .i64 R.weights.af,.int .i64 R.weights.al] rfl _ YB Tryz.underlying29 rfl U' ?_)
   | (go_step;go_step;go_step;refine BF 29 _ rfl w1.heap.size [.slice kM R.aa.length kN,.slice ny R.J.length nC,.int .i64 R.next,.int .i64 R.weights.pack,.int .i64 R.weights.af,.int .i64 R.weights.al] rfl _ YB Tryz.underlying29 rfl U' ?_)
   | (go_step;go_step;go_step;go_step;refine BF 29 _ rfl w1.heap.size [.slice kM R.aa.length kN,.slice ny R.J.length nC,.int .i64 R.next,.int .i64 R.weights.pack,.int .i64 R.weights.af,.int .i64 R.weights.al] rfl _ YB Tryz.underlying29 rfl U' ?_)
   | (go_step;go_step;go_step;go_step;go_step;refine BF 29 _ rfl w1.heap.size [.slice kM R.aa.length kN,.slice ny R.J.length nC,.int .i64 R.next,.int .i64 R.weights.pack,.int .i64 R.weights.af,.int .i64 R.weights.al] rfl _ YB Tryz.underlying29 rfl U' ?_)
   | (go_step;go_step;go_step;go_step;go_step;go_step;refine BF 29 _ rfl w1.heap.size [.slice kM R.aa.length kN,.slice ny R.J.length nC,.int .i64 R.next,.int .i64 R.weights.pack,.int .i64 R.weights.af,.int .i64 R.weights.al] rfl _ YB Tryz.underlying29 rfl U' ?_)
   | (go_step;go_step;go_step;go_step;go_step;go_step;go_step;refine BF 29 _ rfl w1.heap.size [.slice kM R.aa.length kN,.slice ny R.J.length nC,.int .i64 R.next,.int .i64 R.weights.pack,.int .i64 R.weights.af,.int .i64 R.weights.al] rfl _ YB Tryz.underlying29 rfl U' ?_)
   | (go_step;go_step;go_step;go_step;go_step;go_step;go_step;go_step;refine BF 29 _ rfl w1.heap.size [.slice kM R.aa.length kN,.slice ny R.J.length nC,.int .i64 R.next,.int .i64 R.weights.pack,.int .i64 R.weights.af,.int .i64 R.weights.al] rfl _ YB Tryz.underlying29 rfl U' ?_)
   | (go_step;go_step;go_step;go_step;go_step;go_step;go_step;go_step;go_step;refine BF 29 _ rfl w1.heap.size [.slice kM R.aa.length kN,.slice ny R.J.length nC,.int .i64 R.next,.int .i64 R.weights.pack,.int .i64 R.weights.af,.int .i64 R.weights.al] rfl _ YB Tryz.underlying29 rfl U' ?_)
   | (go_step;go_step;go_step;go_step;go_step;go_step;go_step;go_step;go_step;go_step;refine BF 29 _ rfl w1.heap.size [.slice kM R.aa.length kN,.slice ny R.J.length nC,.int .i64 R.next,.int .i64 R.weights.pack,.int .i64 R.weights.af,.int .i64 R.weights.al] rfl _ YB Tryz.underlying29 rfl U' ?_)
   | (go_step;go_step;go_step;go_step;go_step;go_step;go_step;go_step;go_step;go_step;go_step;refine BF 29 _ rfl w1.heap.size [.slice kM R.aa.length kN,.slice ny R.J.length nC,.int .i64 R.next,.int .i64 R.weights.pack,.int .i64 R.weights.af,.int .i64 R.weights.al] rfl _ YB Tryz.underlying29 rfl U' ?_)
   | (go_step;go_step;go_step;go_step;go_step;go_step;go_step;go_step;go_step;go_step;go_step;go_step;refine BF 29 _ rfl w1.heap.size [.slice kM R.aa.length kN,.slice ny R.J.length nC,.int .i64 R.next,.int .i64 R.weights.pack,.int .i64 R.weights.af,.int .i64 R.weights.al] rfl _ YB Tryz.underlying29 rfl U' ?_)
   | (go_step;go_step;go_step;go_step;go_step;go_step;go_step;go_step;go_step;go_step;go_step;go_step;go_step;refine BF 29 _ rfl w1.heap.size [.slice kM R.aa.length kN,.slice ny R.J.length nC,.int .i64 R.next,.int .i64 R.weights.pack,.int .i64 R.weights.af,.int .i64 R.weights.al] rfl _ YB Tryz.underlying29 rfl U' ?_)
  exact GV
 rw [if_neg h5];by_cases h6:k = 6
 ·as_aux_lemma =>
  subst h6;rw [if_pos rfl];have HS:=I (fun cs F us Fu wq a b=>aeu x cs F wt us Fu wq a b HW.out);generalize iS x wt = RR at *;obtain ⟨R,cd⟩:=RR;dsimp only at HS ⊢;go_enter Tryz.func66,Tryz.ntmps66;go_wp2_with fail
  refine (HS.out _ _ _ _ _ (aZ h cf) (aZ hwts cf)).mono ?_;exact zI
 rw [if_neg h6];cases hc:iI x
 ·as_aux_lemma =>
  have HC:=I hc;clear hc;simp only [Bool.false_eq_true,if_false];go_enter Tryz.func66,Tryz.ntmps66;go_wp2_with fail
  refine (qM x _ _ _ (aZ h cf) HW.out).mono ?_;rw [HC.out];rintro e w0 ⟨rfl,ev⟩;obtain ⟨TJ,hf0⟩:=ay ev;have ce:=ev.size;simp at ce;have jp:Below w.heap.size w w0:=ah cf ev;go_wp2_with fail
  refine (BO x _ _ _ (aZ h cf) HW.out).mono ?_;rintro e w1 ⟨ds,G,rfl,hO,bm⟩;have hR:=hO.rd;obtain ⟨kM,kN,ND,ny,nC,TD,ax,hGr,NG,TF,TG,xI,uD,xJ⟩:=aO hR;subst ax;clear hGr hR;have XB:oG w1 (w.heap.size+1+1) [.slice none 0 0,.slice none 0 0,.int .i64 0,.int .i64 0,.int .i64 0,.int .i64 0]:=oG.ext (oG.ext (oG.xr w _ _ [.slice none 0 0,.slice none 0 0,.int .i64 0,.int .i64 0,.int .i64 0,.int .i64 0] 29) ev) bm;have HO:=I (hO.mono (B':=w.heap.size+1+1+1) O);have ao:Below w.heap.size w w1:=ah jp bm;clear hO bm h ev;try dsimp only
  iterate 2 go_step
  refine km 29 _ _ rfl (w.heap.size+1+1) 0 [.slice kM x.aa.length kN,.slice ny x.J.length nC,.int .i64 x.next,.int .i64 x.weights.pack,.int .i64 x.weights.af,.int .i64 x.weights.al] [.slice none 0 0,.slice none 0 0,.int .i64 0,.int .i64 0,.int .i64 0,.int .i64 0] rfl rfl XB S' U' e' ?_;intro w2 YB OB;replace YB:oG w2 (w.heap.size+1+1) [.slice kM x.aa.length kN,.slice ny x.J.length nC,.int .i64 x.next,.int .i64 x.weights.pack,.int .i64 x.weights.af,.int .i64 x.weights.al]:=YB;try dsimp only [Act.put]
  go_wp2;refine bodyPost_ret (v:=.tuple #[.agg #[.slice kM x.aa.length kN,.slice ny x.J.length nC,.int .i64 x.next,.int .i64 x.weights.pack,.int .i64 x.weights.af,.int .i64 x.weights.al],.int .i64 1]) (zK Tryz.results66 _ (w.heap.size+1+1) [.slice kM x.aa.length kN,.slice ny x.J.length nC,.int .i64 x.next,.int .i64 x.weights.pack,.int .i64 x.weights.af,.int .i64 x.weights.al] _ _ rfl rfl YB Tryz.underlying29 rfl U') rfl ?_;exact ve
 ·as_aux_lemma =>
  have HC:=I hc;clear hc;simp only [if_true];go_enter Tryz.func66,Tryz.ntmps66;go_wp2_with fail
  refine (qM x _ _ _ (aZ h cf) HW.out).mono ?_;rw [HC.out];rintro e w0 ⟨rfl,ev⟩;obtain ⟨TJ,hf0⟩:=ay ev;have ce:=ev.size;simp at ce;have jp:Below w.heap.size w w0:=ah cf ev;go_wp2_with fail
  refine (BO x _ _ _ (aZ h cf) HW.out).mono ?_;rintro e w1 ⟨ds,G,rfl,hO,bm⟩;have hR:=hO.rd;obtain ⟨kM,kN,ND,ny,nC,TD,ax,hGr,NG,TF,TG,xI,uD,xJ⟩:=aO hR;subst ax;clear hGr hR;have XB:oG w1 (w.heap.size+1+1) [.slice none 0 0,.slice none 0 0,.int .i64 0,.int .i64 0,.int .i64 0,.int .i64 0]:=oG.ext (oG.ext (oG.xr w _ _ [.slice none 0 0,.slice none 0 0,.int .i64 0,.int .i64 0,.int .i64 0,.int .i64 0] 29) ev) bm;have HO:=I (hO.mono (B':=w.heap.size+1+1+1) O);have ao:Below w.heap.size w w1:=ah jp bm;clear hO bm h ev;try dsimp only
  iterate 2 go_step
  refine km 29 _ _ rfl (w.heap.size+1+1) 0 [.slice kM x.aa.length kN,.slice ny x.J.length nC,.int .i64 x.next,.int .i64 x.weights.pack,.int .i64 x.weights.af,.int .i64 x.weights.al] [.slice none 0 0,.slice none 0 0,.int .i64 0,.int .i64 0,.int .i64 0,.int .i64 0] rfl rfl XB S' U' e' ?_;intro w2 YB OB;replace YB:oG w2 (w.heap.size+1+1) [.slice kM x.aa.length kN,.slice ny x.J.length nC,.int .i64 x.next,.int .i64 x.weights.pack,.int .i64 x.weights.af,.int .i64 x.weights.al]:=YB;try dsimp only [Act.put]
  go_wp2;refine bodyPost_ret (v:=.tuple #[.agg #[.slice kM x.aa.length kN,.slice ny x.J.length nC,.int .i64 x.next,.int .i64 x.weights.pack,.int .i64 x.weights.af,.int .i64 x.weights.al],.int .i64 8]) (zK Tryz.results66 _ (w.heap.size+1+1) [.slice kM x.aa.length kN,.slice ny x.J.length nC,.int .i64 x.next,.int .i64 x.weights.pack,.int .i64 x.weights.af,.int .i64 x.weights.al] _ _ rfl rfl YB Tryz.underlying29 rfl U') rfl ?_;exact ve
theorem aEW (w:World):Calls Tryz.prog 64 #[] w fun e w'=>e = .returned (.agg #[.slice none 0 0,.slice none 0 0,.int .i64 1,.int .i64 2,.int .i64 1,.int .i64 3])∧Below w.heap.size w w':=by
 go_enter Tryz.func64,Tryz.ntmps64;go_wp2;refine bodyPost_ret (v:=.agg #[.slice none 0 0,.slice none 0 0,.int .i64 1,.int .i64 2,.int .i64 1,.int .i64 3]) (by simp [results,Tryz.results64,go_sem, *]) rfl ⟨rfl,cf⟩
def tB:aU:=⟨[],[],1,⟨2,1,3⟩⟩
theorem aEc:cr tB :=
 ⟨by decide,by decide,by decide,by decide,by decide,(fun h hh=>by cases hh),(fun h hh=>by cases hh),List.Pairwise.nil,(fun p hp=>by cases hp),(fun p hp=>by cases hp),(fun p hp=>by cases hp),List.Pairwise.nil,List.Pairwise.nil⟩
theorem am.tB (w:World) (B:Nat):am w B Go.Proofs.YtjahcnjmjahbaaaGreat.tB [.slice none 0 0,.slice none 0 0,.int .i64 1,.int .i64 2,.int .i64 1,.int .i64 3] []:=by
 refine am.up (B':=B) (fun x:aU=>(x.aa,x.J,x.next,x.weights)) ?_ (Nat.le_refl _);have h1:am w B ([]:List ba) [.slice none 0 0] []:=am.en (Sl.nil w none 0 (Nat.zero_le _));have h2:am w B ([]:List ag) [.slice none 0 0] []:=am.en (Sl.nil w none 0 (Nat.zero_le _));have h3:am w B ((1:Int),(⟨2,1,3⟩:rZ)) ([.int .i64 1]++[.int .i64 2,.int .i64 1,.int .i64 3]) []:=am.cons (jL w 1 tU) (am.en (Zj w ⟨2,1,3⟩ RS RS RS));exact am.fa h1 (am.fa h2 h3 (Nat.le_refl _) (fun b hb=>by cases hb)) (Nat.le_refl _) (fun b hb=>by cases hb)
theorem aAA (w:World) (c:Nat) (A:Option Addr) (n aM:Nat) (h:cB w c A n aM) :
 Calls Tryz.prog 26 #[.pointer (some ⟨c,0,none⟩)] w fun e w'=>∃(x:aU) (cs:List Value) (G:List Nat),e = .returned (.agg cs.toArray)∧am w' w.heap.size x cs G∧cr x∧cB w' c A n aM∧nN [c] w w':=by
 have ap:=h.lt;have HC:=I h;clear h;go_enter Tryz.func26,Tryz.ntmps26;go_wp2_with fail
 refine (aEW _).mono ?_;rintro e w1 ⟨rfl,bm⟩;have cM:=bm.size;simp at cM;have X1:=I (((oG.new w [.slice none 0 0,.slice none 0 0,.int .i64 0,.int .i64 0,.int .i64 0,.int .i64 0] 29).ext bm).ext (ak (aj _) (.cells ([.slice none 0 0,.slice none 0 0,.int .i64 0,.int .i64 0,.int .i64 0,.int .i64 0]:List Value).toArray 29)));have fv:=I ((HC.out.ext (ak (aj _) (.cells ([.slice none 0 0,.slice none 0 0,.int .i64 0,.int .i64 0,.int .i64 0,.int .i64 0]:List Value).toArray 29))).ext bm);have db:=fv.out.lt;have j7:=I (fv.out.ext (ak (aj _) (.cells ([.slice none 0 0,.slice none 0 0,.int .i64 0,.int .i64 0,.int .i64 0,.int .i64 0]:List Value).toArray 29)));have HB:=I (nN.lq [c] (ak (ah cf bm:Below w.heap.size w w1) (.cells ([.slice none 0 0,.slice none 0 0,.int .i64 0,.int .i64 0,.int .i64 0,.int .i64 0]:List Value).toArray 29)));clear bm HC fv;try dsimp only
 iterate 5 go_step
 refine km 29 _ _ rfl w1.heap.size 0 [.slice none 0 0,.slice none 0 0,.int .i64 1,.int .i64 2,.int .i64 1,.int .i64 3] [.slice none 0 0,.slice none 0 0,.int .i64 0,.int .i64 0,.int .i64 0,.int .i64 0] rfl rfl (oG.new w1 _ 29) S' U' e' ?_;intro w2 Y2 O2;replace Y2:oG w2 w1.heap.size [.slice none 0 0,.slice none 0 0,.int .i64 1,.int .i64 2,.int .i64 1,.int .i64 3]:=Y2;have cI:w2.heap.size = w1.heap.size+1:=by rw [O2.size];simp
 have X2:=I (X1.out.only O2 O);have ma:=I (HB.out.only O2 O);have oX:=I (j7.out.only O2 O);have AZ:=I Y2;have HZ2:=I cI;clear X1 HB j7 O2 Y2 cI;go_wp2_with fail
 go_loopw [4] (fun i wr=>∃(k:Nat) (x:aU) (Ah Ap:Option Addr) (ch cp:Nat) (G:List Nat),i = .int .i64 k∧(k:Int)≤20∧Hid (am wr (w1.heap.size+1) x [.slice Ah x.aa.length ch,.slice Ap x.J.length cp,.int .i64 x.next,.int .i64 x.weights.pack,.int .i64 x.weights.af,.int .i64 x.weights.al] G∧cr x∧oG wr w1.heap.size [.slice Ah x.aa.length ch,.slice Ap x.J.length cp,.int .i64 x.next,.int .i64 x.weights.pack,.int .i64 x.weights.af,.int .i64 x.weights.al]∧oG wr w.heap.size [.slice none 0 0,.slice none 0 0,.int .i64 0,.int .i64 0,.int .i64 0,.int .i64 0]∧cB wr c A n aM∧nN [c] w wr∧w1.heap.size+1≤wr.heap.size)) (fun i _=>20 - (intOf i).toNat)
 case atStart =>exact ⟨0,tB,none,none,0,0,[],rfl,O,I ⟨am.tB _ _,aEc,AZ.out,X2.out,oX.out,ma.out,by rw [HZ2.out];exact Nat.le_refl _⟩⟩
 case round =>
  obtain ⟨k,x,Ah,Ap,ch,cp,G,rfl,hk,HX⟩:=hrel;obtain ⟨hO,hG,hY,hX,hC,hU,hz⟩:=HX.out;have HG:=I hG;clear hG HX X2 ma oX AZ HZ2;have HO:=I hO;have HY:=I hY;have NJ:=I hX;have HC:=I hC;have HU:=I hU;clear hO hY hX hC hU;go_wp2_with fail
  refine (l' 16 O _ c A n aM HC.out).mono ?_;rintro e w3 ⟨r,rfl,hr,H3,cY⟩;have fG:=I (HO.out.drawn cY O);have oe:=I (HY.out.cN cY O);have wS:=I (NJ.out.cN cY O);have nZ:=I (HU.out.trans cY);have gL:=I H3;have ez:=cY.size;clear H3 cY HO HY NJ HU HC;by_cases m':(k:Int) < 4+r
  ·go_wp2_with fail
   refine azp (fun w'=>oG w' w1.heap.size [.slice Ah x.aa.length ch,.slice Ap x.J.length cp,.int .i64 x.next,.int .i64 x.weights.pack,.int .i64 x.weights.af,.int .i64 x.weights.al]) (fun _=>True) [0] [1,2] 5 U' U' H' (oe.out.ext (aA (aj _))) ?_;simp only [cR,List.getElem?_cons_succ,List.getElem?_cons_zero];refine dR (.agg #[.slice Ah x.aa.length ch,.slice Ap x.J.length cp,.int .i64 x.next,.int .i64 x.weights.pack,.int .i64 x.weights.af,.int .i64 x.weights.al]) (yieldsIf_load_mid rfl 29 _ rfl w1.heap.size 0 rfl [.slice Ah x.aa.length ch,.slice Ap x.J.length cp,.int .i64 x.next,.int .i64 x.weights.pack,.int .i64 x.weights.af,.int .i64 x.weights.al] _ (fun w' eC=>eC.range) Tryz.underlying29 rfl U') ?_;simp only [Act.put,pz];refine fE ?_;refine iK rfl (fun K hK=>?_);go_simp;refine hK _ _ (oe.out.ext (aA (aj _))) ?_;try simp only [Act.put,pz]
   clear hK K;refine iK rfl (fun K hK=>?_);go_simp;refine (aGl _ c A n aM gL.out.drew).mono ?_;rintro e w4 ⟨d,ds,Gd,rfl,hOd,hwd,hnd,UR,H4,Td⟩;have EO:=(nN.lq [c] (aA (aj w3))).trans Td;have kR:=I (fG.out.drawn EO O);have EP:=I (oe.out.cN EO O);have Dn:=I (wS.out.cN EO O);have ot:=I (nZ.out.trans EO);have ix:=I H4;have HOD:=I hOd;have Wy:=EO.size;clear H4 Td EO fG oe wS nZ gL hOd;refine hK _ _ EP.out ?_;try simp only [Act.put,pz]
   clear hK K;refine yG ?_;have gn:=Qh HG.out;refine bP 3 Z U' Z (fun K hK=>?_);go_simp;refine (aBg x _ _ d _ _ w4 kR.out.rd HOD.out.rd O O).mono ?_;have HG5:=I (aBf HG.out d);generalize fZ x d = RR at *;obtain ⟨R,cd⟩:=RR;rintro e w5 ⟨es,G5,rfl,fH,bt⟩;dsimp only at fH ⊢;have hR:=fH.rd;obtain ⟨kM,kN,ND,ny,nC,TD,ax,hGr,NG,TF,TG,xI,uD,xJ⟩:=aO hR;subst ax;clear hGr hR;have rz:=I fH;have EQ:=EP.out.ext bt;have wR:=I (Dn.out.ext bt);have tQ:=I (ot.out.pb bt O);have ka:=I (ix.out.ext bt);have Es:=bt.size;clear bt fH kR EP Dn ot ix HOD;refine hK _ _ trivial ?_;try simp only [Act.put,pz]
   clear hK K;refine bP 4 Z U' Z (fun K hK=>?_);go_simp;refine hK _ _ trivial ?_;try simp only [Act.put,pz]
   clear hK K
   refine aX 5 _ Z U' H' trivial (Or.inl ⟨rfl,fun wq hq=>by
    go_simp
    try rfl⟩) ?_
   try simp only [Act.put,pz]
   refine aX 6 _ Z U' H' trivial (Or.inl ⟨rfl,fun wq hq=>by
    go_simp
    try rfl⟩) ?_
   try simp only [Act.put,pz]
   refine bP 7 Z U' Z (fun K hK=>?_);refine km 29 _ _ rfl w1.heap.size 0 [.slice kM R.aa.length kN,.slice ny R.J.length nC,.int .i64 R.next,.int .i64 R.weights.pack,.int .i64 R.weights.af,.int .i64 R.weights.al] [.slice Ah x.aa.length ch,.slice Ap x.J.length cp,.int .i64 x.next,.int .i64 x.weights.pack,.int .i64 x.weights.af,.int .i64 x.weights.al] rfl rfl EQ S' U' e' ?_;intro w6 Y6 O6;replace Y6:oG w6 w1.heap.size [.slice kM R.aa.length kN,.slice ny R.J.length nC,.int .i64 R.next,.int .i64 R.weights.pack,.int .i64 R.weights.af,.int .i64 R.weights.al]:=Y6;refine hK _ _ trivial ?_;try simp only [Act.put,pz]
   clear hK K;refine nR U' ?_;have Vl:=I ((rz.out.only O6 (fun b hb=>by have:=rz.out.base b hb;omega)).mono (B':=w1.heap.size+1) O);have Vz:=I (wR.out.only O6 O);have HU6:=I (tQ.out.only O6 O);have uy:=I (ka.out.only O6 db);have ru:=O6.size;have HY6:=I Y6;have Ql:(k:Int)+1≤20:=O;clear rz EQ wR tQ ka O6 Y6;go_wp2;exact ⟨⟨k+1,R,_,_,_,_,G5,N',O,I ⟨Vl.out,HG5.out,HY6.out,Vz.out,uy.out,HU6.out,O⟩⟩,by simp only [intOf];omega⟩
  ·have yy:=oe.out;have xx:=wS.out;obtain ⟨EN,aAC,aAD,aAE,aAF,aAG,aAH,aAI,aAJ,aAK,aAL,aAM⟩:=l5 yy;obtain ⟨Dz,azr,azs,azt,azu,azv,azw,azx,azy,azz,azA,azB⟩:=l5 xx;clear yy xx oe wS;go_wp2;refine bodyPost_ret (v:=.agg #[.slice Ah x.aa.length ch,.slice Ap x.J.length cp,.int .i64 x.next,.int .i64 x.weights.pack,.int .i64 x.weights.af,.int .i64 x.weights.al]) (by simp [results,Tryz.results26,go_sem, *]) rfl ?_;exact ⟨x,[.slice Ah x.aa.length ch,.slice Ap x.J.length cp,.int .i64 x.next,.int .i64 x.weights.pack,.int .i64 x.weights.af,.int .i64 x.weights.al],G,rfl,(((((((fG.out.setCell (p:=⟨w.heap.size,0,none⟩) bM _).setCell (p:=⟨w.heap.size,1,none⟩) bM _).setCell (p:=⟨w.heap.size,2,none⟩) bM _).setCell (p:=⟨w.heap.size,3,none⟩) bM _).setCell (p:=⟨w.heap.size,4,none⟩) bM _).setCell (p:=⟨w.heap.size,5,none⟩) bM _)).mono O,HG.out,((((((gL.out.bX ap 0 _).bX ap 1 _).bX ap 2 _).bX ap 3 _).bX ap 4 _).bX ap 5 _),((((((nZ.out.new (Nat.le_refl _) 0 _).new (Nat.le_refl _) 1 _).new (Nat.le_refl _) 2 _).new (Nat.le_refl _) 3 _).new (Nat.le_refl _) 4 _).new (Nat.le_refl _) 5 _)⟩
theorem ayG (w:World) (A:Option Addr) (n aM:Nat) (hn:(n:Int)≤1048576) (de:∀k,k < n→∃(g o:Nat) (v:Int),A = some ⟨g,o,none⟩∧g < w.heap.size∧w.cell? ⟨g,o+k,none⟩ = some (.int .u8 v)∧0≤v∧v≤255) :
 Calls Tryz.prog 7 #[.slice A n aM] w fun e w'=>∃(x:aU) (cs:List Value) (G:List Nat),e = .returned (.agg cs.toArray)∧am w' w.heap.size x cs G∧cr x∧Below w.heap.size w w':=by
 have HS:=I de;clear de;go_enter Tryz.func7,Tryz.ntmps7;go_wp2_with fail
 refine (aBW _ A n aM hn (fun k hk=>?_)).mono ?_
 ·obtain ⟨g,o,v,e,hg,hv,gb⟩:=HS.out k hk;exact ⟨g,o,v,e,by simp;omega,((ak (aj w) _).cell (p:=⟨g,o+k,none⟩) hg).trans hv,gb⟩
 rintro e w1 ⟨c,rfl,hc,H1,bm⟩;have cM:=bm.size;simp at cM hc;have HX:=I ((oG.new w [.slice none 0 0,.slice none 0 0,.int .i64 0,.int .i64 0,.int .i64 0,.int .i64 0] 29).ext bm);have HB:=I (ah cf bm:Below w.heap.size w w1);have HC:=I H1;clear H1 bm HS;go_wp2_with fail
 refine (aAA _ c A n aM HC.out).mono ?_;rintro e w2 ⟨x,cs,G,rfl,hO,hG,H2,dC⟩;have hR:=hO.rd;obtain ⟨kM,kN,ND,ny,nC,TD,ax,hGr,NG,TF,TG,xI,uD,xJ⟩:=aO hR;subst ax;clear hGr hR;have HO:=I hO;have HG:=I hG;have xx:=HX.out.cN dC O;have lh:=I (HB.out.trans (dC.aL (B:=w.heap.size) (fun b hb=>by rw [List.mem_singleton] at hb;omega) O));have cI:=dC.size;obtain ⟨Dz,azr,azs,azt,azu,azv,azw,azx,azy,azz,azA,azB⟩:=l5 xx;clear xx hO hG H2 dC HB HC HX;go_wp2;refine bodyPost_ret (v:=.agg #[.slice kM x.aa.length kN,.slice ny x.J.length nC,.int .i64 x.next,.int .i64 x.weights.pack,.int .i64 x.weights.af,.int .i64 x.weights.al]) (by simp [results,Tryz.results7,go_sem, *]) rfl ?_;refine ⟨x,[.slice kM x.aa.length kN,.slice ny x.J.length nC,.int .i64 x.next,.int .i64 x.weights.pack,.int .i64 x.weights.af,.int .i64 x.weights.al],G,rfl,(((((((HO.out.setCell (p:=⟨w.heap.size,0,none⟩) bM _).setCell (p:=⟨w.heap.size,1,none⟩) bM _).setCell (p:=⟨w.heap.size,2,none⟩) bM _).setCell (p:=⟨w.heap.size,3,none⟩) bM _).setCell (p:=⟨w.heap.size,4,none⟩) bM _).setCell (p:=⟨w.heap.size,5,none⟩) bM _)).mono O,HG.out,?_⟩;exact (by repeat (first | with_reducible exact lh.out | with_reducible refine aC ?_ bM _))
theorem ayY (A:Option Addr) (n aM:Nat) (w:World):Calls Tryz.prog 6 #[.slice A n aM] w fun e w'=>e = .returned (.bool (decide ((1048576:Int) < n)))∧Below w.heap.size w w':=by
 by_cases h:(1048576:Int) < n
 all_goals
  go_enter Tryz.func6,Tryz.ntmps6;go_wp2;go_ret
  exact ⟨(by simp;omega),aj _⟩
theorem aFG {w:World} {x:aU} {Ah Ap:Option Addr} {nh ch np cp:Nat} {r:List Value} {F:List Nat} (h:rd w x (.slice Ah nh ch :: .slice Ap np cp :: r) F):∃F1 F2,Sl w x.aa Ah ch F1∧Sl w x.J Ap cp F2:=by
 obtain ⟨A1,c1,F1,A2,c2,F2,ax,_,h1,h2,_⟩:=aO h;simp only [List.cons.injEq,Value.slice.injEq] at ax;obtain ⟨⟨rfl,_,rfl⟩,⟨rfl,_,rfl⟩,_⟩:=ax;exact ⟨F1,F2,h1,h2⟩
theorem am.ER {α:Type} [bk α] {w w':World} {B:Nat} {x:α} {cs:List Value} {F:List Nat} (h:am w B x cs F) (hb:Below w.heap.size w w'):Go.Proofs.YtjahcnjmjahbaaaGreat.bk.rd w' x cs F:=(h.ext hb).rd
theorem aAQ {w:World} {xs:List UInt8} {A:Option Addr} {aM:Nat} {F:List Nat} (h:Sl w xs A aM F):∀k,k < xs.length→∃(g o:Nat) (v:Int),A = some ⟨g,o,none⟩∧g < w.heap.size∧w.cell? ⟨g,o+k,none⟩ = some (.int .u8 v)∧0≤v∧v≤255:=by
 intro k hk;obtain ⟨b,o,ck,Fk,rfl,_,hb,hr,_,hc⟩:=h.get hk;have h0:=hc 0 (.int .u8 (xs[k].toNat:Int)) (by rw [hr.1];rfl);rw [show o+(k * bk.size UInt8+0) = o+k by show o+(k * 1+0) = o+k;omega] at h0;have:=xs[k].toNat_lt;exact ⟨b,o,_,rfl,hb,h0,O,O⟩
end Go.Proofs.YtjahcnjmjahbaaaGreat
