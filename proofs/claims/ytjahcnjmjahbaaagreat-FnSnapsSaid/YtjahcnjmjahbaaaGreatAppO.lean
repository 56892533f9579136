/- Applied of the reference, over an operation as data. No condition. -/
import Derived.Test.YtjahcnjmjahbaaaGreatAppM
import Derived.Test.YtjahcnjmjahbaaaGreatOpsPS
import Derived.Test.YtjahcnjmjahbaaaGreatDrawO
namespace Go.Proofs.YtjahcnjmjahbaaaGreat
open Go.ChangeShapes Go.WideShapes Go.ChangeAt Go.RowKit
set_option linter.unusedVariables false
set_option linter.unusedSimpArgs false
set_option maxHeartbeats 8000000
set_option maxRecDepth 100000
def fy (x:aU) (d:Cl):aU × Int :=
 if d.kind = 1 then Ch x d.tf else if d.kind = 2 then Ko x d.name else if d.kind = 3 then Ut x d.name else if d.kind = 4 then ((kd x d.name).1,(kd x d.name).2.2)
 else if d.kind = 5 then ((BX x).1,(BX x).2.2.2) else if d.kind = 6 then gT x d.weights else (x,if iI x = true then 8 else 1)
theorem aBN {x:aU} (G:cc x) (m:cB):cc (Ch x m).1:=by
 unfold Ch;split
 ·exact aD3 G _
 ·split
  ·exact aD4 G _
  ·exact G
theorem aBf {x:aU} (G:cc x) (d:Cl):cc (fy x d).1:=by
 unfold fy;split
 ·exact aBN G _
 ·split
  ·exact aCV G _
  ·split
   ·exact aD5 G _
   ·split
    ·exact ayo G _
    ·split
     ·exact ayD G
     ·split
      ·exact aD6 G _
      ·exact G
theorem aBg (x:aU) (cs:List Value) (F:List Nat) (d:Cl) (ms:List Value) (Fm:List Nat) (w:World) (h:rd w x cs F) (h':rd w d ms Fm) (hw:(x.wt:Int)≤1048576) (hm:(d.tf.wt:Int)≤1048576) :
 Calls Tryz.prog 66 #[.agg cs.toArray,.agg ms.toArray] w fun e w'=>∃ds G,e = .returned (.tuple #[.agg ds.toArray,.int .i64 (fy x d).2])∧am w' w.heap.size (fy x d).1 ds G∧Below w.heap.size w w':=by
 have HW:=I hw;clear hw;have hr:=h;obtain ⟨Qi,ayW,aDE,aBb,aBd,aEE,aw,qp,aDF,aEF,aEG,axh,aJM,axi⟩:=aO hr;subst aw;clear qp hr;obtain ⟨k,nm,m,wt⟩:=d;have HWM:=I hm;clear hm;dsimp only at HWM;obtain ⟨_,_,_,_,rfl,rfl,⟨rfl,rfl,hkind⟩,_,_,_,_,rfl,rfl,⟨rfl,rfl,ke⟩,_,_,_,_,rfl,rfl,hman,hwts⟩:=h';dsimp only at hkind ke hman hwts ⊢;have o0:=hman;have Cn:=hwts;obtain ⟨oA,aHw,aBO,aHD,aHE,aCW,GR,G7,ayE,aHp,aHq,aBh,aHr,aHs,aBi,aw,hFm,hkindm,aD7,aBP,aEN,aEO,aD8,aCX,ayF,aCY,aBj,aD9,aEa,aBQ,aBk⟩:=NS o0;subst aw;obtain ⟨aw,hFw,hpk,iu,hso⟩:=mg Cn;subst aw;clear hFm hFw o0 Cn;unfold fy;dsimp only;by_cases h1:k = 1
 ·as_aux_lemma =>
  subst h1;rw [if_pos rfl];have HS:=I (fun cs F us Fu wq a b=>axA x cs F m us Fu wq a b HW.out HWM.out);generalize Ch x m = RR at *;obtain ⟨R,cd⟩:=RR;dsimp only at HS ⊢;go_enter Tryz.func66,Tryz.ntmps66;go_wp2_with fail
  refine (HS.out _ _ _ _ _ (aZ h cg) (aZ hman cg)).mono ?_;exact yb
 rw [if_neg h1];by_cases h2:k = 2
 ·as_aux_lemma =>
  subst h2;rw [if_pos rfl];have HS:=I (fun cs F wq a=>ah2 x cs F nm wq a HW.out);generalize Ko x nm = RR at *;exact Kr
 rw [if_neg h2];by_cases h3:k = 3
 ·as_aux_lemma =>
  subst h3;rw [if_pos rfl];have HS:=I (fun cs F wq a=>afS x cs F nm wq a HW.out);generalize Ut x nm = RR at *;exact Kr
 rw [if_neg h3];by_cases h4:k = 4
 ·as_aux_lemma =>
  subst h4;rw [if_pos rfl];have HS:=I (fun cs F wq a=>Qm x cs F nm wq a HW.out);generalize kd x nm = RR at *;obtain ⟨R,Qj,cd⟩:=RR;dsimp only at HS ⊢;go_enter Tryz.func66,Tryz.ntmps66;go_wp2_with fail
  refine (HS.out _ _ _ (aZ h cg)).mono ?_;rintro e w1 ⟨ds,G,rfl,hO,bk⟩;have hR:=hO.rd;obtain ⟨kM,kN,ND,ny,nC,TD,aw,hGr,NG,TF,TG,xI,uD,xJ⟩:=aO hR;subst aw;clear hGr hR;have cQ:=bk.size;simp at cQ;have XB:=I (oG.ext (oG.ext (oG.vx w _ _ [.slice none 0 0,.slice none 0 0,.int .i64 0,.int .i64 0,.int .i64 0,.int .i64 0] 29) bk) (ak (aj _) (.cells ([.slice none 0 0,.slice none 0 0,.int .i64 0,.int .i64 0,.int .i64 0,.int .i64 0]:List Value).toArray 29)));have HO:=I ((hO.mono (B':=w.heap.size+1+1+1) S').alloc (.cells ([.slice none 0 0,.slice none 0 0,.int .i64 0,.int .i64 0,.int .i64 0,.int .i64 0]:List Value).toArray 29));have OG:=I hO.lt;have HB:=I (ak (ah cg bk:Below w.heap.size w w1) (.cells ([.slice none 0 0,.slice none 0 0,.int .i64 0,.int .i64 0,.int .i64 0,.int .i64 0]:List Value).toArray 29));clear hO bk h;try dsimp only
  iterate 17 go_step
  refine lr 29 _ _ rfl w1.heap.size 0 [.slice kM R.Z.length kN,.slice ny R.O.length nC,.int .i64 R.next,.int .i64 R.weights.pack,.int .i64 R.weights.af,.int .i64 R.weights.an] [.slice none 0 0,.slice none 0 0,.int .i64 0,.int .i64 0,.int .i64 0,.int .i64 0] rfl rfl (oG.new w1 _ 29) S' U' eu ?_;intro w2 YB OB;replace YB:oG w2 w1.heap.size [.slice kM R.Z.length kN,.slice ny R.O.length nC,.int .i64 R.next,.int .i64 R.weights.pack,.int .i64 R.weights.af,.int .i64 R.weights.an]:=YB;have Yr:=XB.out.only OB J;try dsimp only [Act.put]
  iterate 6 go_step
  first
   | (refine BF 29 _ rfl w1.heap.size [.slice kM R.Z.length kN,.slice ny R.O.length nC,.int .i64 R.next,.int .i64 R.weights.pack,.int .i64 R.weights.af,.int .i64 R.weights.an] rfl _ YB Tryz.underlying29 rfl U' ?_)
   | (go_step;refine BF 29 _ rfl w1.heap.size [.slice kM R.Z.length kN,.slice ny R.O.length nC,.int .i64 R.next,.int .i64 R.weights.pack,.int .i64 R.weights.af,.int .i64 R.weights.an] rfl _ YB Tryz.underlying29 rfl U' ?_)
   | (go_step;go_step;refine BF 29 _ rfl w1.heap.size [.slice kM R.Z.length kN,.slice ny R.O.length nC,.int .i64 R.next,.int .i64 R.weights.pack,.int .i64 R.weights.af,.int .i64 R.weights.an] rfl _ YB Tryz.underlying29 rfl U' ?_)
   | (go_step;go_step;go_step;refine BF 29 _ rfl w1.heap.size [.slice kM R.Z.length kN,.slice ny R.O.length nC,.int .i64 R.next,.int .i64 R.weights.pack,.int .i64 R.weights.af,.int .i64 R.weights.an] rfl _ YB Tryz.underlying29 rfl U' ?_)
   | (go_step;go_step;go_step;go_step;refine BF 29 _ rfl w1.heap.size [.slice kM R.Z.length kN,.slice ny R.O.length nC,.int .i64 R.next,.int .i64 R.weights.pack,.int .i64 R.weights.af,.int .i64 R.weights.an] rfl _ YB Tryz.underlying29 rfl U' ?_)
   | (go_step;go_step;go_step;go_step;go_step;refine BF 29 _ rfl w1.heap.size [.slice kM R.Z.length kN,.slice ny R.O.length nC,.int .i64 R.next,.int .i64 R.weights.pack,.int .i64 R.weights.af,.int .i64 R.weights.an] rfl _ YB Tryz.underlying29 rfl U' ?_)
   | (go_step;go_step;go_step;go_step;go_step;go_step;refine BF 29 _ rfl w1.heap.size [.slice kM R.Z.length kN,.slice ny R.O.length nC,.int .i64 R.next,.int .i64 R.weights.pack,.int .i64 R.weights.af,.int .i64 R.weights.an] rfl _ YB Tryz.underlying29 rfl U' ?_)
   | (go_step;go_step;go_step;go_step;go_step;go_step;go_step;refine BF 29 _ rfl w1.heap.size [.slice kM R.Z.length kN,.slice ny R.O.length nC,.int .i64 R.next,.int .i64 R.weights.pack,.int .i64 R.weights.af,.int .i64 R.weights.an] rfl _ YB Tryz.underlying29 rfl U' ?_)
   | (go_step;go_step;go_step;go_step;go_step;go_step;go_step;go_step;refine BF 29 _ rfl w1.heap.size [.slice kM R.Z.length kN,.slice ny R.O.length nC,.int .i64 R.next,.int .i64 R.weights.pack,.int .i64 R.weights.af,.int .i64 R.weights.an] rfl _ YB Tryz.underlying29 rfl U' ?_)
   | (go_step;go_step;go_step;go_step;go_step;go_step;go_step;go_step;go_step;refine BF 29 _ rfl w1.heap.size [.slice kM R.Z.length kN,.slice ny R.O.length nC,.int .i64 R.next,.int .i64 R.weights.pack,.int .i64 R.weights.af,.int .i64 R.weights.an] rfl _ YB Tryz.underlying29 rfl U' ?_)
   | (go_step;go_step;go_step;go_step;go_step;go_step;go_step;go_step;go_step;go_step;refine BF 29 _ rfl w1.heap.size [.slice kM R.Z.length kN,.slice ny R.O.length nC,.int .i64 R.next,.int .i64 R.weights.pack,.int .i64 R.weights.af,.int .i64 R.weights.an] rfl _ YB Tryz.underlying29 rfl U' ?_)
   | (go_step;go_step;go_step;go_step;go_step;go_step;go_step;go_step;go_step;go_step;go_step;refine BF 29 _ rfl w1.heap.size [.slice kM R.Z.length kN,.slice ny R.O.length nC,.int .i64 R.next,.int .i64 R.weights.pack,.int .i64 R.weights.af,.int .i64 R.weights.an] rfl _ YB Tryz.underlying29 rfl U' ?_)
   | (go_step;go_step;go_step;go_step;go_step;go_step;go_step;go_step;go_step;go_step;go_step;go_step;refine BF 29 _ rfl w1.heap.size [.slice kM R.Z.length kN,.slice ny R.O.length nC,.int .i64 R.next,.int .i64 R.weights.pack,.int .i64 R.weights.af,.int .i64 R.weights.an] rfl _ YB Tryz.underlying29 rfl U' ?_)
   | (go_step;go_step;go_step;go_step;go_step;go_step;go_step;go_step;go_step;go_step;go_step;go_step;go_step;refine BF 29 _ rfl w1.heap.size [.slice kM R.Z.length kN,.slice ny R.O.length nC,.int .i64 R.next,.int .i64 R.weights.pack,.int .i64 R.weights.af,.int .i64 R.weights.an] rfl _ YB Tryz.underlying29 rfl U' ?_)
  exact GB
 rw [if_neg h4];by_cases h5:k = 5
 ·as_aux_lemma =>
  subst h5;rw [if_pos rfl];have HS:=I (fun cs F wq a=>azi x cs F wq a HW.out);generalize BX x = RR at *;obtain ⟨R,Qj,hst2,cd⟩:=RR;dsimp only at HS ⊢;go_enter Tryz.func66,Tryz.ntmps66;go_wp2_with fail
  refine (HS.out _ _ _ (aZ h cg)).mono ?_;rintro e w1 ⟨ds,G,rfl,hO,bk⟩;have hR:=hO.rd;obtain ⟨kM,kN,ND,ny,nC,TD,aw,hGr,NG,TF,TG,xI,uD,xJ⟩:=aO hR;subst aw;clear hGr hR;have cQ:=bk.size;simp at cQ;have XB:=I (oG.ext (oG.ext (oG.vx w _ _ [.slice none 0 0,.slice none 0 0,.int .i64 0,.int .i64 0,.int .i64 0,.int .i64 0] 29) bk) (ak (aj _) (.cells ([.slice none 0 0,.slice none 0 0,.int .i64 0,.int .i64 0,.int .i64 0,.int .i64 0]:List Value).toArray 29)));have HO:=I ((hO.mono (B':=w.heap.size+1+1+1) S').alloc (.cells ([.slice none 0 0,.slice none 0 0,.int .i64 0,.int .i64 0,.int .i64 0,.int .i64 0]:List Value).toArray 29));have OG:=I hO.lt;have HB:=I (ak (ah cg bk:Below w.heap.size w w1) (.cells ([.slice none 0 0,.slice none 0 0,.int .i64 0,.int .i64 0,.int .i64 0,.int .i64 0]:List Value).toArray 29));clear hO bk h;try dsimp only
  iterate 20 go_step
  refine lr 29 _ _ rfl w1.heap.size 0 [.slice kM R.Z.length kN,.slice ny R.O.length nC,.int .i64 R.next,.int .i64 R.weights.pack,.int .i64 R.weights.af,.int .i64 R.weights.an] [.slice none 0 0,.slice none 0 0,.int .i64 0,.int .i64 0,.int .i64 0,.int .i64 0] rfl rfl (oG.new w1 _ 29) S' U' eu ?_;intro w2 YB OB;replace YB:oG w2 w1.heap.size [.slice kM R.Z.length kN,.slice ny R.O.length nC,.int .i64 R.next,.int .i64 R.weights.pack,.int .i64 R.weights.af,.int .i64 R.weights.an]:=YB;have Yr:=XB.out.only OB J;try dsimp only [Act.put]
  iterate 9 go_step
  first
   | (refine BF 29 _ rfl w1.heap.size [.slice kM R.Z.length kN,.slice ny R.O.length nC,.int .i64 R.next,.int .i64 R.weights.pack,.int .i64 R.weights.af,.int .i64 R.weights.an] rfl _ YB Tryz.underlying29 rfl U' ?_)
   | (go_step;refine BF 29 _ rfl w1.heap.size [.slice kM R.Z.length kN,.slice ny R.O.length nC,.int .i64 R.next,.int .i64 R.weights.pack,.int .i64 R.weights.af,.int .i64 R.weights.an] rfl _ YB Tryz.underlying29 rfl U' ?_)
   | (go_step;go_step;refine BF 29 _ rfl w1.heap.size [.slice kM R.Z.length kN,.slice ny R.O.length nC,.int .i64 R.next,.int .i64 R.weights.pack,.int .i64 R.weights.af,.int .i64 R.weights.an] rfl _ YB Tryz.underlying29 rfl U' ?_)
   | (go_step;go_step;go_step;refine BF 29 _ rfl w1.heap.size [.slice kM R.Z.length kN,.slice ny R.O.length nC,.int .i64 R.next,.int .i64 R.weights.pack,.int .i64 R.weights.af,.int .i64 R.weights.an] rfl _ YB Tryz.underlying29 rfl U' ?_)
   | (go_step;go_step;go_step;go_step;refine BF 29 _ rfl w1.heap.size [.slice kM R.Z.length kN,.slice ny R.O.length nC,.int .i64 R.next,.int .i64 R.weights.pack,.int .i64 R.weights.af,.int .i64 R.weights.an] rfl _ YB Tryz.underlying29 rfl U' ?_)
   | (go_step;go_step;go_step;go_step;go_step;refine BF 29 _ rfl w1.heap.size [.slice kM R.Z.length kN,.slice ny R.O.length nC,.int .i64 R.next,.int .i64 R.weights.pack,.int .i64 R.weights.af,.int .i64 R.weights.an] rfl _ YB Tryz.underlying29 rfl U' ?_)
   | (go_step;go_step;go_step;go_step;go_step;go_step;refine BF 29 _ rfl w1.heap.size [.slice kM R.Z.length kN,.slice ny R.O.length nC,.int .i64 R.next,.int .i64 R.weights.pack,.int .i64 R.weights.af,.int .i64 R.weights.an] rfl _ YB Tryz.underlying29 rfl U' ?_)
   | (go_step;go_step;go_step;go_step;go_step;go_step;go_step;refine BF 29 _ rfl w1.heap.size [.slice kM R.Z.length kN,.slice ny R.O.length nC,.int .i64 R.next,.int .i64 R.weights.pack,.int .i64 R.weights.af,.int .i64 R.weights.an] rfl _ YB Tryz.underlying29 rfl U' ?_)
   | (go_step;go_step;go_step;go_step;go_step;go_step;go_step;go_step;refine BF 29 _ rfl w1.heap.size [.slice kM R.Z.length kN,.slice ny R.O.length nC,.int .i64 R.next,.int .i64 R.weights.pack,.int .i64 R.weights.af,.int .i64 R.weights.an] rfl _ YB Tryz.underlying29 rfl U' ?_)
   | (go_step;go_step;go_step;go_step;go_step;go_step;go_step;go_step;go_step;refine BF 29 _ rfl w1.heap.size [.slice kM R.Z.length kN,.slice ny R.O.length nC,.int .i64 R.next,.int .i64 R.weights.pack,.int .i64 R.weights.af,.int .i64 R.weights.an] rfl _ YB Tryz.underlying29 rfl U' ?_)
   | (go_step;go_step;go_step;go_step;go_step;go_step;go_step;go_step;go_step;go_step;refine BF 29 _ rfl w1.heap.size [.slice kM R.Z.length kN,.slice ny R.O.length nC,.int .i64 R.next,.int .i64 R.weights.pack,.int .i64 R.weights.af,.int .i64 R.weights.an] rfl _ YB Tryz.underlying29 rfl U' ?_)
   | (go_step;go_step;go_step;go_step;go_step;go_step;go_step;go_step;go_step;go_step;go_step;refine BF 29 _ rfl w1.heap.size [.slice kM R.Z.length kN,.slice ny R.O.length nC,.int .i64 R.next,.int .i64 R.weights.pack,.int .i64 R.weights.af,.int .i64 R.weights.an] rfl _ YB Tryz.underlying29 rfl U' ?_)
   | (go_step;go_step;go_step;go_step;go_step;go_step;go_step;go_step;go_step;go_step;go_step;go_step;refine BF 29 _ rfl w1.heap.size [.slice kM R.Z.length kN,.slice ny R.O.length nC,.int .i64 R.next,.int .i64 R.weights.pack,.int .i64 R.weights.af,.int .i64 R.weights.an] rfl _ YB Tryz.underlying29 rfl U' ?_)
   | (go_step;go_step;go_step;go_step;go_step;go_step;go_step;go_step;go_step;go_step;go_step;go_step;go_step;refine BF 29 _ rfl w1.heap.size [.slice kM R.Z.length kN,.slice ny R.O.length nC,.int .i64 R.next,.int .i64 R.weights.pack,.int .i64 R.weights.af,.int .i64 R.weights.an] rfl _ YB Tryz.underlying29 rfl U' ?_)
  exact GB
 rw [if_neg h5];by_cases h6:k = 6
 ·as_aux_lemma =>
  subst h6;rw [if_pos rfl];have HS:=I (fun cs F us Fu wq a b=>aeu x cs F wt us Fu wq a b HW.out);generalize gT x wt = RR at *;obtain ⟨R,cd⟩:=RR;dsimp only at HS ⊢;go_enter Tryz.func66,Tryz.ntmps66;go_wp2_with fail
  refine (HS.out _ _ _ _ _ (aZ h cg) (aZ hwts cg)).mono ?_;exact yb
 rw [if_neg h6];cases hc:iI x
 ·as_aux_lemma =>
  have HC:=I hc;clear hc;simp only [Bool.false_eq_true,if_false];go_enter Tryz.func66,Tryz.ntmps66;go_wp2_with fail
  refine (qM x _ _ _ (aZ h cg) HW.out).mono ?_;rw [HC.out];rintro e w0 ⟨rfl,fJ⟩;obtain ⟨Ck,L6⟩:=ay fJ;have cf:=fJ.size;simp at cf;have jn:Below w.heap.size w w0:=ah cg fJ;go_wp2_with fail
  refine (BO x _ _ _ (aZ h cg) HW.out).mono ?_;rintro e w1 ⟨ds,G,rfl,hO,bk⟩;have hR:=hO.rd;obtain ⟨kM,kN,ND,ny,nC,TD,aw,hGr,NG,TF,TG,xI,uD,xJ⟩:=aO hR;subst aw;clear hGr hR;have XB:oG w1 (w.heap.size+1+1) [.slice none 0 0,.slice none 0 0,.int .i64 0,.int .i64 0,.int .i64 0,.int .i64 0]:=oG.ext (oG.ext (oG.vx w _ _ [.slice none 0 0,.slice none 0 0,.int .i64 0,.int .i64 0,.int .i64 0,.int .i64 0] 29) fJ) bk;have HO:=I (hO.mono (B':=w.heap.size+1+1+1) J);have av:Below w.heap.size w w1:=ah jn bk;clear hO bk h fJ;try dsimp only
  iterate 2 go_step
  refine lr 29 _ _ rfl (w.heap.size+1+1) 0 [.slice kM x.Z.length kN,.slice ny x.O.length nC,.int .i64 x.next,.int .i64 x.weights.pack,.int .i64 x.weights.af,.int .i64 x.weights.an] [.slice none 0 0,.slice none 0 0,.int .i64 0,.int .i64 0,.int .i64 0,.int .i64 0] rfl rfl XB S' U' eu ?_;intro w2 YB OB;replace YB:oG w2 (w.heap.size+1+1) [.slice kM x.Z.length kN,.slice ny x.O.length nC,.int .i64 x.next,.int .i64 x.weights.pack,.int .i64 x.weights.af,.int .i64 x.weights.an]:=YB;try dsimp only [Act.put]
  go_wp2;refine bodyPost_ret (v:=.tuple #[.agg #[.slice kM x.Z.length kN,.slice ny x.O.length nC,.int .i64 x.next,.int .i64 x.weights.pack,.int .i64 x.weights.af,.int .i64 x.weights.an],.int .i64 1]) (yc Tryz.results66 _ (w.heap.size+1+1) [.slice kM x.Z.length kN,.slice ny x.O.length nC,.int .i64 x.next,.int .i64 x.weights.pack,.int .i64 x.weights.af,.int .i64 x.weights.an] _ _ rfl rfl YB Tryz.underlying29 rfl U') rfl ?_;exact ua
 ·as_aux_lemma =>
  have HC:=I hc;clear hc;simp only [if_true];go_enter Tryz.func66,Tryz.ntmps66;go_wp2_with fail
  refine (qM x _ _ _ (aZ h cg) HW.out).mono ?_;rw [HC.out];rintro e w0 ⟨rfl,fJ⟩;obtain ⟨Ck,L6⟩:=ay fJ;have cf:=fJ.size;simp at cf;have jn:Below w.heap.size w w0:=ah cg fJ;go_wp2_with fail
  refine (BO x _ _ _ (aZ h cg) HW.out).mono ?_;rintro e w1 ⟨ds,G,rfl,hO,bk⟩;have hR:=hO.rd;obtain ⟨kM,kN,ND,ny,nC,TD,aw,hGr,NG,TF,TG,xI,uD,xJ⟩:=aO hR;subst aw;clear hGr hR;have XB:oG w1 (w.heap.size+1+1) [.slice none 0 0,.slice none 0 0,.int .i64 0,.int .i64 0,.int .i64 0,.int .i64 0]:=oG.ext (oG.ext (oG.vx w _ _ [.slice none 0 0,.slice none 0 0,.int .i64 0,.int .i64 0,.int .i64 0,.int .i64 0] 29) fJ) bk;have HO:=I (hO.mono (B':=w.heap.size+1+1+1) J);have av:Below w.heap.size w w1:=ah jn bk;clear hO bk h fJ;try dsimp only
  iterate 2 go_step
  refine lr 29 _ _ rfl (w.heap.size+1+1) 0 [.slice kM x.Z.length kN,.slice ny x.O.length nC,.int .i64 x.next,.int .i64 x.weights.pack,.int .i64 x.weights.af,.int .i64 x.weights.an] [.slice none 0 0,.slice none 0 0,.int .i64 0,.int .i64 0,.int .i64 0,.int .i64 0] rfl rfl XB S' U' eu ?_;intro w2 YB OB;replace YB:oG w2 (w.heap.size+1+1) [.slice kM x.Z.length kN,.slice ny x.O.length nC,.int .i64 x.next,.int .i64 x.weights.pack,.int .i64 x.weights.af,.int .i64 x.weights.an]:=YB;try dsimp only [Act.put]
  go_wp2;refine bodyPost_ret (v:=.tuple #[.agg #[.slice kM x.Z.length kN,.slice ny x.O.length nC,.int .i64 x.next,.int .i64 x.weights.pack,.int .i64 x.weights.af,.int .i64 x.weights.an],.int .i64 8]) (yc Tryz.results66 _ (w.heap.size+1+1) [.slice kM x.Z.length kN,.slice ny x.O.length nC,.int .i64 x.next,.int .i64 x.weights.pack,.int .i64 x.weights.af,.int .i64 x.weights.an] _ _ rfl rfl YB Tryz.underlying29 rfl U') rfl ?_;exact ua
theorem aEW (w:World):Calls Tryz.prog 64 #[] w fun e w'=>e = .returned (.agg #[.slice none 0 0,.slice none 0 0,.int .i64 1,.int .i64 2,.int .i64 1,.int .i64 3])∧Below w.heap.size w w':=by
 go_enter Tryz.func64,Tryz.ntmps64;go_wp2;refine bodyPost_ret (v:=.agg #[.slice none 0 0,.slice none 0 0,.int .i64 1,.int .i64 2,.int .i64 1,.int .i64 3]) (by simp [results,Tryz.results64,go_sem, *]) rfl ⟨rfl,cg⟩
def sr:aU:=⟨[],[],1,⟨2,1,3⟩⟩
theorem aEc:cc sr :=
 ⟨by decide,by decide,by decide,by decide,by decide,(fun h hh=>by cases hh),(fun h hh=>by cases hh),List.Pairwise.nil,(fun p hp=>by cases hp),(fun p hp=>by cases hp),(fun p hp=>by cases hp),List.Pairwise.nil,List.Pairwise.nil⟩
theorem am.sr (w:World) (B:Nat):am w B Go.Proofs.YtjahcnjmjahbaaaGreat.sr [.slice none 0 0,.slice none 0 0,.int .i64 1,.int .i64 2,.int .i64 1,.int .i64 3] []:=by
 refine am.up (B':=B) (fun x:aU=>(x.Z,x.O,x.next,x.weights)) ?_ (Nat.le_refl _);have h1:am w B ([]:List az) [.slice none 0 0] []:=am.dy (Sl.nil w none 0 (Nat.zero_le _));have h2:am w B ([]:List ai) [.slice none 0 0] []:=am.dy (Sl.nil w none 0 (Nat.zero_le _));have h3:am w B ((1:Int),(⟨2,1,3⟩:rZ)) ([.int .i64 1]++[.int .i64 2,.int .i64 1,.int .i64 3]) []:=am.cons (jL w 1 pC) (am.dy (Zj w ⟨2,1,3⟩ Sg Sg Sg));exact am.b9 h1 (am.b9 h2 h3 (Nat.le_refl _) (fun b hb=>by cases hb)) (Nat.le_refl _) (fun b hb=>by cases hb)
theorem aAA (w:World) (c:Nat) (A:Option Addr) (n aL:Nat) (h:cr w c A n aL) :
 Calls Tryz.prog 26 #[.pointer (some ⟨c,0,none⟩)] w fun e w'=>∃(x:aU) (cs:List Value) (G:List Nat),e = .returned (.agg cs.toArray)∧am w' w.heap.size x cs G∧cc x∧cr w' c A n aL∧nN [c] w w':=by
 have ap:=h.lt;have HC:=I h;clear h;go_enter Tryz.func26,Tryz.ntmps26;go_wp2_with fail
 refine (aEW _).mono ?_;rintro e w1 ⟨rfl,bk⟩;have cQ:=bk.size;simp at cQ;have X1:=I (((oG.new w [.slice none 0 0,.slice none 0 0,.int .i64 0,.int .i64 0,.int .i64 0,.int .i64 0] 29).ext bk).ext (ak (aj _) (.cells ([.slice none 0 0,.slice none 0 0,.int .i64 0,.int .i64 0,.int .i64 0,.int .i64 0]:List Value).toArray 29)));have fN:=I ((HC.out.ext (ak (aj _) (.cells ([.slice none 0 0,.slice none 0 0,.int .i64 0,.int .i64 0,.int .i64 0,.int .i64 0]:List Value).toArray 29))).ext bk);have da:=fN.out.lt;have i6:=I (fN.out.ext (ak (aj _) (.cells ([.slice none 0 0,.slice none 0 0,.int .i64 0,.int .i64 0,.int .i64 0,.int .i64 0]:List Value).toArray 29)));have HB:=I (nN.lq [c] (ak (ah cg bk:Below w.heap.size w w1) (.cells ([.slice none 0 0,.slice none 0 0,.int .i64 0,.int .i64 0,.int .i64 0,.int .i64 0]:List Value).toArray 29)));clear bk HC fN;try dsimp only
 iterate 5 go_step
 refine lr 29 _ _ rfl w1.heap.size 0 [.slice none 0 0,.slice none 0 0,.int .i64 1,.int .i64 2,.int .i64 1,.int .i64 3] [.slice none 0 0,.slice none 0 0,.int .i64 0,.int .i64 0,.int .i64 0,.int .i64 0] rfl rfl (oG.new w1 _ 29) S' U' eu ?_;intro w2 Y2 O2;replace Y2:oG w2 w1.heap.size [.slice none 0 0,.slice none 0 0,.int .i64 1,.int .i64 2,.int .i64 1,.int .i64 3]:=Y2;have cD:w2.heap.size = w1.heap.size+1:=by rw [O2.size];simp
 have X2:=I (X1.out.only O2 J);have mI:=I (HB.out.only O2 J);have oB:=I (i6.out.only O2 J);have QE:=I Y2;have HZ2:=I cD;clear X1 HB i6 O2 Y2 cD;go_wp2_with fail
 go_loopw [4] (fun i wr=>∃(k:Nat) (x:aU) (Ah Ap:Option Addr) (ch cp:Nat) (G:List Nat),i = .int .i64 k∧(k:Int)≤20∧Hid (am wr (w1.heap.size+1) x [.slice Ah x.Z.length ch,.slice Ap x.O.length cp,.int .i64 x.next,.int .i64 x.weights.pack,.int .i64 x.weights.af,.int .i64 x.weights.an] G∧cc x∧oG wr w1.heap.size [.slice Ah x.Z.length ch,.slice Ap x.O.length cp,.int .i64 x.next,.int .i64 x.weights.pack,.int .i64 x.weights.af,.int .i64 x.weights.an]∧oG wr w.heap.size [.slice none 0 0,.slice none 0 0,.int .i64 0,.int .i64 0,.int .i64 0,.int .i64 0]∧cr wr c A n aL∧nN [c] w wr∧w1.heap.size+1≤wr.heap.size)) (fun i _=>20 - (intOf i).toNat)
 case atStart =>exact ⟨0,sr,none,none,0,0,[],rfl,J,I ⟨am.sr _ _,aEc,QE.out,X2.out,oB.out,mI.out,by rw [HZ2.out];exact Nat.le_refl _⟩⟩
 case round =>
  obtain ⟨k,x,Ah,Ap,ch,cp,G,rfl,hk,HX⟩:=hrel;obtain ⟨hO,hG,hY,hX,hC,hU,hz⟩:=HX.out;have HG:=I hG;clear hG HX X2 mI oB QE HZ2;have HO:=I hO;have HY:=I hY;have Mz:=I hX;have HC:=I hC;have HU:=I hU;clear hO hY hX hC hU;go_wp2_with fail
  refine (lO 16 J _ c A n aL HC.out).mono ?_;rintro e w3 ⟨r,rfl,hr,H3,b8⟩;have gz:=I (HO.out.drawn b8 J);have nG:=I (HY.out.bX b8 J);have vj:=I (Mz.out.bX b8 J);have nA:=I (HU.out.trans b8);have gc:=I H3;have eK:=b8.size;clear H3 b8 HO HY Mz HU HC;by_cases hkr:(k:Int) < 4+r
  ·go_wp2_with fail
   refine azp (fun w'=>oG w' w1.heap.size [.slice Ah x.Z.length ch,.slice Ap x.O.length cp,.int .i64 x.next,.int .i64 x.weights.pack,.int .i64 x.weights.af,.int .i64 x.weights.an]) (fun _=>True) [0] [1,2] 5 U' U' H' (nG.out.ext (aA (aj _))) ?_;simp only [cH,List.getElem?_cons_succ,List.getElem?_cons_zero];refine dR (.agg #[.slice Ah x.Z.length ch,.slice Ap x.O.length cp,.int .i64 x.next,.int .i64 x.weights.pack,.int .i64 x.weights.af,.int .i64 x.weights.an]) (yieldsIf_load_mid rfl 29 _ rfl w1.heap.size 0 rfl [.slice Ah x.Z.length ch,.slice Ap x.O.length cp,.int .i64 x.next,.int .i64 x.weights.pack,.int .i64 x.weights.af,.int .i64 x.weights.an] _ (fun w' hJ=>hJ.range) Tryz.underlying29 rfl U') ?_;simp only [Act.put,pz];refine fE ?_;refine iK rfl (fun K hK=>?_);go_simp;refine hK _ _ (nG.out.ext (aA (aj _))) ?_;try simp only [Act.put,pz]
   clear hK K;refine iK rfl (fun K hK=>?_);go_simp;refine (aGl _ c A n aL gc.out.drew).mono ?_;rintro e w4 ⟨d,ds,Gd,rfl,hOd,hwd,hnd,gg,H4,Td⟩;have tt:=(nN.lq [c] (aA (aj w3))).trans Td;have kB:=I (gz.out.drawn tt J);have EC:=I (nG.out.bX tt J);have CE:=I (vj.out.bX tt J);have nQ:=I (nA.out.trans tt);have gS:=I H4;have HOD:=I hOd;have Wy:=tt.size;clear H4 Td tt gz nG vj nA gc hOd;refine hK _ _ EC.out ?_;try simp only [Act.put,pz]
   clear hK K;refine yG ?_;have fW:=L0 HG.out;refine bP 3 X U' X (fun K hK=>?_);go_simp;refine (aBg x _ _ d _ _ w4 kB.out.rd HOD.out.rd J J).mono ?_;have HG5:=I (aBf HG.out d);generalize fy x d = RR at *;obtain ⟨R,cd⟩:=RR;rintro e w5 ⟨es,G5,rfl,fH,bo⟩;dsimp only at fH ⊢;have hR:=fH.rd;obtain ⟨kM,kN,ND,ny,nC,TD,aw,hGr,NG,TF,TG,xI,uD,xJ⟩:=aO hR;subst aw;clear hGr hR;have qm:=I fH;have MU:=EC.out.ext bo;have vh:=I (CE.out.ext bo);have sH:=I (nQ.out.oT bo J);have jb:=I (gS.out.ext bo);have Es:=bo.size;clear bo fH kB EC CE nQ gS HOD;refine hK _ _ trivial ?_;try simp only [Act.put,pz]
   clear hK K;refine bP 4 X U' X (fun K hK=>?_);go_simp;refine hK _ _ trivial ?_;try simp only [Act.put,pz]
   clear hK K
   refine aX 5 _ X U' H' trivial (Or.inl ⟨rfl,fun wq hq=>by
    go_simp
    try rfl⟩) ?_
   try simp only [Act.put,pz]
   refine aX 6 _ X U' H' trivial (Or.inl ⟨rfl,fun wq hq=>by
    go_simp
    try rfl⟩) ?_
   try simp only [Act.put,pz]
   refine bP 7 X U' X (fun K hK=>?_);refine lr 29 _ _ rfl w1.heap.size 0 [.slice kM R.Z.length kN,.slice ny R.O.length nC,.int .i64 R.next,.int .i64 R.weights.pack,.int .i64 R.weights.af,.int .i64 R.weights.an] [.slice Ah x.Z.length ch,.slice Ap x.O.length cp,.int .i64 x.next,.int .i64 x.weights.pack,.int .i64 x.weights.af,.int .i64 x.weights.an] rfl rfl MU S' U' eu ?_;intro w6 Y6 O6;replace Y6:oG w6 w1.heap.size [.slice kM R.Z.length kN,.slice ny R.O.length nC,.int .i64 R.next,.int .i64 R.weights.pack,.int .i64 R.weights.af,.int .i64 R.weights.an]:=Y6;refine hK _ _ trivial ?_;try simp only [Act.put,pz]
   clear hK K;refine nR U' ?_;have vi:=I ((qm.out.only O6 (fun b hb=>by have:=qm.out.base b hb;omega)).mono (B':=w1.heap.size+1) J);have VG:=I (vh.out.only O6 J);have HU6:=I (sH.out.only O6 J);have tm:=I (jb.out.only O6 da);have sC:=O6.size;have QH:=I Y6;have Qt:(k:Int)+1≤20:=J;clear qm MU vh sH jb O6 Y6;go_wp2;exact ⟨⟨k+1,R,_,_,_,_,G5,N',J,I ⟨vi.out,HG5.out,QH.out,VG.out,tm.out,HU6.out,J⟩⟩,by simp only [intOf];omega⟩
  ·have yy:=nG.out;have xx:=vj.out;obtain ⟨EB,aAC,aAD,aAE,aAF,aAG,aAH,aAI,aAJ,aAK,aAL,aAM⟩:=lH yy;obtain ⟨CH,azr,azs,azt,azu,azv,azw,azx,azy,azz,azA,azB⟩:=lH xx;clear yy xx nG vj;go_wp2;refine bodyPost_ret (v:=.agg #[.slice Ah x.Z.length ch,.slice Ap x.O.length cp,.int .i64 x.next,.int .i64 x.weights.pack,.int .i64 x.weights.af,.int .i64 x.weights.an]) (by simp [results,Tryz.results26,go_sem, *]) rfl ?_;exact ⟨x,[.slice Ah x.Z.length ch,.slice Ap x.O.length cp,.int .i64 x.next,.int .i64 x.weights.pack,.int .i64 x.weights.af,.int .i64 x.weights.an],G,rfl,(((((((gz.out.setCell (p:=⟨w.heap.size,0,none⟩) bz _).setCell (p:=⟨w.heap.size,1,none⟩) bz _).setCell (p:=⟨w.heap.size,2,none⟩) bz _).setCell (p:=⟨w.heap.size,3,none⟩) bz _).setCell (p:=⟨w.heap.size,4,none⟩) bz _).setCell (p:=⟨w.heap.size,5,none⟩) bz _)).mono J,HG.out,((((((gc.out.bE ap 0 _).bE ap 1 _).bE ap 2 _).bE ap 3 _).bE ap 4 _).bE ap 5 _),((((((nA.out.new (Nat.le_refl _) 0 _).new (Nat.le_refl _) 1 _).new (Nat.le_refl _) 2 _).new (Nat.le_refl _) 3 _).new (Nat.le_refl _) 4 _).new (Nat.le_refl _) 5 _)⟩
theorem ayG (w:World) (A:Option Addr) (n aL:Nat) (hn:(n:Int)≤1048576) (cU:∀k,k < n→∃(g o:Nat) (v:Int),A = some ⟨g,o,none⟩∧g < w.heap.size∧w.cell? ⟨g,o+k,none⟩ = some (.int .u8 v)∧0≤v∧v≤255) :
 Calls Tryz.prog 7 #[.slice A n aL] w fun e w'=>∃(x:aU) (cs:List Value) (G:List Nat),e = .returned (.agg cs.toArray)∧am w' w.heap.size x cs G∧cc x∧Below w.heap.size w w':=by
 have HS:=I cU;clear cU;go_enter Tryz.func7,Tryz.ntmps7;go_wp2_with fail
 refine (aBW _ A n aL hn (fun k hk=>?_)).mono ?_
 ·obtain ⟨g,o,v,e,hg,hv,gN⟩:=HS.out k hk;exact ⟨g,o,v,e,by simp;omega,((ak (aj w) _).cell (p:=⟨g,o+k,none⟩) hg).trans hv,gN⟩
 rintro e w1 ⟨c,rfl,hc,H1,bk⟩;have cQ:=bk.size;simp at cQ hc;have HX:=I ((oG.new w [.slice none 0 0,.slice none 0 0,.int .i64 0,.int .i64 0,.int .i64 0,.int .i64 0] 29).ext bk);have HB:=I (ah cg bk:Below w.heap.size w w1);have HC:=I H1;clear H1 bk HS;go_wp2_with fail
 refine (aAA _ c A n aL HC.out).mono ?_;rintro e w2 ⟨x,cs,G,rfl,hO,hG,H2,cR⟩;have hR:=hO.rd;obtain ⟨kM,kN,ND,ny,nC,TD,aw,hGr,NG,TF,TG,xI,uD,xJ⟩:=aO hR;subst aw;clear hGr hR;have HO:=I hO;have HG:=I hG;have xx:=HX.out.bX cR J;have kp:=I (HB.out.trans (cR.aM (B:=w.heap.size) (fun b hb=>by rw [List.mem_singleton] at hb;omega) J));have cD:=cR.size;obtain ⟨CH,azr,azs,azt,azu,azv,azw,azx,azy,azz,azA,azB⟩:=lH xx;clear xx hO hG H2 cR HB HC HX;go_wp2;refine bodyPost_ret (v:=.agg #[.slice kM x.Z.length kN,.slice ny x.O.length nC,.int .i64 x.next,.int .i64 x.weights.pack,.int .i64 x.weights.af,.int .i64 x.weights.an]) (by simp [results,Tryz.results7,go_sem, *]) rfl ?_;refine ⟨x,[.slice kM x.Z.length kN,.slice ny x.O.length nC,.int .i64 x.next,.int .i64 x.weights.pack,.int .i64 x.weights.af,.int .i64 x.weights.an],G,rfl,(((((((HO.out.setCell (p:=⟨w.heap.size,0,none⟩) bz _).setCell (p:=⟨w.heap.size,1,none⟩) bz _).setCell (p:=⟨w.heap.size,2,none⟩) bz _).setCell (p:=⟨w.heap.size,3,none⟩) bz _).setCell (p:=⟨w.heap.size,4,none⟩) bz _).setCell (p:=⟨w.heap.size,5,none⟩) bz _)).mono J,HG.out,?_⟩;exact (by repeat (first | with_reducible exact kp.out | with_reducible refine aC ?_ bz _))
theorem ayY (A:Option Addr) (n aL:Nat) (w:World):Calls Tryz.prog 6 #[.slice A n aL] w fun e w'=>e = .returned (.bool (decide ((1048576:Int) < n)))∧Below w.heap.size w w':=by
 by_cases h:(1048576:Int) < n
 all_goals
  go_enter Tryz.func6,Tryz.ntmps6;go_wp2;go_ret
  exact ⟨(by simp;omega),aj _⟩
theorem aFG {w:World} {x:aU} {Ah Ap:Option Addr} {nh ch np cp:Nat} {r:List Value} {F:List Nat} (h:rd w x (.slice Ah nh ch :: .slice Ap np cp :: r) F):∃F1 F2,Sl w x.Z Ah ch F1∧Sl w x.O Ap cp F2:=by
 obtain ⟨A1,c1,F1,A2,c2,F2,aw,_,h1,h2,_⟩:=aO h;simp only [List.cons.injEq,Value.slice.injEq] at aw;obtain ⟨⟨rfl,_,rfl⟩,⟨rfl,_,rfl⟩,_⟩:=aw;exact ⟨F1,F2,h1,h2⟩
theorem am.QI {α:Type} [bd α] {w w':World} {B:Nat} {x:α} {cs:List Value} {F:List Nat} (h:am w B x cs F) (hb:Below w.heap.size w w'):Go.Proofs.YtjahcnjmjahbaaaGreat.bd.rd w' x cs F:=(h.ext hb).rd
theorem aAQ {w:World} {xs:List UInt8} {A:Option Addr} {aL:Nat} {F:List Nat} (h:Sl w xs A aL F):∀k,k < xs.length→∃(g o:Nat) (v:Int),A = some ⟨g,o,none⟩∧g < w.heap.size∧w.cell? ⟨g,o+k,none⟩ = some (.int .u8 v)∧0≤v∧v≤255:=by
 intro k hk;obtain ⟨b,o,ck,Fk,rfl,_,hb,hr,_,hc⟩:=h.get hk;have h0:=hc 0 (.int .u8 (xs[k].toNat:Int)) (by rw [hr.1];rfl);rw [show o+(k * bd.size UInt8+0) = o+k by show o+(k * 1+0) = o+k;omega] at h0;have:=xs[k].toNat_lt;exact ⟨b,o,_,rfl,hb,h0,J,J⟩
end Go.Proofs.YtjahcnjmjahbaaaGreat
