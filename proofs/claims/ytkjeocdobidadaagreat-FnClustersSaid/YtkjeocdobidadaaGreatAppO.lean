/- Applied of the reference, over an operation as data. No condition. -/
import Derived.Test.YtkjeocdobidadaaGreatAppM
import Derived.Test.YtkjeocdobidadaaGreatDeed
import Derived.Test.YtkjeocdobidadaaGreatNextS
import Derived.Test.YtkjeocdobidadaaGreatOpsHS
import Derived.Test.YtkjeocdobidadaaGreatOpsPS
import Derived.Test.YtkjeocdobidadaaGreatOpsP
import Derived.Test.YtkjeocdobidadaaGreatDrawO
import Derived.Test.YtkjeocdobidadaaGreatRegionCut
import Derived.Test.YtkjeocdobidadaaGreatOrdP
import Derived.Test.YtkjeocdobidadaaGreatWaitLawP
namespace Go.Proofs.YtkjeocdobidadaaGreat
open Go.ChangeShapes Go.WideShapes Go.ChangeAt Go.RowKit
set_option linter.unusedVariables false
set_option linter.unusedSimpArgs false
set_option maxHeartbeats 8000000
set_option maxRecDepth 100000
def applied (x:aU) (d:Deed):aU × Int :=
 if d.kind = 1 then applyM x d.man else if d.kind = 2 then Ko x d.name else if d.kind = 3 then Ut x d.name else if d.kind = 4 then ((placeP x d.name).1,(placeP x d.name).2.2)
 else if d.kind = 5 then ((placeNextP x).1,(placeNextP x).2.2.2) else if d.kind = 6 then setW x d.weights else (x,if iI x = true then 8 else 1)
theorem applyM_good {x:aU} (G:Good x) (m:Manifest):Good (applyM x m).1:=by
 unfold applyM;split
 ·exact addQ_good G _
 ·split
  ·exact addH_good G _
  ·exact G
theorem applied_good {x:aU} (G:Good x) (d:Deed):Good (applied x d).1:=by
 unfold applied;split
 ·exact applyM_good G _
 ·split
  ·exact dropH_good G _
  ·split
   ·exact delP_good G _
   ·split
    ·exact placeP_good G _
    ·split
     ·exact placeNextP_good G
     ·split
      ·exact setW_good G _
      ·exact G
theorem Applied_spec (x:aU) (cs:List Value) (F:List Nat) (d:Deed) (ms:List Value) (Fm:List Nat) (w:World) (h:rd w x cs F) (h':rd w d ms Fm) (hw:(x.wt:Int)≤1048576) (hm:(d.man.wt:Int)≤1048576) :
 Calls Tryz.prog 11 #[.agg cs.toArray,.agg ms.toArray] w fun e w'=>∃ds G,e = .returned (.tuple #[.agg ds.toArray,.int .i64 (applied x d).2])∧Own w' w.heap.size (applied x d).1 ds G∧Below w.heap.size w w':=by
 have HW:=I' hw;clear hw;have hr:=h;obtain ⟨Ahostsx,chostsx,Fhostsx,Apodsx,cpodsx,Fpodsx,hck,qp,hhostsx,hpodsx,hnextx,hweightspackx,hweightsspreadx,hweightssoftx⟩:=aO hr;subst hck;clear qp hr;obtain ⟨k,nm,m,wt⟩:=d;have HWM:=I' hm;clear hm;dsimp only at HWM;obtain ⟨_,_,_,_,rfl,rfl,⟨rfl,rfl,hkind⟩,_,_,_,_,rfl,rfl,⟨rfl,rfl,hnm⟩,_,_,_,_,rfl,rfl,hman,hwts⟩:=h';dsimp only at hkind hnm hman hwts ⊢;have hm2:=hman;have hw2:=hwts;obtain ⟨Apodlabelsm,cpodlabelsm,Fpodlabelsm,Apodneedsm,cpodneedsm,Fpodneedsm,Apodtolerancesm,cpodtolerancesm,Fpodtolerancesm,Ahostlabelsm,chostlabelsm,Fhostlabelsm,Ahosttaintsm,chosttaintsm,Fhosttaintsm,hck,hFm,hkindm,hpodnamem,hpodlabelsm,hpodcpum,hpodmemm,hpodrankm,hpodneedsm,hpodtolerancesm,hhostnamem,hhostlabelsm,hhostcpum,hhostmemm,hhostslotsm,hhosttaintsm⟩:=NS hm2;subst hck;obtain ⟨hck,hFw,hpk,hsp,hso⟩:=mg hw2;subst hck;clear hFm hFw hm2 hw2;unfold applied;dsimp only;by_cases h1:k = 1
 ·as_aux_lemma =>
  subst h1;rw [if_pos rfl];have HS:=I' (fun cs F us Fu wq a b=>ApplyManifest_spec x cs F m us Fu wq a b HW.out HWM.out);generalize applyM x m = RR at *;obtain ⟨R,cd⟩:=RR;dsimp only at HS ⊢;go_enter Tryz.func11,Tryz.ntmps11;go_wp2_with fail
  refine (HS.out _ _ _ _ _ (aZ h atT) (aZ hman atT)).mono ?_;exact Zaap
 rw [if_neg h1];by_cases h2:k = 2
 ·as_aux_lemma =>
  subst h2;rw [if_pos rfl];have HS:=I' (fun cs F wq a=>ah2 x cs F nm wq a HW.out);generalize Ko x nm = RR at *;exact Zafq
 rw [if_neg h2];by_cases h3:k = 3
 ·as_aux_lemma =>
  subst h3;rw [if_pos rfl];have HS:=I' (fun cs F wq a=>afS x cs F nm wq a HW.out);generalize Ut x nm = RR at *;exact Zafq
 rw [if_neg h3];by_cases h4:k = 4
 ·as_aux_lemma =>
  subst h4;rw [if_pos rfl];have HS:=I' (fun cs F wq a=>PlacePod_spec x cs F nm wq a HW.out);generalize placeP x nm = RR at *;obtain ⟨R,hst,cd⟩:=RR;dsimp only at HS ⊢;go_enter Tryz.func11,Tryz.ntmps11;go_wp2_with fail
  refine (HS.out _ _ _ (aZ h atT)).mono ?_;rintro e w1 ⟨ds,G,rfl,hO,hb1⟩;have hR:=hO.rd;obtain ⟨kM,kN,ND,ny,nC,TD,hck,hGr,NG,TF,TG,xI,uD,xJ⟩:=aO hR;subst hck;clear hGr hR;have hz1:=hb1.size;simp at hz1;have XB:=I' (oG.ext (oG.ext (oG.new3 w _ _ [.slice none 0 0,.slice none 0 0,.int .i64 0,.int .i64 0,.int .i64 0,.int .i64 0] 29) hb1) (ak (aj _) (.cells ([.slice none 0 0,.slice none 0 0,.int .i64 0,.int .i64 0,.int .i64 0,.int .i64 0]:List Value).toArray 29)));have HO:=I' ((hO.mono (B':=w.heap.size+1+1+1) S').alloc (.cells ([.slice none 0 0,.slice none 0 0,.int .i64 0,.int .i64 0,.int .i64 0,.int .i64 0]:List Value).toArray 29));have HGL:=I' hO.lt;have HB:=I' (ak (ah atT hb1:Below w.heap.size w w1) (.cells ([.slice none 0 0,.slice none 0 0,.int .i64 0,.int .i64 0,.int .i64 0,.int .i64 0]:List Value).toArray 29));clear hO hb1 h;try dsimp only
  iterate 17 go_step
  refine wp_storeB 29 _ _ rfl w1.heap.size 0 [.slice kM R.hosts.length kN,.slice ny R.au.length nC,.int .i64 R.next,.int .i64 R.weights.pack,.int .i64 R.weights.spread,.int .i64 R.weights.soft] [.slice none 0 0,.slice none 0 0,.int .i64 0,.int .i64 0,.int .i64 0,.int .i64 0] rfl rfl (oG.new w1 _ 29) S' U' aub ?_;intro w2 YB OB;replace YB:oG w2 w1.heap.size [.slice kM R.hosts.length kN,.slice ny R.au.length nC,.int .i64 R.next,.int .i64 R.weights.pack,.int .i64 R.weights.spread,.int .i64 R.weights.soft]:=YB;have XB2:=XB.out.only OB O';try dsimp only [Act.put]
  iterate 6 go_step
  first
   | (refine wp_loadB 29 _ rfl w1.heap.size [.slice kM R.hosts.length kN,.slice ny R.au.length nC,.int .i64 R.next,.int .i64 R.weights.pack,.int .i64 R.weights.spread,.int .i64 R.weights.soft] rfl _ YB Tryz.underlying29 rfl U' ?_)
   | (go_step;refine wp_loadB 29 _ rfl w1.heap.size [.slice kM R.hosts.length kN,.slice ny R.au.length nC,.int .i64 R.next,.int .i64 R.weights.pack,.int .i64 R.weights.spread,.int .i64 R.weights.soft] rfl _ YB Tryz.underlying29 rfl U' ?_)
   | (go_step;go_step;refine wp_loadB 29 _ rfl w1.heap.size [.slice kM R.hosts.length kN,.slice ny R.au.length nC,.int .i64 R.next,.int .i64 R.weights.pack,.int .i64 R.weights.spread,.int .i64 R.weights.soft] rfl _ YB Tryz.underlying29 rfl U' ?_)
   | (go_step;go_step;go_step;refine wp_loadB 29 _ rfl w1.heap.size [.slice kM R.hosts.length kN,.slice ny R.au.length nC,.int .i64 R.next,.int .i64 R.weights.pack,.int .i64 R.weights.spread,.int .i64 R.weights.soft] rfl _ YB Tryz.underlying29 rfl U' ?_)
   | (go_step;go_step;go_step;go_step;refine wp_loadB 29 _ rfl w1.heap.size [.slice kM R.hosts.length kN,.slice ny R.au.length nC,.int .i64 R.next,.int .i64 R.weights.pack,.int .i64 R.weights.spread,.int .i64 R.weights.soft] rfl _ YB Tryz.underlying29 rfl U' ?_)
   | (go_step;go_step;go_step;go_step;go_step;refine wp_loadB 29 _ rfl w1.heap.size [.slice kM R.hosts.length kN,.slice ny R.au.length nC,.int .i64 R.next,.int .i64 R.weights.pack,.int .i64 R.weights.spread,.int .i64 R.weights.soft] rfl _ YB Tryz.underlying29 rfl U' ?_)
   | (go_step;go_step;go_step;go_step;go_step;go_step;refine wp_loadB 29 _ rfl w1.heap.size [.slice kM R.hosts.length kN,.slice ny R.au.length nC,.int .i64 R.next,.int .i64 R.weights.pack,.int .i64 R.weights.spread,.int .i64 R.weights.soft] rfl _ YB Tryz.underlying29 rfl U' ?_)
   | (go_step;go_step;go_step;go_step;go_step;go_step;go_step;refine wp_loadB 29 _ rfl w1.heap.size [.slice kM R.hosts.length kN,.slice ny R.au.length nC,.int .i64 R.next,.int .i64 R.weights.pack,.int .i64 R.weights.spread,.int .i64 R.weights.soft] rfl _ YB Tryz.underlying29 rfl U' ?_)
   | (go_step;go_step;go_step;go_step;go_step;go_step;go_step;go_step;refine wp_loadB 29 _ rfl w1.heap.size [.slice kM R.hosts.length kN,.slice ny R.au.length nC,.int .i64 R.next,.int .i64 R.weights.pack,.int .i64 R.weights.spread,.int .i64 R.weights.soft] rfl _ YB Tryz.underlying29 rfl U' ?_)
   | (go_step;go_step;go_step;go_step;go_step;go_step;go_step;go_step;go_step;refine wp_loadB 29 _ rfl w1.heap.size [.slice kM R.hosts.length kN,.slice ny R.au.length nC,.int .i64 R.next,.int .i64 R.weights.pack,.int .i64 R.weights.spread,.int .i64 R.weights.soft] rfl _ YB Tryz.underlying29 rfl U' ?_)
   | (go_step;go_step;go_step;go_step;go_step;go_step;go_step;go_step;go_step;go_step;refine wp_loadB 29 _ rfl w1.heap.size [.slice kM R.hosts.length kN,.slice ny R.au.length nC,.int .i64 R.next,.int .i64 R.weights.pack,.int .i64 R.weights.spread,.int .i64 R.weights.soft] rfl _ YB Tryz.underlying29 rfl U' ?_)
   | (go_step;go_step;go_step;go_step;go_step;go_step;go_step;go_step;go_step;go_step;go_step;refine wp_loadB 29 _ rfl w1.heap.size [.slice kM R.hosts.length kN,.slice ny R.au.length nC,.int .i64 R.next,.int .i64 R.weights.pack,.int .i64 R.weights.spread,.int .i64 R.weights.soft] rfl _ YB Tryz.underlying29 rfl U' ?_)
   | (go_step;go_step;go_step;go_step;go_step;go_step;go_step;go_step;go_step;go_step;go_step;go_step;refine wp_loadB 29 _ rfl w1.heap.size [.slice kM R.hosts.length kN,.slice ny R.au.length nC,.int .i64 R.next,.int .i64 R.weights.pack,.int .i64 R.weights.spread,.int .i64 R.weights.soft] rfl _ YB Tryz.underlying29 rfl U' ?_)
   | (go_step;go_step;go_step;go_step;go_step;go_step;go_step;go_step;go_step;go_step;go_step;go_step;go_step;refine wp_loadB 29 _ rfl w1.heap.size [.slice kM R.hosts.length kN,.slice ny R.au.length nC,.int .i64 R.next,.int .i64 R.weights.pack,.int .i64 R.weights.spread,.int .i64 R.weights.soft] rfl _ YB Tryz.underlying29 rfl U' ?_)
  exact Zabo
 rw [if_neg h4];by_cases h5:k = 5
 ·as_aux_lemma =>
  subst h5;rw [if_pos rfl];have HS:=I' (fun cs F wq a=>PlaceNext_spec x cs F wq a HW.out);generalize placeNextP x = RR at *;obtain ⟨R,hst,hst2,cd⟩:=RR;dsimp only at HS ⊢;go_enter Tryz.func11,Tryz.ntmps11;go_wp2_with fail
  refine (HS.out _ _ _ (aZ h atT)).mono ?_;rintro e w1 ⟨ds,G,rfl,hO,hb1⟩;have hR:=hO.rd;obtain ⟨kM,kN,ND,ny,nC,TD,hck,hGr,NG,TF,TG,xI,uD,xJ⟩:=aO hR;subst hck;clear hGr hR;have hz1:=hb1.size;simp at hz1;have XB:=I' (oG.ext (oG.ext (oG.new3 w _ _ [.slice none 0 0,.slice none 0 0,.int .i64 0,.int .i64 0,.int .i64 0,.int .i64 0] 29) hb1) (ak (aj _) (.cells ([.slice none 0 0,.slice none 0 0,.int .i64 0,.int .i64 0,.int .i64 0,.int .i64 0]:List Value).toArray 29)));have HO:=I' ((hO.mono (B':=w.heap.size+1+1+1) S').alloc (.cells ([.slice none 0 0,.slice none 0 0,.int .i64 0,.int .i64 0,.int .i64 0,.int .i64 0]:List Value).toArray 29));have HGL:=I' hO.lt;have HB:=I' (ak (ah atT hb1:Below w.heap.size w w1) (.cells ([.slice none 0 0,.slice none 0 0,.int .i64 0,.int .i64 0,.int .i64 0,.int .i64 0]:List Value).toArray 29));clear hO hb1 h;try dsimp only
  iterate 20 go_step
  refine wp_storeB 29 _ _ rfl w1.heap.size 0 [.slice kM R.hosts.length kN,.slice ny R.au.length nC,.int .i64 R.next,.int .i64 R.weights.pack,.int .i64 R.weights.spread,.int .i64 R.weights.soft] [.slice none 0 0,.slice none 0 0,.int .i64 0,.int .i64 0,.int .i64 0,.int .i64 0] rfl rfl (oG.new w1 _ 29) S' U' aub ?_;intro w2 YB OB;replace YB:oG w2 w1.heap.size [.slice kM R.hosts.length kN,.slice ny R.au.length nC,.int .i64 R.next,.int .i64 R.weights.pack,.int .i64 R.weights.spread,.int .i64 R.weights.soft]:=YB;have XB2:=XB.out.only OB O';try dsimp only [Act.put]
  iterate 9 go_step
  first
   | (refine wp_loadB 29 _ rfl w1.heap.size [.slice kM R.hosts.length kN,.slice ny R.au.length nC,.int .i64 R.next,.int .i64 R.weights.pack,.int .i64 R.weights.spread,.int .i64 R.weights.soft] rfl _ YB Tryz.underlying29 rfl U' ?_)
   | (go_step;refine wp_loadB 29 _ rfl w1.heap.size [.slice kM R.hosts.length kN,.slice ny R.au.length nC,.int .i64 R.next,.int .i64 R.weights.pack,.int .i64 R.weights.spread,.int .i64 R.weights.soft] rfl _ YB Tryz.underlying29 rfl U' ?_)
   | (go_step;go_step;refine wp_loadB 29 _ rfl w1.heap.size [.slice kM R.hosts.length kN,.slice ny R.au.length nC,.int .i64 R.next,.int .i64 R.weights.pack,.int .i64 R.weights.spread,.int .i64 R.weights.soft] rfl _ YB Tryz.underlying29 rfl U' ?_)
   | (go_step;go_step;go_step;refine wp_loadB 29 _ rfl w1.heap.size [.slice kM R.hosts.length kN,.slice ny R.au.length nC,.int .i64 R.next,.int .i64 R.weights.pack,.int .i64 R.weights.spread,.int .i64 R.weights.soft] rfl _ YB Tryz.underlying29 rfl U' ?_)
   | (go_step;go_step;go_step;go_step;refine wp_loadB 29 _ rfl w1.heap.size [.slice kM R.hosts.length kN,.slice ny R.au.length nC,.int .i64 R.next,.int .i64 R.weights.pack,.int .i64 R.weights.spread,.int .i64 R.weights.soft] rfl _ YB Tryz.underlying29 rfl U' ?_)
   | (go_step;go_step;go_step;go_step;go_step;refine wp_loadB 29 _ rfl w1.heap.size [.slice kM R.hosts.length kN,.slice ny R.au.length nC,.int .i64 R.next,.int .i64 R.weights.pack,.int .i64 R.weights.spread,.int .i64 R.weights.soft] rfl _ YB Tryz.underlying29 rfl U' ?_)
   | (go_step;go_step;go_step;go_step;go_step;go_step;refine wp_loadB 29 _ rfl w1.heap.size [.slice kM R.hosts.length kN,.slice ny R.au.length nC,.int .i64 R.next,.int .i64 R.weights.pack,.int .i64 R.weights.spread,.int .i64 R.weights.soft] rfl _ YB Tryz.underlying29 rfl U' ?_)
   | (go_step;go_step;go_step;go_step;go_step;go_step;go_step;refine wp_loadB 29 _ rfl w1.heap.size [.slice kM R.hosts.length kN,.slice ny R.au.length nC,.int .i64 R.next,.int .i64 R.weights.pack,.int .i64 R.weights.spread,.int .i64 R.weights.soft] rfl _ YB Tryz.underlying29 rfl U' ?_)
   | (go_step;go_step;go_step;go_step;go_step;go_step;go_step;go_step;refine wp_loadB 29 _ rfl w1.heap.size [.slice kM R.hosts.length kN,.slice ny R.au.length nC,.int .i64 R.next,.int .i64 R.weights.pack,.int .i64 R.weights.spread,.int .i64 R.weights.soft] rfl _ YB Tryz.underlying29 rfl U' ?_)
   | (go_step;go_step;go_step;go_step;go_step;go_step;go_step;go_step;go_step;refine wp_loadB 29 _ rfl w1.heap.size [.slice kM R.hosts.length kN,.slice ny R.au.length nC,.int .i64 R.next,.int .i64 R.weights.pack,.int .i64 R.weights.spread,.int .i64 R.weights.soft] rfl _ YB Tryz.underlying29 rfl U' ?_)
   | (go_step;go_step;go_step;go_step;go_step;go_step;go_step;go_step;go_step;go_step;refine wp_loadB 29 _ rfl w1.heap.size [.slice kM R.hosts.length kN,.slice ny R.au.length nC,.int .i64 R.next,.int .i64 R.weights.pack,.int .i64 R.weights.spread,.int .i64 R.weights.soft] rfl _ YB Tryz.underlying29 rfl U' ?_)
   | (go_step;go_step;go_step;go_step;go_step;go_step;go_step;go_step;go_step;go_step;go_step;refine wp_loadB 29 _ rfl w1.heap.size [.slice kM R.hosts.length kN,.slice ny R.au.length nC,.int .i64 R.next,.int .i64 R.weights.pack,.int .i64 R.weights.spread,.int .i64 R.weights.soft] rfl _ YB Tryz.underlying29 rfl U' ?_)
   | (go_step;go_step;go_step;go_step;go_step;go_step;go_step;go_step;go_step;go_step;go_step;go_step;refine wp_loadB 29 _ rfl w1.heap.size [.slice kM R.hosts.length kN,.slice ny R.au.length nC,.int .i64 R.next,.int .i64 R.weights.pack,.int .i64 R.weights.spread,.int .i64 R.weights.soft] rfl _ YB Tryz.underlying29 rfl U' ?_)
   | (go_step;go_step;go_step;go_step;go_step;go_step;go_step;go_step;go_step;go_step;go_step;go_step;go_step;refine wp_loadB 29 _ rfl w1.heap.size [.slice kM R.hosts.length kN,.slice ny R.au.length nC,.int .i64 R.next,.int .i64 R.weights.pack,.int .i64 R.weights.spread,.int .i64 R.weights.soft] rfl _ YB Tryz.underlying29 rfl U' ?_)
  exact Zabo
 rw [if_neg h5];by_cases h6:k = 6
 ·as_aux_lemma =>
  subst h6;rw [if_pos rfl];have HS:=I' (fun cs F us Fu wq a b=>aeu x cs F wt us Fu wq a b HW.out);generalize setW x wt = RR at *;obtain ⟨R,cd⟩:=RR;dsimp only at HS ⊢;go_enter Tryz.func11,Tryz.ntmps11;go_wp2_with fail
  refine (HS.out _ _ _ _ _ (aZ h atT) (aZ hwts atT)).mono ?_;exact Zaap
 rw [if_neg h6];cases hc:iI x
 ·as_aux_lemma =>
  have HC:=I' hc;clear hc;simp only [Bool.false_eq_true,if_false];go_enter Tryz.func11,Tryz.ntmps11;go_wp2_with fail
  refine (qM x _ _ _ (aZ h atT) HW.out).mono ?_;rw [HC.out];rintro e w0 ⟨rfl,hb0⟩;obtain ⟨hc0,hf0⟩:=ay hb0;have hz0:=hb0.size;simp at hz0;have hB0:Below w.heap.size w w0:=ah atT hb0;go_wp2_with fail
  refine (BO x _ _ _ (aZ h atT) HW.out).mono ?_;rintro e w1 ⟨ds,G,rfl,hO,hb1⟩;have hR:=hO.rd;obtain ⟨kM,kN,ND,ny,nC,TD,hck,hGr,NG,TF,TG,xI,uD,xJ⟩:=aO hR;subst hck;clear hGr hR;have XB:oG w1 (w.heap.size+1+1) [.slice none 0 0,.slice none 0 0,.int .i64 0,.int .i64 0,.int .i64 0,.int .i64 0]:=oG.ext (oG.ext (oG.new3 w _ _ [.slice none 0 0,.slice none 0 0,.int .i64 0,.int .i64 0,.int .i64 0,.int .i64 0] 29) hb0) hb1;have HO:=I' (hO.mono (B':=w.heap.size+1+1+1) O');have hb2:Below w.heap.size w w1:=ah hB0 hb1;clear hO hb1 h hb0;try dsimp only
  iterate 2 go_step
  refine wp_storeB 29 _ _ rfl (w.heap.size+1+1) 0 [.slice kM x.hosts.length kN,.slice ny x.au.length nC,.int .i64 x.next,.int .i64 x.weights.pack,.int .i64 x.weights.spread,.int .i64 x.weights.soft] [.slice none 0 0,.slice none 0 0,.int .i64 0,.int .i64 0,.int .i64 0,.int .i64 0] rfl rfl XB S' U' aub ?_;intro w2 YB OB;replace YB:oG w2 (w.heap.size+1+1) [.slice kM x.hosts.length kN,.slice ny x.au.length nC,.int .i64 x.next,.int .i64 x.weights.pack,.int .i64 x.weights.spread,.int .i64 x.weights.soft]:=YB;try dsimp only [Act.put]
  go_wp2;refine bodyPost_ret (v:=.tuple #[.agg #[.slice kM x.hosts.length kN,.slice ny x.au.length nC,.int .i64 x.next,.int .i64 x.weights.pack,.int .i64 x.weights.spread,.int .i64 x.weights.soft],.int .i64 1]) (results_cellB2 Tryz.results11 _ (w.heap.size+1+1) [.slice kM x.hosts.length kN,.slice ny x.au.length nC,.int .i64 x.next,.int .i64 x.weights.pack,.int .i64 x.weights.spread,.int .i64 x.weights.soft] _ _ rfl rfl YB Tryz.underlying29 rfl U') rfl ?_;exact Zab5
 ·as_aux_lemma =>
  have HC:=I' hc;clear hc;simp only [if_true];go_enter Tryz.func11,Tryz.ntmps11;go_wp2_with fail
  refine (qM x _ _ _ (aZ h atT) HW.out).mono ?_;rw [HC.out];rintro e w0 ⟨rfl,hb0⟩;obtain ⟨hc0,hf0⟩:=ay hb0;have hz0:=hb0.size;simp at hz0;have hB0:Below w.heap.size w w0:=ah atT hb0;go_wp2_with fail
  refine (BO x _ _ _ (aZ h atT) HW.out).mono ?_;rintro e w1 ⟨ds,G,rfl,hO,hb1⟩;have hR:=hO.rd;obtain ⟨kM,kN,ND,ny,nC,TD,hck,hGr,NG,TF,TG,xI,uD,xJ⟩:=aO hR;subst hck;clear hGr hR;have XB:oG w1 (w.heap.size+1+1) [.slice none 0 0,.slice none 0 0,.int .i64 0,.int .i64 0,.int .i64 0,.int .i64 0]:=oG.ext (oG.ext (oG.new3 w _ _ [.slice none 0 0,.slice none 0 0,.int .i64 0,.int .i64 0,.int .i64 0,.int .i64 0] 29) hb0) hb1;have HO:=I' (hO.mono (B':=w.heap.size+1+1+1) O');have hb2:Below w.heap.size w w1:=ah hB0 hb1;clear hO hb1 h hb0;try dsimp only
  iterate 2 go_step
  refine wp_storeB 29 _ _ rfl (w.heap.size+1+1) 0 [.slice kM x.hosts.length kN,.slice ny x.au.length nC,.int .i64 x.next,.int .i64 x.weights.pack,.int .i64 x.weights.spread,.int .i64 x.weights.soft] [.slice none 0 0,.slice none 0 0,.int .i64 0,.int .i64 0,.int .i64 0,.int .i64 0] rfl rfl XB S' U' aub ?_;intro w2 YB OB;replace YB:oG w2 (w.heap.size+1+1) [.slice kM x.hosts.length kN,.slice ny x.au.length nC,.int .i64 x.next,.int .i64 x.weights.pack,.int .i64 x.weights.spread,.int .i64 x.weights.soft]:=YB;try dsimp only [Act.put]
  go_wp2;refine bodyPost_ret (v:=.tuple #[.agg #[.slice kM x.hosts.length kN,.slice ny x.au.length nC,.int .i64 x.next,.int .i64 x.weights.pack,.int .i64 x.weights.spread,.int .i64 x.weights.soft],.int .i64 8]) (results_cellB2 Tryz.results11 _ (w.heap.size+1+1) [.slice kM x.hosts.length kN,.slice ny x.au.length nC,.int .i64 x.next,.int .i64 x.weights.pack,.int .i64 x.weights.spread,.int .i64 x.weights.soft] _ _ rfl rfl YB Tryz.underlying29 rfl U') rfl ?_;exact Zab5
def newC:aU:=⟨[],[],1,⟨2,1,3⟩⟩
theorem newC_good:Good newC :=
 ⟨by decide,by decide,by decide,by decide,by decide,(fun h hh=>by cases hh),(fun h hh=>by cases hh),List.Pairwise.nil,(fun p hp=>by cases hp),(fun p hp=>by cases hp),(fun p hp=>by cases hp),List.Pairwise.nil,List.Pairwise.nil⟩
theorem Own.newC (w:World) (B:Nat):Own w B Go.Proofs.YtkjeocdobidadaaGreat.newC [.slice none 0 0,.slice none 0 0,.int .i64 1,.int .i64 2,.int .i64 1,.int .i64 3] []:=by
 refine Own.up (B':=B) (fun x:aU=>(x.hosts,x.au,x.next,x.weights)) ?_ (Nat.le_refl _);have h1:Own w B ([]:List Host) [.slice none 0 0] []:=Own.flat (Sl.nil w none 0 (Nat.zero_le _));have h2:Own w B ([]:List Placed) [.slice none 0 0] []:=Own.flat (Sl.nil w none 0 (Nat.zero_le _));have h3:Own w B ((1:Int),(⟨2,1,3⟩:rZ)) ([.int .i64 1]++[.int .i64 2,.int .i64 1,.int .i64 3]) []:=Own.cons (jL w 1 auG) (Own.flat (Zj w ⟨2,1,3⟩ (by unfold I64;dsimp only;omega) (by unfold I64;dsimp only;omega) (by unfold I64;dsimp only;omega)));exact Own.pair h1 (Own.pair h2 h3 (Nat.le_refl _) (fun b hb=>by cases hb)) (Nat.le_refl _) (fun b hb=>by cases hb)
theorem big_any (A:Option Addr) (n cap:Nat) (w:World):Calls Tryz.prog 8 #[.slice A n cap] w fun e w'=>e = .returned (.bool (decide ((1048576:Int) < n)))∧Below w.heap.size w w':=by
 by_cases h:(1048576:Int) < n
 all_goals
  go_enter Tryz.func8,Tryz.ntmps8;go_wp2;go_ret
  exact ⟨(by simp;omega),aj _⟩
theorem rd_parts {w:World} {x:aU} {Ah Ap:Option Addr} {nh ch np cp:Nat} {r:List Value} {F:List Nat} (h:rd w x (.slice Ah nh ch :: .slice Ap np cp :: r) F):∃F1 F2,Sl w x.hosts Ah ch F1∧Sl w x.au Ap cp F2:=by
 obtain ⟨A1,c1,F1,A2,c2,F2,hck,_,h1,h2,_⟩:=aO h;simp only [List.cons.injEq,Value.slice.injEq] at hck;obtain ⟨⟨rfl,_,rfl⟩,⟨rfl,_,rfl⟩,_⟩:=hck;exact ⟨F1,F2,h1,h2⟩
theorem Own.rdx {α:Type} [Dat α] {w w':World} {B:Nat} {x:α} {cs:List Value} {F:List Nat} (h:Own w B x cs F) (hb:Below w.heap.size w w'):Go.Proofs.YtkjeocdobidadaaGreat.Dat.rd w' x cs F:=(h.ext hb).rd
theorem bytes_src {w:World} {xs:List UInt8} {A:Option Addr} {cap:Nat} {F:List Nat} (h:Sl w xs A cap F):∀k,k < xs.length→∃(g o:Nat) (v:Int),A = some ⟨g,o,none⟩∧g < w.heap.size∧w.cell? ⟨g,o+k,none⟩ = some (.int .u8 v)∧0≤v∧v≤255:=by
 intro k hk;obtain ⟨b,o,ck,Fk,rfl,_,hb,hr,_,hc⟩:=h.get hk;have h0:=hc 0 (.int .u8 (xs[k].toNat:Int)) (by rw [hr.1];rfl);rw [show o+(k * Dat.size UInt8+0) = o+k by show o+(k * 1+0) = o+k;omega] at h0;have:=xs[k].toNat_lt;exact ⟨b,o,_,rfl,hb,h0,O',O'⟩
def NowH (x:aU):Prop:=∀h∈x.hosts,h.name≠⟨#[110,111,119,104,101,114,101]⟩
theorem NowH.of {x y:aU} (h:NowH x) (e:y.hosts = x.hosts):NowH y:=by unfold NowH;rw [e];exact h
theorem addH_now {x:aU} (hx:NowH x) {u:Host} (hu:u.name≠⟨#[110,111,119,104,101,114,101]⟩):NowH (addH x u).1:=by
 unfold addH;split
 ·rename_i hc;split
  ·exact hx
  ·split
   ·exact hx
   ·intro h hh;dsimp only at hh;unfold insAt at hh;rw [List.mem_append,List.mem_cons] at hh;rcases hh with hh | rfl | hh
    ·exact hx h (List.mem_of_mem_take hh)
    ·rw [(hostNormalR_ok hc.2).1];exact hu
    ·exact hx h (List.mem_of_mem_drop hh)
 ·exact hx
theorem addQ_hosts (x:aU) (u:nI):(addQ x u).1.hosts = x.hosts:=by
 unfold addQ;split
 ·split
  ·rfl
  ·split <;> rfl
 ·rfl
theorem dropH_now {x:aU} (hx:NowH x) (nm:ByteArray):NowH (Ko x nm).1:=by
 unfold Ko;split
 ·split
  ·exact hx
  ·exact fun h hh=>hx h (List.mem_of_mem_eraseIdx hh)
 ·exact hx
theorem delP_hosts (x:aU) (nm:ByteArray):(Ut x nm).1.hosts = x.hosts:=by
 unfold Ut;split
 ·split <;> rfl
 ·rfl
theorem placeP_hosts (x:aU) (nm:ByteArray):(placeP x nm).1.hosts = x.hosts:=by
 unfold placeP;split
 ·split
  ·split
   ·rfl
   ·unfold placeQ;split
    ·split <;> rfl
    ·rfl
  ·rfl
 ·rfl
theorem placeNextP_hosts (x:aU):(placeNextP x).1.hosts = x.hosts:=by
 unfold placeNextP;split
 ·split
  ·exact placeP_hosts x _
  ·rfl
 ·rfl
theorem setW_hosts (x:aU) (u:rZ):(setW x u).1.hosts = x.hosts:=by unfold setW;split <;> rfl
theorem applied_now {x:aU} (hx:NowH x) {d:Deed} (hd:d.man.host.name≠⟨#[110,111,119,104,101,114,101]⟩):NowH (applied x d).1:=by
 unfold applied;split
 ·unfold applyM;split
  ·exact hx.of (addQ_hosts x _)
  ·split
   ·exact addH_now hx hd
   ·exact hx
 ·split
  ·exact dropH_now hx _
  ·split
   ·exact hx.of (delP_hosts x _)
   ·split
    ·exact hx.of (placeP_hosts x _)
    ·split
     ·exact hx.of (placeNextP_hosts x)
     ·split
      ·exact hx.of (setW_hosts x _)
      ·exact hx
theorem now_at {x:aU} (hx:NowH x):pK (iM ⟨#[110,111,119,104,101,114,101]⟩) x.hosts = -1 :=
 F5 fun h hh=>by
  cases e:iM ⟨#[110,111,119,104,101,114,101]⟩ h with
  | false=>rfl
  | true=>exact absurd (hostatP_iff.1 e) (hx h hh)
theorem onN_onL (nm:ByteArray) (xs:List Placed):(YD nm xs).length = (F7 nm xs).length:=by unfold YD F7;rw [List.length_map,List.length_map]
theorem used_at {x:aU} (G:Good x) {k:Nat} (hk:k < x.hosts.length):∃a b:Int,KF x.hosts[k].name x.au = .tuple #[.int .i64 a,.int .i64 b,.int .i64 (YD x.hosts[k].name x.au).length,.bool true]∧a≤x.hosts[k].cpu∧b≤x.hosts[k].mem∧((YD x.hosts[k].name x.au).length:Int)≤x.hosts[k].slots:=by
 obtain ⟨h1,h2,h3,h4,h5⟩:=G.hin _ (List.getElem_mem hk);rw [onN_onL];exact ⟨_,_,alL (sumsR_yes G.pok h1 h2),h3,h4,h5⟩
theorem eqCluster_self (x:aU):lT x x = true:=(jI x x).2 rfl
end Go.Proofs.YtkjeocdobidadaaGreat
