/- Applied of the reference, over an operation as data. No condition. -/
import Derived.Test.YtkjeocdobidadaaGreatAppM
import Derived.Test.YtkjeocdobidadaaGreatLabelsOk
import Derived.Test.YtkjeocdobidadaaGreatAddP
import Derived.Test.YtkjeocdobidadaaGreatNextS
import Derived.Test.YtkjeocdobidadaaGreatOpsHS
import Derived.Test.YtkjeocdobidadaaGreatOpsPS
import Derived.Test.YtkjeocdobidadaaGreatOpsP
namespace Go.Proofs.YtkjeocdobidadaaGreat
open Go.ChangeShapes Go.WideShapes Go.ChangeAt Go.RowKit
set_option linter.unusedVariables false
set_option linter.unusedSimpArgs false
set_option maxHeartbeats 8000000
set_option maxRecDepth 100000
def applied (x:aU) (d:Deed):aU × Int :=
 if d.kind = 1 then applyM x d.man else if d.kind = 2 then Ko x d.name else if d.kind = 3 then Ut x d.name else if d.kind = 4 then ((placeP x d.name).1,(placeP x d.name).2.2)
 else if d.kind = 5 then ((placeNextP x).1,(placeNextP x).2.2.2) else if d.kind = 6 then setW x d.weights else (x,if iI x = true then 8 else 1)
theorem applyM_good {x:aU} (G:Good x) (m:Manifest):Good (applyM x m).1:=by
 unfold applyM;split
 ·exact addQ_good G _
 ·split
  ·exact addH_good G _
  ·exact G
theorem applied_good {x:aU} (G:Good x) (d:Deed):Good (applied x d).1:=by
 unfold applied;split
 ·exact applyM_good G _
 ·split
  ·exact dropH_good G _
  ·split
   ·exact delP_good G _
   ·split
    ·exact placeP_good G _
    ·split
     ·exact placeNextP_good G
     ·split
      ·exact setW_good G _
      ·exact G
theorem Applied_spec (x:aU) (cs:List Value) (F:List Nat) (d:Deed) (ms:List Value) (Fm:List Nat) (w:World) (h:rd w x cs F) (h':rd w d ms Fm) (hw:(x.wt:Int)≤1048576) (hm:(d.man.wt:Int)≤1048576) :
 Calls Tryz.prog 11 #[.agg cs.toArray,.agg ms.toArray] w fun e w'=>∃ds G,e = .returned (.tuple #[.agg ds.toArray,.int .i64 (applied x d).2])∧Own w' w.heap.size (applied x d).1 ds G∧Below w.heap.size w w':=by
 have HW:=I' hw;clear hw;have hr:=h;obtain ⟨Ahostsx,chostsx,Fhostsx,Apodsx,cpodsx,Fpodsx,hck,qp,hhostsx,hpodsx,hnextx,hweightspackx,hweightsspreadx,hweightssoftx⟩:=aO hr;subst hck;clear qp hr;obtain ⟨k,nm,m,wt⟩:=d;have HWM:=I' hm;clear hm;dsimp only at HWM;obtain ⟨_,_,_,_,rfl,rfl,⟨rfl,rfl,hkind⟩,_,_,_,_,rfl,rfl,⟨rfl,rfl,hnm⟩,_,_,_,_,rfl,rfl,hman,hwts⟩:=h';dsimp only at hkind hnm hman hwts ⊢;have hm2:=hman;have hw2:=hwts;obtain ⟨Apodlabelsm,cpodlabelsm,Fpodlabelsm,Apodneedsm,cpodneedsm,Fpodneedsm,Apodtolerancesm,cpodtolerancesm,Fpodtolerancesm,Ahostlabelsm,chostlabelsm,Fhostlabelsm,Ahosttaintsm,chosttaintsm,Fhosttaintsm,hck,hFm,hkindm,hpodnamem,hpodlabelsm,hpodcpum,hpodmemm,hpodrankm,hpodneedsm,hpodtolerancesm,hhostnamem,hhostlabelsm,hhostcpum,hhostmemm,hhostslotsm,hhosttaintsm⟩:=NS hm2;subst hck;obtain ⟨hck,hFw,hpk,hsp,hso⟩:=mg hw2;subst hck;clear hFm hFw hm2 hw2;unfold applied;dsimp only;by_cases h1:k = 1
 ·as_aux_lemma =>
  subst h1;rw [if_pos rfl];have HS:=I' (fun cs F us Fu wq a b=>ApplyManifest_spec x cs F m us Fu wq a b HW.out HWM.out);generalize applyM x m = RR at *;obtain ⟨R,cd⟩:=RR;dsimp only at HS ⊢;go_enter Tryz.func11,Tryz.ntmps11;go_wp2_with fail
  refine (HS.out _ _ _ _ _ (aZ h atT) (aZ hman atT)).mono ?_;exact Zaaq
 rw [if_neg h1];by_cases h2:k = 2
 ·as_aux_lemma =>
  subst h2;rw [if_pos rfl];have HS:=I' (fun cs F wq a=>ah2 x cs F nm wq a HW.out);generalize Ko x nm = RR at *;exact Zafn
 rw [if_neg h2];by_cases h3:k = 3
 ·as_aux_lemma =>
  subst h3;rw [if_pos rfl];have HS:=I' (fun cs F wq a=>afS x cs F nm wq a HW.out);generalize Ut x nm = RR at *;exact Zafn
 rw [if_neg h3];by_cases h4:k = 4
 ·as_aux_lemma =>
  subst h4;rw [if_pos rfl];have HS:=I' (fun cs F wq a=>PlacePod_spec x cs F nm wq a HW.out);generalize placeP x nm = RR at *;obtain ⟨R,hst,cd⟩:=RR;dsimp only at HS ⊢;go_enter Tryz.func11,Tryz.ntmps11;go_wp2_with fail
  refine (HS.out _ _ _ (aZ h atT)).mono ?_;rintro e w1 ⟨ds,G,rfl,hO,hb1⟩;have hR:=hO.rd;obtain ⟨kM,kN,ND,ny,nC,TD,hck,hGr,NG,TF,TG,xI,uD,xJ⟩:=aO hR;subst hck;clear hGr hR;have hz1:=hb1.size;simp at hz1;have XB:=I' (oG.ext (oG.ext (oG.new3 w _ _ [.slice none 0 0,.slice none 0 0,.int .i64 0,.int .i64 0,.int .i64 0,.int .i64 0] 29) hb1) (ak (aj _) (.cells ([.slice none 0 0,.slice none 0 0,.int .i64 0,.int .i64 0,.int .i64 0,.int .i64 0]:List Value).toArray 29)));have HO:=I' ((hO.mono (B':=w.heap.size+1+1+1) S').alloc (.cells ([.slice none 0 0,.slice none 0 0,.int .i64 0,.int .i64 0,.int .i64 0,.int .i64 0]:List Value).toArray 29));have HGL:=I' hO.lt;have HB:=I' (ak (ah atT hb1:Below w.heap.size w w1) (.cells ([.slice none 0 0,.slice none 0 0,.int .i64 0,.int .i64 0,.int .i64 0,.int .i64 0]:List Value).toArray 29));clear hO hb1 h;try dsimp only
  iterate 17 go_step
  refine wp_storeB 29 _ _ rfl w1.heap.size 0 [.slice kM R.hosts.length kN,.slice ny R.au.length nC,.int .i64 R.next,.int .i64 R.weights.pack,.int .i64 R.weights.spread,.int .i64 R.weights.soft] [.slice none 0 0,.slice none 0 0,.int .i64 0,.int .i64 0,.int .i64 0,.int .i64 0] rfl rfl (oG.new w1 _ 29) S' U' aub ?_;intro w2 YB OB;replace YB:oG w2 w1.heap.size [.slice kM R.hosts.length kN,.slice ny R.au.length nC,.int .i64 R.next,.int .i64 R.weights.pack,.int .i64 R.weights.spread,.int .i64 R.weights.soft]:=YB;have XB2:=XB.out.only OB O';try dsimp only [Act.put]
  iterate 6 go_step
  first
   | (refine wp_loadB 29 _ rfl w1.heap.size [.slice kM R.hosts.length kN,.slice ny R.au.length nC,.int .i64 R.next,.int .i64 R.weights.pack,.int .i64 R.weights.spread,.int .i64 R.weights.soft] rfl _ YB Tryz.underlying29 rfl U' ?_)
   | (go_step;refine wp_loadB 29 _ rfl w1.heap.size [.slice kM R.hosts.length kN,.slice ny R.au.length nC,.int .i64 R.next,.int .i64 R.weights.pack,.int .i64 R.weights.spread,.int .i64 R.weights.soft] rfl _ YB Tryz.underlying29 rfl U' ?_)
   | (go_step;go_step;refine wp_loadB 29 _ rfl w1.heap.size [.slice kM R.hosts.length kN,.slice ny R.au.length nC,.int .i64 R.next,.int .i64 R.weights.pack,.int .i64 R.weights.spread,.int .i64 R.weights.soft] rfl _ YB Tryz.underlying29 rfl U' ?_)
   | (go_step;go_step;go_step;refine wp_loadB 29 _ rfl w1.heap.size [.slice kM R.hosts.length kN,.slice ny R.au.length nC,.int .i64 R.next,.int .i64 R.weights.pack,.int .i64 R.weights.spread,.int .i64 R.weights.soft] rfl _ YB Tryz.underlying29 rfl U' ?_)
   | (go_step;go_step;go_step;go_step;refine wp_loadB 29 _ rfl w1.heap.size [.slice kM R.hosts.length kN,.slice ny R.au.length nC,.int .i64 R.next,.int .i64 R.weights.pack,.int .i64 R.weights.spread,.int .i64 R.weights.soft] rfl _ YB Tryz.underlying29 rfl U' ?_)
   | (go_step;go_step;go_step;go_step;go_step;refine wp_loadB 29 _ rfl w1.heap.size [.slice kM R.hosts.length kN,.slice ny R.au.length nC,.int .i64 R.next,.int .i64 R.weights.pack,.int .i64 R.weights.spread,.int .i64 R.weights.soft] rfl _ YB Tryz.underlying29 rfl U' ?_)
   | (go_step;go_step;go_step;go_step;go_step;go_step;refine wp_loadB 29 _ rfl w1.heap.size [.slice kM R.hosts.length kN,.slice ny R.au.length nC,.int .i64 R.next,.int .i64 R.weights.pack,.int .i64 R.weights.spread,.int .i64 R.weights.soft] rfl _ YB Tryz.underlying29 rfl U' ?_)
   | (go_step;go_step;go_step;go_step;go_step;go_step;go_step;refine wp_loadB 29 _ rfl w1.heap.size [.slice kM R.hosts.length kN,.slice ny R.au.length nC,.int .i64 R.next,.int .i64 R.weights.pack,.int .i64 R.weights.spread,.int .i64 R.weights.soft] rfl _ YB Tryz.underlying29 rfl U' ?_)
   | (go_step;go_step;go_step;go_step;go_step;go_step;go_step;go_step;refine wp_loadB 29 _ rfl w1.heap.size [.slice kM R.hosts.length kN,.slice ny R.au.length nC,.int .i64 R.next,.int .i64 R.weights.pack,.int .i64 R.weights.spread,.int .i64 R.weights.soft] rfl _ YB Tryz.underlying29 rfl U' ?_)
   | (go_step;go_step;go_step;go_step;go_step;go_step;go_step;go_step;go_step;refine wp_loadB 29 _ rfl w1.heap.size [.slice kM R.hosts.length kN,.slice ny R.au.length nC,.int .i64 R.next,.int .i64 R.weights.pack,.int .i64 R.weights.spread,.int .i64 R.weights.soft] rfl _ YB Tryz.underlying29 rfl U' ?_)
   | (go_step;go_step;go_step;go_step;go_step;go_step;go_step;go_step;go_step;go_step;refine wp_loadB 29 _ rfl w1.heap.size [.slice kM R.hosts.length kN,.slice ny R.au.length nC,.int .i64 R.next,.int .i64 R.weights.pack,.int .i64 R.weights.spread,.int .i64 R.weights.soft] rfl _ YB Tryz.underlying29 rfl U' ?_)
   | (go_step;go_step;go_step;go_step;go_step;go_step;go_step;go_step;go_step;go_step;go_step;refine wp_loadB 29 _ rfl w1.heap.size [.slice kM R.hosts.length kN,.slice ny R.au.length nC,.int .i64 R.next,.int .i64 R.weights.pack,.int .i64 R.weights.spread,.int .i64 R.weights.soft] rfl _ YB Tryz.underlying29 rfl U' ?_)
   | (go_step;go_step;go_step;go_step;go_step;go_step;go_step;go_step;go_step;go_step;go_step;go_step;refine wp_loadB 29 _ rfl w1.heap.size [.slice kM R.hosts.length kN,.slice ny R.au.length nC,.int .i64 R.next,.int .i64 R.weights.pack,.int .i64 R.weights.spread,.int .i64 R.weights.soft] rfl _ YB Tryz.underlying29 rfl U' ?_)
   | (go_step;go_step;go_step;go_step;go_step;go_step;go_step;go_step;go_step;go_step;go_step;go_step;go_step;refine wp_loadB 29 _ rfl w1.heap.size [.slice kM R.hosts.length kN,.slice ny R.au.length nC,.int .i64 R.next,.int .i64 R.weights.pack,.int .i64 R.weights.spread,.int .i64 R.weights.soft] rfl _ YB Tryz.underlying29 rfl U' ?_)
  exact Zabo
 rw [if_neg h4];by_cases h5:k = 5
 ·as_aux_lemma =>
  subst h5;rw [if_pos rfl];have HS:=I' (fun cs F wq a=>PlaceNext_spec x cs F wq a HW.out);generalize placeNextP x = RR at *;obtain ⟨R,hst,hst2,cd⟩:=RR;dsimp only at HS ⊢;go_enter Tryz.func11,Tryz.ntmps11;go_wp2_with fail
  refine (HS.out _ _ _ (aZ h atT)).mono ?_;rintro e w1 ⟨ds,G,rfl,hO,hb1⟩;have hR:=hO.rd;obtain ⟨kM,kN,ND,ny,nC,TD,hck,hGr,NG,TF,TG,xI,uD,xJ⟩:=aO hR;subst hck;clear hGr hR;have hz1:=hb1.size;simp at hz1;have XB:=I' (oG.ext (oG.ext (oG.new3 w _ _ [.slice none 0 0,.slice none 0 0,.int .i64 0,.int .i64 0,.int .i64 0,.int .i64 0] 29) hb1) (ak (aj _) (.cells ([.slice none 0 0,.slice none 0 0,.int .i64 0,.int .i64 0,.int .i64 0,.int .i64 0]:List Value).toArray 29)));have HO:=I' ((hO.mono (B':=w.heap.size+1+1+1) S').alloc (.cells ([.slice none 0 0,.slice none 0 0,.int .i64 0,.int .i64 0,.int .i64 0,.int .i64 0]:List Value).toArray 29));have HGL:=I' hO.lt;have HB:=I' (ak (ah atT hb1:Below w.heap.size w w1) (.cells ([.slice none 0 0,.slice none 0 0,.int .i64 0,.int .i64 0,.int .i64 0,.int .i64 0]:List Value).toArray 29));clear hO hb1 h;try dsimp only
  iterate 20 go_step
  refine wp_storeB 29 _ _ rfl w1.heap.size 0 [.slice kM R.hosts.length kN,.slice ny R.au.length nC,.int .i64 R.next,.int .i64 R.weights.pack,.int .i64 R.weights.spread,.int .i64 R.weights.soft] [.slice none 0 0,.slice none 0 0,.int .i64 0,.int .i64 0,.int .i64 0,.int .i64 0] rfl rfl (oG.new w1 _ 29) S' U' aub ?_;intro w2 YB OB;replace YB:oG w2 w1.heap.size [.slice kM R.hosts.length kN,.slice ny R.au.length nC,.int .i64 R.next,.int .i64 R.weights.pack,.int .i64 R.weights.spread,.int .i64 R.weights.soft]:=YB;have XB2:=XB.out.only OB O';try dsimp only [Act.put]
  iterate 9 go_step
  first
   | (refine wp_loadB 29 _ rfl w1.heap.size [.slice kM R.hosts.length kN,.slice ny R.au.length nC,.int .i64 R.next,.int .i64 R.weights.pack,.int .i64 R.weights.spread,.int .i64 R.weights.soft] rfl _ YB Tryz.underlying29 rfl U' ?_)
   | (go_step;refine wp_loadB 29 _ rfl w1.heap.size [.slice kM R.hosts.length kN,.slice ny R.au.length nC,.int .i64 R.next,.int .i64 R.weights.pack,.int .i64 R.weights.spread,.int .i64 R.weights.soft] rfl _ YB Tryz.underlying29 rfl U' ?_)
   | (go_step;go_step;refine wp_loadB 29 _ rfl w1.heap.size [.slice kM R.hosts.length kN,.slice ny R.au.length nC,.int .i64 R.next,.int .i64 R.weights.pack,.int .i64 R.weights.spread,.int .i64 R.weights.soft] rfl _ YB Tryz.underlying29 rfl U' ?_)
   | (go_step;go_step;go_step;refine wp_loadB 29 _ rfl w1.heap.size [.slice kM R.hosts.length kN,.slice ny R.au.length nC,.int .i64 R.next,.int .i64 R.weights.pack,.int .i64 R.weights.spread,.int .i64 R.weights.soft] rfl _ YB Tryz.underlying29 rfl U' ?_)
   | (go_step;go_step;go_step;go_step;refine wp_loadB 29 _ rfl w1.heap.size [.slice kM R.hosts.length kN,.slice ny R.au.length nC,.int .i64 R.next,.int .i64 R.weights.pack,.int .i64 R.weights.spread,.int .i64 R.weights.soft] rfl _ YB Tryz.underlying29 rfl U' ?_)
   | (go_step;go_step;go_step;go_step;go_step;refine wp_loadB 29 _ rfl w1.heap.size [.slice kM R.hosts.length kN,.slice ny R.au.length nC,.int .i64 R.next,.int .i64 R.weights.pack,.int .i64 R.weights.spread,.int .i64 R.weights.soft] rfl _ YB Tryz.underlying29 rfl U' ?_)
   | (go_step;go_step;go_step;go_step;go_step;go_step;refine wp_loadB 29 _ rfl w1.heap.size [.slice kM R.hosts.length kN,.slice ny R.au.length nC,.int .i64 R.next,.int .i64 R.weights.pack,.int .i64 R.weights.spread,.int .i64 R.weights.soft] rfl _ YB Tryz.underlying29 rfl U' ?_)
   | (go_step;go_step;go_step;go_step;go_step;go_step;go_step;refine wp_loadB 29 _ rfl w1.heap.size [.slice kM R.hosts.length kN,.slice ny R.au.length nC,.int .i64 R.next,.int .i64 R.weights.pack,.int .i64 R.weights.spread,.int .i64 R.weights.soft] rfl _ YB Tryz.underlying29 rfl U' ?_)
   | (go_step;go_step;go_step;go_step;go_step;go_step;go_step;go_step;refine wp_loadB 29 _ rfl w1.heap.size [.slice kM R.hosts.length kN,.slice ny R.au.length nC,.int .i64 R.next,.int .i64 R.weights.pack,.int .i64 R.weights.spread,.int .i64 R.weights.soft] rfl _ YB Tryz.underlying29 rfl U' ?_)
   | (go_step;go_step;go_step;go_step;go_step;go_step;go_step;go_step;go_step;refine wp_loadB 29 _ rfl w1.heap.size [.slice kM R.hosts.length kN,.slice ny R.au.length nC,.int .i64 R.next,.int .i64 R.weights.pack,.int .i64 R.weights.spread,.int .i64 R.weights.soft] rfl _ YB Tryz.underlying29 rfl U' ?_)
   | (go_step;go_step;go_step;go_step;go_step;go_step;go_step;go_step;go_step;go_step;refine wp_loadB 29 _ rfl w1.heap.size [.slice kM R.hosts.length kN,.slice ny R.au.length nC,.int .i64 R.next,.int .i64 R.weights.pack,.int .i64 R.weights.spread,.int .i64 R.weights.soft] rfl _ YB Tryz.underlying29 rfl U' ?_)
   | (go_step;go_step;go_step;go_step;go_step;go_step;go_step;go_step;go_step;go_step;go_step;refine wp_loadB 29 _ rfl w1.heap.size [.slice kM R.hosts.length kN,.slice ny R.au.length nC,.int .i64 R.next,.int .i64 R.weights.pack,.int .i64 R.weights.spread,.int .i64 R.weights.soft] rfl _ YB Tryz.underlying29 rfl U' ?_)
   | (go_step;go_step;go_step;go_step;go_step;go_step;go_step;go_step;go_step;go_step;go_step;go_step;refine wp_loadB 29 _ rfl w1.heap.size [.slice kM R.hosts.length kN,.slice ny R.au.length nC,.int .i64 R.next,.int .i64 R.weights.pack,.int .i64 R.weights.spread,.int .i64 R.weights.soft] rfl _ YB Tryz.underlying29 rfl U' ?_)
   | (go_step;go_step;go_step;go_step;go_step;go_step;go_step;go_step;go_step;go_step;go_step;go_step;go_step;refine wp_loadB 29 _ rfl w1.heap.size [.slice kM R.hosts.length kN,.slice ny R.au.length nC,.int .i64 R.next,.int .i64 R.weights.pack,.int .i64 R.weights.spread,.int .i64 R.weights.soft] rfl _ YB Tryz.underlying29 rfl U' ?_)
  exact Zabo
 rw [if_neg h5];by_cases h6:k = 6
 ·as_aux_lemma =>
  subst h6;rw [if_pos rfl];have HS:=I' (fun cs F us Fu wq a b=>aeu x cs F wt us Fu wq a b HW.out);generalize setW x wt = RR at *;obtain ⟨R,cd⟩:=RR;dsimp only at HS ⊢;go_enter Tryz.func11,Tryz.ntmps11;go_wp2_with fail
  refine (HS.out _ _ _ _ _ (aZ h atT) (aZ hwts atT)).mono ?_;exact Zaaq
 rw [if_neg h6];cases hc:iI x
 ·as_aux_lemma =>
  have HC:=I' hc;clear hc;simp only [Bool.false_eq_true,if_false];go_enter Tryz.func11,Tryz.ntmps11;go_wp2_with fail
  refine (qM x _ _ _ (aZ h atT) HW.out).mono ?_;rw [HC.out];rintro e w0 ⟨rfl,hb0⟩;obtain ⟨hc0,hf0⟩:=ay hb0;have hz0:=hb0.size;simp at hz0;have hB0:Below w.heap.size w w0:=ah atT hb0;go_wp2_with fail
  refine (BO x _ _ _ (aZ h atT) HW.out).mono ?_;rintro e w1 ⟨ds,G,rfl,hO,hb1⟩;have hR:=hO.rd;obtain ⟨kM,kN,ND,ny,nC,TD,hck,hGr,NG,TF,TG,xI,uD,xJ⟩:=aO hR;subst hck;clear hGr hR;have XB:oG w1 (w.heap.size+1+1) [.slice none 0 0,.slice none 0 0,.int .i64 0,.int .i64 0,.int .i64 0,.int .i64 0]:=oG.ext (oG.ext (oG.new3 w _ _ [.slice none 0 0,.slice none 0 0,.int .i64 0,.int .i64 0,.int .i64 0,.int .i64 0] 29) hb0) hb1;have HO:=I' (hO.mono (B':=w.heap.size+1+1+1) O');have hb2:Below w.heap.size w w1:=ah hB0 hb1;clear hO hb1 h hb0;try dsimp only
  iterate 2 go_step
  refine wp_storeB 29 _ _ rfl (w.heap.size+1+1) 0 [.slice kM x.hosts.length kN,.slice ny x.au.length nC,.int .i64 x.next,.int .i64 x.weights.pack,.int .i64 x.weights.spread,.int .i64 x.weights.soft] [.slice none 0 0,.slice none 0 0,.int .i64 0,.int .i64 0,.int .i64 0,.int .i64 0] rfl rfl XB S' U' aub ?_;intro w2 YB OB;replace YB:oG w2 (w.heap.size+1+1) [.slice kM x.hosts.length kN,.slice ny x.au.length nC,.int .i64 x.next,.int .i64 x.weights.pack,.int .i64 x.weights.spread,.int .i64 x.weights.soft]:=YB;try dsimp only [Act.put]
  go_wp2;refine bodyPost_ret (v:=.tuple #[.agg #[.slice kM x.hosts.length kN,.slice ny x.au.length nC,.int .i64 x.next,.int .i64 x.weights.pack,.int .i64 x.weights.spread,.int .i64 x.weights.soft],.int .i64 1]) (results_cellB2 Tryz.results11 _ (w.heap.size+1+1) [.slice kM x.hosts.length kN,.slice ny x.au.length nC,.int .i64 x.next,.int .i64 x.weights.pack,.int .i64 x.weights.spread,.int .i64 x.weights.soft] _ _ rfl rfl YB Tryz.underlying29 rfl U') rfl ?_;exact Zab3
 ·as_aux_lemma =>
  have HC:=I' hc;clear hc;simp only [if_true];go_enter Tryz.func11,Tryz.ntmps11;go_wp2_with fail
  refine (qM x _ _ _ (aZ h atT) HW.out).mono ?_;rw [HC.out];rintro e w0 ⟨rfl,hb0⟩;obtain ⟨hc0,hf0⟩:=ay hb0;have hz0:=hb0.size;simp at hz0;have hB0:Below w.heap.size w w0:=ah atT hb0;go_wp2_with fail
  refine (BO x _ _ _ (aZ h atT) HW.out).mono ?_;rintro e w1 ⟨ds,G,rfl,hO,hb1⟩;have hR:=hO.rd;obtain ⟨kM,kN,ND,ny,nC,TD,hck,hGr,NG,TF,TG,xI,uD,xJ⟩:=aO hR;subst hck;clear hGr hR;have XB:oG w1 (w.heap.size+1+1) [.slice none 0 0,.slice none 0 0,.int .i64 0,.int .i64 0,.int .i64 0,.int .i64 0]:=oG.ext (oG.ext (oG.new3 w _ _ [.slice none 0 0,.slice none 0 0,.int .i64 0,.int .i64 0,.int .i64 0,.int .i64 0] 29) hb0) hb1;have HO:=I' (hO.mono (B':=w.heap.size+1+1+1) O');have hb2:Below w.heap.size w w1:=ah hB0 hb1;clear hO hb1 h hb0;try dsimp only
  iterate 2 go_step
  refine wp_storeB 29 _ _ rfl (w.heap.size+1+1) 0 [.slice kM x.hosts.length kN,.slice ny x.au.length nC,.int .i64 x.next,.int .i64 x.weights.pack,.int .i64 x.weights.spread,.int .i64 x.weights.soft] [.slice none 0 0,.slice none 0 0,.int .i64 0,.int .i64 0,.int .i64 0,.int .i64 0] rfl rfl XB S' U' aub ?_;intro w2 YB OB;replace YB:oG w2 (w.heap.size+1+1) [.slice kM x.hosts.length kN,.slice ny x.au.length nC,.int .i64 x.next,.int .i64 x.weights.pack,.int .i64 x.weights.spread,.int .i64 x.weights.soft]:=YB;try dsimp only [Act.put]
  go_wp2;refine bodyPost_ret (v:=.tuple #[.agg #[.slice kM x.hosts.length kN,.slice ny x.au.length nC,.int .i64 x.next,.int .i64 x.weights.pack,.int .i64 x.weights.spread,.int .i64 x.weights.soft],.int .i64 8]) (results_cellB2 Tryz.results11 _ (w.heap.size+1+1) [.slice kM x.hosts.length kN,.slice ny x.au.length nC,.int .i64 x.next,.int .i64 x.weights.pack,.int .i64 x.weights.spread,.int .i64 x.weights.soft] _ _ rfl rfl YB Tryz.underlying29 rfl U') rfl ?_;exact Zab3
end Go.Proofs.YtkjeocdobidadaaGreat
