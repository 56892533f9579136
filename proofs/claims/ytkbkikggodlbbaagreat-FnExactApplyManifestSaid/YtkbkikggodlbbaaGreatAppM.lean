/- ApplyManifest of the reference. No condition. -/
import Derived.Test.YtkbkikggodlbbaaGreatOpsAS
import Derived.Test.YtkbkikggodlbbaaGreatOpsQS
import Derived.Test.YtkbkikggodlbbaaGreatClusterS
import Derived.Test.YtkbkikggodlbbaaGreatCopyS
import Derived.Test.YtkbkikggodlbbaaGreatAddP0
import Derived.Test.YtkbkikggodlbbaaGreatOpsAI
import Derived.Test.YtkbkikggodlbbaaGreatOpsQI
import Derived.Test.YtkbkikggodlbbaaGreatClusterI
import Derived.Test.YtkbkikggodlbbaaGreatCopyC
namespace Go.Proofs.YtkbkikggodlbbaaGreat
open Go.ChangeShapes Go.WideShapes Go.ChangeAt Go.RowKit
set_option linter.unusedVariables false
set_option linter.unusedSimpArgs false
set_option maxHeartbeats 4000000
set_option maxRecDepth 100000
def applyM (x:aU) (m:Manifest):aU × Int:=if m.kind = 1 then addQ x m.aS else if m.kind = 2 then addH x m.host else (x,if iI x = true then 8 else 1)
theorem ApplyManifest_spec (x:aU) (cs:List Value) (F:List Nat) (m:Manifest) (ms:List Value) (Fm:List Nat) (w:World) (h:rd w x cs F) (h':rd w m ms Fm) (hw:(x.wt:Int)≤1048576) (hm:(m.wt:Int)≤1048576) :
 Calls Tryz.prog 6 #[.agg cs.toArray,.agg ms.toArray] w fun e w'=>∃ds G,e = .returned (.tuple #[.agg ds.toArray,.int .i64 (applyM x m).2])∧Own w' w.heap.size (applyM x m).1 ds G∧Below w.heap.size w w':=by
 have hmw:m.wt = m.aS.wt+m.host.wt:=rfl;have Uc:=I' (show (m.aS.wt:Int)≤1048576 by omega);have HWU:=I' (show (m.host.wt:Int)≤1048576 by omega);have HW:=I' hw;clear hw hm hmw;have hr:=h;obtain ⟨Ahostsx,chostsx,Fhostsx,Apodsx,cpodsx,Fpodsx,hck,qp,hhostsx,hpodsx,hnextx,hweightspackx,hweightsspreadx,hweightssoftx⟩:=aO hr;subst hck;clear qp hr;obtain ⟨k,p,u⟩:=m;dsimp only at Uc HWU;obtain ⟨_,_,_,_,rfl,rfl,⟨rfl,rfl,hkind⟩,_,_,_,_,rfl,rfl,WT,afd⟩:=h';dsimp only at hkind WT afd ⊢;have hp:=WT;have hu:=afd;obtain ⟨Alabelsp,clabelsp,Flabelsp,Aneedsp,cneedsp,Fneedsp,Atolerancesp,ctolerancesp,Ftolerancesp,hck,hFp,hnamep,hlabelsp,hcpup,hmemp,hrankp,hneedsp,htolerancesp⟩:=dL hp;subst hck;obtain ⟨Alabelsu,clabelsu,Flabelsu,Ataintsu,ctaintsu,Ftaintsu,hck,hFu,hnameu,hlabelsu,hcpuu,hmemu,hslotsu,htaintsu⟩:=iy hu;subst hck;clear hFp hFu hp hu;unfold applyM;dsimp only;by_cases h1:k = 1
 ·as_aux_lemma =>
  subst h1;rw [if_pos rfl];have HS:=I' (fun cs F us Fu wq a b=>SubmitPod_spec x cs F p us Fu wq a b HW.out Uc.out);generalize addQ x p = RR at *;obtain ⟨R,cd⟩:=RR;dsimp only at HS ⊢;go_enter Tryz.func6,Tryz.ntmps6;go_wp2_with fail
  refine (HS.out _ _ _ _ _ (aZ h atT) (aZ WT atT)).mono ?_;exact Zabb
 ·rw [if_neg h1];by_cases h2:k = 2
  ·as_aux_lemma =>
   subst h2;rw [if_pos rfl];have HS:=I' (fun cs F us Fu wq a b=>AddHost_spec x cs F u us Fu wq a b HW.out HWU.out);generalize addH x u = RR at *;obtain ⟨R,cd⟩:=RR;dsimp only at HS ⊢;go_enter Tryz.func6,Tryz.ntmps6;go_wp2_with fail
   refine (HS.out _ _ _ _ _ (aZ h atT) (aZ afd atT)).mono ?_;exact Zabb
  ·rw [if_neg h2];cases hc:iI x
   ·as_aux_lemma =>
    have HC:=I' hc;clear hc;simp only [Bool.false_eq_true,if_false];go_enter Tryz.func6,Tryz.ntmps6;go_wp2_with fail
    refine (qM x _ _ _ (aZ h atT) HW.out).mono ?_;rw [HC.out];rintro e w0 ⟨rfl,hb0⟩;obtain ⟨hc0,hf0⟩:=ay hb0;have hz0:=hb0.size;simp at hz0;have hB0:Below w.heap.size w w0:=ah atT hb0;go_wp2_with fail
    refine (BO x _ _ _ (aZ h atT) HW.out).mono ?_;rintro e w1 ⟨ds,G,rfl,hO,hb1⟩;have hR:=hO.rd;obtain ⟨kM,kN,ND,ny,nC,TD,hck,hGr,NG,TF,TG,xI,uD,xJ⟩:=aO hR;subst hck;clear hGr hR;have XB:oG w1 (w.heap.size+1+1) [.slice none 0 0,.slice none 0 0,.int .i64 0,.int .i64 0,.int .i64 0,.int .i64 0]:=oG.ext (oG.ext (oG.new3 w _ _ [.slice none 0 0,.slice none 0 0,.int .i64 0,.int .i64 0,.int .i64 0,.int .i64 0] 44) hb0) hb1;have HO:=I' (hO.mono (B':=w.heap.size+1+1+1) O');have hb2:Below w.heap.size w w1:=ah hB0 hb1;clear hO hb1 h hb0;try dsimp only
    iterate 2 go_step
    refine wp_storeB 44 _ _ rfl (w.heap.size+1+1) 0 [.slice kM x.hosts.length kN,.slice ny x.au.length nC,.int .i64 x.next,.int .i64 x.weights.pack,.int .i64 x.weights.spread,.int .i64 x.weights.soft] [.slice none 0 0,.slice none 0 0,.int .i64 0,.int .i64 0,.int .i64 0,.int .i64 0] rfl rfl XB S' U' aub ?_;intro w2 YB OB;replace YB:oG w2 (w.heap.size+1+1) [.slice kM x.hosts.length kN,.slice ny x.au.length nC,.int .i64 x.next,.int .i64 x.weights.pack,.int .i64 x.weights.spread,.int .i64 x.weights.soft]:=YB;try dsimp only [Act.put]
    go_wp2;refine bodyPost_ret (v:=.tuple #[.agg #[.slice kM x.hosts.length kN,.slice ny x.au.length nC,.int .i64 x.next,.int .i64 x.weights.pack,.int .i64 x.weights.spread,.int .i64 x.weights.soft],.int .i64 1]) (results_cellB2 Tryz.results6 _ (w.heap.size+1+1) [.slice kM x.hosts.length kN,.slice ny x.au.length nC,.int .i64 x.next,.int .i64 x.weights.pack,.int .i64 x.weights.spread,.int .i64 x.weights.soft] _ _ rfl rfl YB Tryz.underlying44 rfl U') rfl ?_;exact Zabw
   ·as_aux_lemma =>
    have HC:=I' hc;clear hc;simp only [if_true];go_enter Tryz.func6,Tryz.ntmps6;go_wp2_with fail
    refine (qM x _ _ _ (aZ h atT) HW.out).mono ?_;rw [HC.out];rintro e w0 ⟨rfl,hb0⟩;obtain ⟨hc0,hf0⟩:=ay hb0;have hz0:=hb0.size;simp at hz0;have hB0:Below w.heap.size w w0:=ah atT hb0;go_wp2_with fail
    refine (BO x _ _ _ (aZ h atT) HW.out).mono ?_;rintro e w1 ⟨ds,G,rfl,hO,hb1⟩;have hR:=hO.rd;obtain ⟨kM,kN,ND,ny,nC,TD,hck,hGr,NG,TF,TG,xI,uD,xJ⟩:=aO hR;subst hck;clear hGr hR;have XB:oG w1 (w.heap.size+1+1) [.slice none 0 0,.slice none 0 0,.int .i64 0,.int .i64 0,.int .i64 0,.int .i64 0]:=oG.ext (oG.ext (oG.new3 w _ _ [.slice none 0 0,.slice none 0 0,.int .i64 0,.int .i64 0,.int .i64 0,.int .i64 0] 44) hb0) hb1;have HO:=I' (hO.mono (B':=w.heap.size+1+1+1) O');have hb2:Below w.heap.size w w1:=ah hB0 hb1;clear hO hb1 h hb0;try dsimp only
    iterate 2 go_step
    refine wp_storeB 44 _ _ rfl (w.heap.size+1+1) 0 [.slice kM x.hosts.length kN,.slice ny x.au.length nC,.int .i64 x.next,.int .i64 x.weights.pack,.int .i64 x.weights.spread,.int .i64 x.weights.soft] [.slice none 0 0,.slice none 0 0,.int .i64 0,.int .i64 0,.int .i64 0,.int .i64 0] rfl rfl XB S' U' aub ?_;intro w2 YB OB;replace YB:oG w2 (w.heap.size+1+1) [.slice kM x.hosts.length kN,.slice ny x.au.length nC,.int .i64 x.next,.int .i64 x.weights.pack,.int .i64 x.weights.spread,.int .i64 x.weights.soft]:=YB;try dsimp only [Act.put]
    go_wp2;refine bodyPost_ret (v:=.tuple #[.agg #[.slice kM x.hosts.length kN,.slice ny x.au.length nC,.int .i64 x.next,.int .i64 x.weights.pack,.int .i64 x.weights.spread,.int .i64 x.weights.soft],.int .i64 8]) (results_cellB2 Tryz.results6 _ (w.heap.size+1+1) [.slice kM x.hosts.length kN,.slice ny x.au.length nC,.int .i64 x.next,.int .i64 x.weights.pack,.int .i64 x.weights.spread,.int .i64 x.weights.soft] _ _ rfl rfl YB Tryz.underlying44 rfl U') rfl ?_;exact Zabw
theorem applyM_bad {x:aU} {m:Manifest} (h:iI x = false):applyM x m = (x,1):=by
 unfold applyM addQ addH;rw [h];simp
theorem applyM_cnt (x:aU) (m:Manifest):iw (applyM x m).1≤iw x+(jh (newP x (podNormalR m.aS).1)+lI (hostNormalR m.host).1):=by
 have h1:=addQ_cnt x m.aS;have h2:=addH_cnt x m.host;unfold applyM;split
 ·omega
 ·split
  ·omega
  ·dsimp only;omega
theorem ApplyManifest_impl (x:aU) (cs:List Value) (F:List Nat) (m:Manifest) (ms:List Value) (Fm:List Nat) (w:World) (h:rd w x cs F) (h':rd w m ms Fm) (hw:(x.wt:Int)≤1048576) (hm:(m.wt:Int)≤1048576) :
 Calls Tryz.prog 9 #[.agg cs.toArray,.agg ms.toArray] w fun e w'=>∃ds G,e = .returned (.tuple #[.agg ds.toArray,.int .i64 (applyM x m).2])∧Own w' w.heap.size (applyM x m).1 ds G∧Below w.heap.size w w':=by
 have hmw:m.wt = m.aS.wt+m.host.wt:=rfl;have Uc:=I' (show (m.aS.wt:Int)≤1048576 by omega);have HWU:=I' (show (m.host.wt:Int)≤1048576 by omega);have HW:=I' hw;clear hw hm hmw;have hr:=h;obtain ⟨Ahostsx,chostsx,Fhostsx,Apodsx,cpodsx,Fpodsx,hck,qp,hhostsx,hpodsx,hnextx,hweightspackx,hweightsspreadx,hweightssoftx⟩:=aO hr;subst hck;clear qp hr;have HBAD:=I' (fun hc=>applyM_bad (x:=x) (m:=m) hc);obtain ⟨k,p,u⟩:=m;dsimp only at Uc HWU;obtain ⟨_,_,_,_,rfl,rfl,⟨rfl,rfl,hkind⟩,_,_,_,_,rfl,rfl,WT,afd⟩:=h';dsimp only at hkind WT afd ⊢;have hp:=WT;have hu:=afd;obtain ⟨Alabelsp,clabelsp,Flabelsp,Aneedsp,cneedsp,Fneedsp,Atolerancesp,ctolerancesp,Ftolerancesp,hck,hFp,hnamep,hlabelsp,hcpup,hmemp,hrankp,hneedsp,htolerancesp⟩:=dL hp;subst hck;obtain ⟨Alabelsu,clabelsu,Flabelsu,Ataintsu,ctaintsu,Ftaintsu,hck,hFu,hnameu,hlabelsu,hcpuu,hmemu,hslotsu,htaintsu⟩:=iy hu;subst hck;clear hFp hFu hp hu;cases hc:iI x
 ·as_aux_lemma =>
  rw [HBAD.out hc];have HC:=I' hc;clear hc HBAD;dsimp only;go_enter Tryz.func9,Tryz.ntmps9;go_wp2_with fail
  refine (qL x _ _ _ (aZ h atT) HW.out).mono ?_;rw [HC.out];rintro e w0 ⟨rfl,hb0⟩;obtain ⟨hc0,hf0⟩:=ay hb0;have hz0:=hb0.size;simp at hz0;have hB0:Below w.heap.size w w0:=ah atT hb0;have X0:oG w0 (w.heap.size+1+1) [.slice none 0 0,.slice none 0 0,.int .i64 0,.int .i64 0,.int .i64 0,.int .i64 0]:=oG.ext (oG.new3 w _ _ [.slice none 0 0,.slice none 0 0,.int .i64 0,.int .i64 0,.int .i64 0,.int .i64 0] 44) hb0;clear hb0;go_wp2_with fail
  refine (uo x _ _ _ (aZ h atT) HW.out).mono ?_;rintro e w1 ⟨ds,G,rfl,hO,hb1⟩;have hR:=hO.rd;obtain ⟨kM,kN,ND,ny,nC,TD,hck,hGr,NG,TF,TG,xI,uD,xJ⟩:=aO hR;subst hck;clear hGr hR;have XB:=X0.ext hb1;have HO:=I' (hO.mono (B':=w.heap.size+1+1+1) O');have hb2:Below w.heap.size w w1:=ah hB0 hb1;clear hO hb1 h X0;try dsimp only
  iterate 2 go_step
  refine wp_storeB 44 _ _ rfl (w.heap.size+1+1) 0 [.slice kM x.hosts.length kN,.slice ny x.au.length nC,.int .i64 x.next,.int .i64 x.weights.pack,.int .i64 x.weights.spread,.int .i64 x.weights.soft] [.slice none 0 0,.slice none 0 0,.int .i64 0,.int .i64 0,.int .i64 0,.int .i64 0] rfl rfl XB S' U' aub ?_;intro w2 YB OB;replace YB:oG w2 (w.heap.size+1+1) [.slice kM x.hosts.length kN,.slice ny x.au.length nC,.int .i64 x.next,.int .i64 x.weights.pack,.int .i64 x.weights.spread,.int .i64 x.weights.soft]:=YB;try dsimp only [Act.put]
  go_wp2;refine bodyPost_ret (v:=.tuple #[.agg #[.slice kM x.hosts.length kN,.slice ny x.au.length nC,.int .i64 x.next,.int .i64 x.weights.pack,.int .i64 x.weights.spread,.int .i64 x.weights.soft],.int .i64 1]) (results_cellB2 Tryz.results9 _ (w.heap.size+1+1) [.slice kM x.hosts.length kN,.slice ny x.au.length nC,.int .i64 x.next,.int .i64 x.weights.pack,.int .i64 x.weights.spread,.int .i64 x.weights.soft] _ _ rfl rfl YB Tryz.underlying44 rfl U') rfl ?_;exact Zabw
 ·clear HBAD;unfold applyM;dsimp only;by_cases h1:k = 1
  ·as_aux_lemma =>
   have HC:=I' hc;clear hc;subst h1;rw [if_pos rfl];have HS:=I' (fun cs F us Fu wq a b=>SubmitPod_impl x cs F p us Fu wq a b HW.out Uc.out);generalize addQ x p = RR at *;obtain ⟨R,cd⟩:=RR;dsimp only at HS ⊢;go_enter Tryz.func9,Tryz.ntmps9;go_wp2_with fail
   refine (qL x _ _ _ (aZ h atT) HW.out).mono ?_;rw [HC.out];rintro e w0 ⟨rfl,hb0⟩;obtain ⟨hc0,hf0⟩:=ay hb0;have hz0:=hb0.size;simp at hz0;have hB0:Below w.heap.size w w0:=ah atT hb0;have X0:oG w0 (w.heap.size+1+1) [.slice none 0 0,.slice none 0 0,.int .i64 0,.int .i64 0,.int .i64 0,.int .i64 0]:=oG.ext (oG.new3 w _ _ [.slice none 0 0,.slice none 0 0,.int .i64 0,.int .i64 0,.int .i64 0,.int .i64 0] 44) hb0;clear hb0;go_wp2_with fail
   refine (HS.out _ _ _ _ _ (aZ h atT) (aZ WT atT)).mono ?_;exact Zabf
  ·rw [if_neg h1];by_cases h2:k = 2
   ·as_aux_lemma =>
    have HC:=I' hc;clear hc;subst h2;rw [if_pos rfl];have HS:=I' (fun cs F us Fu wq a b=>AddHost_impl x cs F u us Fu wq a b HW.out HWU.out);generalize addH x u = RR at *;obtain ⟨R,cd⟩:=RR;dsimp only at HS ⊢;go_enter Tryz.func9,Tryz.ntmps9;go_wp2_with fail
    refine (qL x _ _ _ (aZ h atT) HW.out).mono ?_;rw [HC.out];rintro e w0 ⟨rfl,hb0⟩;obtain ⟨hc0,hf0⟩:=ay hb0;have hz0:=hb0.size;simp at hz0;have hB0:Below w.heap.size w w0:=ah atT hb0;have X0:oG w0 (w.heap.size+1+1) [.slice none 0 0,.slice none 0 0,.int .i64 0,.int .i64 0,.int .i64 0,.int .i64 0]:=oG.ext (oG.new3 w _ _ [.slice none 0 0,.slice none 0 0,.int .i64 0,.int .i64 0,.int .i64 0,.int .i64 0] 44) hb0;clear hb0;go_wp2_with fail
    refine (HS.out _ _ _ _ _ (aZ h atT) (aZ afd atT)).mono ?_;exact Zabf
   ·as_aux_lemma =>
    rw [if_neg h2,hc];have HC:=I' hc;clear hc;simp only [if_true];go_enter Tryz.func9,Tryz.ntmps9;go_wp2_with fail
    refine (qL x _ _ _ (aZ h atT) HW.out).mono ?_;rw [HC.out];rintro e w0 ⟨rfl,hb0⟩;obtain ⟨hc0,hf0⟩:=ay hb0;have hz0:=hb0.size;simp at hz0;have hB0:Below w.heap.size w w0:=ah atT hb0;have X0:oG w0 (w.heap.size+1+1) [.slice none 0 0,.slice none 0 0,.int .i64 0,.int .i64 0,.int .i64 0,.int .i64 0]:=oG.ext (oG.new3 w _ _ [.slice none 0 0,.slice none 0 0,.int .i64 0,.int .i64 0,.int .i64 0,.int .i64 0] 44) hb0;clear hb0;go_wp2_with fail
    refine (uo x _ _ _ (aZ h atT) HW.out).mono ?_;rintro e w1 ⟨ds,G,rfl,hO,hb1⟩;have hR:=hO.rd;obtain ⟨kM,kN,ND,ny,nC,TD,hck,hGr,NG,TF,TG,xI,uD,xJ⟩:=aO hR;subst hck;clear hGr hR;have XB:=X0.ext hb1;have HO:=I' (hO.mono (B':=w.heap.size+1+1+1) O');have hb2:Below w.heap.size w w1:=ah hB0 hb1;clear hO hb1 h X0;try dsimp only
    iterate 2 go_step
    refine wp_storeB 44 _ _ rfl (w.heap.size+1+1) 0 [.slice kM x.hosts.length kN,.slice ny x.au.length nC,.int .i64 x.next,.int .i64 x.weights.pack,.int .i64 x.weights.spread,.int .i64 x.weights.soft] [.slice none 0 0,.slice none 0 0,.int .i64 0,.int .i64 0,.int .i64 0,.int .i64 0] rfl rfl XB S' U' aub ?_;intro w2 YB OB;replace YB:oG w2 (w.heap.size+1+1) [.slice kM x.hosts.length kN,.slice ny x.au.length nC,.int .i64 x.next,.int .i64 x.weights.pack,.int .i64 x.weights.spread,.int .i64 x.weights.soft]:=YB;try dsimp only [Act.put]
    go_wp2;refine bodyPost_ret (v:=.tuple #[.agg #[.slice kM x.hosts.length kN,.slice ny x.au.length nC,.int .i64 x.next,.int .i64 x.weights.pack,.int .i64 x.weights.spread,.int .i64 x.weights.soft],.int .i64 8]) (results_cellB2 Tryz.results9 _ (w.heap.size+1+1) [.slice kM x.hosts.length kN,.slice ny x.au.length nC,.int .i64 x.next,.int .i64 x.weights.pack,.int .i64 x.weights.spread,.int .i64 x.weights.soft] _ _ rfl rfl YB Tryz.underlying44 rfl U') rfl ?_;exact Zabw
end Go.Proofs.YtkbkikggodlbbaaGreat
