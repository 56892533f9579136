/- ApplyManifest of the reference. No condition. -/
import Derived.Test.YtkjeocdobidadaaGreatOpsAS
import Derived.Test.YtkjeocdobidadaaGreatOpsQS
import Derived.Test.YtkjeocdobidadaaGreatClusterS
import Derived.Test.YtkjeocdobidadaaGreatCopyS
import Derived.Test.YtkjeocdobidadaaGreatDrawW
import Derived.Test.YtkjeocdobidadaaGreatDrawO
import Derived.Test.YtkjeocdobidadaaGreatInsP
import Derived.Test.YtkjeocdobidadaaGreatRowK
import Derived.Test.YtkjeocdobidadaaGreatDeed
namespace Go.Proofs.YtkjeocdobidadaaGreat
open Go.ChangeShapes Go.WideShapes Go.ChangeAt Go.RowKit
set_option linter.unusedVariables false
set_option linter.unusedSimpArgs false
set_option maxHeartbeats 8000000
set_option maxRecDepth 100000
def applyM (x:aU) (m:Manifest):aU × Int:=if m.kind = 1 then addQ x m.aS else if m.kind = 2 then addH x m.host else (x,if iI x = true then 8 else 1)
theorem ApplyManifest_spec (x:aU) (cs:List Value) (F:List Nat) (m:Manifest) (ms:List Value) (Fm:List Nat) (w:World) (h:rd w x cs F) (h':rd w m ms Fm) (hw:(x.wt:Int)≤1048576) (hm:(m.wt:Int)≤1048576) :
 Calls Tryz.prog 50 #[.agg cs.toArray,.agg ms.toArray] w fun e w'=>∃ds G,e = .returned (.tuple #[.agg ds.toArray,.int .i64 (applyM x m).2])∧Own w' w.heap.size (applyM x m).1 ds G∧Below w.heap.size w w':=by
 have hmw:m.wt = m.aS.wt+m.host.wt:=rfl;have Uc:=I' (show (m.aS.wt:Int)≤1048576 by omega);have HWU:=I' (show (m.host.wt:Int)≤1048576 by omega);have HW:=I' hw;clear hw hm hmw;have hr:=h;obtain ⟨Ahostsx,chostsx,Fhostsx,Apodsx,cpodsx,Fpodsx,hck,qp,hhostsx,hpodsx,hnextx,hweightspackx,hweightsspreadx,hweightssoftx⟩:=aO hr;subst hck;clear qp hr;obtain ⟨k,p,u⟩:=m;dsimp only at Uc HWU;obtain ⟨_,_,_,_,rfl,rfl,⟨rfl,rfl,hkind⟩,_,_,_,_,rfl,rfl,WT,afd⟩:=h';dsimp only at hkind WT afd ⊢;have hp:=WT;have hu:=afd;obtain ⟨Alabelsp,clabelsp,Flabelsp,Aneedsp,cneedsp,Fneedsp,Atolerancesp,ctolerancesp,Ftolerancesp,hck,hFp,hnamep,hlabelsp,hcpup,hmemp,hrankp,hneedsp,htolerancesp⟩:=dL hp;subst hck;obtain ⟨Alabelsu,clabelsu,Flabelsu,Ataintsu,ctaintsu,Ftaintsu,hck,hFu,hnameu,hlabelsu,hcpuu,hmemu,hslotsu,htaintsu⟩:=iy hu;subst hck;clear hFp hFu hp hu;unfold applyM;dsimp only;by_cases h1:k = 1
 ·as_aux_lemma =>
  subst h1;rw [if_pos rfl];have HS:=I' (fun cs F us Fu wq a b=>SubmitPod_spec x cs F p us Fu wq a b HW.out Uc.out);generalize addQ x p = RR at *;obtain ⟨R,cd⟩:=RR;dsimp only at HS ⊢;go_enter Tryz.func50,Tryz.ntmps50;go_wp2_with fail
  refine (HS.out _ _ _ _ _ (aZ h atT) (aZ WT atT)).mono ?_;exact Zabe
 ·rw [if_neg h1];by_cases h2:k = 2
  ·as_aux_lemma =>
   subst h2;rw [if_pos rfl];have HS:=I' (fun cs F us Fu wq a b=>AddHost_spec x cs F u us Fu wq a b HW.out HWU.out);generalize addH x u = RR at *;obtain ⟨R,cd⟩:=RR;dsimp only at HS ⊢;go_enter Tryz.func50,Tryz.ntmps50;go_wp2_with fail
   refine (HS.out _ _ _ _ _ (aZ h atT) (aZ afd atT)).mono ?_;exact Zabe
  ·rw [if_neg h2];cases hc:iI x
   ·as_aux_lemma =>
    have HC:=I' hc;clear hc;simp only [Bool.false_eq_true,if_false];go_enter Tryz.func50,Tryz.ntmps50;go_wp2_with fail
    refine (qM x _ _ _ (aZ h atT) HW.out).mono ?_;rw [HC.out];rintro e w0 ⟨rfl,hb0⟩;obtain ⟨hc0,hf0⟩:=ay hb0;have hz0:=hb0.size;simp at hz0;have hB0:Below w.heap.size w w0:=ah atT hb0;go_wp2_with fail
    refine (BO x _ _ _ (aZ h atT) HW.out).mono ?_;rintro e w1 ⟨ds,G,rfl,hO,hb1⟩;have hR:=hO.rd;obtain ⟨kM,kN,ND,ny,nC,TD,hck,hGr,NG,TF,TG,xI,uD,xJ⟩:=aO hR;subst hck;clear hGr hR;have XB:oG w1 (w.heap.size+1+1) [.slice none 0 0,.slice none 0 0,.int .i64 0,.int .i64 0,.int .i64 0,.int .i64 0]:=oG.ext (oG.ext (oG.new3 w _ _ [.slice none 0 0,.slice none 0 0,.int .i64 0,.int .i64 0,.int .i64 0,.int .i64 0] 29) hb0) hb1;have HO:=I' (hO.mono (B':=w.heap.size+1+1+1) O');have hb2:Below w.heap.size w w1:=ah hB0 hb1;clear hO hb1 h hb0;try dsimp only
    iterate 2 go_step
    refine wp_storeB 29 _ _ rfl (w.heap.size+1+1) 0 [.slice kM x.hosts.length kN,.slice ny x.au.length nC,.int .i64 x.next,.int .i64 x.weights.pack,.int .i64 x.weights.spread,.int .i64 x.weights.soft] [.slice none 0 0,.slice none 0 0,.int .i64 0,.int .i64 0,.int .i64 0,.int .i64 0] rfl rfl XB S' U' aub ?_;intro w2 YB OB;replace YB:oG w2 (w.heap.size+1+1) [.slice kM x.hosts.length kN,.slice ny x.au.length nC,.int .i64 x.next,.int .i64 x.weights.pack,.int .i64 x.weights.spread,.int .i64 x.weights.soft]:=YB;try dsimp only [Act.put]
    go_wp2;refine bodyPost_ret (v:=.tuple #[.agg #[.slice kM x.hosts.length kN,.slice ny x.au.length nC,.int .i64 x.next,.int .i64 x.weights.pack,.int .i64 x.weights.spread,.int .i64 x.weights.soft],.int .i64 1]) (results_cellB2 Tryz.results50 _ (w.heap.size+1+1) [.slice kM x.hosts.length kN,.slice ny x.au.length nC,.int .i64 x.next,.int .i64 x.weights.pack,.int .i64 x.weights.spread,.int .i64 x.weights.soft] _ _ rfl rfl YB Tryz.underlying29 rfl U') rfl ?_;exact Zab5
   ·as_aux_lemma =>
    have HC:=I' hc;clear hc;simp only [if_true];go_enter Tryz.func50,Tryz.ntmps50;go_wp2_with fail
    refine (qM x _ _ _ (aZ h atT) HW.out).mono ?_;rw [HC.out];rintro e w0 ⟨rfl,hb0⟩;obtain ⟨hc0,hf0⟩:=ay hb0;have hz0:=hb0.size;simp at hz0;have hB0:Below w.heap.size w w0:=ah atT hb0;go_wp2_with fail
    refine (BO x _ _ _ (aZ h atT) HW.out).mono ?_;rintro e w1 ⟨ds,G,rfl,hO,hb1⟩;have hR:=hO.rd;obtain ⟨kM,kN,ND,ny,nC,TD,hck,hGr,NG,TF,TG,xI,uD,xJ⟩:=aO hR;subst hck;clear hGr hR;have XB:oG w1 (w.heap.size+1+1) [.slice none 0 0,.slice none 0 0,.int .i64 0,.int .i64 0,.int .i64 0,.int .i64 0]:=oG.ext (oG.ext (oG.new3 w _ _ [.slice none 0 0,.slice none 0 0,.int .i64 0,.int .i64 0,.int .i64 0,.int .i64 0] 29) hb0) hb1;have HO:=I' (hO.mono (B':=w.heap.size+1+1+1) O');have hb2:Below w.heap.size w w1:=ah hB0 hb1;clear hO hb1 h hb0;try dsimp only
    iterate 2 go_step
    refine wp_storeB 29 _ _ rfl (w.heap.size+1+1) 0 [.slice kM x.hosts.length kN,.slice ny x.au.length nC,.int .i64 x.next,.int .i64 x.weights.pack,.int .i64 x.weights.spread,.int .i64 x.weights.soft] [.slice none 0 0,.slice none 0 0,.int .i64 0,.int .i64 0,.int .i64 0,.int .i64 0] rfl rfl XB S' U' aub ?_;intro w2 YB OB;replace YB:oG w2 (w.heap.size+1+1) [.slice kM x.hosts.length kN,.slice ny x.au.length nC,.int .i64 x.next,.int .i64 x.weights.pack,.int .i64 x.weights.spread,.int .i64 x.weights.soft]:=YB;try dsimp only [Act.put]
    go_wp2;refine bodyPost_ret (v:=.tuple #[.agg #[.slice kM x.hosts.length kN,.slice ny x.au.length nC,.int .i64 x.next,.int .i64 x.weights.pack,.int .i64 x.weights.spread,.int .i64 x.weights.soft],.int .i64 8]) (results_cellB2 Tryz.results50 _ (w.heap.size+1+1) [.slice kM x.hosts.length kN,.slice ny x.au.length nC,.int .i64 x.next,.int .i64 x.weights.pack,.int .i64 x.weights.spread,.int .i64 x.weights.soft] _ _ rfl rfl YB Tryz.underlying29 rfl U') rfl ?_;exact Zab5
theorem infoSOp:(Tryz.prog.info? 46).map (fun i=>(i.zero,i.size,i.bytes)) = some (some (.agg #[.int .i64 0,.string ⟨#[]⟩,.int .i64 0,.string ⟨#[]⟩,.slice none 0 0,.int .i64 0,.int .i64 0,.int .i64 0,.slice none 0 0,.slice none 0 0,.string ⟨#[]⟩,.slice none 0 0,.int .i64 0,.int .i64 0,.int .i64 0,.slice none 0 0,.int .i64 0,.int .i64 0,.int .i64 0]),19,256):=by kernel_rfl
theorem elSOp:DL Tryz.prog 31 46 (.agg #[.int .i64 0,.string ⟨#[]⟩,.int .i64 0,.string ⟨#[]⟩,.slice none 0 0,.int .i64 0,.int .i64 0,.int .i64 0,.slice none 0 0,.slice none 0 0,.string ⟨#[]⟩,.slice none 0 0,.int .i64 0,.int .i64 0,.int .i64 0,.slice none 0 0,.int .i64 0,.int .i64 0,.int .i64 0]) 19 256:=⟨Tryz.underlying31,infoSOp,rfl,O'⟩
def OpOk (d:Deed):Prop:=d.man.wt≤1000∧d.name.size≤8∧d.man.host.name≠⟨#[110,111,119,104,101,114,101]⟩
theorem Ops_draw (w:World) (A:Option Addr) (n cap:Nat) (hn:(n:Int)≤1048576) (hsrc:∀k,k < n→∃(g o:Nat) (v:Int),A = some ⟨g,o,none⟩∧g < w.heap.size∧w.cell? ⟨g,o+k,none⟩ = some (.int .u8 v)∧0≤v∧v≤255) :
 Calls Tryz.prog 10 #[.slice A n cap] w fun e w'=>∃(xs:List Deed) (A':Option Addr) (c':Nat) (G:List Nat),e = .returned (.slice A' xs.length c')∧Own w' w.heap.size xs [.slice A' xs.length c'] G∧xs.length≤25∧(∀d∈xs,OpOk d)∧Below w.heap.size w w':=by
 go_enter Tryz.func10,Tryz.ntmps10;go_wp2_with fail
 refine (New_draw w A n cap hn hsrc).mono ?_;rintro e w1 ⟨c,rfl,hc,H1,hb1⟩;have hz1:=hb1.size;have hlt:=H1.lt;have HB:=I' hb1;have HC:=I' H1;clear H1 hb1 hsrc;go_wp2_with fail
 go_loopw [4,5] (fun v i wr=>∃(xs:List Deed) (ds:List Value) (F:List Nat) (k:Nat),i = .int .i64 k∧(k:Int)≤25∧xs.length = k∧wr.ownsRow w1.heap.size 46 19 v xs.length ds∧Hid (aY wr w1.heap.size xs ds F∧(∀g,v.ownBlock = some g→g∉F)∧(∀d∈xs,OpOk d)∧DCur wr c A n cap∧nN [c] w1 wr)) (fun _ i _=>25 - (intOf i).toNat)
 case atStart =>exact ⟨[],[],[],0,rfl,O',rfl,D9 w1 46 19 w1.heap.size rfl,I' ⟨aY.nil _ _,(fun g _ hm=>by cases hm),(fun d hd=>by cases hd),HC.out.ext (ak (aj _) _),nN.lq _ (ak (aj _) _)⟩⟩
 case round =>
  obtain ⟨xs,ds,F,k,rfl,hk,hxk,hrow,HX⟩:=hrel;subst hxk;obtain ⟨hcs,hne,hok,hcur,hur⟩:=HX.out;have HROW:=I' hrow;have HCS:=I' hcs;have HNE:=I' hne;have HOK:=I' hok;have HCR:=I' hcur;have HUR:=I' hur;have hzr:=hur.size;obtain ⟨A1,c1,hv1⟩:=mY hrow;subst hv1;clear hcs hne hok hcur hur hrow HX HC;go_wp2_with fail
  refine (Below_draw 20 O' _ c A n cap HCR.out).mono ?_;rintro e w2 ⟨r,rfl,hr,H2,hu2⟩;have HROW2:=I' (rQ HROW.out hu2 hlt);have HCS2:=I' (HCS.out.keep (w':=w2) (fun b hb=>hu2.block b (HCS.out.lt b hb) (fun hm=>by have:=HCS.out.base b hb;rw [List.mem_singleton] at hm;omega)) hu2.size);have HU2:=I' (HUR.out.trans hu2);have hz2:=hu2.size;have HC2:=I' H2;clear H2 hu2 HROW HCS HUR HCR;by_cases hkr:(xs.length:Int) < 6+r
  ·have HLR:=I' (fun g hg=>(HROW2.out.lt g hg).2);have HLF:=I' HCS2.out.lt;go_wp2_with fail
   refine (Op_draw w2 c A n cap HC2.out).mono ?_;rintro e w3 ⟨y,cs,Gy,rfl,hOy,hwy,hny,hnn,H3,hu3⟩;have hR:=hOy.rd;obtain ⟨Amanpodlabelsy,cmanpodlabelsy,Fmanpodlabelsy,Amanpodneedsy,cmanpodneedsy,Fmanpodneedsy,Amanpodtolerancesy,cmanpodtolerancesy,Fmanpodtolerancesy,Amanhostlabelsy,cmanhostlabelsy,Fmanhostlabelsy,Amanhosttaintsy,cmanhosttaintsy,Fmanhosttaintsy,hck,hGr,hkindy,hnamey,hmankindy,hmanpodnamey,hmanpodlabelsy,hmanpodcpuy,hmanpodmemy,hmanpodranky,hmanpodneedsy,hmanpodtolerancesy,hmanhostnamey,hmanhostlabelsy,hmanhostcpuy,hmanhostmemy,hmanhostslotsy,hmanhosttaintsy,hweightspacky,hweightsspready,hweightssofty⟩:=rd_Deed hR;subst hck;clear hGr hR;have HC3:=I' H3;have hrow3:=rQ HROW2.out hu3 hlt;have HCS3:=I' (HCS2.out.keep (w':=w3) (fun b hb=>hu3.block b (HLF.out b hb) (fun hm=>by have:=HCS2.out.base b hb;rw [List.mem_singleton] at hm;omega)) hu3.size);have HOY:=I' hOy;have HU3:=I' (HU2.out.trans hu3);have hz3:=hu3.size;have HZ3:w1.heap.size≤w3.heap.size:=O'
   have HOK3:Hid (∀d∈xs++[y],OpOk d):=I' (fun d hd=>by
    rcases List.mem_append.1 hd with hd | hd
    ·exact HOK.out d hd
    ·rw [List.mem_singleton] at hd;subst hd;exact ⟨hwy,hny,hnn⟩)
   clear H3 hOy HC2 HROW2 HCS2 HU2 hu3 HOK hwy hny hnn
   go_wp2_with (
    at_builtin
    go_must (refine uf elSOp J' _ _ J' _ _ _ _ _ hrow3 J' [.int .i64 y.kind,.string y.name,.int .i64 y.man.kind,.string y.man.aS.name,.slice Amanpodlabelsy y.man.aS.labels.length cmanpodlabelsy,.int .i64 y.man.aS.cpu,.int .i64 y.man.aS.mem,.int .i64 y.man.aS.rank,.slice Amanpodneedsy y.man.aS.needs.length cmanpodneedsy,.slice Amanpodtolerancesy y.man.aS.tolerances.length cmanpodtolerancesy,.string y.man.host.name,.slice Amanhostlabelsy y.man.host.labels.length cmanhostlabelsy,.int .i64 y.man.host.cpu,.int .i64 y.man.host.mem,.int .i64 y.man.host.slots,.slice Amanhosttaintsy y.man.host.aT.length cmanhosttaintsy,.int .i64 y.weights.pack,.int .i64 y.weights.spread,.int .i64 y.weights.soft] aue J' aub O' O' HZ3 ?_)
    intro v4 w4 hown4 hg4 Wy hat4
    go_must (have hb4:Below w1.heap.size w3 w4:=lS hrow3 hg4 (Below.refl _ _) HZ3))
   have hls:(xs++[y]).length = xs.length+1:=S';obtain ⟨hcs4,hne4⟩:=aY.afm hrow3 HCS3.out HNE.out HOY.out O' HLR.out HLF.out hg4 hat4;have HC4:=I' (HC3.out.below hb4 O');have HU4:=I' (HU3.out.thenB hb4 O');exact ⟨⟨xs++[y],ds++[.int .i64 y.kind,.string y.name,.int .i64 y.man.kind,.string y.man.aS.name,.slice Amanpodlabelsy y.man.aS.labels.length cmanpodlabelsy,.int .i64 y.man.aS.cpu,.int .i64 y.man.aS.mem,.int .i64 y.man.aS.rank,.slice Amanpodneedsy y.man.aS.needs.length cmanpodneedsy,.slice Amanpodtolerancesy y.man.aS.tolerances.length cmanpodtolerancesy,.string y.man.host.name,.slice Amanhostlabelsy y.man.host.labels.length cmanhostlabelsy,.int .i64 y.man.host.cpu,.int .i64 y.man.host.mem,.int .i64 y.man.host.slots,.slice Amanhosttaintsy y.man.host.aT.length cmanhosttaintsy,.int .i64 y.weights.pack,.int .i64 y.weights.spread,.int .i64 y.weights.soft],F++Gy,xs.length+1,N',O',hls,(by rw [hls];exact hown4),I' ⟨hcs4,hne4,HOK3.out,HC4.out,HU4.out⟩⟩,by simp only [intOf];omega⟩
  ·go_wp2;obtain ⟨A5,c5,G5,hv5,fH⟩:=Own.oJ (α:=Deed) HROW2.out HCS2.out HNE.out;simp only [Value.slice.injEq,true_and] at hv5;obtain ⟨rfl,rfl⟩:=hv5;go_ret
   exact ⟨xs,_,_,G5,rfl,fH.mono O',O',HOK.out,HB.out.trans (HU2.out.below (B:=w.heap.size) (fun b hb=>by rw [List.mem_singleton] at hb;omega) O')⟩
end Go.Proofs.YtkjeocdobidadaaGreat
