/- FnClusters: for all bytes: what the drawn operations make is a right cluster. No condition. -/
import Derived.Test.YtkjeocdobidadaaGreatAppO
import Derived.Test.YtkjeocdobidadaaGreatAppM
import Derived.Test.YtkjeocdobidadaaGreatClusterI
import Derived.Test.YtkjeocdobidadaaGreatSameN
import Derived.Test.YtkjeocdobidadaaGreatUsedP
import Derived.Test.YtkjeocdobidadaaGreatUsed
import Derived.Test.YtkjeocdobidadaaGreatData
import Derived.Test.YtkjeocdobidadaaGreatAt
import Derived.Test.YtkjeocdobidadaaGreatDeed
import Derived.Test.YtkjeocdobidadaaGreatLabAt
import Derived.StillTailTactics
namespace Go.Proofs.YtkjeocdobidadaaGreat.fnClusters
open Go.ChangeShapes Go.WideShapes Go.ChangeAt Go.RowKit
set_option linter.unusedVariables false
set_option linter.unusedSimpArgs false
set_option maxHeartbeats 8000000
set_option maxRecDepth 100000
theorem wp_region_anyD {P:Program} {l:List Oper} {C:World→Prop} {Q:Exit→Act→World→Prop} {id:Nat} {a:Act} {w:World} (n:Nat) (hm:P.follows .mixedOrders = true) (hn:l.toArray.size = n) (hw:C w.drew)
 (h:adq P l Q C n (Array.replicate n false) a w.drew):(Code.region id l.toArray true).wp P Q a w:=by
 subst hn;exact wp_region_held_drew (S:=C) hm hw fun _=>h
theorem new_any (w:World):Calls Tryz.prog 9 #[] w fun e w'=>e = .returned (.agg #[.slice none 0 0,.slice none 0 0,.int .i64 1,.int .i64 2,.int .i64 1,.int .i64 3])∧Below w.heap.size w w':=by
 go_enter Tryz.func9,Tryz.ntmps9;go_wp2;refine bodyPost_ret (v:=.agg #[.slice none 0 0,.slice none 0 0,.int .i64 1,.int .i64 2,.int .i64 1,.int .i64 3]) (by simp [results,Tryz.results9,go_sem, *]) rfl ⟨rfl,atT⟩
theorem usual_any (w:World):Calls Tryz.prog 19 #[] w fun e w'=>e = .returned (.agg #[.int .i64 2,.int .i64 1,.int .i64 3])∧Below w.heap.size w w':=by
 go_enter Tryz.func19,Tryz.ntmps19;go_wp2;refine bodyPost_ret (v:=.agg #[.int .i64 2,.int .i64 1,.int .i64 3]) (by simp [results,Tryz.results19,go_sem, *]) rfl ⟨rfl,atT⟩
theorem walk (xs:List UInt8) (A:Option Addr) (cap:Nat) (F:List Nat) (w:World) (h:Sl w xs A cap F) :
 Calls Tryz.prog 3 #[.slice A xs.length cap] w fun e w'=>e = .returned (.bool true)∧Below w.heap.size w w':=by
 have hsrc:=I' (bytes_src h);clear h;by_cases hbig:(1048576:Int) < xs.length
 ·have hd:decide ((1048576:Int) < xs.length) = true:=by simpa using hbig
  have HD:=I' hd;clear hd hbig;go_enter Tryz.func3,Tryz.ntmps3;go_wp2_with fail
  refine (big_any _ _ _ _).mono ?_;rw [HD.out];rintro e w1 ⟨rfl,hb1⟩;go_wp2;go_ret
  exact ⟨rfl,hb1⟩
 ·have hd:decide ((1048576:Int) < xs.length) = false:=by simpa using hbig
  have HD:=I' hd;have HN:=I' (show (xs.length:Int)≤1048576 by omega);clear hd hbig;go_enter Tryz.func3,Tryz.ntmps3;go_wp2_with fail
  refine (big_any _ _ _ _).mono ?_;rw [HD.out];rintro e w1 ⟨rfl,hb1⟩;go_wp2_with fail
  refine (new_any _).mono ?_;rintro e w2 ⟨rfl,hb2⟩;have HB2:=I' (ah hb1 hb2:Below w.heap.size w w2);clear hb1 hb2;try dsimp only
  iterate 5 go_step
  refine wp_storeB 29 _ _ rfl w2.heap.size 0 [.slice none 0 0,.slice none 0 0,.int .i64 1,.int .i64 2,.int .i64 1,.int .i64 3] [.slice none 0 0,.slice none 0 0,.int .i64 0,.int .i64 0,.int .i64 0,.int .i64 0] rfl rfl (oG.new w2 _ 29) S' U' aub ?_;intro w3 Y3 O3;replace Y3:oG w3 w2.heap.size [.slice none 0 0,.slice none 0 0,.int .i64 1,.int .i64 2,.int .i64 1,.int .i64 3]:=Y3;have hz3:w3.heap.size = w2.heap.size+1:=by rw [O3.size];simp
  have HB3:=I' (ext_only (ak HB2.out (.cells ([.slice none 0 0,.slice none 0 0,.int .i64 0,.int .i64 0,.int .i64 0,.int .i64 0]:List Value).toArray 29)) O3 (by have:=HB2.out.size;omega));have HY3:=I' Y3;clear O3 Y3 HD;go_wp2_with fail
  refine (Ops_draw w3 A xs.length cap HN.out (fun k hk=>?_)).mono ?_
  ·obtain ⟨g,o,v,e,hg,hv,hv0⟩:=hsrc.out k hk;exact ⟨g,o,v,e,Nat.lt_of_lt_of_le hg HB3.out.size,(HB3.out.cell (p:=⟨g,o+k,none⟩) hg).trans hv,hv0⟩
  rintro e w4 ⟨ds,Ad,cd,Gd,rfl,hOd,hdl,hdok,hb4⟩;have HOD:=I' hOd;have HDK:=I' hdok;have HY4:=I' (HY3.out.ext hb4);have HB4:=I' (ah HB3.out hb4);have Wy:=hb4.size;clear hOd hdok hb4 HY3 HB3 hsrc HN;go_wp2_with fail
  go_loopw [5] (fun i wr=>∃(k:Nat) (x:aU) (Ah Ap:Option Addr) (ch cp:Nat) (G:List Nat),i = .int .i64 k∧k≤ds.length∧Hid (Own wr (w2.heap.size+1) x [.slice Ah x.hosts.length ch,.slice Ap x.au.length cp,.int .i64 x.next,.int .i64 x.weights.pack,.int .i64 x.weights.spread,.int .i64 x.weights.soft] G∧Good x∧NowH x∧oG wr w2.heap.size [.slice Ah x.hosts.length ch,.slice Ap x.au.length cp,.int .i64 x.next,.int .i64 x.weights.pack,.int .i64 x.weights.spread,.int .i64 x.weights.soft]∧Own wr w3.heap.size ds [.slice Ad ds.length cd] Gd∧Below w.heap.size w wr∧w4.heap.size≤wr.heap.size)) (fun i _=>ds.length - (intOf i).toNat)
  case atStart=>exact ⟨0,newC,none,none,0,0,[],rfl,Nat.zero_le _,I' ⟨Own.newC _ _,newC_good,(fun h hh=>by cases hh),HY4.out,HOD.out,HB4.out,Nat.le_refl _⟩⟩
  case round =>
   obtain ⟨k,x,Ah,Ap,ch,cp,G,rfl,hk,HX⟩:=hrel;obtain ⟨hO,hG,hNH,hY,hOd,hB,hz⟩:=HX.out;have HG:=I' hG;have HNW:=I' hNH;have HO:=I' hO;have HY:=I' hY;have HOE:=I' hOd;have HB:=I' hB;have HZ:=I' hz;clear HX hO hG hNH hY hOd hB hz HY4 HOD HB4;by_cases hkl:k < ds.length
   ·obtain ⟨bd,od,ckd,Fkd,hAd,su,hbd,hrd,_,hcd⟩:=Sl.get (show Sl wr ds Ad cd Gd from HOE.out.rd) hkl;subst hAd;have hok:=HDK.out _ (List.getElem_mem hkl);have hrd2:=hrd;obtain ⟨Amanpodlabelsd,cmanpodlabelsd,Fmanpodlabelsd,Amanpodneedsd,cmanpodneedsd,Fmanpodneedsd,Amanpodtolerancesd,cmanpodtolerancesd,Fmanpodtolerancesd,Amanhostlabelsd,cmanhostlabelsd,Fmanhostlabelsd,Amanhosttaintsd,cmanhosttaintsd,Fmanhosttaintsd,hck,hFd,hkindd,hnamed,hmankindd,hmanpodnamed,hmanpodlabelsd,hmanpodcpud,hmanpodmemd,hmanpodrankd,hmanpodneedsd,hmanpodtolerancesd,hmanhostnamed,hmanhostlabelsd,hmanhostcpud,hmanhostmemd,hmanhostslotsd,hmanhosttaintsd,hweightspackd,hweightsspreadd,hweightssoftd⟩:=rd_Deed hrd2;subst hck;clear hFd hrd2;have HRD:=I' hrd;have hbne:bd≠w2.heap.size:=(by have:=HOE.out.base bd su;omega);have HRG:=I' (show wr.rangeAt bd (od+k * 19) [.int .i64 ds[k].kind,.string ds[k].name,.int .i64 ds[k].man.kind,.string ds[k].man.aS.name,.slice Amanpodlabelsd ds[k].man.aS.labels.length cmanpodlabelsd,.int .i64 ds[k].man.aS.cpu,.int .i64 ds[k].man.aS.mem,.int .i64 ds[k].man.aS.rank,.slice Amanpodneedsd ds[k].man.aS.needs.length cmanpodneedsd,.slice Amanpodtolerancesd ds[k].man.aS.tolerances.length cmanpodtolerancesd,.string ds[k].man.host.name,.slice Amanhostlabelsd ds[k].man.host.labels.length cmanhostlabelsd,.int .i64 ds[k].man.host.cpu,.int .i64 ds[k].man.host.mem,.int .i64 ds[k].man.host.slots,.slice Amanhosttaintsd ds[k].man.host.aT.length cmanhosttaintsd,.int .i64 ds[k].weights.pack,.int .i64 ds[k].weights.spread,.int .i64 ds[k].weights.soft] from fun j v hv=>by have:=hcd j v hv;rwa [show od+(k * Dat.size Deed+j) = od+k * 19+j by show od+(k * 19+j) = _;omega] at this);have hki:(k:Int) < ds.length:=O';have hcap:=(show Sl wr ds (some ⟨bd,od,none⟩) cd Gd from HOE.out.rd).cap;have hbl:bd < wr.heap.size:=hbd;clear hrd hcd hbd;have hwt:=good_wt HG.out;go_wp2_with fail
    have HCX:=I' (show wr.drew.rangeAt bd (od+k * 19) [.int .i64 ds[k].kind,.string ds[k].name,.int .i64 ds[k].man.kind,.string ds[k].man.aS.name,.slice Amanpodlabelsd ds[k].man.aS.labels.length cmanpodlabelsd,.int .i64 ds[k].man.aS.cpu,.int .i64 ds[k].man.aS.mem,.int .i64 ds[k].man.aS.rank,.slice Amanpodneedsd ds[k].man.aS.needs.length cmanpodneedsd,.slice Amanpodtolerancesd ds[k].man.aS.tolerances.length cmanpodtolerancesd,.string ds[k].man.host.name,.slice Amanhostlabelsd ds[k].man.host.labels.length cmanhostlabelsd,.int .i64 ds[k].man.host.cpu,.int .i64 ds[k].man.host.mem,.int .i64 ds[k].man.host.slots,.slice Amanhosttaintsd ds[k].man.host.aT.length cmanhosttaintsd,.int .i64 ds[k].weights.pack,.int .i64 ds[k].weights.spread,.int .i64 ds[k].weights.soft] from fun j v hv=>(aA (aj wr)).cell (p:=⟨bd,od+k * 19+j,none⟩) hbl |>.trans (HRG.out j v hv));refine wp_region_anyD (C:=fun w'=>w'.rangeAt bd (od+k * 19) [.int .i64 ds[k].kind,.string ds[k].name,.int .i64 ds[k].man.kind,.string ds[k].man.aS.name,.slice Amanpodlabelsd ds[k].man.aS.labels.length cmanpodlabelsd,.int .i64 ds[k].man.aS.cpu,.int .i64 ds[k].man.aS.mem,.int .i64 ds[k].man.aS.rank,.slice Amanpodneedsd ds[k].man.aS.needs.length cmanpodneedsd,.slice Amanpodtolerancesd ds[k].man.aS.tolerances.length cmanpodtolerancesd,.string ds[k].man.host.name,.slice Amanhostlabelsd ds[k].man.host.labels.length cmanhostlabelsd,.int .i64 ds[k].man.host.cpu,.int .i64 ds[k].man.host.mem,.int .i64 ds[k].man.host.slots,.slice Amanhosttaintsd ds[k].man.host.aT.length cmanhosttaintsd,.int .i64 ds[k].weights.pack,.int .i64 ds[k].weights.spread,.int .i64 ds[k].weights.soft]) 10 U' U' HCX.out ?_
    refine aX 1 _ J' U' (fun _ _ d _ _ h=>by cases d <;> exact h) HCX.out (Or.inl ⟨rfl,fun wq hq=>by
     go_simp
     try rfl⟩) ?_
    try simp only [Act.put,pz]
    refine aX 2 _ J' U' (fun _ _ d _ _ h=>by cases d <;> exact h) HCX.out (Or.inl ⟨rfl,fun wq hq=>by
     go_simp
     try rfl⟩) ?_
    try simp only [Act.put,pz]
    refine aX 3 _ J' U' (fun _ _ d _ _ h=>by cases d <;> exact h) HCX.out (Or.inl ⟨rfl,fun wq hq=>by
     go_simp
     try rfl⟩) ?_
    try simp only [Act.put,pz]
    refine aX 4 (.agg #[.int .i64 ds[k].kind,.string ds[k].name,.int .i64 ds[k].man.kind,.string ds[k].man.aS.name,.slice Amanpodlabelsd ds[k].man.aS.labels.length cmanpodlabelsd,.int .i64 ds[k].man.aS.cpu,.int .i64 ds[k].man.aS.mem,.int .i64 ds[k].man.aS.rank,.slice Amanpodneedsd ds[k].man.aS.needs.length cmanpodneedsd,.slice Amanpodtolerancesd ds[k].man.aS.tolerances.length cmanpodtolerancesd,.string ds[k].man.host.name,.slice Amanhostlabelsd ds[k].man.host.labels.length cmanhostlabelsd,.int .i64 ds[k].man.host.cpu,.int .i64 ds[k].man.host.mem,.int .i64 ds[k].man.host.slots,.slice Amanhosttaintsd ds[k].man.host.aT.length cmanhosttaintsd,.int .i64 ds[k].weights.pack,.int .i64 ds[k].weights.spread,.int .i64 ds[k].weights.soft]) J' U' (fun _ _ d _ _ h=>by cases d <;> exact h) HCX.out (yieldsIf_load_mid rfl 46 _ rfl bd (od+k * 19) rfl [.int .i64 ds[k].kind,.string ds[k].name,.int .i64 ds[k].man.kind,.string ds[k].man.aS.name,.slice Amanpodlabelsd ds[k].man.aS.labels.length cmanpodlabelsd,.int .i64 ds[k].man.aS.cpu,.int .i64 ds[k].man.aS.mem,.int .i64 ds[k].man.aS.rank,.slice Amanpodneedsd ds[k].man.aS.needs.length cmanpodneedsd,.slice Amanpodtolerancesd ds[k].man.aS.tolerances.length cmanpodtolerancesd,.string ds[k].man.host.name,.slice Amanhostlabelsd ds[k].man.host.labels.length cmanhostlabelsd,.int .i64 ds[k].man.host.cpu,.int .i64 ds[k].man.host.mem,.int .i64 ds[k].man.host.slots,.slice Amanhosttaintsd ds[k].man.host.aT.length cmanhosttaintsd,.int .i64 ds[k].weights.pack,.int .i64 ds[k].weights.spread,.int .i64 ds[k].weights.soft] _ (fun w' hw'=>hw') Tryz.underlying46 rfl U') ?_;try simp only [Act.put,pz]
    have ky:=HY.out.ext (aA (aj wr));refine bP 0 J' U' J' (fun K hK=>?_);refine wp_loadB 29 _ rfl w2.heap.size [.slice Ah x.hosts.length ch,.slice Ap x.au.length cp,.int .i64 x.next,.int .i64 x.weights.pack,.int .i64 x.weights.spread,.int .i64 x.weights.soft] rfl _ ky Tryz.underlying29 rfl U' ?_;refine hK _ _ HCX.out ?_;try simp only [Act.put,pz]
    clear hK K ky;refine bP 5 J' U' J' (fun K hK=>?_);go_simp;refine (Applied_spec x _ _ ds[k] _ _ _ (HO.out.rdx (aA (aj _))) (aZ HRD.out (aA (aj _))) O' (by have:=hok.1;omega)).mono ?_;have HG5:=I' (applied_good HG.out ds[k]);have HN5:=I' (applied_now HNW.out hok.2.2);generalize applied x ds[k] = RR at *;obtain ⟨R,cd5⟩:=RR;rintro e w5 ⟨es,G5,rfl,fH,hb5⟩;dsimp only at fH ⊢;have hR:=fH.rd;obtain ⟨kM,kN,ND,ny,nC,TD,hck,hGr,NG,TF,TG,xI,uD,xJ⟩:=aO hR;subst hck;clear hGr hR;replace hb5:Below wr.heap.size wr w5:=ah (aA (aj _)) hb5;have HO5:=I' fH;have HY5:=HY.out.ext hb5;have HOE5:=I' (HOE.out.ext hb5);have HB5:=I' (ah HB.out hb5);have Es:=hb5.size;have hzr:=HZ.out;have hzw:=HB.out.size;have hz2:=HB2.out.size;have HR5:=I' (show w5.rangeAt bd (od+k * 19) [.int .i64 ds[k].kind,.string ds[k].name,.int .i64 ds[k].man.kind,.string ds[k].man.aS.name,.slice Amanpodlabelsd ds[k].man.aS.labels.length cmanpodlabelsd,.int .i64 ds[k].man.aS.cpu,.int .i64 ds[k].man.aS.mem,.int .i64 ds[k].man.aS.rank,.slice Amanpodneedsd ds[k].man.aS.needs.length cmanpodneedsd,.slice Amanpodtolerancesd ds[k].man.aS.tolerances.length cmanpodtolerancesd,.string ds[k].man.host.name,.slice Amanhostlabelsd ds[k].man.host.labels.length cmanhostlabelsd,.int .i64 ds[k].man.host.cpu,.int .i64 ds[k].man.host.mem,.int .i64 ds[k].man.host.slots,.slice Amanhosttaintsd ds[k].man.host.aT.length cmanhosttaintsd,.int .i64 ds[k].weights.pack,.int .i64 ds[k].weights.spread,.int .i64 ds[k].weights.soft] from fun j v hv=>(hb5.cell (p:=⟨bd,od+k * 19+j,none⟩) hbl).trans (HRG.out j v hv));clear hb5 fH HO HY HOE HB HCX;refine hK _ _ HR5.out ?_;try simp only [Act.put,pz]
    clear hK K;refine bP 6 J' U' J' (fun K hK=>?_);go_simp;refine hK _ _ HR5.out ?_;try simp only [Act.put,pz]
    clear hK K
    refine aX 7 _ J' U' (fun _ _ d _ _ h=>by cases d <;> exact h) HR5.out (Or.inl ⟨rfl,fun wq hq=>by
     go_simp
     try rfl⟩) ?_
    try simp only [Act.put,pz]
    refine aX 8 _ J' U' (fun _ _ d _ _ h=>by cases d <;> exact h) HR5.out (Or.inl ⟨rfl,fun wq hq=>by
     go_simp
     try rfl⟩) ?_
    try simp only [Act.put,pz]
    refine bP 9 J' U' J' (fun K hK=>?_);refine wp_storeB 29 _ _ rfl w2.heap.size 0 [.slice kM R.hosts.length kN,.slice ny R.au.length nC,.int .i64 R.next,.int .i64 R.weights.pack,.int .i64 R.weights.spread,.int .i64 R.weights.soft] [.slice Ah x.hosts.length ch,.slice Ap x.au.length cp,.int .i64 x.next,.int .i64 x.weights.pack,.int .i64 x.weights.spread,.int .i64 x.weights.soft] rfl rfl HY5 S' U' aub ?_;intro w6 Y6 O6;replace Y6:oG w6 w2.heap.size [.slice kM R.hosts.length kN,.slice ny R.au.length nC,.int .i64 R.next,.int .i64 R.weights.pack,.int .i64 R.weights.spread,.int .i64 R.weights.soft]:=Y6;refine hK _ _ (show w6.rangeAt bd (od+k * 19) [.int .i64 ds[k].kind,.string ds[k].name,.int .i64 ds[k].man.kind,.string ds[k].man.aS.name,.slice Amanpodlabelsd ds[k].man.aS.labels.length cmanpodlabelsd,.int .i64 ds[k].man.aS.cpu,.int .i64 ds[k].man.aS.mem,.int .i64 ds[k].man.aS.rank,.slice Amanpodneedsd ds[k].man.aS.needs.length cmanpodneedsd,.slice Amanpodtolerancesd ds[k].man.aS.tolerances.length cmanpodtolerancesd,.string ds[k].man.host.name,.slice Amanhostlabelsd ds[k].man.host.labels.length cmanhostlabelsd,.int .i64 ds[k].man.host.cpu,.int .i64 ds[k].man.host.mem,.int .i64 ds[k].man.host.slots,.slice Amanhosttaintsd ds[k].man.host.aT.length cmanhosttaintsd,.int .i64 ds[k].weights.pack,.int .i64 ds[k].weights.spread,.int .i64 ds[k].weights.soft] from fun j v hv=>(World.cell?_of_block (O6.block bd hbne)).trans (HR5.out j v hv)) ?_;try simp only [Act.put,pz]
    clear hK K;refine nR U' ?_;have hwd:wr.drew.heap.size = wr.heap.size:=rfl;have HO6:=I' ((HO5.out.only O6 (fun b hb=>by have:=HO5.out.base b hb;omega)).mono (B':=w2.heap.size+1) O');have HOE6:=I' (HOE5.out.only O6 (fun b hb=>by have:=HOE5.out.base b hb;omega));have HB6:=I' (ext_only HB5.out O6 O');have hz6:=O6.size;have HY6:=I' Y6;clear HO5 HY5 HOE5 HB5 O6 Y6;go_wp2;exact ⟨⟨k+1,R,_,_,_,_,G5,N',O',I' ⟨HO6.out,HG5.out,HN5.out,HY6.out,HOE6.out,HB6.out,O'⟩⟩,by simp only [intOf];omega⟩
   ·
    clear HOE HDK;obtain ⟨wz,hwz⟩:∃wz,wz = wr:=⟨_,rfl⟩;subst hwz;obtain ⟨FH,FP,hSH,hSP⟩:=rd_parts HO.out.rd;have HSH:=I' hSH;have Ob:=I' hSP;have Ji:=I' (show (x.au.length:Int)≤1048576 by have:=HG.out.p12;omega);have hp12:=HG.out.p12;have hp8:=HG.out.h8;have hki:¬(k:Int) < ds.length:=O';clear hSH hSP;go_wp2_with fail
    go_loopw [6] (fun i wr=>∃m:Nat,i = .int .i64 m∧m≤x.hosts.length∧Below wz.heap.size wz wr) (fun i _=>x.hosts.length - (intOf i).toNat)
    case atStart=>exact ⟨0,rfl,Nat.zero_le _,aj _⟩
    case round =>
     obtain ⟨m,rfl,hm,hbl⟩:=hrel;have HBL:=I' hbl;have HXm:=I' (HO.out.ext hbl);have Ym:=HY.out.ext hbl;have HYm:=I' Ym;have hzsm:=hbl.size;have hzxm:w2.heap.size < wr.heap.size:=(by have:=HZ.out;omega);clear hbl;have kYm_0:=Ym.cell (i:=0) rfl;have fYm_0:=Ym.fz 0;have kYm_1:=Ym.cell (i:=1) rfl;have fYm_1:=Ym.fz 1;have kYm_2:=Ym.cell (i:=2) rfl;have fYm_2:=Ym.fz 2;have kYm_3:=Ym.cell (i:=3) rfl;have fYm_3:=Ym.fz 3;have kYm_4:=Ym.cell (i:=4) rfl;have fYm_4:=Ym.fz 4;have kYm_5:=Ym.cell (i:=5) rfl;have fYm_5:=Ym.fz 5;clear Ym;by_cases hmt:m < x.hosts.length
     ·obtain ⟨bh,oh,ckh,Fkh,hAh,_,hblh,hrh,_,hch⟩:=HSH.out.get hmt;obtain ⟨Alabelsh,clabelsh,Flabelsh,Ataintsh,ctaintsh,Ftaintsh,hck,hFh,hnameh,hlabelsh,hcpuh,hmemh,hslotsh,htaintsh⟩:=iy hrh;subst hck;subst hAh;have c0:wr.cell? ⟨bh,oh+m * 6,none⟩ = some (.string x.hosts[m].name):=(by have h0:=hch 0 _ rfl;exact (HBL.out.cell (p:=⟨bh,oh+m * 6,none⟩) hblh).trans (by rwa [show oh+(m * Dat.size Host+0) = oh+m * 6 by show oh+(m * 6+0) = _;omega] at h0));have c1:wr.cell? ⟨bh,oh+m * 6+1,none⟩ = some (.slice Alabelsh x.hosts[m].labels.length clabelsh):=(by have h0:=hch 1 _ rfl;exact (HBL.out.cell (p:=⟨bh,oh+m * 6+1,none⟩) hblh).trans (by rwa [show oh+(m * Dat.size Host+1) = oh+m * 6+1 by show oh+(m * 6+1) = _;omega] at h0));have c2:wr.cell? ⟨bh,oh+m * 6+2,none⟩ = some (.int .i64 x.hosts[m].cpu):=(by have h0:=hch 2 _ rfl;exact (HBL.out.cell (p:=⟨bh,oh+m * 6+2,none⟩) hblh).trans (by rwa [show oh+(m * Dat.size Host+2) = oh+m * 6+2 by show oh+(m * 6+2) = _;omega] at h0));have c3:wr.cell? ⟨bh,oh+m * 6+3,none⟩ = some (.int .i64 x.hosts[m].mem):=(by have h0:=hch 3 _ rfl;exact (HBL.out.cell (p:=⟨bh,oh+m * 6+3,none⟩) hblh).trans (by rwa [show oh+(m * Dat.size Host+3) = oh+m * 6+3 by show oh+(m * 6+3) = _;omega] at h0));have c4:wr.cell? ⟨bh,oh+m * 6+4,none⟩ = some (.int .i64 x.hosts[m].slots):=(by have h0:=hch 4 _ rfl;exact (HBL.out.cell (p:=⟨bh,oh+m * 6+4,none⟩) hblh).trans (by rwa [show oh+(m * Dat.size Host+4) = oh+m * 6+4 by show oh+(m * 6+4) = _;omega] at h0));have c5:wr.cell? ⟨bh,oh+m * 6+5,none⟩ = some (.slice Ataintsh x.hosts[m].aT.length ctaintsh):=(by have h0:=hch 5 _ rfl;exact (HBL.out.cell (p:=⟨bh,oh+m * 6+5,none⟩) hblh).trans (by rwa [show oh+(m * Dat.size Host+5) = oh+m * 6+5 by show oh+(m * 6+5) = _;omega] at h0));have hzh:bh < wr.heap.size:=O';have hcaph:=HSH.out.cap;obtain ⟨ca,cb,hus,hca,hcb,hcn⟩:=used_at HG.out hmt;have HUS:=I' hus;have HHA:=I' (host_at_self HG.out hmt);have d1:decide (x.hosts[m].cpu < ca) = false:=(by simpa using hca);have d2:decide (x.hosts[m].mem < cb) = false:=(by simpa using hcb);have d3:decide (x.hosts[m].slots < ((YD x.hosts[m].name x.au).length:Int)) = false:=(by simpa using hcn);have hmi:(m:Int) < x.hosts.length:=O';clear hrh hch hFh hus hca hcb hcn;go_wp2_with fail
      refine (iQ x _ _ x.hosts[m].name _ (HXm.out.rdx (ak (aj _) _)) Ji.out).mono ?_;rw [HUS.out];rintro e w8 ⟨rfl,hb8⟩;have HB8:Below wr.heap.size wr w8:=ah (ak (aj _) _) hb8;have HBL8:=I' (ah HBL.out HB8);have HX8:=I' (HXm.out.ext HB8);have HY8:=I' (HYm.out.ext HB8);have BH8:=(oG.new wr [.string x.hosts[m].name,.slice Alabelsh x.hosts[m].labels.length clabelsh,.int .i64 x.hosts[m].cpu,.int .i64 x.hosts[m].mem,.int .i64 x.hosts[m].slots,.slice Ataintsh x.hosts[m].aT.length ctaintsh] 42).ext hb8;have HBH8:=I' BH8;have hz8:=hb8.size;simp only [World.size_alloc] at hz8;have hzy8:w2.heap.size < w8.heap.size:=O';have Y8:=HY8.out;clear c0 c1 c2 c3 c4 c5 hb8 HB8 HXm HBL HUS;clear kYm_0 fYm_0 kYm_1 fYm_1 kYm_2 fYm_2 kYm_3 fYm_3 kYm_4 fYm_4 kYm_5 fYm_5;have kY8_0:=Y8.cell (i:=0) rfl;have fY8_0:=Y8.fz 0;have kY8_1:=Y8.cell (i:=1) rfl;have fY8_1:=Y8.fz 1;have kY8_2:=Y8.cell (i:=2) rfl;have fY8_2:=Y8.fz 2;have kY8_3:=Y8.cell (i:=3) rfl;have fY8_3:=Y8.fz 3;have kY8_4:=Y8.cell (i:=4) rfl;have fY8_4:=Y8.fz 4;have kY8_5:=Y8.cell (i:=5) rfl;have fY8_5:=Y8.fz 5;have kBH8_0:=BH8.cell (i:=0) rfl;have fBH8_0:=BH8.fz 0;have kBH8_1:=BH8.cell (i:=1) rfl;have fBH8_1:=BH8.fz 1;have kBH8_2:=BH8.cell (i:=2) rfl;have fBH8_2:=BH8.fz 2;have kBH8_3:=BH8.cell (i:=3) rfl;have fBH8_3:=BH8.fz 3;have kBH8_4:=BH8.cell (i:=4) rfl;have fBH8_4:=BH8.fz 4;have kBH8_5:=BH8.cell (i:=5) rfl;have fBH8_5:=BH8.fz 5;clear Y8 BH8;go_wp2_with fail
      refine (abh x _ _ x.hosts[m].name _ HX8.out.rd Ji.out).mono ?_;rintro e w9 ⟨Ab,cb9,Gb,rfl,hOb,xB⟩;have HBL9:=I' (ah HBL8.out (xB.mono (Nat.le_refl _)));have HX9:=I' (HX8.out.ext xB);have Y9:=HY8.out.ext xB;have BH9:=HBH8.out.ext xB;have hz9:=xB.size;clear xB hOb HBL8 HX8 HY8 HBH8;clear kY8_0 fY8_0 kY8_1 fY8_1 kY8_2 fY8_2 kY8_3 fY8_3 kY8_4 fY8_4 kY8_5 fY8_5;clear kBH8_0 fBH8_0 kBH8_1 fBH8_1 kBH8_2 fBH8_2 kBH8_3 fBH8_3 kBH8_4 fBH8_4 kBH8_5 fBH8_5;have kY9_0:=Y9.cell (i:=0) rfl;have fY9_0:=Y9.fz 0;have kY9_1:=Y9.cell (i:=1) rfl;have fY9_1:=Y9.fz 1;have kY9_2:=Y9.cell (i:=2) rfl;have fY9_2:=Y9.fz 2;have kY9_3:=Y9.cell (i:=3) rfl;have fY9_3:=Y9.fz 3;have kY9_4:=Y9.cell (i:=4) rfl;have fY9_4:=Y9.fz 4;have kY9_5:=Y9.cell (i:=5) rfl;have fY9_5:=Y9.fz 5;have kBH9_0:=BH9.cell (i:=0) rfl;have fBH9_0:=BH9.fz 0;have kBH9_1:=BH9.cell (i:=1) rfl;have fBH9_1:=BH9.fz 1;have kBH9_2:=BH9.cell (i:=2) rfl;have fBH9_2:=BH9.fz 2;have kBH9_3:=BH9.cell (i:=3) rfl;have fBH9_3:=BH9.fz 3;have kBH9_4:=BH9.cell (i:=4) rfl;have fBH9_4:=BH9.fz 4;have kBH9_5:=BH9.cell (i:=5) rfl;have fBH9_5:=BH9.fz 5;clear Y9 BH9;go_wp2_with fail
      refine (gK x _ _ x.hosts[m].name _ HX9.out.rd O').mono ?_;rw [HHA.out];rintro e wc ⟨rfl,hbc⟩;have HBLc:=I' (ah HBL9.out hbc);clear hbc HBL9 HX9;clear kY9_0 fY9_0 kY9_1 fY9_1 kY9_2 fY9_2 kY9_3 fY9_3 kY9_4 fY9_4 kY9_5 fY9_5;clear kBH9_0 fBH9_0 kBH9_1 fBH9_1 kBH9_2 fBH9_2 kBH9_3 fBH9_3 kBH9_4 fBH9_4 kBH9_5 fBH9_5;go_wp2;exact ⟨⟨m+1,N',O',HBLc.out⟩,by simp only [intOf];omega⟩
     ·have hmi:¬(m:Int) < x.hosts.length:=O';obtain ⟨wy,hwy⟩:∃wy,wy = wr:=⟨_,rfl⟩;subst hwy;go_wp2_with fail
      go_loopw [12] (fun i wr=>∃j:Nat,i = .int .i64 j∧j≤x.au.length∧Below wz.heap.size wz wr) (fun i _=>x.au.length - (intOf i).toNat)
      case atStart=>exact ⟨0,rfl,Nat.zero_le _,HBL.out⟩
      case round =>
       obtain ⟨j,rfl,hj,hbl⟩:=hrel;have HBLp:=I' hbl;have HXp:=I' (HO.out.ext hbl);have Yp:=HY.out.ext hbl;have hzsp:=hbl.size;have hzxp:w2.heap.size < wr.heap.size:=(by have:=HZ.out;omega);clear kYm_0 fYm_0 kYm_1 fYm_1 kYm_2 fYm_2 kYm_3 fYm_3 kYm_4 fYm_4 kYm_5 fYm_5;clear hbl HBL HXm HYm;have kYp_0:=Yp.cell (i:=0) rfl;have fYp_0:=Yp.fz 0;have kYp_1:=Yp.cell (i:=1) rfl;have fYp_1:=Yp.fz 1;have kYp_2:=Yp.cell (i:=2) rfl;have fYp_2:=Yp.fz 2;have kYp_3:=Yp.cell (i:=3) rfl;have fYp_3:=Yp.fz 3;have kYp_4:=Yp.cell (i:=4) rfl;have fYp_4:=Yp.fz 4;have kYp_5:=Yp.cell (i:=5) rfl;have fYp_5:=Yp.fz 5;clear Yp;by_cases hjt:j < x.au.length
       ·obtain ⟨bp,op,ckp,Fkp,hAp,_,hblp,QS,_,hcp⟩:=Ob.out.get hjt;obtain ⟨Apodlabelsp,cpodlabelsp,Fpodlabelsp,Apodneedsp,cpodneedsp,Fpodneedsp,Apodtolerancesp,cpodtolerancesp,Fpodtolerancesp,hck,hFp,hpodnamep,hpodlabelsp,hpodcpup,hpodmemp,hpodrankp,hpodneedsp,hpodtolerancesp,honp,hseqp⟩:=kE QS;subst hck;subst hAp;have c0:wr.cell? ⟨bp,op+j * 9,none⟩ = some (.string x.au[j].aS.name):=(by have h0:=hcp 0 _ rfl;exact (HBLp.out.cell (p:=⟨bp,op+j * 9,none⟩) hblp).trans (by rwa [show op+(j * Dat.size Placed+0) = op+j * 9 by show op+(j * 9+0) = _;omega] at h0));have hzp:bp < wr.heap.size:=O';have hcapp:=Ob.out.cap;have HPA:=I' (pod_at_self HG.out hjt);have hji:(j:Int) < x.au.length:=O';clear QS hcp hFp;go_wp2_with fail
        refine zU wr 11 U' U' (aj _) ?_;have hbx:Below wr.heap.size wr wr.drew:=aA (aj _)
        refine aX 0 _ J' U' (fun _ _ d _ _ h=>by cases d <;> exact h) hbx (Or.inl ⟨rfl,fun wq hq=>by
         have hcq:=(aB hq).1;go_simp
         try rfl⟩) ?_
        try simp only [Act.put,pz]
        refine aX 1 _ J' U' (fun _ _ d _ _ h=>by cases d <;> exact h) hbx (Or.inl ⟨rfl,fun wq hq=>by
         have hcq:=(aB hq).1;go_simp
         try rfl⟩) ?_
        try simp only [Act.put,pz]
        refine aX 2 _ J' U' (fun _ _ d _ _ h=>by cases d <;> exact h) hbx (Or.inl ⟨rfl,fun wq hq=>by
         have hcq:=(aB hq).1;go_simp
         try rfl⟩) ?_
        try simp only [Act.put,pz]
        refine aX 3 _ J' U' (fun _ _ d _ _ h=>by cases d <;> exact h) hbx (Or.inl ⟨rfl,fun wq hq=>by
         have hcq:=(aB hq).1;go_simp
         try rfl⟩) ?_
        try simp only [Act.put,pz]
        refine aX 4 _ J' U' (fun _ _ d _ _ h=>by cases d <;> exact h) hbx (Or.inl ⟨rfl,fun wq hq=>by
         have hcq:=(aB hq).1;go_simp
         try rfl⟩) ?_
        try simp only [Act.put,pz]
        refine aX 5 _ J' U' (fun _ _ d _ _ h=>by cases d <;> exact h) hbx (Or.inl ⟨rfl,fun wq hq=>by
         have hcq:=(aB hq).1;go_simp
         try rfl⟩) ?_
        try simp only [Act.put,pz]
        refine aX 6 _ J' U' (fun _ _ d _ _ h=>by cases d <;> exact h) hbx (Or.inl ⟨rfl,fun wq hq=>by
         have hcq:=(aB hq).1;go_simp
         try rfl⟩) ?_
        try simp only [Act.put,pz]
        refine aX 7 _ J' U' (fun _ _ d _ _ h=>by cases d <;> exact h) hbx (Or.inl ⟨rfl,fun wq hq=>by
         have hcq:=(aB hq).1;go_simp
         try rfl⟩) ?_
        try simp only [Act.put,pz]
        refine aX 9 _ J' U' (fun _ _ d _ _ h=>by cases d <;> exact h) hbx (Or.inl ⟨rfl,fun wq hq=>by
         have hcq:=(aB hq).1;go_simp
         try rfl⟩) ?_
        try simp only [Act.put,pz]
        refine bP 8 J' U' J' (fun K hK=>?_);go_simp;refine (UZ x _ _ x.au[j].aS.name _ (HXp.out.rdx hbx) Ji.out).mono ?_;rw [HPA.out];rintro e wc ⟨rfl,hbc⟩;replace hbx:=ah hbx hbc;refine hK _ _ hbx ?_;try simp only [Act.put,pz]
        clear hK K
        refine aX 10 _ J' U' (fun _ _ d _ _ h=>by cases d <;> exact h) hbx (Or.inl ⟨rfl,fun wq hq=>by
         have hcq:=(aB hq).1;go_simp
         try rfl⟩) ?_
        try simp only [Act.put,pz]
        refine nR U' ?_;go_wp2;exact ⟨⟨j+1,N',O',ah HBLp.out hbx⟩,by simp only [intOf];omega⟩
       ·have hji:¬(j:Int) < x.au.length:=O';have HQ:=I' ((good_iff x).2 HG.out:iI x = true);have HE:=I' (eqCluster_self x);have HNO:=I' (now_at HNW.out);have hwt:=good_wt HG.out;go_wp2_with fail
        refine (qL x _ _ _ HXp.out.rd O').mono ?_;rw [HQ.out];rintro e wa ⟨rfl,hba⟩;have HXa:=I' (HXp.out.ext hba);have HBa:=I' (ah HBLp.out hba);have Ya:=HY.out.ext HBa.out;have hza:=hba.size;clear kYp_0 fYp_0 kYp_1 fYp_1 kYp_2 fYp_2 kYp_3 fYp_3 kYp_4 fYp_4 kYp_5 fYp_5;clear hba HXp HBLp;have kYa_0:=Ya.cell (i:=0) rfl;have fYa_0:=Ya.fz 0;have kYa_1:=Ya.cell (i:=1) rfl;have fYa_1:=Ya.fz 1;have kYa_2:=Ya.cell (i:=2) rfl;have fYa_2:=Ya.fz 2;have kYa_3:=Ya.cell (i:=3) rfl;have fYa_3:=Ya.fz 3;have kYa_4:=Ya.cell (i:=4) rfl;have fYa_4:=Ya.fz 4;have kYa_5:=Ya.cell (i:=5) rfl;have fYa_5:=Ya.fz 5;clear Ya;go_wp2_with fail
        refine (ac8 x x _ _ _ _ _ HXa.out.rd HXa.out.rd O' O').mono ?_;rw [HE.out];rintro e wb ⟨rfl,hbb⟩;have HXb:=I' (HXa.out.ext hbb);have HBb:=I' (ah HBa.out hbb);clear kYa_0 fYa_0 kYa_1 fYa_1 kYa_2 fYa_2 kYa_3 fYa_3 kYa_4 fYa_4 kYa_5 fYa_5;clear hbb HXa HBa;go_wp2_with fail
        refine (usual_any _).mono ?_;rintro e wc ⟨rfl,hbc⟩;have HXc:=I' (HXb.out.ext hbc);have HBc:=I' (ah HBb.out hbc);clear hbc HXb HBb;go_wp2_with fail
        refine (pU 2 1 3 _).mono ?_;rw [show zL 2 1 3 = true by decide];rintro e wd ⟨rfl,hbd⟩;have HXd:=I' (HXc.out.ext hbd);have HBd:=I' (ah HBc.out hbd);have Yd:=HY.out.ext HBd.out;have hzd:=HBd.out.size;have hzdx:w2.heap.size < wd.heap.size:=(by have:=HZ.out;omega);clear hbd HXc HBc;have kYd_0:=Yd.cell (i:=0) rfl;have fYd_0:=Yd.fz 0;have kYd_1:=Yd.cell (i:=1) rfl;have fYd_1:=Yd.fz 1;have kYd_2:=Yd.cell (i:=2) rfl;have fYd_2:=Yd.fz 2;have kYd_3:=Yd.cell (i:=3) rfl;have fYd_3:=Yd.fz 3;have kYd_4:=Yd.cell (i:=4) rfl;have fYd_4:=Yd.fz 4;have kYd_5:=Yd.cell (i:=5) rfl;have fYd_5:=Yd.fz 5;clear Yd;go_wp2_with fail
        refine (gK x _ _ ⟨#[110,111,119,104,101,114,101]⟩ _ HXd.out.rd O').mono ?_;rw [HNO.out];rintro e we ⟨rfl,hbe⟩;go_wp2;go_ret
        exact ⟨rfl,ah HB.out (ah HBd.out hbe)⟩
theorem gX {H:Type} {enc:TypeId × Value→H} (W:World) (base:Nat) (args:Array Value) (ds:List (DataW H)) (p:List MemPlace)
 (hval:∀(j:Nat) t v,Tryz.f3.params[j]? = some t→args[j]? = some v→Value.okWide Tryz.prog W .any base t v)
 (hA:DataW.TrodAll enc Tryz.prog W 0 (fun _=>true) true Tryz.f3.params.toList args.toList ds p) (hlt:∀x∈p,x.block < W.heap.size) :
 Calls Tryz.prog 3 args W fun e W'=>e = .returned (.bool true)∧Below W.heap.size W W':=by
 rw [Tryz.params3] at hA hval;obtain ⟨v0,JM,d0,ds0,p0,q0,hargs,rfl,rfl,h0,r0⟩:=trodAll_cons hA;obtain ⟨rfl,rfl,rfl⟩:=trodAll_nil r0;obtain rfl:args = #[v0]:=by cases args;simp_all
 obtain ⟨fuel,hf⟩:=h0;obtain ⟨xs,F,hr⟩:=yH Tryz.underlying22 rfl (opens_u8 Tryz.underlying5) H enc W 0 fuel _ _ _ _ hf;obtain ⟨A,c,hv,hS⟩:=jB hr;obtain ⟨B,n,d,rfl⟩:=okWide_slice Tryz.underlying22 (hval 0 22 v0 rfl rfl);simp [Value.cells] at hv;obtain ⟨rfl,rfl,rfl⟩:=hv;exact walk xs B d F W hS
theorem own:ownKnob Tryz.prog.godebug = none:=by kernel_rfl
theorem laid:laidOutB Tryz.prog = true:=by kernel_rfl
theorem readable:∀t∈Tryz.f3.params.toList,Tryz.prog.readableRec t = true∧t < Tryz.prog.types.size:=by
 have h:(Tryz.f3.params.toList.all fun t=>Tryz.prog.readableRec t&&decide (t < Tryz.prog.types.size)) = true:=by kernel_rfl
 intro t ht;have:=List.all_eq_true.1 h t ht;simpa using this
theorem fF {H:Type} {enc:TypeId × Value→H} {W:World} {args:List Value} {ds:List (DataW H)} {p:List MemPlace}
 (h:DataW.TrodAll enc Tryz.prog W 0 (fun _=>true) true Tryz.f3.params.toList args ds p):∃d0,ds = [d0]:=by
 rw [Tryz.params3] at h;obtain ⟨v0,JM,d0,ds0,p0,q0,_,rfl,_,_,r0⟩:=trodAll_cons h;obtain ⟨_,rfl,_⟩:=trodAll_nil r0;exact ⟨d0,rfl⟩
theorem lifted (os:Os) (started:os.Started) (H:Type) (enc:TypeId × Value→H) :
 ReturnsInHanded {} Tryz.checked os 3 .any (Rows.fnClustersSpec.pre6 enc Tryz.prog Tryz.f3 Rows.fnClustersRow.domain false) (Rows.fnClustersSpec.post enc Tryz.prog Tryz.f3 false true false false):=by
 refine returnsInHanded_of_change (C:=Tryz.checked) own started U' Tryz.func3
  (ChangeSpec.witness6 (enc:=enc) (C:=Tryz.checked) false ⟨#[],#[.slice none 0 0],[]⟩ 8 U' U' U' U') ?_
 intro W base args ds gs before hval0 hW hcnd _;have hlt:∀x∈before,x.block < W.heap.size:=fun x hx=>hW.lt x hx;have hW':=hW;obtain ⟨p,q,hA,hV,rfl,_,_⟩:=hW';exact (gX W base args ds p hval0 hA (fun x hx=>hlt x (List.mem_append_left _ hx))).mono fun e W' ⟨he,hb⟩ =>
  ⟨_,he,nO laid readable rfl Tryz.underlying4 rfl auW hW hb⟩
theorem over:Rows.fnClustersRow.holds Tryz.pinned (OpenSpec.ofChange Rows.fnClustersSpec) :=
 OpenClaim.holds_of_wide 3 Tryz.f3 rfl rfl rfl rfl rfl rfl rfl ⟨rfl,rfl,rfl,rfl,rfl⟩ rfl rfl rfl rfl rfl U' Tryz.func3 U'
  (of_decide_eq_true U') auf
  (fun os started H enc _=>lifted os started H enc)
theorem proved:Rows.FnClustersSaid :=
 over
#print axioms proved
end Go.Proofs.YtkjeocdobidadaaGreat.fnClusters
