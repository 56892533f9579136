/- SortLabels of the program. No condition. -/
import Derived.Test.YtkbkikggodlbbaaGreatSortLabelsP
import Derived.Test.YtkbkikggodlbbaaGreatInsOHost
import Derived.Test.YtkbkikggodlbbaaGreatStabM
import Derived.Test.YtkbkikggodlbbaaGreatClone
import Derived.Test.YtkbkikggodlbbaaGreatMwTaint
import Derived.Test.YtkbkikggodlbbaaGreatLaySFNeed
import Derived.Test.YtkbkikggodlbbaaGreatCompK
import Derived.Test.YtkbkikggodlbbaaGreatCompTolerance
import Derived.Test.YtkbkikggodlbbaaGreatMiStr
import Derived.Test.YtkbkikggodlbbaaGreatCopyH
import Derived.Deep.CutRange
namespace Go.Proofs.YtkbkikggodlbbaaGreat
open Go.ChangeShapes Go.WideShapes Go.ChangeAt Go.RowKit
set_option linter.unusedVariables false
set_option linter.unusedSimpArgs false
set_option maxHeartbeats 8000000
set_option maxRecDepth 100000
theorem labClo (x y:Label) (w:World):Calls Tryz.prog 165 #[.agg #[.string x.key,.string x.value],.agg #[.string y.key,.string y.value]] w fun e w'=>e = .returned (.int .i64 (labCv x y))∧Below w.heap.size w w':=by
 go_enter Tryz.func165,Tryz.ntmps165;go_wp2_with fail
 refine (N8 x.key y.key _).mono ?_;rintro e w2 ⟨rfl,rfl⟩;go_wp2;go_ret
 exact ⟨rfl,ak (ak (aj _) _) _⟩
theorem lab_cs {w:World} {x:Label} {cs:List Value} {F:List Nat} (h:rd w x cs F):cs = lrow x:=(vO h).1
theorem lab_stab {w:World} {B g o:Nat} {D:List (El Label)} (R:RowE w B g o D):jJ lrow 2 w w g o (D.map El.x):=by
 refine ⟨fun k x hk j u hj=>?_,R.plain g (List.mem_cons_self ..),.refl _ _⟩;rw [List.getElem?_map] at hk;cases he:D[k]? with
 | none=>rw [he] at hk;cases hk
 | some e =>rw [he] at hk;simp only [Option.map_some,Option.some.injEq] at hk;subst hk;exact R.tab k e he j u (by rw [lab_cs (R.rd e (List.mem_of_getElem? he))];exact hj)
theorem lab_own {w w':World} {B g o c:Nat} {D:List (El Label)} {ys:List Label} (R:RowE w B g o D) (h:jJ lrow 2 w w' g o ys) (hm:∀y∈ys,y∈D.map El.x) (hc:ys.length≤c) (hx:c≤maxLen):Own w' B ys [.slice (some ⟨g,o,none⟩) ys.length c] [g]:=by
 have hF:∀l:List Label,(l.map fun y=>(⟨y,lrow y,[]⟩:El Label)).flatMap El.F = []:=fun l=>by
  induction l with
  | nil=>rfl
  | cons a l ih=>rw [List.map_cons,List.flatMap_cons,ih];rfl
 have hX:∀l:List Label,(l.map fun y=>(⟨y,lrow y,[]⟩:El Label)).map El.x = l:=fun l=>by rw [List.map_map];exact List.map_id l
 have R':RowE w' B g o (ys.map fun y=>(⟨y,lrow y,[]⟩:El Label)):=by
  refine ⟨fun e he=>?_,by rw [hF];simp,fun b hb=>?_,fun b hb=>?_,fun k e hk j u hj=>?_⟩
  ·obtain ⟨y,hy,rfl⟩:=List.mem_map.1 he;obtain ⟨e',he',rfl⟩:=List.mem_map.1 (hm y hy);obtain ⟨h1,h2,h3,h4⟩:=vO (R.rd e' he');exact alH w' e'.x h3 h4
  ·rw [hF] at hb;rw [List.mem_singleton.1 hb];exact R.base g (List.mem_cons_self ..)
  ·rw [hF] at hb;rw [List.mem_singleton.1 hb];exact h.plain
  ·rw [List.getElem?_map] at hk;cases hy:ys[k]? with
   | none=>rw [hy] at hk;cases hk
   | some y =>rw [hy] at hk;simp only [Option.map_some,Option.some.injEq] at hk;subst hk;exact h.tab k y hy j u hj
 have:=R'.own (c:=c) (by rw [List.length_map];exact hc) hx;rw [hX,hF] at this;exact this
theorem labSort (xs:List Label) (A:Option Addr) (c:Nat) (F:List Nat) (w:World) (B:Nat) (h:Own w B xs [.slice A xs.length c] F) (hB:B≤w.heap.size) (hl:(xs.length:Int)≤1048576) :
 Calls Tryz.prog 164 #[.slice A xs.length c,.func (.func 165) #[] #[]] w fun e w'=>e = .returned (.tuple #[])∧∃F',Own w' B (sortB (kS labCv) [] xs) [.slice A xs.length c] F'∧Below B w w':=by
 by_cases hne:xs = []
 ·subst hne;refine (SortStableL_nil w A c _).mono ?_;rintro e w' ⟨rfl,rfl⟩;exact ⟨rfl,F,h,.refl _ _⟩
 ·have hcap:=Sl.cap (α:=Label) h.rd;obtain ⟨g,o,D,rfl,rfl,rfl,R⟩:=h.rowE hne;refine (SortStableL_any w w g o c _ (D.map El.x) labCv (lab_stab R) rfl O' labWeak (fun x y w2 _=>labClo x y w2)).mono ?_;rintro e w' ⟨rfl,hS⟩;have:=lab_own (c:=c) R hS (fun y hy=>sortLab_mem hy) (by rw [sortLab_len];exact hcap.1) hcap.2;rw [sortLab_len] at this;exact ⟨rfl,[g],this,hS.upd.below (fun b hb=>by rw [List.mem_singleton.1 hb];exact R.base g (List.mem_cons_self ..)) hB⟩
theorem SortLabels_impl (xs:List Label) (A:Option Addr) (c:Nat) (F:List Nat) (w:World) (h:Sl w xs A c F) (hl:(xs.length:Int)≤1048576) (hsm:∀l∈xs,(l.key.size:Int)≤1048576∧(l.value.size:Int)≤1048576) :
 Calls Tryz.prog 122 #[.slice A xs.length c] w fun e w'=>∃A' c' G,e = .returned (.tuple #[.slice A' (sortLabelsR xs).1.length c',.bool (sortLabelsR xs).2])∧Own w' w.heap.size (sortLabelsR xs).1 [.slice A' (sortLabelsR xs).1.length c'] G∧Below w.heap.size w w':=by
 have Eo:=I' hsm;clear hsm;go_enter Tryz.func122,Tryz.ntmps122;go_wp2_with fail
 refine (Xo xs A c F w h hl).mono ?_;rintro e w1 ⟨A1,c1,F1,rfl,jX,hb1⟩;go_wp2_with fail
 refine (labSort xs A1 c1 F1 w1 w.heap.size jX hb1.size hl).mono ?_;rintro e w2 ⟨rfl,F2,hO2,hb2⟩;have HB2:=I' (show Below w.heap.size w w2 from hb1.trans hb2);have RZ:=I' hO2;have HOK:=I' (Jv (sortB (kS labCv) [] xs) A1 xs.length c1 F2 w2 (by unfold Sl;rw [sortLab_len];exact hO2.rd) (sortLab_len xs).symm (by rw [sortLab_len];exact hl) (fun l hl=>Eo.out l (sortLab_mem hl)));clear hb1 hb2 jX hO2;cases hr:sD (sortB (kS labCv) [] xs) with
 | true =>
   have HR:=I' (sortLabelsR_yes hr);have HRR:=I' hr;clear hr;go_wp2_with fail
   refine HOK.out.mono ?_;rw [HRR.out];rintro e w4 ⟨rfl,hb4⟩;have HB4:=I' hb4;clear hb4;go_wp2;go_ret2
   exact ⟨A1,c1,F2,by rw [HR.out,sortLab_len];try rfl,by rw [HR.out,sortLab_len];exact RZ.out.ext HB4.out,HB2.out.trans (HB4.out.mono HB2.out.size)⟩
 | false =>
   have HR:=I' (sortLabelsR_no hr);have HRR:=I' hr;clear hr;go_wp2_with fail
   refine HOK.out.mono ?_;rw [HRR.out];rintro e w4 ⟨rfl,hb4⟩;have HB4:=I' (show Below w.heap.size w w4 from HB2.out.trans (hb4.mono HB2.out.size));clear hb4;go_wp2_with fail
   refine (Xo xs A c F w4 (h.ext HB4.out) hl).mono ?_;exact Zab3
def mkTopManifest (x:Manifest) (k:Int):Manifest:=⟨x.kind,Jt x.aS k,F9 x.host (k+(uM x.aS:Int))⟩
def cntTopManifest (x:Manifest):Nat:=uM x.aS+wJ x.host
theorem cntTopManifest_le (x:Manifest):cntTopManifest x≤6 * x.wt:=by
 have h1:=Pv x.aS;have h2:=asY x.host;simp only [cntTopManifest,Manifest.wt];omega
theorem markManifest_any (x:Manifest) (cs:List Value) (F:List Nat) (B:Nat) (k:Int) (w:World) (h:Own w B x cs F) (hk0:0≤k) (hk:k+cntTopManifest x≤1073741823) :
 Calls Tryz.prog 13 #[.agg cs.toArray,.int .i64 k] w fun e w'=>e = .returned (.int .i64 (k+cntTopManifest x))∧Own w' B (mkTopManifest x k) cs F∧nN F w w':=by
 obtain ⟨cp,ch,Fp,Fh,rfl,rfl,hkd,hp,hh,hd⟩:=h.manParts;simp only [cntTopManifest] at hk ⊢;push_cast at hk ⊢;have QS:=hp.rd;obtain ⟨Alabelsp,clabelsp,Flabelsp,Aneedsp,cneedsp,Fneedsp,Atolerancesp,ctolerancesp,Ftolerancesp,hck,hFp,hnamep,hlabelsp,hcpup,hmemp,hrankp,hneedsp,htolerancesp⟩:=dL QS;subst hck;clear hFp QS;have hrh:=hh.rd;obtain ⟨Alabelsq,clabelsq,Flabelsq,Ataintsq,ctaintsq,Ftaintsq,hck,hFq,hnameq,hlabelsq,hcpuq,hmemq,hslotsq,htaintsq⟩:=iy hrh;subst hck;clear hFq hrh;have HH:=I' hh;have HP:=I' hp;have HD:=I' hd;have HF:=I' (show ∀y∈Fp++Fh,y < w.heap.size from fun y hy=>h.lt y hy);clear hh hp h hd;simp only [List.cons_append,List.nil_append];go_enter Tryz.func13,Tryz.ntmps13;go_wp2_with fail
 refine (Oc x.aS _ _ _ k _ (HP.out.alloc _) hk0 O').mono ?_;rintro e w1 ⟨rfl,hP1,hU1⟩;have hz:w.heap.size < w1.heap.size:=sq hU1.size;have hbx:∀o,w1.cell? ⟨w.heap.size,o,none⟩ = _:=fun o=>World.cell?_of_block (hU1.block _ S' (fun hy=>by have h9:=HF.out w.heap.size (List.mem_append_left _ hy);omega));have q8:=(hbx 8).trans (show _ = some (.string x.host.name) by rw [cell_of_row _ _ _ _ _ _ (heap_alloc_new w _)];rfl);have q9:=(hbx 9).trans (show _ = some (.slice Alabelsq x.host.labels.length clabelsq) by rw [cell_of_row _ _ _ _ _ _ (heap_alloc_new w _)];rfl);have q10:=(hbx 10).trans (show _ = some (.int .i64 x.host.cpu) by rw [cell_of_row _ _ _ _ _ _ (heap_alloc_new w _)];rfl);have q11:=(hbx 11).trans (show _ = some (.int .i64 x.host.mem) by rw [cell_of_row _ _ _ _ _ _ (heap_alloc_new w _)];rfl);have q12:=(hbx 12).trans (show _ = some (.int .i64 x.host.slots) by rw [cell_of_row _ _ _ _ _ _ (heap_alloc_new w _)];rfl);have q13:=(hbx 13).trans (show _ = some (.slice Ataintsq x.host.aT.length ctaintsq) by rw [cell_of_row _ _ _ _ _ _ (heap_alloc_new w _)];rfl);have hh1:=hU1.own (HH.out.alloc _) (fun y hy hy'=>HD.out y hy' hy);clear hbx;go_wp2_with fail
 refine (akx x.host _ _ _ (k+(uM x.aS:Int)) _ hh1 O' O').mono ?_;rintro e w2 ⟨rfl,hH2,hU2⟩;have hP2:=hU2.own hP1 (fun y hy hy'=>HD.out y hy hy');go_wp2;go_ret
 refine ⟨by first | rfl | (simp only [Int.add_assoc];rfl) | (congr 2;omega),?_,?_⟩
 ·have:=Own.manWhole hkd hP2 hH2 HD.out;simp only [List.cons_append,List.nil_append] at this;exact this
 ·exact ((nN.lq (Fp++Fh) (ak (aj w) _)).trans (hU1.mono fun y hy=>List.mem_append_left _ hy)).trans (hU2.mono fun y hy=>List.mem_append_right _ hy)
theorem SortTaints_impl (xs:List iU) (A:Option Addr) (c:Nat) (F:List Nat) (w:World) (h:Sl w xs A c F) (hl:(xs.length:Int)≤1048576) (hsm:∀l∈xs,(l.key.size:Int)≤1048576∧(l.value.size:Int)≤1048576) :
 Calls Tryz.prog 129 #[.slice A xs.length c] w fun e w'=>∃A' c' G,e = .returned (.tuple #[.slice A' (sortTaintsR xs).1.length c',.bool (sortTaintsR xs).2])∧Own w' w.heap.size (sortTaintsR xs).1 [.slice A' (sortTaintsR xs).1.length c'] G∧Below w.heap.size w w':=by
 have Eo:=I' hsm;clear hsm;by_cases h40:xs.length≤40
 ·go_enter Tryz.func129,Tryz.ntmps129;go_wp2_with fail
  refine (afo xs A c F w h hl).mono ?_;rintro e w1 ⟨A1,c1,F1,rfl,jX,hb1⟩;go_wp2_with fail
  refine (sortTaint xs A1 c1 F1 w1 w.heap.size jX hb1.size hl).mono ?_;rintro e w2 ⟨rfl,ys,F2,hp,hs,hO2,hb2⟩;have hlen:ys.length = xs.length:=hp.length_eq;have hu:=kept_uniq totTaint neTaint_iff hp hs;have hc2:=compTaint ys A1 c1 F2 w2 w.heap.size (by rw [hlen];exact hO2) (Nat.le_trans hb1.size (hb2.mono (Nat.le_refl _)).size) (by rw [hlen];exact hl);rw [hlen] at hc2 hu;have HU:=I' hu;have HC:=I' hc2;have HB2:=I' (show Below w.heap.size w w2 from hb1.trans hb2);clear hs hp hO2 hb1 hb2 jX hlen hu hc2;go_wp2_with fail
  refine HC.out.mono ?_;rw [HU.out];rintro e w3 ⟨F3,rfl,hO3,hb3⟩;have HB3:=I' (show Below w.heap.size w w3 from HB2.out.trans hb3);have HO3:=I' hO3;have hlu:((uniqL qo [] xs).length:Int)≤1048576:=by have:=uniqL_len qo xs [];simp at this;omega
  have HOK:=I' (ZK (uniqL qo [] xs) _ _ _ _ w3 hO3.rd rfl hlu (fun l hl=>Eo.out l (uniqTaint_mem hl)));clear hb3 hO3 HC HU HB2;cases hr:La (uniqL qo [] xs) with
  | true =>have HR:=I' (sortTaintsR_yes h40 hr);exact Zacx
  | false =>
    have HR:=I' (sortTaintsR_no hr);have HRR:=I' hr;clear hr;go_wp2_with fail
    refine HOK.out.mono ?_;rw [HRR.out];rintro e w4 ⟨rfl,hb4⟩;have HB4:=I' (show Below w.heap.size w w4 from HB3.out.trans (hb4.mono HB3.out.size));clear hb4;go_wp2_with fail
    refine (afo xs A c F w4 (h.ext HB4.out) hl).mono ?_;exact Zab3
 ·have HR:=I' (sortTaintsR_long h40);go_enter Tryz.func129,Tryz.ntmps129;go_wp2_with fail
  refine (afo xs A c F w h hl).mono ?_;exact Zact
theorem SortTolerances_impl (xs:List bH) (A:Option Addr) (c:Nat) (F:List Nat) (w:World) (h:Sl w xs A c F) (hl:(xs.length:Int)≤1048576) (hsm:∀l∈xs,(l.key.size:Int)≤1048576∧(l.value.size:Int)≤1048576) :
 Calls Tryz.prog 124 #[.slice A xs.length c] w fun e w'=>∃A' c' G,e = .returned (.tuple #[.slice A' (sortTolsR xs).1.length c',.bool (sortTolsR xs).2])∧Own w' w.heap.size (sortTolsR xs).1 [.slice A' (sortTolsR xs).1.length c'] G∧Below w.heap.size w w':=by
 have Eo:=I' hsm;clear hsm;by_cases h40:xs.length≤40
 ·go_enter Tryz.func124,Tryz.ntmps124;go_wp2_with fail
  refine (aap xs A c F w h hl).mono ?_;rintro e w1 ⟨A1,c1,F1,rfl,jX,hb1⟩;go_wp2_with fail
  refine (sortTolerance xs A1 c1 F1 w1 w.heap.size jX hb1.size hl).mono ?_;rintro e w2 ⟨rfl,ys,F2,hp,hs,hO2,hb2⟩;have hlen:ys.length = xs.length:=hp.length_eq;have hu:=kept_uniq totTol neTolerance_iff hp hs;have hc2:=compTolerance ys A1 c1 F2 w2 w.heap.size (by rw [hlen];exact hO2) (Nat.le_trans hb1.size (hb2.mono (Nat.le_refl _)).size) (by rw [hlen];exact hl);rw [hlen] at hc2 hu;have HU:=I' hu;have HC:=I' hc2;have HB2:=I' (show Below w.heap.size w w2 from hb1.trans hb2);clear hs hp hO2 hb1 hb2 jX hlen hu hc2;go_wp2_with fail
  refine HC.out.mono ?_;rw [HU.out];rintro e w3 ⟨F3,rfl,hO3,hb3⟩;have HB3:=I' (show Below w.heap.size w w3 from HB2.out.trans hb3);have HO3:=I' hO3;have hlu:((uniqL vJ [] xs).length:Int)≤1048576:=by have:=uniqL_len vJ xs [];simp at this;omega
  have HOK:=I' (RH (uniqL vJ [] xs) _ _ _ _ w3 hO3.rd rfl hlu (fun l hl=>Eo.out l (uniqTolerance_mem hl)));clear hb3 hO3 HC HU HB2;cases hr:Ya (uniqL vJ [] xs) with
  | true =>have HR:=I' (sortTolsR_yes h40 hr);exact Zacx
  | false =>
    have HR:=I' (sortTolsR_no hr);have HRR:=I' hr;clear hr;go_wp2_with fail
    refine HOK.out.mono ?_;rw [HRR.out];rintro e w4 ⟨rfl,hb4⟩;have HB4:=I' (show Below w.heap.size w w4 from HB3.out.trans (hb4.mono HB3.out.size));clear hb4;go_wp2_with fail
    refine (aap xs A c F w4 (h.ext HB4.out) hl).mono ?_;exact Zab3
 ·have HR:=I' (sortTolsR_long h40);go_enter Tryz.func124,Tryz.ntmps124;go_wp2_with fail
  refine (aap xs A c F w h hl).mono ?_;exact Zact
theorem HostNormal_impl (x:Host) (cs:List Value) (F:List Nat) (w:World) (h:rd w x cs F) (hw:(x.wt:Int)≤1048576) :
 Calls Tryz.prog 75 #[.agg cs.toArray] w fun e w'=>∃ds G,e = .returned (.tuple #[.agg ds.toArray,.bool (hostNormalR x).2])∧Own w' w.heap.size (hostNormalR x).1 ds G∧Below w.heap.size w w':=by
 have h0:=h;obtain ⟨gu,gy,jw,kJ,kK,qU,hck,qp,hname,dO,vg,hmem,uI,jq⟩:=iy h;subst hck;clear qp h;have HX:=I' h0;have Du:=I' hw;clear h0;have hwx:x.wt = x.name.size+kL Label.wt x.labels+kL iU.wt x.aT:=rfl;have hl1:(x.labels.length:Int)≤1048576:=by have:=gJ Label.wt x.labels;omega
 have hl2:(x.aT.length:Int)≤1048576:=by have:=gJ iU.wt x.aT;omega
 have hm1:∀l∈x.labels,(l.key.size:Int)≤1048576∧(l.value.size:Int)≤1048576:=fun l hl=>by have h9:=Bq (f:=Label.wt) hl;have h8:Label.wt l = l.key.size+l.value.size:=rfl;omega
 have hm2:∀l∈x.aT,(l.key.size:Int)≤1048576∧(l.value.size:Int)≤1048576:=fun l hl=>by have h9:=Bq (f:=iU.wt) hl;have h8:iU.wt l = l.key.size+l.value.size:=rfl;omega
 have S0:Cq3 w (((w.alloc (.cells #[.string x.name,.slice gu x.labels.length gy,.int .i64 x.cpu,.int .i64 x.mem,.int .i64 x.slots,.slice kJ x.aT.length kK] 55)).alloc (.cells #[.string ⟨#[]⟩,.slice none 0 0,.int .i64 0,.int .i64 0,.int .i64 0,.slice none 0 0] 55)).alloc (.cells #[.string x.name,.slice gu x.labels.length gy,.int .i64 x.cpu,.int .i64 x.mem,.int .i64 x.slots,.slice kJ x.aT.length kK] 55)) [.string x.name,.slice gu x.labels.length gy,.int .i64 x.cpu,.int .i64 x.mem,.int .i64 x.slots,.slice kJ x.aT.length kK] [.string ⟨#[]⟩,.slice none 0 0,.int .i64 0,.int .i64 0,.int .i64 0,.slice none 0 0] [.string x.name,.slice gu x.labels.length gy,.int .i64 x.cpu,.int .i64 x.mem,.int .i64 x.slots,.slice kJ x.aT.length kK]:=Cq3.new w _ _ _ 55 55 55;obtain ⟨v0,hW0⟩:∃v0,(((w.alloc (.cells #[.string x.name,.slice gu x.labels.length gy,.int .i64 x.cpu,.int .i64 x.mem,.int .i64 x.slots,.slice kJ x.aT.length kK] 55)).alloc (.cells #[.string ⟨#[]⟩,.slice none 0 0,.int .i64 0,.int .i64 0,.int .i64 0,.slice none 0 0] 55)).alloc (.cells #[.string x.name,.slice gu x.labels.length gy,.int .i64 x.cpu,.int .i64 x.mem,.int .i64 x.slots,.slice kJ x.aT.length kK] 55)) = v0:=⟨_,rfl⟩;rw [hW0] at S0;have HW0:=I' hW0;have i1:=S0.box.cell (i:=1) (u:=.slice gu x.labels.length gy) rfl;have j1:=S0.ob.lt;clear hW0 hw hwx;go_enter Tryz.func75,Tryz.ntmps75;go_wp2_with fail
 rw [HW0.out];clear HW0;refine (SortLabels_impl x.labels _ _ _ v0 (dO.ext S0.below) hl1 hm1).mono ?_;obtain ⟨L1,b1,e1⟩:∃L b,sortLabelsR x.labels = (L,b):=⟨_,_,rfl⟩;rw [e1];have E1:=I' e1;clear e1 i1;rintro e w1 ⟨A1,c1,G1,rfl,jX,hb1⟩;have T1:=S0.ext hb1;replace jX:=jX.mono (B':=w.heap.size+1+1+1) O';obtain ⟨z1,hz1⟩:∃z,z = w1.heap.size:=⟨_,rfl⟩;have anS:=I' (show ∀b∈G1,b < z1 from fun b hb=>by rw [hz1];exact jX.lt b hb);have hzz1:w.heap.size+1+1+1≤z1:=by have:=hb1.size;omega
 clear hb1;have k9:=T1.ob.cell (i:=1) (u:=.slice gu x.labels.length gy) rfl;have f9:=T1.ob.fz 1;have l9:=T1.ob.lt;have S1:=T1.put 1 (.slice A1 L1.length c1);replace jX:=jX.setCell (p:=⟨w.heap.size+1+1,1,none⟩) atX (.slice A1 L1.length c1);have i2:=S1.box.cell (i:=5) (u:=.slice kJ x.aT.length kK) rfl;go_wp2_with fail
 obtain ⟨v1,hv⟩:∃v,w1.setCell ⟨w.heap.size+1+1,1,none⟩ (.slice A1 L1.length c1) = v:=⟨_,rfl⟩;have hs:v1.heap.size = z1:=by rw [← hv,hz1];simp [World.setCell]
 rw [hv] at S1 jX i2;try rw [hv]
 have j2:=S1.ob.lt;clear hv T1 k9 f9 l9 hz1 S0;have hz1:=hs;clear hs;refine (SortTaints_impl x.aT _ _ _ v1 (jq.ext S1.below) hl2 hm2).mono ?_;obtain ⟨L2,b2,e2⟩:∃L b,sortTaintsR x.aT = (L,b):=⟨_,_,rfl⟩;rw [e2];have E2:=I' e2;clear e2 i2;rintro e w2 ⟨A2,c2,G2,rfl,hO2,hb2⟩;have T2:=S1.ext hb2;replace hO2:=hO2.mono (B':=z1) (by have:=hz1;omega);replace jX:=jX.ext hb2;obtain ⟨z2,hz2⟩:∃z,z = w2.heap.size:=⟨_,rfl⟩;have HLT2:=I' (show ∀b∈G2,b < z2 from fun b hb=>by rw [hz2];exact hO2.lt b hb);have hzz2:z1≤z2:=by have:=hb2.size;omega
 clear hb2;have k9:=T2.ob.cell (i:=5) (u:=.slice kJ x.aT.length kK) rfl;have f9:=T2.ob.fz 5;have l9:=T2.ob.lt;have S2:=T2.put 5 (.slice A2 L2.length c2);replace jX:=jX.setCell (p:=⟨w.heap.size+1+1,5,none⟩) atX (.slice A2 L2.length c2);replace hO2:=hO2.setCell (p:=⟨w.heap.size+1+1,5,none⟩) atX (.slice A2 L2.length c2);go_upto_region 5 with fail
 obtain ⟨v2,hv⟩:∃v,w2.setCell ⟨w.heap.size+1+1,5,none⟩ (.slice A2 L2.length c2) = v:=⟨_,rfl⟩;have hs:v2.heap.size = z2:=by rw [← hv,hz2];simp [World.setCell]
 rw [hv] at S2 jX hO2;try rw [hv]
 have j3:=S2.ob.lt;clear hv T2 k9 f9 l9 hz2 S1;have hz2:=hs;clear hs
 have HOWN:=I' (show Own v2 (w.heap.size+1+1+1) (⟨x.name,L1,x.cpu,x.mem,x.slots,L2⟩:Host) [.string x.name,.slice A1 L1.length c1,.int .i64 x.cpu,.int .i64 x.mem,.int .i64 x.slots,.slice A2 L2.length c2] (G1++G2) from by
  refine Own.up (B':=w.heap.size+1+1+1) (fun x:Host=>(x.name,x.labels,x.cpu,x.mem,x.slots,x.aT)) ?_ (Nat.le_refl _);refine Own.cons (c1:=[.string x.name]) (rdStr _ x.name (rV hname)) ?_;refine Own.pair (B2:=z1) (c1:=[.slice A1 L1.length c1]) (F1:=G1) jX ?_ O' anS.out;refine Own.cons (c1:=[.int .i64 x.cpu]) (jL _ x.cpu vg) ?_;refine Own.cons (c1:=[.int .i64 x.mem]) (jL _ x.mem hmem) ?_;refine Own.cons (c1:=[.int .i64 x.slots]) (jL _ x.slots uI) ?_
  exact hO2)
 have HN:=I' (show hostN x = ⟨x.name,L1,x.cpu,x.mem,x.slots,L2⟩ by unfold hostN;rw [E1.out,E2.out]);have HR:=I' (show hostNormalR x = if b1 = true∧b2 = true∧Aj (hostN x) = true then (hostN x,true) else (x,false) by unfold hostNormalR;rw [E1.out,E2.out]);have HS:=I' S2;have HYW:=I' (show ((hostN x).wt:Int)≤1048576 by have:=hostN_wt x;have:=Du.out;omega);clear jX hO2 S2;have q_:=HS.out.ob.lt;have p0:=HS.out.box.cell (i:=0) (u:=.string x.name) rfl;have p1:=HS.out.box.cell (i:=1) (u:=.slice gu x.labels.length gy) rfl;have p2:=HS.out.box.cell (i:=2) (u:=.int .i64 x.cpu) rfl;have p3:=HS.out.box.cell (i:=3) (u:=.int .i64 x.mem) rfl;have p4:=HS.out.box.cell (i:=4) (u:=.int .i64 x.slots) rfl;have p5:=HS.out.box.cell (i:=5) (u:=.slice kJ x.aT.length kK) rfl;cases b1 with
 | false =>have HRN:=I' (show hostNormalR x = (x,false) by rw [HR.out];exact if_neg (by rintro ⟨hh,_⟩;cases hh));exact Zaeq
 | true =>
   cases b2 with
   | false =>have HRN:=I' (show hostNormalR x = (x,false) by rw [HR.out];exact if_neg (by rintro ⟨_,hh,_⟩;cases hh));exact Zaeq
   | true =>
     have HYN:=HN;cases hr:Aj (hostN x) with
     | false =>
       have HOK:=I' hr;have q0:=HS.out.ob.cell (i:=0) (u:=.string x.name) rfl;have q1:=HS.out.ob.cell (i:=1) (u:=.slice A1 L1.length c1) rfl;have q2:=HS.out.ob.cell (i:=2) (u:=.int .i64 x.cpu) rfl;have q3:=HS.out.ob.cell (i:=3) (u:=.int .i64 x.mem) rfl;have q4:=HS.out.ob.cell (i:=4) (u:=.int .i64 x.slots) rfl;have q5:=HS.out.ob.cell (i:=5) (u:=.slice A2 L2.length c2) rfl;go_wp2_with fail
       refine (tY (⟨x.name,L1,x.cpu,x.mem,x.slots,L2⟩:Host) _ _ v2 HOWN.out.rd (by have:=HYW.out;rw [HN.out] at this;exact this)).mono ?_;rw [← HN.out,HOK.out];rintro e w7 ⟨rfl,hb7⟩;have HS7:=I' (HS.out.ext hb7);have HOWN7:=I' (HOWN.out.ext hb7);clear p0 p1 p2 p3 p4 p5 q0 q1 q2 q3 q4 q5 q_ hb7;have HRN:=I' (show hostNormalR x = (x,false) by rw [HR.out];exact if_neg (by rintro ⟨_,_,hh⟩;rw [HOK.out] at hh;cases hh));have rr:=HS7.out.box.lt;have p0:=HS7.out.box.cell (i:=0) (u:=.string x.name) rfl;have p1:=HS7.out.box.cell (i:=1) (u:=.slice gu x.labels.length gy) rfl;have p2:=HS7.out.box.cell (i:=2) (u:=.int .i64 x.cpu) rfl;have p3:=HS7.out.box.cell (i:=3) (u:=.int .i64 x.mem) rfl;have p4:=HS7.out.box.cell (i:=4) (u:=.int .i64 x.slots) rfl;have p5:=HS7.out.box.cell (i:=5) (u:=.slice kJ x.aT.length kK) rfl;go_wp2_with fail
       refine (ajs x _ _ w7 (rd_extN HX.out HS7.out.below) hl1 hl2).mono ?_;rintro e w8 ⟨ds8,G8,rfl,sV,hb8⟩;have T8:=HS7.out.ext hb8;have SY:=sV;obtain ⟨Alabels9,clabels9,Flabels9,Ataints9,ctaints9,Ftaints9,hck9,hF9,hname9,hlabels9,hcpu9,hmem9,hslots9,htaints9⟩:=iy sV.rd;subst hck9;clear hF9 sV;have r0:=T8.rb.cell (i:=0) (u:=.string ⟨#[]⟩) rfl;have r1:=T8.rb.cell (i:=1) (u:=.slice none 0 0) rfl;have r2:=T8.rb.cell (i:=2) (u:=.int .i64 0) rfl;have r3:=T8.rb.cell (i:=3) (u:=.int .i64 0) rfl;have r4:=T8.rb.cell (i:=4) (u:=.int .i64 0) rfl;have r5:=T8.rb.cell (i:=5) (u:=.slice none 0 0) rfl;have rf:=T8.rb.fz;have rl:=T8.rb.lt;have HO9:=I' SY;have HT8:=I' T8;have hzw:w.heap.size+1 < w7.heap.size:=HS7.out.rb.lt;clear SY T8 hb8;go_wp2_with fail
       try dsimp only
       iterate 60 (first | go_step | skip)
       refine bodyPost_ret (v:=.tuple #[.agg #[.string x.name,.slice Alabels9 x.labels.length clabels9,.int .i64 x.cpu,.int .i64 x.mem,.int .i64 x.slots,.slice Ataints9 x.aT.length ctaints9],.bool false]) (by simp [results,Tryz.results75,go_sem, *]) rfl ⟨[.string x.name,.slice Alabels9 x.labels.length clabels9,.int .i64 x.cpu,.int .i64 x.mem,.int .i64 x.slots,.slice Ataints9 x.aT.length ctaints9],G8,by rw [HRN.out];try rfl,?_,?_⟩
       ·exact Zafo
       ·exact Zabp
     | true =>
       have HOK:=I' hr;have q0:=HS.out.ob.cell (i:=0) (u:=.string x.name) rfl;have q1:=HS.out.ob.cell (i:=1) (u:=.slice A1 L1.length c1) rfl;have q2:=HS.out.ob.cell (i:=2) (u:=.int .i64 x.cpu) rfl;have q3:=HS.out.ob.cell (i:=3) (u:=.int .i64 x.mem) rfl;have q4:=HS.out.ob.cell (i:=4) (u:=.int .i64 x.slots) rfl;have q5:=HS.out.ob.cell (i:=5) (u:=.slice A2 L2.length c2) rfl;go_wp2_with fail
       refine (tY (⟨x.name,L1,x.cpu,x.mem,x.slots,L2⟩:Host) _ _ v2 HOWN.out.rd (by have:=HYW.out;rw [HN.out] at this;exact this)).mono ?_;rw [← HN.out,HOK.out];rintro e w7 ⟨rfl,hb7⟩;have HS7:=I' (HS.out.ext hb7);have HOWN7:=I' (HOWN.out.ext hb7);clear p0 p1 p2 p3 p4 p5 q0 q1 q2 q3 q4 q5 q_ hb7;have HRY:=I' (show hostNormalR x = (hostN x,true) by rw [HR.out];exact if_pos (by simp [HOK.out]));have q0:=HS7.out.ob.cell (i:=0) (u:=.string x.name) rfl;have q1:=HS7.out.ob.cell (i:=1) (u:=.slice A1 L1.length c1) rfl;have q2:=HS7.out.ob.cell (i:=2) (u:=.int .i64 x.cpu) rfl;have q3:=HS7.out.ob.cell (i:=3) (u:=.int .i64 x.mem) rfl;have q4:=HS7.out.ob.cell (i:=4) (u:=.int .i64 x.slots) rfl;have q5:=HS7.out.ob.cell (i:=5) (u:=.slice A2 L2.length c2) rfl;have r0:=HS7.out.rb.cell (i:=0) (u:=.string ⟨#[]⟩) rfl;have r1:=HS7.out.rb.cell (i:=1) (u:=.slice none 0 0) rfl;have r2:=HS7.out.rb.cell (i:=2) (u:=.int .i64 0) rfl;have r3:=HS7.out.rb.cell (i:=3) (u:=.int .i64 0) rfl;have r4:=HS7.out.rb.cell (i:=4) (u:=.int .i64 0) rfl;have r5:=HS7.out.rb.cell (i:=5) (u:=.slice none 0 0) rfl;have rf:=HS7.out.rb.fz;have rl:=HS7.out.rb.lt;have ql:=HS7.out.ob.lt;go_wp2_with fail
       try dsimp only
       iterate 60 (first | go_step | skip)
       refine bodyPost_ret (v:=.tuple #[.agg #[.string x.name,.slice A1 L1.length c1,.int .i64 x.cpu,.int .i64 x.mem,.int .i64 x.slots,.slice A2 L2.length c2],.bool true]) (by simp [results,Tryz.results75,go_sem, *]) rfl ⟨[.string x.name,.slice A1 L1.length c1,.int .i64 x.cpu,.int .i64 x.mem,.int .i64 x.slots,.slice A2 L2.length c2],G1++G2,by rw [HRY.out];try rfl,?_,?_⟩
       ·exact Zaca
       ·exact Zada
end Go.Proofs.YtkbkikggodlbbaaGreat
