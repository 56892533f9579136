/- The frame of every law's proof: if the call returns true and leaves what was there as it was, the given post holds. No condition. -/
import Derived.Test.YtnjibbpcafgglaaGreatRows
import Derived.WalkKit
import Derived.ProofKit
import Derived.OpenShut
import Derived.Lib.Hide
import Derived.BigQuiet
import Derived.Deep.QuietTactic
import Derived.WalkSpells
import Derived.Deep.DeepFit
import Derived.Deep.AppendLies
import Derived.OwnWalk
import Derived.Deep.Slices
import Derived.Handy
namespace Go.Proofs.YtnjibbpcafgglaaGreat
open Go.ChangeShapes Go.WideShapes Go.ChangeAt Go.RowKit
theorem sq {a b:Nat} (hs:a≤b) {P:Prop} (h:a≤b→P:=by intro this;(try simp at this);omega):P:=h hs
theorem pz:(∀{α:Type} (a:List α) (i:Nat) (v:α),a.toArray.setIfInBounds i v = (a.set i v).toArray)∧(∀{α:Type} (x y:α) (l:List α),(x :: l).set 0 y = y :: l)∧(∀{α:Type} (x y:α) (l:List α) (n:Nat),(x :: l).set (n+1) y = x :: l.set n y):=⟨fun _ _ _=>List.setIfInBounds_toArray ..,fun _ _ _=>rfl,fun _ _ _ _=>rfl⟩
theorem atS {P:Prop} (h:P:=by repeat (first | with_reducible exact aj _ | with_reducible assumption | with_reducible refine ak ?_ _ | with_reducible refine ah ?_ (by assumption))) : P := h
theorem atT {P:Prop} (h:P:=by repeat (first | with_reducible exact aj _ | with_reducible assumption | with_reducible refine ak ?_ _ | with_reducible refine aA ?_ | with_reducible refine ah ?_ (by assumption))) : P := h
theorem atU {P:Prop} (h:P:=by have f1:=HF.out;have f2:=hm.out;have f3:=hb.out;have f4:=fJ.out;omega) : P := h
theorem atV {P:Prop} (h:P:=by first | exact hq | exact hq.out) : P := h
theorem atW {P:Prop} (h:P:=by repeat (first | with_reducible exact hq | with_reducible exact hq.out | with_reducible exact aj _ | with_reducible assumption | with_reducible refine ak ?_ _ | with_reducible refine ah ?_ atV | with_reducible refine ah ?_ (by assumption))) : P := h
theorem atX {P:Prop} (h:P:=by dsimp only;omega) : P := h
theorem atY {P:Prop} (h:P:=by first | exact Nat.le_refl _ | (simp;done) | omega | (simp;omega)) : P := h
theorem atZ {P:Prop} (h:P:=by decide +kernel) : P := h
theorem at1 {P:Prop} (h:P:=by repeat (first | with_reducible exact aj _ | with_reducible assumption | with_reducible refine ak ?_ _ | with_reducible refine aC ?_ atY _ | with_reducible refine aA ?_ | with_reducible refine ah ?_ (by assumption))) : P := h
theorem at6 {P:Prop} (h:P:=by unfold maxLen;omega) : P := h
theorem at7 {P:Prop} (h:P:=by simp [hd.out]) : P := h
theorem aua {P:Prop} (h:P:=by simp [World.setCell]) : P := h
theorem aub {P:Prop} (h:P:=by simp [Value.oneCell']) : P := h
theorem auc {P:Prop} (h:P:=by have e1:=HN.out;have e2:=fJ.out;simp only [List.length_append,fU];omega) : P := h
theorem aud {P:Prop} (h:P:=by first | exact hbx | exact aj _) : P := h
theorem aue {P:Prop} (h:P:=by first | rfl | (simp;rfl)) : P := h
theorem auf {P:Prop} (h:P:=by unfold Func.isWrapper;first | (rw [if_pos atZ];kernel_rfl) | (rw [if_neg atZ];exact ⟨rfl,rfl⟩)) : P := h
theorem aug {P:Prop} (h:P:=by first | assumption | (unfold I64;omega)) : P := h
theorem auh {P:Prop} (h:P:=by exact Nat.le_refl _) : P := h
theorem aui {P:Prop} (h:P:=by repeat (first | with_reducible exact aj _ | with_reducible assumption | with_reducible refine aC ?_ atX _ | with_reducible refine ak ?_ _ | with_reducible refine aA ?_ | with_reducible refine ah ?_ (by assumption))) : P := h
theorem auj {P:Prop} (h:P:=by first | exact aj _ | assumption) : P := h
theorem auk {P:Prop} (h:P:=by have e3:=HKK.out;have e4:=HD.out;have f1:=HF.out;have f2:=hm.out;have f3:=hb.out;have f4:=fJ.out;omega) : P := h
theorem aul {P:Prop} (h:P:=by show w1.heap.size < _;omega) : P := h
theorem aum {P:Prop} (h:P:=by simp only [Act.put,pz];rfl) : P := h
theorem aun {P:Prop} (h:P:=by show w.heap.size+1+1 < _;omega) : P := h
theorem auo {P:Prop} (h:P:=by obtain ⟨d0,d1,hs⟩:=fF hA;rw [hs];rfl) : P := h
theorem aup {P:Prop} (h:P:=by show 0 < _→_;intro _;omega) : P := h
theorem auq {P:Prop} (h:P:=by intro e;have:=hr _ e.symm;omega) : P := h
theorem aur {P:Prop} (h:P:=by have:=HR1.out;omega) : P := h
theorem aus {P:Prop} (h:P:=by repeat (first | with_reducible exact RZ.out | with_reducible refine Own.setCell ?_ atX _)) : P := h
theorem aut {P:Prop} (h:P:=by first | exact hq | exact ah (ak (aj _) _) hq) : P := h
theorem auu {P:Prop} (h:P:=by have:=ha.out;omega) : P := h
theorem auv {P:Prop} (h:P:=by simpa only [List.append_assoc] using hS1) : P := h
theorem auw {P:Prop} (h:P:=by rw [List.length_append];have f1:=HF.out;have f2:=hm.out;have f3:=hb.out;have f4:=fJ.out;omega) : P := h
theorem auy {P:Prop} (h:P:=by show w.heap.size < _;omega) : P := h
theorem auz {P:Prop} (h:P:=by have:=hd.out;omega) : P := h
theorem auA {P:Prop} (h:P:=by rw [iC hlt hlt',Heq.out];simpa [eqStr,Am] using hne) : P := h
theorem auB {P:Prop} (h:P:=by rw [yN]) : P := h
theorem auC {P:Prop} (h:P:=by repeat (first | with_reducible exact aj _ | with_reducible assumption | with_reducible refine ak ?_ _ | with_reducible refine aC ?_ atY _ | with_reducible refine ah ?_ (by assumption))) : P := h
theorem auD {P:Prop} (h:P:=by first | omega | (show _ < _;omega) | (simp;done) | (simp;omega)) : P := h
theorem auE {P:Prop} (h:P:=by repeat (first | with_reducible exact QX | with_reducible refine aA ?_ | with_reducible refine aC ?_ auh _ | with_reducible refine ak ?_ _ | with_reducible refine ah ?_ (by assumption))) : P := h
theorem auF {P:Prop} (h:P:=by simp [madeCells]) : P := h
theorem auG {P:Prop} (h:P:=by unfold I64;omega) : P := h
theorem auH {P:Prop} (h:P:=by have:=Dc.size;omega) : P := h
theorem auI {P:Prop} (h:P:=by have:=(Qz).size;omega) : P := h
theorem auJ {P:Prop} (h:P:=by have:=(hbB).size;omega) : P := h
theorem auK {P:Prop} (h:P:=by have:=(hb5).size;omega) : P := h
theorem auL {P:Prop} (h:P:=by have:=HK.out;omega) : P := h
theorem auM {P:Prop} (h:P:=by simpa only [List.append_assoc] using hS3) : P := h
theorem auN {P:Prop} (h:P:=by rw [List.length_append,fU];have f1:=HF.out;have f2:=hm.out;have f3:=hb.out;have f4:=fJ.out;omega) : P := h
theorem auO {P:Prop} (h:P:=by first | (simp;done) | omega | (simp;omega)) : P := h
theorem auP {P:Prop} (h:P:=by rw [List.length_map,HJ.out,Nat.mul_one]) : P := h
theorem auQ {P:Prop} (h:P:=by first | exact Nat.le_refl _ | (dsimp only;omega)) : P := h
theorem auR {P:Prop} (h:P:=by dsimp only;have:=HS.out.lt;omega) : P := h
theorem auS {P:Prop} (h:P:=by repeat (first | with_reducible exact hBr | with_reducible exact aj _ | with_reducible assumption | with_reducible refine ak ?_ _ | with_reducible refine ah ?_ (by assumption))) : P := h
theorem auT {P:Prop} (h:P:=by first | exact ah hBr hq | exact ah (ak hBr _) hq | exact ah hBr hq.out | exact ah (ak hBr _) hq.out) : P := h
theorem auU {P:Prop} (h:P:=by repeat (first | with_reducible exact QX | with_reducible refine aA ?_ | with_reducible refine aC ?_ auh _ | with_reducible refine ak ?_ _)) : P := h
theorem auV {P:Prop} (h:P:=by rw [List.length_drop];have:=HN.out;omega) : P := h
theorem auW {P:Prop} (h:P:=by obtain ⟨d0,hs⟩:=fF hA;rw [hs];rfl) : P := h
theorem auX {P:Prop} (h:P:=by rw [Addr.add_lit];exact hgn) : P := h
theorem auY {P:Prop} (h:P:=by rw [List.length_append];exact r13) : P := h
theorem auZ {P:Prop} (h:P:=by simpa using HN.out) : P := h
theorem au0 {P:Prop} (h:P:=by first | rfl | go_num) : P := h
theorem au1 {P:Prop} (h:P:=by rw [iC hlt hlt',Heq.out,he];rfl) : P := h
theorem au2 {P:Prop} (h:P:=by rw [List.take_succ_eq_append_getElem hlt,J3];exact hown5) : P := h
theorem au3 {P:Prop} (h:P:=by have e1:=U3.size;have e2:=hn.size;(try simp at e2);omega) : P := h
theorem au4 {P:Prop} (h:P:=by dsimp only;first | omega | (have:=S2'.lt;omega)) : P := h
theorem au5 {P:Prop} (h:P:=by repeat (first | with_reducible exact HS.out.below | with_reducible refine aC ?_ auQ _)) : P := h
theorem au6 {P:Prop} (h:P:=by rw [iY mW,sU];omega) : P := h
theorem au7 {P:Prop} (h:P:=by rw [lN];omega) : P := h
theorem au8 {P:Prop} (h:P:=by have:=hb4.size;first | omega | (simp at this;omega)) : P := h
theorem au9 {P:Prop} (h:P:=by rw [Oi hi];exact hlt) : P := h
theorem ava {P:Prop} (h:P:=by show _ = o+i * 3+0;omega) : P := h
theorem avb {P:Prop} (h:P:=by show _ = o+i * 3+1;omega) : P := h
theorem avc {P:Prop} (h:P:=by repeat (first | with_reducible exact HO8.out | with_reducible refine Own.setCell ?_ auy _)) : P := h
theorem avd {P:Prop} (h:P:=by repeat (first | with_reducible exact HS8.out.upd | with_reducible refine nN.xZ ?_ auh _)) : P := h
theorem ave {P:Prop} (h:P:=by first | exact hq | exact hq.out | exact ah (ak (aj _) _) hq) : P := h
theorem avf {P:Prop} (h:P:=by simp [Value.ownBlock]) : P := h
theorem avg {P:Prop} (h:P:=by have:=hF y hy;dsimp only;omega) : P := h
theorem avh {P:Prop} (h:P:=by show _ = o+i * 9+0;omega) : P := h
theorem avi {P:Prop} (h:P:=by show _ = o+i * 9+2;omega) : P := h
theorem avj {P:Prop} (h:P:=by show _ = o+i * 9+3;omega) : P := h
theorem avk {P:Prop} (h:P:=by show _ = o+i * 9+4;omega) : P := h
theorem avl {P:Prop} (h:P:=by show _ = o+i * 9+7;omega) : P := h
theorem avm {P:Prop} (h:P:=by show _ = o+i * 9+8;omega) : P := h
theorem avn {P:Prop} (h:P:=by show _ = o+i * 3+2;omega) : P := h
theorem avo {P:Prop} (h:P:=by repeat (first | with_reducible exact hB | with_reducible refine aC ?_ atX _ | with_reducible refine aA ?_)) : P := h
theorem avp {P:Prop} (h:P:=by simpa using h) : P := h
theorem avq {P:Prop} (h:P:=by first | exact Nat.le_refl _ | (simp [World.setCell];done) | (simp [World.setCell];omega)) : P := h
theorem avr {P:Prop} (h:P:=by dsimp only;first | omega | (have:=S3'.lt;omega)) : P := h
theorem avs {P:Prop} (h:P:=by have:=h.below.size;omega) : P := h
theorem avt {P:Prop} (h:P:=by have:=Tree.OE x k hk;omega) : P := h
theorem avu {P:Prop} (h:P:=by unfold Cls;with_reducible exact (ak hbx0 _)) : P := h
theorem avv {P:Prop} (h:P:=by simpa using hi) : P := h
theorem avw {P:Prop} (h:P:=by show _ = o+i * 9+1;omega) : P := h
theorem avx {P:Prop} (h:P:=by show _ = o+i * 9+5;omega) : P := h
theorem avy {P:Prop} (h:P:=by show _ = o+i * 9+6;omega) : P := h
theorem avz {P:Prop} (h:P:=by rw [HE.out];simp) : P := h
theorem avA {P:Prop} (h:P:=by repeat (first | with_reducible exact HS8.out.cur | with_reducible refine yM.far ?_ (by omega) _ _)) : P := h
theorem avC {P:Prop} (h:P:=by have:=h.hb;have:=h.hg;omega) : P := h
theorem avD {P:Prop} (h:P:=by rw [iC hlt hlt',Heq.out];simpa using hne) : P := h
theorem avE {P:Prop} (h:P:=by first | exact hb2 | rfl) : P := h
theorem avF {P:Prop} (h:P:=by have:=HS.out;simpa [List.append_assoc] using this) : P := h
theorem avG {P:Prop} (h:P:=by have:=ha.out;have:=hm.out;omega) : P := h
theorem avH {P:Prop} (h:P:=by have:=hb1.size;omega) : P := h
theorem avI {P:Prop} (h:P:=by rw [List.length_take];omega) : P := h
theorem avJ {P:Prop} (h:P:=by have:=hbl.size;(try simp);omega) : P := h
theorem avK {P:Prop} (h:P:=by have:=hbl.size;simp;omega) : P := h
theorem avL {P:Prop} (h:P:=by obtain ⟨d0,d1,d2,hs⟩:=fF hA;rw [hs];rfl) : P := h
theorem avM {P:Prop} (h:P:=by show _ = o+i * 6+0;omega) : P := h
theorem avN {P:Prop} (h:P:=by show _ = o+i * 6+2;omega) : P := h
theorem avO {P:Prop} (h:P:=by show _ = o+i * 6+3;omega) : P := h
theorem avP {P:Prop} (h:P:=by show _ = o+i * 6+4;omega) : P := h
theorem avQ {P:Prop} (h:P:=by rw [List.length_map,HJ.out];omega) : P := h
theorem avR {P:Prop} (h:P:=by have:=hb7.size;omega) : P := h
theorem avS {P:Prop} (h:P:=by have:=B1.lt;omega) : P := h
theorem avT {P:Prop} (h:P:=by have:=B2.lt;omega) : P := h
theorem avU {P:Prop} (h:P:=by have:=hg.size;simpa using this) : P := h
theorem avV {P:Prop} (h:P:=by unfold onP;rw [hs1,hs2]) : P := h
theorem avW {P:Prop} (h:P:=by rw [Xi hlt HP.out];exact hcs) : P := h
theorem avX {P:Prop} (h:P:=by unfold Em;rw [hnx];simp) : P := h
theorem avY {P:Prop} (h:P:=by unfold Em;rw [hwt];simp) : P := h
theorem avZ {P:Prop} (h:P:=by unfold Em;simp [hh2]) : P := h
theorem av1 {P:Prop} (h:P:=by unfold Em;simp [hh1]) : P := h
theorem av2 {P:Prop} (h:P:=by rw [sG hlt,hsn];rfl) : P := h
theorem av3 {P:Prop} (h:P:=by dsimp only;first | omega | (have:=S1'.lt;omega)) : P := h
theorem av4 {P:Prop} (h:P:=by repeat (first | with_reducible exact HO1.out | with_reducible refine Own.setCell ?_ auR _)) : P := h
theorem av5 {P:Prop} (h:P:=by repeat (first | with_reducible exact RZ.out | with_reducible refine Own.setCell ?_ auR _)) : P := h
theorem av6 {P:Prop} (h:P:=by repeat (first | with_reducible exact HO.out | with_reducible refine Own.setCell ?_ atX _)) : P := h
theorem av7 {P:Prop} (h:P:=by simp [Act.eval,Act.put]) : P := h
theorem av8 {P:Prop} (h:P:=by rw [HT.out,HM.out];exact HNM.out) : P := h
theorem av9 {P:Prop} (h:P:=by rw [HT.out,HM.out];have:=HNM.out;omega) : P := h
theorem awc {P:Prop} (h:P:=by have:=hB3.size;omega) : P := h
theorem awd {P:Prop} (h:P:=by rw [sU];omega) : P := h
theorem awe {P:Prop} (h:P:=by have:=hB1.size;omega) : P := h
theorem awf {P:Prop} (h:P:=by simp only [Lit.wf,Bool.and_eq_true,decide_eq_true_eq] at hw;exact ⟨hw.1,hw.2⟩) : P := h
theorem awg {P:Prop} (h:P:=by rw [iY Dz,ES];omega) : P := h
theorem awh {P:Prop} (h:P:=by unfold KF;rw [hr1]) : P := h
theorem awi {P:Prop} (h:P:=by have:=hb6.size;omega) : P := h
theorem awj {P:Prop} (h:P:=by show _ = o+i * 1+0;omega) : P := h
theorem awk {P:Prop} (h:P:=by show _ = o+i * 6+1;omega) : P := h
theorem awl {P:Prop} (h:P:=by show _ = o+i * 6+5;omega) : P := h
theorem awm {P:Prop} (h:P:=by show _ = o+i * 2+0;omega) : P := h
theorem awn {P:Prop} (h:P:=by show _ = o+i * 2+1;omega) : P := h
theorem awo {P:Prop} (h:P:=by show _ = o+i * 4+0;omega) : P := h
theorem awp {P:Prop} (h:P:=by show _ = o+i * 4+1;omega) : P := h
theorem awq {P:Prop} (h:P:=by show _ = o+i * 4+2;omega) : P := h
theorem awr {P:Prop} (h:P:=by show _ = o+i * 4+3;omega) : P := h
theorem aws {P:Prop} (h:P:=by repeat (first | with_reducible exact HO.out | with_reducible refine Own.drew ?_ | with_reducible refine Own.setCell ?_ auy _ | with_reducible refine Own.alloc ?_ _ | with_reducible refine Own.ext ?_ (by assumption))) : P := h
theorem awt {P:Prop} (h:P:=by rw [List.length_append];exact r11) : P := h
theorem awu {P:Prop} (h:P:=by have:=HLF.out y hy;dsimp only;omega) : P := h
theorem awv {P:Prop} (h:P:=by have:=Zn.out y hy;dsimp only;omega) : P := h
theorem aww {P:Prop} (h:P:=by have:=HLP7.out y hy;dsimp only;omega) : P := h
theorem awx {P:Prop} (h:P:=by have:=h.hg;dsimp only;omega) : P := h
theorem awy {P:Prop} (h:P:=by rw [h] at hr;cases hr) : P := h
theorem awz {P:Prop} (h:P:=by rw [List.length_drop];omega) : P := h
theorem awC {P:Prop} (h:P:=by rw [hu.out,hv.out];exact Nat.le_refl _) : P := h
theorem awD {P:Prop} (h:P:=by have:=hE.out;simpa [List.append_assoc] using this) : P := h
theorem awE {P:Prop} (h:P:=by rw [HR.out,HST.out,List.append_assoc]) : P := h
theorem awF {P:Prop} (h:P:=by rw [List.append_nil];exact hS) : P := h
theorem awG {P:Prop} (h:P:=by rw [cell_of_row _ _ _ _ _ _ (heap_alloc_new wr _)];rfl) : P := h
theorem awH {P:Prop} (h:P:=by rw [List.length_map];exact hl) : P := h
theorem awI {P:Prop} (h:P:=by repeat (first | with_reducible exact jX | with_reducible refine Own.setCell ?_ auD _ | with_reducible refine Own.ext ?_ (by assumption) | with_reducible refine Own.alloc ?_ _)) : P := h
theorem awJ {P:Prop} (h:P:=by have:=hb4.size;omega) : P := h
theorem awK {P:Prop} (h:P:=by rw [YC hlt HP.out];exact hcs) : P := h
theorem awL {P:Prop} (h:P:=by have:=hb5.size;simp;omega) : P := h
theorem awM {P:Prop} (h:P:=by intro e;have:=hr _ e.symm;have:=hF y hy;omega) : P := h
theorem awN {P:Prop} (h:P:=by have:=hbl.size;have:=hbn.size;(try simp);omega) : P := h
theorem awO {P:Prop} (h:P:=by first | exact hbor | (dsimp only;omega)) : P := h
theorem awP {P:Prop} (h:P:=by rw [Addr.add_lit];exact hg5.block (wn.heap.size+1) (by simp) avf) : P := h
theorem awQ {P:Prop} (h:P:=by rw [Addr.add_lit];exact (hg5.block wn.heap.size (by simp;omega) avf).trans (heap_alloc_old _ _ (by simp))) : P := h
theorem awR {P:Prop} (h:P:=by have:=HBN.out.size;have:=hb7.size;omega) : P := h
theorem awS {P:Prop} (h:P:=by rw [List.length_append,HJ.out];rfl) : P := h
theorem awT {P:Prop} (h:P:=by rw [List.length_map,HKL.out,Nat.mul_one]) : P := h
theorem awU {P:Prop} (h:P:=by have:=IJ.size;simp only [World.setCell,Array.size_modify] at *;omega) : P := h
theorem awV {P:Prop} (h:P:=by show y1.1.size≤_;unfold maxLen;omega) : P := h
theorem awW {P:Prop} (h:P:=by show y3.1.size≤_;unfold maxLen;omega) : P := h
theorem awX {P:Prop} (h:P:=by repeat (first | with_reducible exact HO.out | with_reducible exact Own.ext HO.out hb7 | with_reducible refine Own.ext ?_ (aA (aj _)) | with_reducible refine Own.setCell ?_ auy _ | with_reducible refine Own.alloc ?_ _)) : P := h
theorem awY {P:Prop} (h:P:=by repeat (first | with_reducible exact fH | with_reducible refine Own.setCell ?_ auD _ | with_reducible refine Own.ext ?_ (by assumption) | with_reducible refine Own.alloc ?_ _)) : P := h
theorem awZ {P:Prop} (h:P:=by have:=HW.out;unfold nI.wt at this;omega) : P := h
theorem ay {W w1:World} (hb:Below W.heap.size W w1):(∀b o,b < W.heap.size→w1.cell? ⟨b,o,none⟩ = W.cell? ⟨b,o,none⟩)∧(∀b o,b < W.heap.size→w1.frozen? ⟨b,o,none⟩ = W.frozen? ⟨b,o,none⟩) :=
 ⟨fun b o h=>hb.cell (p:=⟨b,o,none⟩) h,fun b o h=>hb.frozen (p:=⟨b,o,none⟩) h⟩
theorem aj (w:World):Below w.heap.size w w:=Below.refl _ _
theorem ah {w w1 w2:World} (h:Below w.heap.size w w1) (k:Below w1.heap.size w1 w2):Below w.heap.size w w2:=h.trans (k.mono h.size)
theorem ak {w w1:World} (h:Below w.heap.size w w1) (o:Obj):Below w.heap.size w (w1.alloc o):=h.alloc h.size o
theorem aA {w w1:World} (h:Below w.heap.size w w1):Below w.heap.size w w1.drew:=h.drew
theorem ext_drewN {w w1:World} (h:Below w.heap.size w w1) (n:Nat):Below w.heap.size w (w1.drewN n):=⟨h.os,h.tape,h.output,h.size,h.block⟩
theorem aC {w w1:World} (h:Below w.heap.size w w1) {p:Addr} (hp:w.heap.size≤p.block) (u:Value):Below w.heap.size w (w1.setCell p u):=h.setCell hp u
section
variable {H:Type} {enc:TypeId × Value→H} {P:Program}
theorem Zi {W W':World} (hl:laidOutB P = true) (hb:Below W.heap.size W W'):∀(ts:List TypeId) (vs:List Value) (ds:List (DataW H)) (ps:List MemPlace) (sp:Nat→Bool),
 (∀t∈ts,P.readableRec t = true∧t < P.types.size)→(∀x∈ps,x.block < W.heap.size)→(∀x∈ps,sp x.block = true) →
 DataW.TrodAll enc P W 0 (fun _=>true) true ts vs ds ps→DataW.TrodAll enc P W' 0 sp true ts vs ds ps
 | [],[],[],ps,sp,_,_,_,h=>h
 | t :: ts,v :: vs,d :: ds,ps,sp,ht,hlt,hsp,h=>by
   obtain ⟨p,q,h1,h2,rfl⟩:=h
   refine ⟨p,q,?_,Zi hl hb ts vs ds q sp (fun t' h'=>ht t' (List.mem_cons_of_mem _ h')) (fun x hx=>hlt x (List.mem_append_right _ hx)) (fun x hx=>hsp x (List.mem_append_right _ hx)) h2,rfl⟩
   obtain ⟨hr,hs⟩:=ht t (List.mem_cons_self ..)
   exact WideElems.Trod_stays hl hr hs h1 (fun x hx=>hb.same (hlt x (List.mem_append_left _ hx))) (fun x hx=>hsp x (List.mem_append_left _ hx))
 | [],_ :: _,_,_,_,_,_,_,h=>by simp [DataW.TrodAll] at h
 | [],[],_ :: _,_,_,_,_,_,h=>by simp [DataW.TrodAll] at h
 | _ :: _,[],_,_,_,_,_,_,h=>by simp [DataW.TrodAll] at h
 | _ :: _,_ :: _,[],_,_,_,_,_,h=>by simp [DataW.TrodAll] at h
theorem nO {f:Func} {s:ChangeSpec} {apart fresh handsOn:Bool} {W W':World} {args:Array Value} {ds gs:List (DataW H)} {before:List MemPlace} {tb:TypeId}
 (hl:laidOutB P = true) (hr:∀t∈f.params.toList,P.readableRec t = true∧t < P.types.size) (htb:f.resultTypes = #[tb]) (hub:P.underlying tb = some .bool)
 (hvars:s.vars = []) (hfn:s.fn H ds = { results:=[.lit (.bool true)],args:=ds,vars:=[] })
 (hW:DataW.Whole enc P f.params.toList s.vars apart W args.toList ds gs before) (hb:Below W.heap.size W W') :
 s.post enc P f apart fresh handsOn false W args (.bool true) W':=by
 have hlt:∀p∈before,p.block < W.heap.size:=fun p hp=>hW.lt p hp
 have hW0:=hW
 obtain ⟨p,q,hA,hV,rfl,hz,hn⟩:=hW0
 rw [hvars] at hV
 obtain ⟨rfl,rfl⟩:=trodVars_none hV
 simp only [List.append_nil] at *
 have hres:∀(b:Nat) (sp:Nat→Bool) (hd:Bool),DataW.TrodAll enc P W' b sp hd f.resultTypes.toList ((Value.bool true).resultList f.resultTypes.size) (s.fn H (ds++[])).results []:=by
  intro b sp hd
  rw [htb,List.append_nil,hfn]
  exact trodAll_cons_mk (shut_bool hub _) trodAll_mk0
 have hargs:∀sp:Nat→Bool,(∀x∈p,sp x.block = true)→DataW.TrodAll enc P W' 0 sp true f.params.toList args.toList (s.fn H (ds++[])).args p:=by
  intro sp hsp
  rw [List.append_nil,hfn]
  exact Zi hl hb _ _ _ _ _ hr hlt hsp hA
 have hvs:∀sp:Nat→Bool,DataW.TrodVars enc P W' sp s.vars (s.fn H (ds++[])).vars []:=by
  intro sp
  rw [List.append_nil,hfn,hvars]
  rfl
 have hold:∀x∈p,(fun b=>decide (b < W.heap.size)) x.block = true:=fun x hx=>by simpa using hlt x hx
 refine ⟨ds,[],p,[],p,[],hW,hres _ _ _,hargs _ hold,hvs _,World.keptBut_mono (fun x hx=>⟨hx,by simpa using hx⟩) (hb.frame (·∈p)),fun hag=>by cases hag⟩
end
end Go.Proofs.YtnjibbpcafgglaaGreat
namespace Go.Proofs.YtnjibbpcafgglaaGreat
open Go.ChangeShapes Go.WideShapes Go.ChangeAt Go.RowKit
set_option linter.unusedVariables false
set_option linter.unusedSimpArgs false
def I64 (n:Int):Prop:=-9223372036854775808≤n∧n≤9223372036854775807
class Dat (α:Type) where
 size:Nat
 pos:0 < size
 rd:World→α→List Value→List Nat→Prop
 len:∀{w a cs F},rd w a cs F→cs.length = size
 one:∀{w a cs F},rd w a cs F→∀u∈cs,u.oneCell' = true
 lt:∀{w a cs F},rd w a cs F→∀b∈F,b < w.heap.size
 frame:∀{w w':World} {a cs F},rd w a cs F→(∀b∈F,w'.heap[b]? = w.heap[b]?)→w.heap.size≤w'.heap.size→rd w' a cs F
export Dat (rd)
instance:Dat Int where
 size:=1
 pos:=by omega
 rd _ n cs F:=cs = [.int .i64 n]∧F = []∧I64 n
 len h:=by rw [h.1];rfl
 one h:=by rw [h.1];intro u hu;simp at hu;subst hu;rfl
 lt h:=by rw [h.2.1];intro b hb;cases hb
 frame h _ _:=h
instance:Dat Bool where
 size:=1
 pos:=by omega
 rd _ n cs F:=cs = [.bool n]∧F = []
 len h:=by rw [h.1];rfl
 one h:=by rw [h.1];intro u hu;simp at hu;subst hu;rfl
 lt h:=by rw [h.2];intro b hb;cases hb
 frame h _ _:=h
instance:Dat ByteArray where
 size:=1
 pos:=by omega
 rd _ n cs F:=cs = [.string n]∧F = []∧n.size≤maxLen
 len h:=by rw [h.1];rfl
 one h:=by rw [h.1];intro u hu;simp at hu;subst hu;rfl
 lt h:=by rw [h.2.1];intro b hb;cases hb
 frame h _ _:=h
instance {α β:Type} [Dat α] [Dat β]:Dat (α × β) where
 size:=Dat.size α+Dat.size β
 pos:=by have:=Dat.pos (α:=α);omega
 rd w x cs F:=∃c1 c2 F1 F2,cs = c1++c2∧F = F1++F2∧rd w x.1 c1 F1∧rd w x.2 c2 F2
 len h:=by obtain ⟨c1,c2,F1,F2,rfl,rfl,h1,h2⟩:=h;rw [List.length_append,Dat.len h1,Dat.len h2]
 one h:=by
  obtain ⟨c1,c2,F1,F2,rfl,rfl,h1,h2⟩:=h
  intro u hu
  rcases List.mem_append.1 hu with hu | hu
  ·exact Dat.one h1 u hu
  ·exact Dat.one h2 u hu
 lt h:=by
   obtain ⟨c1,c2,F1,F2,rfl,rfl,h1,h2⟩:=h
   intro b hb
   rcases List.mem_append.1 hb with hb | hb
   ·exact Dat.lt h1 b hb
   ·exact Dat.lt h2 b hb
 frame h hk hz:=by
  obtain ⟨c1,c2,F1,F2,rfl,rfl,h1,h2⟩:=h
  exact ⟨c1,c2,F1,F2,rfl,rfl,Dat.frame h1 (fun b hb=>hk b (List.mem_append_left _ hb)) hz,Dat.frame h2 (fun b hb=>hk b (List.mem_append_right _ hb)) hz⟩
@[reducible] def Dat.iso {α β:Type} (f:α→β) [Dat β]:Dat α where
  size:=Dat.size β
  pos:=Dat.pos
  rd w x:=rd w (f x)
  len h:=Dat.len h
  one h:=Dat.one h
  lt h:=Dat.lt h
  frame h:=Dat.frame h
def jo {α:Type} [Dat α] (w:World):List α→List Value→List Nat→Prop
 | [],cs,F=>cs = []∧F = []
 | x :: xs,cs,F=>∃c1 c2 F1 F2,cs = c1++c2∧F = F1++F2∧rd w x c1 F1∧jo w xs c2 F2
section
variable {α:Type} [Dat α]
theorem jo.len {w:World} : ∀{xs:List α} {cs:List Value} {F:List Nat},jo w xs cs F→cs.length = xs.length * Dat.size α
 | [],_,_,h=>by rw [h.1];simp
 | x :: xs,_,_,⟨c1,c2,F1,F2,rfl,rfl,h1,h2⟩=>by
   rw [List.length_append,Dat.len h1,jo.len h2,List.length_cons,Nat.succ_mul];omega
theorem jo.one {w:World} : ∀{xs:List α} {cs:List Value} {F:List Nat},jo w xs cs F→∀u∈cs,u.oneCell' = true
 | [],_,_,h=>by rw [h.1];intro u hu;cases hu
 | x :: xs,_,_,⟨c1,c2,F1,F2,rfl,rfl,h1,h2⟩=>by
   intro u hu
   rcases List.mem_append.1 hu with hu | hu
   ·exact Dat.one h1 u hu
   ·exact jo.one h2 u hu
theorem jo.lt {w:World} : ∀{xs:List α} {cs:List Value} {F:List Nat},jo w xs cs F→∀b∈F,b < w.heap.size
 | [],_,_,h=>by rw [h.2];intro b hb;cases hb
 | x :: xs,_,_,⟨c1,c2,F1,F2,rfl,rfl,h1,h2⟩=>by
   intro b hb
   rcases List.mem_append.1 hb with hb | hb
   ·exact Dat.lt h1 b hb
   ·exact jo.lt h2 b hb
theorem jo.frame {w w':World} : ∀{xs:List α} {cs:List Value} {F:List Nat},jo w xs cs F→(∀b∈F,w'.heap[b]? = w.heap[b]?)→w.heap.size≤w'.heap.size→jo w' xs cs F
 | [],_,_,h,_,_=>h
 | x :: xs,_,_,⟨c1,c2,F1,F2,rfl,rfl,h1,h2⟩,hk,hz =>
   ⟨c1,c2,F1,F2,rfl,rfl,Dat.frame h1 (fun b hb=>hk b (List.mem_append_left _ hb)) hz,jo.frame h2 (fun b hb=>hk b (List.mem_append_right _ hb)) hz⟩
theorem jo.append {w:World} : ∀{xs ys:List α} {c1 c2:List Value} {F1 F2:List Nat},jo w xs c1 F1→jo w ys c2 F2→jo w (xs++ys) (c1++c2) (F1++F2)
 | [],_,_,_,_,_,⟨rfl,rfl⟩,h2=>h2
 | x :: xs,ys,_,c2,_,F2,⟨d1,d2,G1,G2,rfl,rfl,h1,h2⟩,h3 =>
   ⟨d1,d2++c2,G1,G2++F2,by simp,by simp,h1,jo.append h2 h3⟩
theorem jo.single {w:World} {x:α} {cs:List Value} {F:List Nat} (h:rd w x cs F):jo w [x] cs F:=⟨cs,[],F,[],by simp,by simp,h,rfl,rfl⟩
theorem jo.of_append {w:World} : ∀{xs ys:List α} {cs:List Value} {F:List Nat},jo w (xs++ys) cs F→∃c1 c2 F1 F2,cs = c1++c2∧F = F1++F2∧jo w xs c1 F1∧jo w ys c2 F2
 | [],_,cs,F,h=>⟨[],cs,[],F,rfl,rfl,⟨rfl,rfl⟩,h⟩
 | x :: xs,ys,_,_,⟨d1,d2,G1,G2,rfl,rfl,h1,h2⟩=>by
   obtain ⟨e1,e2,H1,H2,rfl,rfl,h3,h4⟩:=jo.of_append h2
   exact ⟨d1++e1,e2,G1++H1,H2,by simp,by simp,⟨d1,e1,G1,H1,rfl,rfl,h1,h3⟩,h4⟩
theorem jo.get {w:World} {xs:List α} {cs:List Value} {F:List Nat} (h:jo w xs cs F) {k:Nat} (hk:k < xs.length) :
 ∃ck Fk,rd w xs[k] ck Fk∧(∀b∈Fk,b∈F)∧∀j,j < Dat.size α→cs[k * Dat.size α+j]? = ck[j]?:=by
 have e:xs = xs.take k++(xs[k] :: xs.drop (k+1)):=by rw [List.getElem_cons_drop,List.take_append_drop]
 rw [e] at h
 obtain ⟨c1,c2,F1,F2,rfl,rfl,h1,ck,c3,Fk,F3,rfl,rfl,h2,h3⟩:=jo.of_append h
 have hl:=h1.len
 rw [List.length_take,Nat.min_eq_left (by omega)] at hl
 refine ⟨ck,Fk,h2,fun b hb=>by simp [hb],fun j hj=>?_⟩
 rw [List.getElem?_append_right (by omega),List.getElem?_append_left (by have:=Dat.len h2;omega)]
 congr 1;omega
end
theorem rV {s:ByteArray} (h:s.size≤maxLen):(s.size:Int)≤9223372036854775807:=by unfold maxLen at h;omega
theorem rdStr (w:World) (s:ByteArray) (h:(s.size:Int)≤9223372036854775807):rd w s [.string s] []:=⟨rfl,rfl,by unfold maxLen;omega⟩
theorem jL (w:World) (n:Int) (h:I64 n):rd w n [.int .i64 n] []:=⟨rfl,rfl,h⟩
theorem rdBool (w:World) (b:Bool):rd w b [.bool b] []:=⟨rfl,rfl⟩
instance {α:Type} [Dat α]:Dat (List α) where
 size:=1
 pos:=by omega
 rd w xs cs F:=∃A c G ds,cs = [.slice A xs.length c]∧xs.length≤c∧c≤maxLen∧jo w xs ds G ∧
   ((xs = []∧F = [])∨∃b o,A = some ⟨b,o,none⟩∧F = b :: G∧b < w.heap.size∧∀j u,ds[j]? = some u→w.cell? ⟨b,o+j,none⟩ = some u)
 len h:=by obtain ⟨A,c,G,ds,rfl,_⟩:=h;rfl
 one h:=by obtain ⟨A,c,G,ds,rfl,_⟩:=h;intro u hu;simp at hu;subst hu;rfl
 lt h:=by
   obtain ⟨A,c,G,ds,rfl,_,_,hc,h | ⟨b,o,rfl,rfl,hb,_⟩⟩:=h
   ·rw [h.2];intro b hb;cases hb
   ·intro x hx
    rcases List.mem_cons.1 hx with rfl | hx
    ·exact hb
    ·exact hc.lt x hx
 frame h hk hz:=by
  obtain ⟨A,c,G,ds,rfl,h1,h2,hc,h | ⟨b,o,rfl,rfl,hb,hcell⟩⟩:=h
  ·obtain ⟨rfl,rfl⟩:=h
   obtain ⟨rfl,rfl⟩:=hc
   exact ⟨A,c,[],[],rfl,h1,h2,⟨rfl,rfl⟩,.inl ⟨rfl,rfl⟩⟩
  ·refine ⟨_,c,G,ds,rfl,h1,h2,hc.frame (fun x hx=>hk x (List.mem_cons_of_mem _ hx)) hz,.inr ⟨b,o,rfl,rfl,Nat.lt_of_lt_of_le hb hz,fun j u hu=>?_⟩⟩
   rw [← hcell j u hu]
   exact World.cell?_of_block (hk b (List.mem_cons_self ..))
def Sl {α:Type} [Dat α] (w:World) (xs:List α) (A:Option Addr) (c:Nat) (F:List Nat):Prop:=rd w xs [.slice A xs.length c] F
section
variable {α:Type} [Dat α] {w w':World} {xs:List α} {A:Option Addr} {c:Nat} {F:List Nat}
theorem jB {v:List Value} (h:rd w xs v F):∃A c,v = [.slice A xs.length c]∧Sl w xs A c F:=by
 have h0:=h
 obtain ⟨A,c,G,ds,rfl,_⟩:=h
 exact ⟨A,c,rfl,h0⟩
theorem Sl.lt (h:Sl w xs A c F):∀b∈F,b < w.heap.size:=Dat.lt h
theorem Sl.frame (h:Sl w xs A c F) (hk:∀b∈F,w'.heap[b]? = w.heap[b]?) (hz:w.heap.size≤w'.heap.size):Sl w' xs A c F:=Dat.frame h hk hz
theorem Sl.below {B:Nat} (h:Sl w xs A c F) (hb:Below B w w') (hB:∀b∈F,b < B):Sl w' xs A c F:=h.frame (fun b hb'=>hb.block b (hB b hb')) hb.size
theorem Sl.ext (h:Sl w xs A c F) (hb:Below w.heap.size w w'):Sl w' xs A c F:=h.below hb h.lt
theorem Sl.cap (h:Sl w xs A c F):xs.length≤c∧c≤maxLen:=by
 obtain ⟨A',c',G,ds,e,h1,h2,_⟩:=h
 simp at e
 obtain ⟨_,rfl⟩:=e
 exact ⟨h1,h2⟩
theorem Sl.get (h:Sl w xs A c F) {k:Nat} (hk:k < xs.length) :
 ∃b o ck Fk,A = some ⟨b,o,none⟩∧b∈F∧b < w.heap.size∧rd w xs[k] ck Fk∧(∀x∈Fk,x∈F)∧∀j u,ck[j]? = some u→w.cell? ⟨b,o+(k * Dat.size α+j),none⟩ = some u:=by
 obtain ⟨A',c',G,ds,e,_,_,hc,h | ⟨b,o,rfl,rfl,hb,hcell⟩⟩:=h
 ·rw [h.1] at hk;cases hk
 ·simp at e
  obtain ⟨rfl,rfl⟩:=e
  obtain ⟨ck,Fk,hr,hs,hj⟩:=hc.get hk
  refine ⟨b,o,ck,Fk,rfl,List.mem_cons_self ..,hb,hr,fun x hx=>List.mem_cons_of_mem _ (hs x hx),fun j u hu=>hcell _ u ?_⟩
  rw [hj j (by rw [← Dat.len hr];exact (List.getElem?_eq_some_iff.1 hu).1)]
  exact hu
theorem Sl.nil (w:World) (A:Option Addr) (c:Nat) (hc:c≤maxLen):Sl w ([]:List α) A c []:=⟨A,c,[],[],rfl,Nat.zero_le _,hc,⟨rfl,rfl⟩,.inl ⟨rfl,rfl⟩⟩
end
structure Label where
 key:ByteArray
 value:ByteArray
instance:Dat Label:=Dat.iso fun l=>(l.key,l.value)
end Go.Proofs.YtnjibbpcafgglaaGreat
namespace Go.Proofs.YtnjibbpcafgglaaGreat
open Go.ChangeShapes Go.WideShapes Go.ChangeAt Go.RowKit
set_option linter.unusedVariables false
set_option linter.unusedSimpArgs false
theorem vO {w:World} {x:Label} {cs:List Value} {F:List Nat} (h:rd w x cs F):cs = [.string x.key,.string x.value]∧F = []∧x.key.size≤maxLen∧x.value.size≤maxLen:=by
 obtain ⟨_,_,_,_,rfl,rfl,⟨rfl,rfl,hkey⟩,⟨rfl,rfl,kP⟩⟩:=h
 exact ⟨rfl,by simp,hkey,kP⟩
theorem alH (w:World) (x:Label) (hkey:x.key.size≤maxLen) (kP:x.value.size≤maxLen):rd w x [.string x.key,.string x.value] []:=⟨_,_,_,_,rfl,rfl,⟨rfl,rfl,hkey⟩,⟨rfl,rfl,kP⟩⟩
structure Need where
 key:ByteArray
 op:Int
 values:List ByteArray
instance:Dat Need:=Dat.iso fun x=>(x.key,x.op,x.values)
theorem og {w:World} {x:Need} {cs:List Value} {F:List Nat} (h:rd w x cs F):∃(jy:Option Addr) (ji:Nat) (Bo:List Nat),cs = [.string x.key,.int .i64 x.op,.slice jy x.values.length ji]∧F = Bo∧x.key.size≤maxLen∧I64 x.op∧Sl w x.values jy ji Bo:=by
 obtain ⟨_,_,_,_,rfl,rfl,⟨rfl,rfl,hkey⟩,_,_,_,_,rfl,rfl,⟨rfl,rfl,hop⟩,kV⟩:=h
 obtain ⟨jy,ji,rfl,kV⟩:=jB kV
 exact ⟨jy,ji,_,rfl,by simp,hkey,hop,kV⟩
structure iU where
 key:ByteArray
 value:ByteArray
 effect:Int
instance:Dat iU:=Dat.iso fun x=>(x.key,x.value,x.effect)
theorem oK {w:World} {x:iU} {cs:List Value} {F:List Nat} (h:rd w x cs F):cs = [.string x.key,.string x.value,.int .i64 x.effect]∧F = []∧x.key.size≤maxLen∧x.value.size≤maxLen∧I64 x.effect:=by
 obtain ⟨_,_,_,_,rfl,rfl,⟨rfl,rfl,hkey⟩,_,_,_,_,rfl,rfl,⟨rfl,rfl,kP⟩,⟨rfl,rfl,lD⟩⟩:=h
 exact ⟨rfl,by simp,hkey,kP,lD⟩
theorem Q8 (w:World) (x:iU) (hkey:x.key.size≤maxLen) (kP:x.value.size≤maxLen) (lD:I64 x.effect):rd w x [.string x.key,.string x.value,.int .i64 x.effect] []:=⟨_,_,_,_,rfl,rfl,⟨rfl,rfl,hkey⟩,_,_,_,_,rfl,rfl,⟨rfl,rfl,kP⟩,⟨rfl,rfl,lD⟩⟩
structure bH where
 key:ByteArray
 equal:Bool
 value:ByteArray
 effect:Int
instance:Dat bH:=Dat.iso fun x=>(x.key,x.equal,x.value,x.effect)
theorem jv {w:World} {x:bH} {cs:List Value} {F:List Nat} (h:rd w x cs F):cs = [.string x.key,.bool x.equal,.string x.value,.int .i64 x.effect]∧F = []∧x.key.size≤maxLen∧x.value.size≤maxLen∧I64 x.effect:=by
 obtain ⟨_,_,_,_,rfl,rfl,⟨rfl,rfl,hkey⟩,_,_,_,_,rfl,rfl,⟨rfl,rfl⟩,_,_,_,_,rfl,rfl,⟨rfl,rfl,kP⟩,⟨rfl,rfl,lD⟩⟩:=h
 exact ⟨rfl,by simp,hkey,kP,lD⟩
theorem Ov (w:World) (x:bH) (hkey:x.key.size≤maxLen) (kP:x.value.size≤maxLen) (lD:I64 x.effect):rd w x [.string x.key,.bool x.equal,.string x.value,.int .i64 x.effect] []:=⟨_,_,_,_,rfl,rfl,⟨rfl,rfl,hkey⟩,_,_,_,_,rfl,rfl,⟨rfl,rfl⟩,_,_,_,_,rfl,rfl,⟨rfl,rfl,kP⟩,⟨rfl,rfl,lD⟩⟩
structure nI where
 name:ByteArray
 labels:List Label
 cpu:Int
 mem:Int
 rank:Int
 needs:List Need
 tolerances:List bH
instance:Dat nI:=Dat.iso fun x=>(x.name,x.labels,x.cpu,x.mem,x.rank,x.needs,x.tolerances)
theorem dL {w:World} {x:nI} {cs:List Value} {F:List Nat} (h:rd w x cs F):∃(gu:Option Addr) (gy:Nat) (jw:List Nat) (oh:Option Addr) (nT:Nat) (wG:List Nat) (fA:Option Addr) (fB:Nat) (jY:List Nat),cs = [.string x.name,.slice gu x.labels.length gy,.int .i64 x.cpu,.int .i64 x.mem,.int .i64 x.rank,.slice oh x.needs.length nT,.slice fA x.tolerances.length fB]∧F = jw++(wG++(jY))∧x.name.size≤maxLen∧Sl w x.labels gu gy jw∧I64 x.cpu∧I64 x.mem∧I64 x.rank∧Sl w x.needs oh nT wG∧Sl w x.tolerances fA fB jY:=by
 obtain ⟨_,_,_,_,rfl,rfl,⟨rfl,rfl,hname⟩,_,_,_,_,rfl,rfl,dO,_,_,_,_,rfl,rfl,⟨rfl,rfl,vg⟩,_,_,_,_,rfl,rfl,⟨rfl,rfl,hmem⟩,_,_,_,_,rfl,rfl,⟨rfl,rfl,BJ⟩,_,_,_,_,rfl,rfl,mX,eG⟩:=h
 obtain ⟨gu,gy,rfl,dO⟩:=jB dO
 obtain ⟨oh,nT,rfl,mX⟩:=jB mX
 obtain ⟨fA,fB,rfl,eG⟩:=jB eG
 exact ⟨gu,gy,_,oh,nT,_,fA,fB,_,rfl,by simp,hname,dO,vg,hmem,BJ,mX,eG⟩
structure Host where
 name:ByteArray
 labels:List Label
 cpu:Int
 mem:Int
 slots:Int
 aT:List iU
instance:Dat Host:=Dat.iso fun x=>(x.name,x.labels,x.cpu,x.mem,x.slots,x.aT)
theorem iy {w:World} {x:Host} {cs:List Value} {F:List Nat} (h:rd w x cs F):∃(gu:Option Addr) (gy:Nat) (jw:List Nat) (kJ:Option Addr) (kK:Nat) (qU:List Nat),cs = [.string x.name,.slice gu x.labels.length gy,.int .i64 x.cpu,.int .i64 x.mem,.int .i64 x.slots,.slice kJ x.aT.length kK]∧F = jw++(qU)∧x.name.size≤maxLen∧Sl w x.labels gu gy jw∧I64 x.cpu∧I64 x.mem∧I64 x.slots∧Sl w x.aT kJ kK qU:=by
 obtain ⟨_,_,_,_,rfl,rfl,⟨rfl,rfl,hname⟩,_,_,_,_,rfl,rfl,dO,_,_,_,_,rfl,rfl,⟨rfl,rfl,vg⟩,_,_,_,_,rfl,rfl,⟨rfl,rfl,hmem⟩,_,_,_,_,rfl,rfl,⟨rfl,rfl,uI⟩,jq⟩:=h
 obtain ⟨gu,gy,rfl,dO⟩:=jB dO
 obtain ⟨kJ,kK,rfl,jq⟩:=jB jq
 exact ⟨gu,gy,_,kJ,kK,_,rfl,by simp,hname,dO,vg,hmem,uI,jq⟩
structure rZ where
 pack:Int
 spread:Int
 soft:Int
instance:Dat rZ:=Dat.iso fun x=>(x.pack,x.spread,x.soft)
theorem mg {w:World} {x:rZ} {cs:List Value} {F:List Nat} (h:rd w x cs F):cs = [.int .i64 x.pack,.int .i64 x.spread,.int .i64 x.soft]∧F = []∧I64 x.pack∧I64 x.spread∧I64 x.soft:=by
 obtain ⟨_,_,_,_,rfl,rfl,⟨rfl,rfl,afb⟩,_,_,_,_,rfl,rfl,⟨rfl,rfl,U0⟩,⟨rfl,rfl,afc⟩⟩:=h
 exact ⟨rfl,by simp,afb,U0,afc⟩
theorem Zj (w:World) (x:rZ) (afb:I64 x.pack) (U0:I64 x.spread) (afc:I64 x.soft):rd w x [.int .i64 x.pack,.int .i64 x.spread,.int .i64 x.soft] []:=⟨_,_,_,_,rfl,rfl,⟨rfl,rfl,afb⟩,_,_,_,_,rfl,rfl,⟨rfl,rfl,U0⟩,⟨rfl,rfl,afc⟩⟩
structure Placed where
 aS:nI
 on:ByteArray
 seq:Int
instance:Dat Placed:=Dat.iso fun x=>(x.aS,x.on,x.seq)
theorem kE {w:World} {x:Placed} {cs:List Value} {F:List Nat} (h:rd w x cs F):∃(gV:Option Addr) (gW:Nat) (lF:List Nat) (iR:Option Addr) (iT:Nat) (mV:List Nat) (dD:Option Addr) (dF:Nat) (iH:List Nat),cs = [.string x.aS.name,.slice gV x.aS.labels.length gW,.int .i64 x.aS.cpu,.int .i64 x.aS.mem,.int .i64 x.aS.rank,.slice iR x.aS.needs.length iT,.slice dD x.aS.tolerances.length dF,.string x.on,.int .i64 x.seq]∧F = lF++(mV++(iH))∧x.aS.name.size≤maxLen∧Sl w x.aS.labels gV gW lF∧I64 x.aS.cpu∧I64 x.aS.mem∧I64 x.aS.rank∧Sl w x.aS.needs iR iT mV∧Sl w x.aS.tolerances dD dF iH∧x.on.size≤maxLen∧I64 x.seq:=by
 obtain ⟨_,_,_,_,rfl,rfl,WT,_,_,_,_,rfl,rfl,⟨rfl,rfl,hon⟩,⟨rfl,rfl,hseq⟩⟩:=h
 obtain ⟨gV,gW,lF,iR,iT,mV,dD,dF,iH,rfl,rfl,nY,iE,rF,rG,oZ,je,dN⟩:=dL WT
 exact ⟨gV,gW,_,iR,iT,_,dD,dF,_,rfl,by simp,nY,iE,rF,rG,oZ,je,dN,hon,hseq⟩
structure aU where
 hosts:List Host
 au:List Placed
 next:Int
 weights:rZ
instance:Dat aU:=Dat.iso fun x=>(x.hosts,x.au,x.next,x.weights)
theorem aO {w:World} {x:aU} {cs:List Value} {F:List Nat} (h:rd w x cs F):∃(bG:Option Addr) (bD:Nat) (fQ:List Nat) (dn:Option Addr) (bW:Nat) (jg:List Nat),cs = [.slice bG x.hosts.length bD,.slice dn x.au.length bW,.int .i64 x.next,.int .i64 x.weights.pack,.int .i64 x.weights.spread,.int .i64 x.weights.soft]∧F = fQ++(jg)∧Sl w x.hosts bG bD fQ∧Sl w x.au dn bW jg∧I64 x.next∧I64 x.weights.pack∧I64 x.weights.spread∧I64 x.weights.soft:=by
 obtain ⟨_,_,_,_,rfl,rfl,bQ,_,_,_,_,rfl,rfl,dM,_,_,_,_,rfl,rfl,⟨rfl,rfl,hnext⟩,xM⟩:=h
 obtain ⟨bG,bD,rfl,bQ⟩:=jB bQ
 obtain ⟨dn,bW,rfl,dM⟩:=jB dM
 obtain ⟨rfl,rfl,aV,aP,aW⟩:=mg xM
 exact ⟨bG,bD,_,dn,bW,_,rfl,by simp,bQ,dM,hnext,aV,aP,aW⟩
structure Manifest where
 kind:Int
 aS:nI
 host:Host
instance:Dat Manifest:=Dat.iso fun x=>(x.kind,x.aS,x.host)
theorem NS {w:World} {x:Manifest} {cs:List Value} {F:List Nat} (h:rd w x cs F):∃(gV:Option Addr) (gW:Nat) (lF:List Nat) (iR:Option Addr) (iT:Nat) (mV:List Nat) (dD:Option Addr) (dF:Nat) (iH:List Nat) (yx:Option Addr) (yA:Nat) (JV:List Nat) (yB:Option Addr) (yC:Nat) (JW:List Nat),cs = [.int .i64 x.kind,.string x.aS.name,.slice gV x.aS.labels.length gW,.int .i64 x.aS.cpu,.int .i64 x.aS.mem,.int .i64 x.aS.rank,.slice iR x.aS.needs.length iT,.slice dD x.aS.tolerances.length dF,.string x.host.name,.slice yx x.host.labels.length yA,.int .i64 x.host.cpu,.int .i64 x.host.mem,.int .i64 x.host.slots,.slice yB x.host.aT.length yC]∧F = lF++(mV++(iH++(JV++(JW))))∧I64 x.kind∧x.aS.name.size≤maxLen∧Sl w x.aS.labels gV gW lF∧I64 x.aS.cpu∧I64 x.aS.mem∧I64 x.aS.rank∧Sl w x.aS.needs iR iT mV∧Sl w x.aS.tolerances dD dF iH∧x.host.name.size≤maxLen∧Sl w x.host.labels yx yA JV∧I64 x.host.cpu∧I64 x.host.mem∧I64 x.host.slots∧Sl w x.host.aT yB yC JW:=by
 obtain ⟨_,_,_,_,rfl,rfl,⟨rfl,rfl,hkind⟩,_,_,_,_,rfl,rfl,WT,afd⟩:=h
 obtain ⟨gV,gW,lF,iR,iT,mV,dD,dF,iH,rfl,rfl,nY,iE,rF,rG,oZ,je,dN⟩:=dL WT
 obtain ⟨yx,yA,JV,yB,yC,JW,rfl,rfl,JX,EZ,NT,NU,Hf,E5⟩:=iy afd
 exact ⟨gV,gW,_,iR,iT,_,dD,dF,_,yx,yA,_,yB,yC,_,rfl,by simp,hkind,nY,iE,rF,rG,oZ,je,dN,JX,EZ,NT,NU,Hf,E5⟩
structure tV where
 code:Int
 at_:Int
 path:ByteArray
instance:Dat tV:=Dat.iso fun x=>(x.code,x.at_,x.path)
theorem abe {w:World} {x:tV} {cs:List Value} {F:List Nat} (h:rd w x cs F):cs = [.int .i64 x.code,.int .i64 x.at_,.string x.path]∧F = []∧I64 x.code∧I64 x.at_∧x.path.size≤maxLen:=by
 obtain ⟨_,_,_,_,rfl,rfl,⟨rfl,rfl,hcode⟩,_,_,_,_,rfl,rfl,⟨rfl,rfl,anI⟩,⟨rfl,rfl,afe⟩⟩:=h
 exact ⟨rfl,by simp,hcode,anI,afe⟩
theorem alI (w:World) (x:tV) (hcode:I64 x.code) (anI:I64 x.at_) (afe:x.path.size≤maxLen):rd w x [.int .i64 x.code,.int .i64 x.at_,.string x.path] []:=⟨_,_,_,_,rfl,rfl,⟨rfl,rfl,hcode⟩,_,_,_,_,rfl,rfl,⟨rfl,rfl,anI⟩,⟨rfl,rfl,afe⟩⟩
end Go.Proofs.YtnjibbpcafgglaaGreat
