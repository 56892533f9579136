/- SortLabels in plain Lean. No condition. -/
import Derived.Test.YtnedlmlpeplnfaaGreatCpP
import Derived.Test.YtnedlmlpeplnfaaGreatRows2
import Derived.Test.YtnedlmlpeplnfaaGreatStabM
import Derived.Test.YtnedlmlpeplnfaaGreatSz
import Derived.Test.YtnedlmlpeplnfaaGreatHostOk
import Derived.Test.YtnedlmlpeplnfaaGreatPodOk
import Derived.Test.YtnedlmlpeplnfaaGreatToBase
import Derived.Test.YtnedlmlpeplnfaaGreatEq
import Derived.Test.YtnedlmlpeplnfaaGreatMwTaint
namespace Go.Proofs.YtnedlmlpeplnfaaGreat
open Go.ChangeShapes Go.WideShapes Go.ChangeAt Go.RowKit
set_option linter.unusedVariables false
set_option linter.unusedSimpArgs false
set_option maxHeartbeats 2000000
set_option maxRecDepth 100000
def labCv (x y:Label):Int:=Lib.compareBytes x.key.data.toList y.key.data.toList
theorem labWeak:Weak (kS labCv):=(cpKey.at Label.key).weak
def sortLabelsR (xs:List Label):List Label × Bool:=if sD (sortB (kS labCv) [] xs) = true then (sortB (kS labCv) [] xs,true) else (xs,false)
theorem sortLabelsR_yes {xs:List Label} (h:sD (sortB (kS labCv) [] xs) = true):sortLabelsR xs = (sortB (kS labCv) [] xs,true):=if_pos h
theorem sortLabelsR_no {xs:List Label} (h:sD (sortB (kS labCv) [] xs) = false):sortLabelsR xs = (xs,false):=if_neg (by rw [h];simp)
theorem sortL_mem {lt:Label→Label→Bool} {z:Label} : ∀(ys acc:List Label),z∈sortB lt acc ys→z∈acc∨z∈ys
 | [],acc,h=>.inl h
 | y :: ys,acc,h=>by
   rw [sortB] at h;rcases sortL_mem ys _ h with h | h
   ·rw [xK] at h;rcases MK h with h | h
    ·exact .inl h
    ·rw [List.mem_singleton.1 h];exact .inr (List.mem_cons_self ..)
   ·exact .inr (List.mem_cons_of_mem _ h)
theorem sortLab_mem {xs:List Label} {z:Label} (h:z∈sortB (kS labCv) [] xs):z∈xs:=by
 rcases sortL_mem xs [] h with h | h
 ·cases h
 ·exact h
theorem sortLab_len (xs:List Label):(sortB (kS labCv) [] xs).length = xs.length:=by rw [rD];simp
theorem insB_sum {lt:Label→Label→Bool} (f:Label→Nat) (y:Label):∀r:List Label,((OM lt y r).map f).sum = f y+(r.map f).sum
 | []=>by simp [OM]
 | x :: r=>by
   have:=insB_sum (lt:=lt) f y r;unfold OM;split <;> simp only [List.map_cons,List.sum_cons] <;> omega
theorem sortB_sum {lt:Label→Label→Bool} (f:Label→Nat):∀xs acc:List Label,((sortB lt acc xs).map f).sum = (acc.map f).sum+(xs.map f).sum
 | [],_=>by simp [sortB]
 | x :: xs,acc=>by
   have h1:=sortB_sum (lt:=lt) f xs (OM lt x acc);have h2:=insB_sum (lt:=lt) f x acc;rw [sortB,h1,h2];simp only [List.map_cons,List.sum_cons];omega
theorem sortLabelsR_wt (xs:List Label):kL Label.wt (sortLabelsR xs).1 = kL Label.wt xs:=by
 have h:=sortB_sum (lt:=kS labCv) Label.wt xs [];have hl:=sortLab_len xs;unfold sortLabelsR kL;split
 ·dsimp only;simp only [List.map_nil,List.sum_nil] at h;omega
 ·rfl
def hostN (x:Host):Host:=⟨x.name,(sortLabelsR x.labels).1,x.cpu,x.mem,x.slots,(sortTaintsR x.aT).1⟩
def hostNormalR (x:Host):Host × Bool:=if (sortLabelsR x.labels).2 = true∧(sortTaintsR x.aT).2 = true∧Aj (hostN x) = true then (hostN x,true) else (x,false)
theorem hostN_wt (x:Host):(hostN x).wt≤x.wt:=by
 have h1:=sortLabelsR_wt x.labels;have h2:=sortTaintsR_wt x.aT;unfold hostN Host.wt;dsimp only;omega
theorem hostNormalR_wt (x:Host):(hostNormalR x).1.wt≤x.wt:=by
 unfold hostNormalR;split
 ·exact hostN_wt x
 ·exact Nat.le_refl _
def podN (x:nI):nI:=⟨x.name,(sortLabelsR x.labels).1,x.cpu,x.mem,x.rank,(sortNeedsR x.needs).1,(sortTolsR x.tolerances).1⟩
def podNormalR (x:nI):nI × Bool:=if (sortLabelsR x.labels).2 = true∧(sortNeedsR x.needs).2 = true∧(sortTolsR x.tolerances).2 = true∧GU (podN x) = true then (podN x,true) else (x,false)
theorem podN_wt (x:nI):(podN x).wt≤x.wt:=by
 have h1:=sortLabelsR_wt x.labels;have h2:=sortNeedsR_wt x.needs;have h3:=sortTolsR_wt x.tolerances;unfold podN nI.wt;dsimp only;omega
theorem podNormalR_wt (x:nI):(podNormalR x).1.wt≤x.wt:=by
 unfold podNormalR;split
 ·exact podN_wt x
 ·exact Nat.le_refl _
def zHost:Host:=⟨⟨#[]⟩,[],0,0,0,[]⟩
def zPod:nI:=⟨⟨#[]⟩,[],0,0,0,[],[]⟩
def manNormR (m:Manifest):Manifest × Bool :=
 if m.kind = 1∧ou m.host zHost = true then (⟨m.kind,(podNormalR m.aS).1,m.host⟩,(podNormalR m.aS).2)
 else if m.kind = 2∧vF m.aS zPod = true then (⟨m.kind,m.aS,(hostNormalR m.host).1⟩,(hostNormalR m.host).2) else (m,false)
theorem podNormalR_no {x:nI} (h:(podNormalR x).2 = false):(podNormalR x).1 = x:=by
 unfold podNormalR at h ⊢;split
 ·rename_i hh;rw [if_pos hh] at h;cases h
 ·rfl
theorem hostNormalR_no {x:Host} (h:(hostNormalR x).2 = false):(hostNormalR x).1 = x:=by
 unfold hostNormalR at h ⊢;split
 ·rename_i hh;rw [if_pos hh] at h;cases h
 ·rfl
theorem manNormR_pod {m:Manifest} (h1:m.kind = 1) (h2:ou m.host zHost = true):manNormR m = (⟨m.kind,(podNormalR m.aS).1,m.host⟩,(podNormalR m.aS).2):=if_pos ⟨h1,h2⟩
theorem manNormR_host {m:Manifest} (h1:m.kind = 2) (h2:vF m.aS zPod = true):manNormR m = (⟨m.kind,m.aS,(hostNormalR m.host).1⟩,(hostNormalR m.host).2):=by
 unfold manNormR;rw [if_neg (by rw [h1];intro h;exact absurd h.1 (by decide)),if_pos ⟨h1,h2⟩]
theorem manNormR_none {m:Manifest} (h1:¬(m.kind = 1∧ou m.host zHost = true)) (h2:¬(m.kind = 2∧vF m.aS zPod = true)):manNormR m = (m,false):=by
 unfold manNormR;rw [if_neg h1,if_neg h2]
section
variable {w:World} {B:Nat}
theorem Own.manParts {m:Manifest} {cs:List Value} {F:List Nat} (h:Own w B m cs F):∃cp ch Fp Fh,cs = .int .i64 m.kind :: (cp++ch)∧F = Fp++Fh∧I64 m.kind∧Own w B m.aS cp Fp∧Own w B m.host ch Fh∧(∀y∈Fp,y∉Fh):=by
 obtain ⟨⟨_,_,_,_,rfl,rfl,⟨rfl,rfl,hk⟩,cp,ch,Fp,Fh,rfl,rfl,hp,hh⟩,hnd,hb,hpl⟩:=h;have hnd':(Fp++Fh).Nodup:=by simpa using hnd
 rw [List.nodup_append] at hnd';exact ⟨cp,ch,Fp,Fh,rfl,S',hk,⟨hp,hnd'.1,fun y hy=>hb y (by simp [hy]),fun y hy=>hpl y (by simp [hy])⟩,⟨hh,hnd'.2.1,fun y hy=>hb y (by simp [hy]),fun y hy=>hpl y (by simp [hy])⟩,fun y hy hy'=>hnd'.2.2 y hy y hy' rfl⟩
theorem Own.manWhole {k:Int} {p:nI} {u:Host} {cp ch:List Value} {Fp Fh:List Nat} (hk:I64 k) (hp:Own w B p cp Fp) (hh:Own w B u ch Fh) (hd:∀y∈Fp,y∉Fh):Own w B (⟨k,p,u⟩:Manifest) (.int .i64 k :: (cp++ch)) (Fp++Fh):=by
 refine Own.up (B':=B) (fun x:Manifest=>(x.kind,x.aS,x.host)) ?_ (Nat.le_refl _);refine Own.cons (c1:=[.int .i64 k]) (jL w k hk) ?_;refine ⟨⟨cp,ch,Fp,Fh,rfl,rfl,hp.rd,hh.rd⟩,?_,fun y hy=>?_,fun y hy=>?_⟩
 ·rw [List.nodup_append];exact ⟨hp.nodup,hh.nodup,fun a ha b hb e=>hd a ha (e ▸ hb)⟩
 ·rcases List.mem_append.1 hy with hy | hy
  ·exact hp.base y hy
  ·exact hh.base y hy
 ·rcases List.mem_append.1 hy with hy | hy
  ·exact hp.plain y hy
  ·exact hh.plain y hy
theorem rd.manParts {m:Manifest} {cs:List Value} {F:List Nat} (h:Dat.rd w m cs F):∃cp ch Fp Fh,cs = .int .i64 m.kind :: (cp++ch)∧F = Fp++Fh∧I64 m.kind∧Dat.rd w m.aS cp Fp∧Dat.rd w m.host ch Fh:=by
 obtain ⟨_,_,_,_,rfl,rfl,⟨rfl,rfl,hk⟩,cp,ch,Fp,Fh,rfl,rfl,hp,hh⟩:=h;exact ⟨cp,ch,Fp,Fh,rfl,S',hk,hp,hh⟩
end
theorem i64_0:I64 0:=by unfold I64;decide
theorem rd_zHost (w:World):Dat.rd w zHost [.string ⟨#[]⟩,.slice none 0 0,.int .i64 0,.int .i64 0,.int .i64 0,.slice none 0 0] [] :=
 nJ (rdStr w ⟨#[]⟩ (by decide)) (nJ (Sl.nil w none 0 (Nat.zero_le _)) (nJ (jL w 0 i64_0) (nJ (jL w 0 i64_0) (nJ (jL w 0 i64_0) (Sl.nil w none 0 (Nat.zero_le _))))))
theorem rd_zPod (w:World):Dat.rd w zPod [.string ⟨#[]⟩,.slice none 0 0,.int .i64 0,.int .i64 0,.int .i64 0,.slice none 0 0,.slice none 0 0] [] :=
 nJ (rdStr w ⟨#[]⟩ (by decide)) (nJ (Sl.nil w none 0 (Nat.zero_le _)) (nJ (jL w 0 i64_0) (nJ (jL w 0 i64_0) (nJ (jL w 0 i64_0) (nJ (Sl.nil w none 0 (Nat.zero_le _)) (Sl.nil w none 0 (Nat.zero_le _)))))))
theorem own_zHost (w:World) (B:Nat):Own w B zHost [.string ⟨#[]⟩,.slice none 0 0,.int .i64 0,.int .i64 0,.int .i64 0,.slice none 0 0] []:=Own.flat (rd_zHost w)
theorem own_zPod (w:World) (B:Nat):Own w B zPod [.string ⟨#[]⟩,.slice none 0 0,.int .i64 0,.int .i64 0,.int .i64 0,.slice none 0 0,.slice none 0 0] []:=Own.flat (rd_zPod w)
def mkTopManifest (x:Manifest) (k:Int):Manifest:=⟨x.kind,Jt x.aS k,F9 x.host (k+(uM x.aS:Int))⟩
def cntTopManifest (x:Manifest):Nat:=uM x.aS+wJ x.host
theorem cntTopManifest_mk (x:Manifest) (k:Int):cntTopManifest (mkTopManifest x k) = cntTopManifest x:=by simp [cntTopManifest,mkTopManifest,Pz,Nz]
theorem mkTopManifest_idem (x:Manifest) (k:Int):mkTopManifest (mkTopManifest x k) k = mkTopManifest x k:=by simp [mkTopManifest,ZE,XM,Pz]
theorem cntTopManifest_le (x:Manifest):cntTopManifest x≤6 * x.wt:=by
 have h1:=Pv x.aS;have h2:=asY x.host;simp only [cntTopManifest,Manifest.wt];omega
theorem markManifest_any (x:Manifest) (cs:List Value) (F:List Nat) (B:Nat) (k:Int) (w:World) (h:Own w B x cs F) (hk0:0≤k) (hk:k+cntTopManifest x≤1073741823) :
 Calls Tryz.prog 9 #[.agg cs.toArray,.int .i64 k] w fun e w'=>e = .returned (.int .i64 (k+cntTopManifest x))∧Own w' B (mkTopManifest x k) cs F∧nN F w w':=by
 obtain ⟨cp,ch,Fp,Fh,rfl,rfl,hkd,hp,hh,hd⟩:=h.manParts;simp only [cntTopManifest] at hk ⊢;push_cast at hk ⊢;have QS:=hp.rd;obtain ⟨Alabelsp,clabelsp,Flabelsp,Aneedsp,cneedsp,Fneedsp,Atolerancesp,ctolerancesp,Ftolerancesp,hck,hFp,hnamep,hlabelsp,hcpup,hmemp,hrankp,hneedsp,htolerancesp⟩:=dL QS;subst hck;clear hFp QS;have hrh:=hh.rd;obtain ⟨Alabelsq,clabelsq,Flabelsq,Ataintsq,ctaintsq,Ftaintsq,hck,hFq,hnameq,hlabelsq,hcpuq,hmemq,hslotsq,htaintsq⟩:=iy hrh;subst hck;clear hFq hrh;have HH:=I' hh;have HP:=I' hp;have HD:=I' hd;have HF:=I' (show ∀y∈Fp++Fh,y < w.heap.size from fun y hy=>h.lt y hy);clear hh hp h hd;simp only [List.cons_append,List.nil_append];go_enter Tryz.func9,Tryz.ntmps9;go_wp2_with fail
 refine (Oc x.aS _ _ _ k _ (HP.out.alloc _) hk0 O').mono ?_;rintro e w1 ⟨rfl,hP1,hU1⟩;have hz:w.heap.size < w1.heap.size:=sq hU1.size;have hbx:∀o,w1.cell? ⟨w.heap.size,o,none⟩ = _:=fun o=>World.cell?_of_block (hU1.block _ S' (fun hy=>by have h9:=HF.out w.heap.size (List.mem_append_left _ hy);omega));have q8:=(hbx 8).trans (show _ = some (.string x.host.name) by rw [cell_of_row _ _ _ _ _ _ (heap_alloc_new w _)];rfl);have q9:=(hbx 9).trans (show _ = some (.slice Alabelsq x.host.labels.length clabelsq) by rw [cell_of_row _ _ _ _ _ _ (heap_alloc_new w _)];rfl);have q10:=(hbx 10).trans (show _ = some (.int .i64 x.host.cpu) by rw [cell_of_row _ _ _ _ _ _ (heap_alloc_new w _)];rfl);have q11:=(hbx 11).trans (show _ = some (.int .i64 x.host.mem) by rw [cell_of_row _ _ _ _ _ _ (heap_alloc_new w _)];rfl);have q12:=(hbx 12).trans (show _ = some (.int .i64 x.host.slots) by rw [cell_of_row _ _ _ _ _ _ (heap_alloc_new w _)];rfl);have q13:=(hbx 13).trans (show _ = some (.slice Ataintsq x.host.aT.length ctaintsq) by rw [cell_of_row _ _ _ _ _ _ (heap_alloc_new w _)];rfl);have hh1:=hU1.own (HH.out.alloc _) (fun y hy hy'=>HD.out y hy' hy);clear hbx;go_wp2_with fail
 refine (akx x.host _ _ _ (k+(uM x.aS:Int)) _ hh1 O' O').mono ?_;rintro e w2 ⟨rfl,hH2,hU2⟩;have hP2:=hU2.own hP1 (fun y hy hy'=>HD.out y hy hy');go_wp2;go_ret
 refine ⟨by first | rfl | (simp only [Int.add_assoc];rfl) | (congr 2;omega),?_,?_⟩
 ·have:=Own.manWhole hkd hP2 hH2 HD.out;simp only [List.cons_append,List.nil_append] at this;exact this
 ·exact ((nN.lq (Fp++Fh) (ak (aj w) _)).trans (hU1.mono fun y hy=>List.mem_append_left _ hy)).trans (hU2.mono fun y hy=>List.mem_append_right _ hy)
theorem heldManifest_any (x:Manifest) (cs:List Value) (F:List Nat) (k:Int) (w:World) (h:rd w x cs F) (hm:mkTopManifest x k = x) (hk0:0≤k) (hk:k+cntTopManifest x≤1073741823) :
 Calls Tryz.prog 10 #[.agg cs.toArray,.int .i64 k] w fun e w'=>e = .returned (.int .i64 (k+cntTopManifest x))∧Below w.heap.size w w':=by
 have e1:Jt x.aS k = x.aS:=congrArg (fun z:Manifest=>z.aS) hm;have e2:F9 x.host (k+(uM x.aS:Int)) = x.host:=congrArg (fun z:Manifest=>z.host) hm;obtain ⟨cp,ch,Fp,Fh,rfl,rfl,hkd,hp,hh⟩:=rd.manParts h;simp only [cntTopManifest] at hk ⊢;push_cast at hk ⊢;have QS:=hp;obtain ⟨Alabelsp,clabelsp,Flabelsp,Aneedsp,cneedsp,Fneedsp,Atolerancesp,ctolerancesp,Ftolerancesp,hck,hFp,hnamep,hlabelsp,hcpup,hmemp,hrankp,hneedsp,htolerancesp⟩:=dL QS;subst hck;clear hFp QS;have hrh:=hh;obtain ⟨Alabelsq,clabelsq,Flabelsq,Ataintsq,ctaintsq,Ftaintsq,hck,hFq,hnameq,hlabelsq,hcpuq,hmemq,hslotsq,htaintsq⟩:=iy hrh;subst hck;clear hFq hrh;have E1:=I' e1;have E2:=I' e2;have HH:=I' hh;have HP:=I' hp;clear e1 e2 hh hp h hm;simp only [List.cons_append,List.nil_append];go_enter Tryz.func10,Tryz.ntmps10;go_wp2_with fail
 refine (adL x.aS _ _ k _ (Dat.frame HP.out (fun b hb=>(ak (aj w) _).block b (Dat.lt HP.out b hb)) S') E1.out hk0 O').mono ?_;rintro e w1 ⟨rfl,hb1⟩;obtain ⟨hc1,hf1⟩:=ay hb1;have hz:w.heap.size < w1.heap.size:=sq hb1.size;have hB1:Below w.heap.size w w1:=ah (ak (aj w) _) hb1;go_wp2_with fail
 refine (abP x.host _ _ (k+(uM x.aS:Int)) _ (Dat.frame HH.out (fun b hb=>hB1.block b (Dat.lt HH.out b hb)) hB1.size) E2.out O' O').mono ?_;rintro e w2 ⟨rfl,hb2⟩;go_wp2;go_ret
 exact ⟨by first | rfl | (simp only [Int.add_assoc];rfl) | (congr 2;omega),ah hB1 hb2⟩
end Go.Proofs.YtnedlmlpeplnfaaGreat
