/- Pressing a row of elements together: what slices.Compact and slices.CompactFunc do to memory. No condition. -/
import Derived.Test.YtkbkikggodlbbaaGreatStabM
import Derived.Lib.SliceRun
import Derived.Test.YtkbkikggodlbbaaGreatRegionIx
import Derived.Test.YtkbkikggodlbbaaGreatEq
import Derived.Deep.LoopGhost
import Derived.Laws.Cover1
namespace Go.Proofs.YtkbkikggodlbbaaGreat
open Go.ChangeShapes Go.WideShapes Go.ChangeAt Go.RowKit
set_option linter.unusedVariables false
set_option linter.unusedSimpArgs false
set_option maxHeartbeats 4000000
set_option maxRecDepth 100000
theorem run_clearK {P:Program} (w:World) (t e ty:TypeId) (z:Value) (ht:P.underlying t = some (.slice e)) (hv:∀w,(zeroValue e).run P w = .ok z w) (h1:∀u∈z.cells.toList,u.oneCell' = true) (b o n c:Nat) (hn:0 < n)
 (hc:∀j,j < n * z.cells.size→(w.cell? ⟨b,o+j,none⟩).isSome = true) (hf:∀j,j < n * z.cells.size→w.frozen? ⟨b,o+j,none⟩ = false) :
 (Builtin.clear_ #[t] ty #[.slice (some ⟨b,o,none⟩) n c]).run P w = .ok (.tuple #[]) (w.setCells b o (Builtin.zeroCells z.cells n).toList):=by
 have hl:(Builtin.zeroCells z.cells n).toList.length = n * z.cells.size:=by simp [Builtin.zeroCells]
 have hst:=run_storeCells_cells (P:=P) b o (Builtin.zeroCells z.cells n).toList 0 w (by rw [hl];simpa using hc) (by rw [hl];simpa using hf) (by
  intro u hu;simp only [Builtin.zeroCells,Array.toList_map,List.mem_map] at hu;obtain ⟨i,hi,rfl⟩:=hu;have hi2:i < n * z.cells.size:=by simpa using hi
  have h0:0 < z.cells.size:=by rcases Nat.eq_zero_or_pos z.cells.size with h | h;· rw [h] at hi2;simp at hi2
                               ·exact h
  have hm:=Nat.mod_lt i h0;rw [getElem!_pos z.cells _ hm]
  exact h1 _ S')
 simp only [Nat.add_zero] at hst;obtain ⟨m,rfl⟩:∃m,n = m+1:=⟨n - 1,O'⟩;simp [Builtin.clear_,run_underlying ht,hv,hst]
theorem sub_flat {α β:Type} (f:α→List β) {a b:List α} (h:a.Sublist b):(a.flatMap f).Sublist (b.flatMap f):=by
 induction h with
 | slnil=>exact .refl _
 | cons x _ ih=>rw [List.flatMap_cons];exact ih.trans (List.sublist_append_right _ _)
 | cons_cons x _ ih=>rw [List.flatMap_cons,List.flatMap_cons];exact (List.Sublist.refl _).append ih
section
variable {T:Type} [Dat T] {w w' wr:World} {B g o:Nat} {D L:List (El T)}
structure TabE (w w':World) (g o:Nat) (D L:List (El T)):Prop where
 sub:∀e∈L,e∈D
 tab:Tab El.cs (Dat.size T) w' g o L
 plain:Plain w' g
 upd:nN [g] w w'
theorem TabE.start (R:RowE w B g o D):TabE w w g o D D:=⟨fun _ h=>h,R.tab,R.plain g (List.mem_cons_self ..),.refl _ _⟩
theorem TabE.ext (h:TabE w w' g o D L) (hb:Below w'.heap.size w' wr):TabE w wr g o D L :=
 ⟨h.sub,h.tab.ext h.plain.lt hb,by obtain ⟨ds,t,hp⟩:=h.plain;exact ⟨ds,t,(hb.block g h.plain.lt).trans hp⟩,h.upd.trans (nN.lq _ hb)⟩
theorem TabE.put (h:TabE w w' g o D L) (R:RowE w B g o D) {i:Nat} (hi:i < L.length) {y:El T} (hy:y∈D):TabE w (w'.setCells g (o+i * Dat.size T) y.cs) g o D (L.set i y):=by
 have hS:∀x∈L,x.cs.length = Dat.size T:=fun x hx=>R.len x (h.sub x hx);have hSy:=R.len y hy;refine ⟨fun e he=>?_,?_,EK g _ _ _ h.plain,?_⟩
 ·rcases List.mem_or_eq_of_mem_set he with he | he
  ·exact h.sub e he
  ·rw [he];exact hy
 ·intro k x hk j u hj;have hex:∀q,q < y.cs.length→(w'.cell? ⟨g,o+i * Dat.size T+q,none⟩).isSome = true:=fun q hq=>by
   rw [hSy] at hq;have hx:=h.tab i L[i] (List.getElem?_eq_getElem hi) q ((L[i]).cs[q]'(by rw [hS _ (List.getElem_mem ..)];exact hq)) (List.getElem?_eq_getElem _);rw [hx];rfl
  by_cases hik:i = k
  ·subst hik;rw [List.getElem?_set_self hi] at hk;obtain rfl:=Option.some.inj hk;have hj2:=(List.getElem?_eq_some_iff.1 hj).1;have:=World.cell?_setCells_in g y.cs (o+i * Dat.size T) w' hex j hj2;rw [this,← hj];exact (List.getElem?_eq_getElem _).symm
  ·rw [List.getElem?_set_ne hik] at hk;have hj2:j < Dat.size T:=(by rw [← hS x (List.mem_of_getElem? hk)];exact (List.getElem?_eq_some_iff.1 hj).1);rw [World.cell?_setCells_out g _ _ _ _ (fun _ _=>?_)]
   ·exact h.tab k x hk j u hj
   ·dsimp only;rw [hSy];rcases Nat.lt_or_gt_of_ne hik with h1 | h1
    ·right;have:(i+1) * Dat.size T≤k * Dat.size T:=Nat.mul_le_mul_right _ h1;rw [Nat.succ_mul] at this;omega
    ·left;have:(k+1) * Dat.size T≤i * Dat.size T:=Nat.mul_le_mul_right _ h1;rw [Nat.succ_mul] at this;omega
 ·have e:=F8 g y.cs (o+i * Dat.size T) w';exact h.upd.trans ⟨e.1,e.2.1,e.2.2,by rw [setCells_size];exact Nat.le_refl _,fun k _ hk=>vV g (by simpa using hk) _ _ _⟩
theorem TabE.own (h:TabE w w' g o D L) (R:RowE w B g o D) (hL:L = D) {c:Nat} (hc:D.length≤c) (hm:c≤maxLen):Own w' B (D.map El.x) [.slice (some ⟨g,o,none⟩) (D.map El.x).length c] (g :: D.flatMap El.F):=by
 subst hL;exact (R.turn h.upd h.plain h.sub (List.nodup_cons.1 R.nodup).2 h.tab).own hc hm
theorem TabE.isSome (h:TabE w w' g o D L) (R:RowE w B g o D) {j:Nat} (hj:j < L.length * Dat.size T):(w'.cell? ⟨g,o+j,none⟩).isSome = true:=by
 have h1:j / Dat.size T < L.length:=Nat.div_lt_of_lt_mul (by rw [Nat.mul_comm];exact hj);have h2:j % Dat.size T < Dat.size T:=Nat.mod_lt _ Dat.pos;have hl:=R.len L[j / Dat.size T] (h.sub _ (List.getElem_mem ..));have:=h.tab (j / Dat.size T) L[j / Dat.size T] (List.getElem?_eq_getElem h1) (j % Dat.size T) _ (List.getElem?_eq_getElem (by rw [hl];exact h2));rw [show o+j / Dat.size T * Dat.size T+j % Dat.size T = o+j by have:=Nat.div_add_mod j (Dat.size T);rw [Nat.mul_comm] at this;omega] at this;rw [this];rfl
theorem TabE.set_upd (h:TabE w w' g o D L) (k:Nat) (zs:List Value):nN [g] w (w'.setCells g k zs):=by
 have e:=F8 g zs k w';exact h.upd.trans ⟨e.1,e.2.1,e.2.2,by rw [setCells_size];exact Nat.le_refl _,fun k _ hk=>vV g (by simpa using hk) _ _ _⟩
theorem TabE.pressed {ne:El T→El T→Bool} {k c:Nat} (h:TabE w w' g o D L) (R:RowE w B g o D) (hP:Press ne D D.length k L) (zs:List Value) (hc:D.length≤c) (hm:c≤maxLen) :
 Own (w'.setCells g (o+k * Dat.size T) zs) B ((kept ne D D.length).map El.x) [.slice (some ⟨g,o,none⟩) ((kept ne D D.length).map El.x).length c] (g :: (kept ne D D.length).flatMap El.F):=by
 have e:=F8 g zs (o+k * Dat.size T) w';have hu:nN [g] w (w'.setCells g (o+k * Dat.size T) zs):=h.upd.trans ⟨e.1,e.2.1,e.2.2,by rw [setCells_size];exact Nat.le_refl _,fun k _ hk=>vV g (by simpa using hk) _ _ _⟩;have hsub:=kept_sub ne D D.length;rw [List.take_length] at hsub;refine (R.turn hu (EK g _ _ _ h.plain) (fun e he=>kept_mem he) ?_ ?_).own (Nat.le_trans (kept_len _ _ _) hc) hm
 ·exact (List.nodup_cons.1 R.nodup).2.sublist (sub_flat El.F hsub)
 ·intro q x hq j u hj;have hq2:q < k:=by rw [hP.at_];exact (List.getElem?_eq_some_iff.1 hq).1
  rw [← hP.low,List.getElem?_take,if_pos hq2] at hq;have hj2:j < Dat.size T:=by rw [← R.len x (h.sub x (List.mem_of_getElem? hq))];exact (List.getElem?_eq_some_iff.1 hj).1
  rw [World.cell?_setCells_out g _ _ _ _ (fun _ _=>?_)]
  ·exact h.tab q x hq j u hj
  ·left;dsimp only;have:(q+1) * Dat.size T≤k * Dat.size T:=Nat.mul_le_mul_right _ hq2;rw [Nat.succ_mul] at this;omega
end
def neTaint (x y:iU):Bool:=!(Aq y x)
theorem neTaint_iff (x y:iU):neTaint x y = true↔x≠y:=by
 unfold neTaint;cases h:Aq y x with
 | true=>have:=(Xx y x).1 h;simp [this]
 | false=>simp only [Bool.not_false,true_iff];rintro rfl;rw [(Xx x x).2 rfl] at h;cases h
theorem compTaint (xs:List iU) (A:Option Addr) (c:Nat) (F:List Nat) (w:World) (B:Nat) (h:Own w B xs [.slice A xs.length c] F) (hB:B≤w.heap.size) (hl:(xs.length:Int)≤1048576) :
 Calls Tryz.prog 179 #[.slice A xs.length c] w fun e w'=>∃F',e = .returned (.slice A (kept neTaint xs xs.length).length c)∧Own w' B (kept neTaint xs xs.length) [.slice A (kept neTaint xs xs.length).length c] F'∧Below B w w':=by
 by_cases hne:xs = []
 ·subst hne;go_enter Tryz.func179,Tryz.ntmps179;go_wp2;go_ret
  exact ⟨F,rfl,h,.refl _ _⟩
 ·have hcap:=Sl.cap (α:=iU) h.rd;unfold maxLen at hcap;obtain ⟨hcap1,hcap2⟩:=hcap;obtain ⟨g,o,D,rfl,rfl,rfl,R⟩:=h.rowE hne;clear h hne;have hlm:(D.map El.x).length = D.length:=List.length_map ..;have HR:=I' (show kept neTaint (D.map El.x) D.length = (kept (fun x y:El iU=>neTaint x.x y.x) D D.length).map El.x from (kept_map El.x neTaint D D.length).symm);rw [hlm] at hcap1 hl ⊢;clear hlm;have hgl:=R.lt;have hbg:B≤g:=R.base g (List.mem_cons_self ..);have fin:∀(w':World),TabE w w' g o D D→(∀j,j < D.length→keepAt (fun x y:El iU=>neTaint x.x y.x) D j = true)→∃F',Ending.returned (.slice (some ⟨g,o,none⟩) D.length c) = .returned (.slice (some ⟨g,o,none⟩) (kept neTaint (D.map El.x) D.length).length c)∧Own w' B (kept neTaint (D.map El.x) D.length) [.slice (some ⟨g,o,none⟩) (kept neTaint (D.map El.x) D.length).length c] F'∧Below B w w':=fun w' ht ha=>by
   have e:kept neTaint (D.map El.x) D.length = D.map El.x:=(by rw [HR.out,kept_all ha,List.take_length]);exact Zac0
  have HF:=I' fin;clear fin;by_cases h2:D.length < 2
  ·go_enter Tryz.func179,Tryz.ntmps179;exact Zaeb
  ·go_enter Tryz.func179,Tryz.ntmps179;go_wp2;go_loopg [3] D.length (fun gh s3 wr=>∃k:Nat,1≤k∧k≤D.length∧D.length - k≤gh∧s3 = .int .i64 k∧TabE w wr g o D D∧Hid (∀j,j < k→keepAt (fun x y:El iU=>neTaint x.x y.x) D j = true))
   case atStart=>exact ⟨1,Nat.le_refl _,O',O',rfl,.start R,I' (keepAt_one _ _)⟩
   case round =>
    obtain ⟨k,hk1,hk,hg,rfl,hS,HA⟩:=hrel;by_cases hlt:k < D.length
    ·have hgr:g < wr.heap.size:=hS.plain.lt;obtain ⟨p,HP⟩:∃p,D[k]? = some p:=⟨_,List.getElem?_eq_getElem O'⟩;obtain ⟨q,HQ⟩:∃q,D[k - 1]? = some q:=⟨_,List.getElem?_eq_getElem O'⟩;have hmp:p∈D:=List.mem_of_getElem? HP;have hmq:q∈D:=List.mem_of_getElem? HQ;have HCp:=I' (oK (R.rd p hmp)).1;have HCq:=I' (oK (R.rd q hmq)).1;have Hp:=I' (show D[k]? = some p from HP);have Hq:=I' (show D[k - 1]? = some q from HQ);have p0:wr.cell? ⟨g,o+k * 3,none⟩ = some (.string p.x.key):=(by have:=hS.tab (k) p Hp.out 0 (.string p.x.key) (by rw [HCp.out];rfl);rwa [show o+(k) * Dat.size iU+0 = o+k * 3 by show o+(k) * 3+0 = _;omega] at this);have p1:wr.cell? ⟨g,o+k * 3+1,none⟩ = some (.string p.x.value):=(by have:=hS.tab (k) p Hp.out 1 (.string p.x.value) (by rw [HCp.out];rfl);rwa [show o+(k) * Dat.size iU+1 = o+k * 3+1 by show o+(k) * 3+1 = _;omega] at this);have p2:wr.cell? ⟨g,o+k * 3+2,none⟩ = some (.int .i64 p.x.effect):=(by have:=hS.tab (k) p Hp.out 2 (.int .i64 p.x.effect) (by rw [HCp.out];rfl);rwa [show o+(k) * Dat.size iU+2 = o+k * 3+2 by show o+(k) * 3+2 = _;omega] at this);have q0:wr.cell? ⟨g,o+(k - 1) * 3,none⟩ = some (.string q.x.key):=(by have:=hS.tab (k - 1) q Hq.out 0 (.string q.x.key) (by rw [HCq.out];rfl);rwa [show o+(k - 1) * Dat.size iU+0 = o+(k - 1) * 3 by show o+(k - 1) * 3+0 = _;omega] at this);have q1:wr.cell? ⟨g,o+(k - 1) * 3+1,none⟩ = some (.string q.x.value):=(by have:=hS.tab (k - 1) q Hq.out 1 (.string q.x.value) (by rw [HCq.out];rfl);rwa [show o+(k - 1) * Dat.size iU+1 = o+(k - 1) * 3+1 by show o+(k - 1) * 3+1 = _;omega] at this);have q2:wr.cell? ⟨g,o+(k - 1) * 3+2,none⟩ = some (.int .i64 q.x.effect):=(by have:=hS.tab (k - 1) q Hq.out 2 (.int .i64 q.x.effect) (by rw [HCq.out];rfl);rwa [show o+(k - 1) * Dat.size iU+2 = o+(k - 1) * 3+2 by show o+(k - 1) * 3+2 = _;omega] at this);have HPD:=I' HP;have HK:=I' (show keepAt (fun x y:El iU=>neTaint x.x y.x) D (k) = !(Aq p.x q.x) from keepAt_at O' HQ HP);clear HP HQ;have hwk:IntKind.i64.wrap ((k:Int) - 1) = ((k - 1:Nat):Int):=(by rw [IntWalk.i64_in _ O'];omega);have hk0:0≤((k - 1:Nat):Int):=O';have hk9:((k - 1:Nat):Int) < (D.length:Int):=O';cases hv:(Aq p.x q.x) with
     | true =>
       have HV:=I' hv;clear hv;go_wp2_with fail
       refine aF wr U' U' (aj _) ?_
       repeat (first
        | (apply aG
           case hw=>rfl
           simp only [Act.put,pz])
        | (apply aH
           case hw=>rfl
           case h =>exact Zack
           simp only [Act.put,pz]))
       refine aN ?_;intro wn hn;replace hn:=hn.out;simp only [HV.out];go_wp2_with fail
       go_loopg [3,5] D.length (fun gh s3 s5 wz=>∃(kk k2:Nat) (L:List (El iU)),s3 = .int .i64 kk∧s5 = .int .i64 k2∧1≤k2∧k+k2≤D.length∧D.length - (k+k2)≤gh∧TabE w wz g o D L∧Hid (Press (fun x y:El iU=>neTaint x.x y.x) D (k+k2) kk L))
       case atStart=>exact ⟨k,1,D,rfl,rfl,Nat.le_refl _,O',O',hS.ext hn,I' (Press.start hlt HA.out (by rw [HK.out,HV.out];rfl))⟩
       case round =>
        obtain ⟨kk,k2,L,rfl,rfl,h1,hle,hg2,hS2,HI⟩:=hrel;have hkk:=HI.out.lt;have hds:=HI.out.size;have hgz:g < wr.heap.size:=hS2.plain.lt;clear hmp hmq HCp HCq Hp Hq HPD p0 p1 p2 q0 q1 q2 HK HV hwk hk0 hk9;by_cases hlt2:k+k2 < D.length
        ·obtain ⟨p,HP⟩:∃p,D[k+k2]? = some p:=⟨_,List.getElem?_eq_getElem O'⟩;obtain ⟨q,HQ⟩:∃q,D[k+k2 - 1]? = some q:=⟨_,List.getElem?_eq_getElem O'⟩;have hmp:p∈D:=List.mem_of_getElem? HP;have hmq:q∈D:=List.mem_of_getElem? HQ;have HCp:=I' (oK (R.rd p hmp)).1;have HCq:=I' (oK (R.rd q hmq)).1;have Hp:=I' (show L[k+k2]? = some p from (HI.out.high _ O').trans HP);have Hq:=I' (show L[k+k2 - 1]? = some q from (HI.out.high _ O').trans HQ);have p0:wr.cell? ⟨g,o+k * 3+k2 * 3,none⟩ = some (.string p.x.key):=(by have:=hS2.tab (k+k2) p Hp.out 0 (.string p.x.key) (by rw [HCp.out];rfl);rwa [show o+(k+k2) * Dat.size iU+0 = o+k * 3+k2 * 3 by show o+(k+k2) * 3+0 = _;omega] at this);have p1:wr.cell? ⟨g,o+k * 3+k2 * 3+1,none⟩ = some (.string p.x.value):=(by have:=hS2.tab (k+k2) p Hp.out 1 (.string p.x.value) (by rw [HCp.out];rfl);rwa [show o+(k+k2) * Dat.size iU+1 = o+k * 3+k2 * 3+1 by show o+(k+k2) * 3+1 = _;omega] at this);have p2:wr.cell? ⟨g,o+k * 3+k2 * 3+2,none⟩ = some (.int .i64 p.x.effect):=(by have:=hS2.tab (k+k2) p Hp.out 2 (.int .i64 p.x.effect) (by rw [HCp.out];rfl);rwa [show o+(k+k2) * Dat.size iU+2 = o+k * 3+k2 * 3+2 by show o+(k+k2) * 3+2 = _;omega] at this);have q0:wr.cell? ⟨g,o+k * 3+(k2 - 1) * 3,none⟩ = some (.string q.x.key):=(by have:=hS2.tab (k+k2 - 1) q Hq.out 0 (.string q.x.key) (by rw [HCq.out];rfl);rwa [show o+(k+k2 - 1) * Dat.size iU+0 = o+k * 3+(k2 - 1) * 3 by show o+(k+k2 - 1) * 3+0 = _;omega] at this);have q1:wr.cell? ⟨g,o+k * 3+(k2 - 1) * 3+1,none⟩ = some (.string q.x.value):=(by have:=hS2.tab (k+k2 - 1) q Hq.out 1 (.string q.x.value) (by rw [HCq.out];rfl);rwa [show o+(k+k2 - 1) * Dat.size iU+1 = o+k * 3+(k2 - 1) * 3+1 by show o+(k+k2 - 1) * 3+1 = _;omega] at this);have q2:wr.cell? ⟨g,o+k * 3+(k2 - 1) * 3+2,none⟩ = some (.int .i64 q.x.effect):=(by have:=hS2.tab (k+k2 - 1) q Hq.out 2 (.int .i64 q.x.effect) (by rw [HCq.out];rfl);rwa [show o+(k+k2 - 1) * Dat.size iU+2 = o+k * 3+(k2 - 1) * 3+2 by show o+(k+k2 - 1) * 3+2 = _;omega] at this);have HPD:=I' HP;have HK:=I' (show keepAt (fun x y:El iU=>neTaint x.x y.x) D (k+k2) = !(Aq p.x q.x) from keepAt_at O' HQ HP);clear HP HQ;have hwk:IntKind.i64.wrap ((k2:Int) - 1) = ((k2 - 1:Nat):Int):=(by rw [IntWalk.i64_in _ O'];omega);have hk0:0≤((k2 - 1:Nat):Int):=O';have hk9:((k2 - 1:Nat):Int) < ((D.length - k:Nat):Int):=O';cases hv:(Aq p.x q.x) with
         | true =>
           have HV:=I' hv;clear hv;go_wp2_with fail
           refine aF wr U' U' (aj _) ?_
           repeat (first
            | (apply aG
               case hw=>rfl
               simp only [Act.put,pz])
            | (apply aH
               case hw=>rfl
               case h =>exact Zacb
               simp only [Act.put,pz]))
           refine aN ?_;intro wm hn;replace hn:=hn.out;simp only [HV.out,Bool.not_true,Bool.not_false];go_wp2;go_roundg (D.length - (k+(k2+1)))
           case measure=>omega
           case rel=>exact ⟨kk,k2+1,L,rfl,N',O',O',Nat.le_refl _,hS2.ext hn,I' (HI.out.skip (by rw [HK.out,HV.out];rfl))⟩
         | false =>
           have HV:=I' hv;clear hv;go_wp2_with fail
           refine aF wr U' U' (aj _) ?_
           repeat (first
            | (apply aG
               case hw=>rfl
               simp only [Act.put,pz])
            | (apply aH
               case hw=>rfl
               case h =>exact Zacb
               simp only [Act.put,pz]))
           refine aN ?_;intro wm hn;replace hn:=hn.out;simp only [HV.out,Bool.not_true,Bool.not_false];have hS3:=hS2.ext hn;have hgm:g < wm.heap.size:=hS3.plain.lt;replace p0:=(hn.cell (p:=⟨g,o+k * 3+k2 * 3,none⟩) hgz).trans p0;replace p1:=(hn.cell (p:=⟨g,o+k * 3+k2 * 3+1,none⟩) hgz).trans p1;replace p2:=(hn.cell (p:=⟨g,o+k * 3+k2 * 3+2,none⟩) hgz).trans p2;have HPUT:=I' (hS3.put R (i:=kk) (by rw [hds];omega) hmp);obtain ⟨r,HRK⟩:∃r,L[kk]? = some r:=⟨_,List.getElem?_eq_getElem (by rw [hds];omega)⟩;have hmr:r∈D:=hS3.sub r (List.mem_of_getElem? HRK);have HCr:=I' (oK (R.rd r hmr)).1;have Hr:=I' HRK;clear HRK;have r0:wm.cell? ⟨g,o+kk * 3,none⟩ = some (.string r.x.key):=(by have:=hS3.tab (kk) r Hr.out 0 (.string r.x.key) (by rw [HCr.out];rfl);rwa [show o+(kk) * Dat.size iU+0 = o+kk * 3 by show o+(kk) * 3+0 = _;omega] at this);have r1:wm.cell? ⟨g,o+kk * 3+1,none⟩ = some (.string r.x.value):=(by have:=hS3.tab (kk) r Hr.out 1 (.string r.x.value) (by rw [HCr.out];rfl);rwa [show o+(kk) * Dat.size iU+1 = o+kk * 3+1 by show o+(kk) * 3+1 = _;omega] at this);have r2:wm.cell? ⟨g,o+kk * 3+2,none⟩ = some (.int .i64 r.x.effect):=(by have:=hS3.tab (kk) r Hr.out 2 (.int .i64 r.x.effect) (by rw [HCr.out];rfl);rwa [show o+(kk) * Dat.size iU+2 = o+kk * 3+2 by show o+(kk) * 3+2 = _;omega] at this);have rf0:wm.frozen? ⟨g,o+kk * 3,none⟩ = false:=hS3.plain.frozen _;have rf1:wm.frozen? ⟨g,o+kk * 3+1,none⟩ = false:=hS3.plain.frozen _;have rf2:wm.frozen? ⟨g,o+kk * 3+2,none⟩ = false:=hS3.plain.frozen _;go_wp2;go_roundg (D.length - (k+(k2+1)))
           case measure=>omega
           case rel=>exact ⟨kk+1,k2+1,L.set kk p,N',N',O',O',Nat.le_refl _,by have:=HPUT.out;rw [HCp.out] at this;exact this,I' (HI.out.keep HPD.out (by rw [HK.out,HV.out];rfl))⟩
        ·have hend:k+k2 = D.length:=O';have HZ:=I' hS2
         have hcl:∀ty,(Builtin.clear_ #[53] ty #[.slice (some ⟨g,o+kk * 3,none⟩) (D.length - kk) (c - kk)]).run Tryz.prog wr = .ok (.tuple #[]) (wr.setCells g (o+kk * 3) (Builtin.zeroCells (.agg #[.string ⟨#[]⟩,.string ⟨#[]⟩,.int .i64 0]:Value).cells (D.length - kk)).toList) :=
          fun ty=>run_clearK wr _ _ ty _ Tryz.underlying53 Tryz.zeroValue162 (show ∀u∈([.string ⟨#[]⟩,.string ⟨#[]⟩,.int .i64 0]:List Value),u.oneCell' = true by intro u hu;simp only [List.mem_cons,List.not_mem_nil,or_false] at hu;rcases hu with rfl | rfl | rfl <;> rfl) g _ _ _ O' (fun j hj=>by
           rw [Nat.add_assoc];refine HZ.out.isSome R ?_;have hj2:j < (D.length - kk) * 3:=hj;show kk * 3+j < L.length * 3
           rw [hds];omega) (fun j _=>HZ.out.plain.frozen _)
         generalize hzs:(Builtin.zeroCells (.agg #[.string ⟨#[]⟩,.string ⟨#[]⟩,.int .i64 0]:Value).cells (D.length - kk)).toList = zs at hcl;have hI:=HI.out;rw [hend] at hI;have HFI:=I' hI;clear hzs hI hS2;go_wp2;go_ret
         refine ⟨g :: (kept (fun x y:El iU=>neTaint x.x y.x) D D.length).flatMap El.F,?_,?_,(HZ.out.set_upd _ _).below (fun b hb=>by rw [List.mem_singleton.1 hb];exact hbg) hB⟩
         ·rw [HR.out,List.length_map,← HFI.out.at_];rfl
         ·rw [HR.out];exact HZ.out.pressed R HFI.out zs hcap1 hcap2
     | false =>
       have HV:=I' hv;clear hv;go_wp2_with fail
       refine aF wr U' U' (aj _) ?_
       repeat (first
        | (apply aG
           case hw=>rfl
           simp only [Act.put,pz])
        | (apply aH
           case hw=>rfl
           case h =>exact Zack
           simp only [Act.put,pz]))
       refine aN ?_;intro wn hn;replace hn:=hn.out;simp only [HV.out];go_wp2;go_roundg (D.length - (k+1))
       case measure=>omega
       case rel =>exact Zacy
    ·exact Zac6
end Go.Proofs.YtkbkikggodlbbaaGreat
