/- Pressing a row of elements together: what slices.Compact and slices.CompactFunc do to memory. No condition. -/
import Derived.Test.YthjdahommnnliaaGreatRowE
import Derived.Lib.SliceRun
import Derived.Test.YthjdahommnnliaaGreatGr
import Derived.Test.YthjdahommnnliaaGreatInsP
import Derived.Test.YthjdahommnnliaaGreatMkBase
import Derived.Shelf.Spec.SlicesInsert
import Derived.Lib.AppendZerosOnto
import Derived.Shelf.GgSortFunc.RowK
namespace Go.Proofs.YthjdahommnnliaaGreat
open Go.ChangeShapes Go.WideShapes Go.ChangeAt Go.RowKit
set_option linter.unusedVariables false
set_option linter.unusedSimpArgs false
theorem run_clearK {P:Program} (w:World) (t e ty:TypeId) (z:Value) (ht:P.underlying t = some (.slice e)) (hv:∀w,(zeroValue e).run P w = .ok z w) (h1:∀u∈z.cells.toList,u.oneCell' = true) (b o n c:Nat) (hn:0 < n)
 (hc:∀j,j < n * z.cells.size→(w.cell? ⟨b,o+j,none⟩).isSome = true) (hf:∀j,j < n * z.cells.size→w.frozen? ⟨b,o+j,none⟩ = false) :
 (Builtin.clear_ #[t] ty #[.slice (some ⟨b,o,none⟩) n c]).run P w = .ok (.tuple #[]) (w.setCells b o (Builtin.zeroCells z.cells n).toList):=by
 have hl:(Builtin.zeroCells z.cells n).toList.length = n * z.cells.size:=by simp [Builtin.zeroCells]
 have hst:=run_storeCells_cells (P:=P) b o (Builtin.zeroCells z.cells n).toList 0 w (by rw [hl];simpa using hc) (by rw [hl];simpa using hf) (by
  intro u hu
  simp only [Builtin.zeroCells,Array.toList_map,List.mem_map] at hu
  obtain ⟨i,hi,rfl⟩:=hu
  have hi2:i < n * z.cells.size:=by simpa using hi
  have h0:0 < z.cells.size:=by rcases Nat.eq_zero_or_pos z.cells.size with h | h;· rw [h] at hi2;simp at hi2
                               ·exact h
  have hm:=Nat.mod_lt i h0
  rw [getElem!_pos z.cells _ hm]
  exact h1 _ (by simp))
 simp only [Nat.add_zero] at hst
 obtain ⟨m,rfl⟩:∃m,n = m+1:=⟨n - 1,by omega⟩
 simp [Builtin.clear_,run_underlying ht,hv,hst]
theorem sub_flat {α β:Type} (f:α→List β) {a b:List α} (h:a.Sublist b):(a.flatMap f).Sublist (b.flatMap f):=by
 induction h with
 | slnil=>exact .refl _
 | cons x _ ih=>rw [List.flatMap_cons];exact ih.trans (List.sublist_append_right _ _)
 | cons_cons x _ ih=>rw [List.flatMap_cons,List.flatMap_cons];exact (List.Sublist.refl _).append ih
section
variable {T:Type} [Dat T] {w w' wr:World} {B g o:Nat} {D L:List (El T)}
structure TabE (w w':World) (g o:Nat) (D L:List (El T)):Prop where
 sub:∀e∈L,e∈D
 tab:Tab El.cs (Dat.size T) w' g o L
 plain:Plain w' g
 upd:nN [g] w w'
theorem TabE.start (R:RowE w B g o D):TabE w w g o D D:=⟨fun _ h=>h,R.tab,R.plain g (List.mem_cons_self ..),.refl _ _⟩
theorem TabE.ext (h:TabE w w' g o D L) (hb:Below w'.heap.size w' wr):TabE w wr g o D L :=
 ⟨h.sub,h.tab.ext h.plain.lt hb,by obtain ⟨ds,t,hp⟩:=h.plain;exact ⟨ds,t,(hb.block g h.plain.lt).trans hp⟩,h.upd.trans (nN.lq _ hb)⟩
theorem TabE.put (h:TabE w w' g o D L) (R:RowE w B g o D) {i:Nat} (hi:i < L.length) {y:El T} (hy:y∈D):TabE w (w'.setCells g (o+i * Dat.size T) y.cs) g o D (L.set i y):=by
 have hS:∀x∈L,x.cs.length = Dat.size T:=fun x hx=>R.len x (h.sub x hx)
 have hSy:=R.len y hy
 refine ⟨fun e he=>?_,?_,EK g _ _ _ h.plain,?_⟩
 ·rcases List.mem_or_eq_of_mem_set he with he | he
  ·exact h.sub e he
  ·rw [he];exact hy
 ·intro k x hk j u hj
  have hex:∀q,q < y.cs.length→(w'.cell? ⟨g,o+i * Dat.size T+q,none⟩).isSome = true:=fun q hq=>by
   rw [hSy] at hq
   have hx:=h.tab i L[i] (List.getElem?_eq_getElem hi) q ((L[i]).cs[q]'(by rw [hS _ (List.getElem_mem ..)];exact hq)) (List.getElem?_eq_getElem _)
   rw [hx];rfl
  by_cases hik:i = k
  ·subst hik
   rw [List.getElem?_set_self hi] at hk
   obtain rfl:=Option.some.inj hk
   have hj2:=(List.getElem?_eq_some_iff.1 hj).1
   have:=World.cell?_setCells_in g y.cs (o+i * Dat.size T) w' hex j hj2
   rw [this,← hj]
   exact (List.getElem?_eq_getElem _).symm
  ·rw [List.getElem?_set_ne hik] at hk
   have hj2:j < Dat.size T:=by rw [← hS x (List.mem_of_getElem? hk)];exact (List.getElem?_eq_some_iff.1 hj).1
   rw [World.cell?_setCells_out g _ _ _ _ (fun _ _=>?_)]
   ·exact h.tab k x hk j u hj
   ·dsimp only
    rw [hSy]
    rcases Nat.lt_or_gt_of_ne hik with h1 | h1
    ·right
     have:(i+1) * Dat.size T≤k * Dat.size T:=Nat.mul_le_mul_right _ h1
     rw [Nat.succ_mul] at this
     omega
    ·left
     have:(k+1) * Dat.size T≤i * Dat.size T:=Nat.mul_le_mul_right _ h1
     rw [Nat.succ_mul] at this
     omega
 ·have e:=F8 g y.cs (o+i * Dat.size T) w'
  exact h.upd.trans ⟨e.1,e.2.1,e.2.2,by rw [setCells_size];exact Nat.le_refl _,fun k _ hk=>vV g (by simpa using hk) _ _ _⟩
theorem TabE.own (h:TabE w w' g o D L) (R:RowE w B g o D) (hL:L = D) {c:Nat} (hc:D.length≤c) (hm:c≤maxLen):Own w' B (D.map El.x) [.slice (some ⟨g,o,none⟩) (D.map El.x).length c] (g :: D.flatMap El.F):=by
 subst hL
 exact (R.turn h.upd h.plain h.sub (List.nodup_cons.1 R.nodup).2 h.tab).own hc hm
theorem TabE.isSome (h:TabE w w' g o D L) (R:RowE w B g o D) {j:Nat} (hj:j < L.length * Dat.size T):(w'.cell? ⟨g,o+j,none⟩).isSome = true:=by
 have h1:j / Dat.size T < L.length:=Nat.div_lt_of_lt_mul (by rw [Nat.mul_comm];exact hj)
 have h2:j % Dat.size T < Dat.size T:=Nat.mod_lt _ Dat.pos
 have hl:=R.len L[j / Dat.size T] (h.sub _ (List.getElem_mem ..))
 have:=h.tab (j / Dat.size T) L[j / Dat.size T] (List.getElem?_eq_getElem h1) (j % Dat.size T) _ (List.getElem?_eq_getElem (by rw [hl];exact h2))
 rw [show o+j / Dat.size T * Dat.size T+j % Dat.size T = o+j by have:=Nat.div_add_mod j (Dat.size T);rw [Nat.mul_comm] at this;omega] at this
 rw [this];rfl
theorem TabE.set_upd (h:TabE w w' g o D L) (k:Nat) (zs:List Value):nN [g] w (w'.setCells g k zs):=by
 have e:=F8 g zs k w'
 exact h.upd.trans ⟨e.1,e.2.1,e.2.2,by rw [setCells_size];exact Nat.le_refl _,fun k _ hk=>vV g (by simpa using hk) _ _ _⟩
theorem TabE.pressed {ne:El T→El T→Bool} {k c:Nat} (h:TabE w w' g o D L) (R:RowE w B g o D) (hP:Press ne D D.length k L) (zs:List Value) (hc:D.length≤c) (hm:c≤maxLen) :
 Own (w'.setCells g (o+k * Dat.size T) zs) B ((kept ne D D.length).map El.x) [.slice (some ⟨g,o,none⟩) ((kept ne D D.length).map El.x).length c] (g :: (kept ne D D.length).flatMap El.F):=by
 have e:=F8 g zs (o+k * Dat.size T) w'
 have hu:nN [g] w (w'.setCells g (o+k * Dat.size T) zs):=h.upd.trans ⟨e.1,e.2.1,e.2.2,by rw [setCells_size];exact Nat.le_refl _,fun k _ hk=>vV g (by simpa using hk) _ _ _⟩
 have hsub:=kept_sub ne D D.length
 rw [List.take_length] at hsub
 refine (R.turn hu (EK g _ _ _ h.plain) (fun e he=>kept_mem he) ?_ ?_).own (Nat.le_trans (kept_len _ _ _) hc) hm
 ·exact (List.nodup_cons.1 R.nodup).2.sublist (sub_flat El.F hsub)
 ·intro q x hq j u hj
  have hq2:q < k:=by rw [hP.at_];exact (List.getElem?_eq_some_iff.1 hq).1
  rw [← hP.low,List.getElem?_take,if_pos hq2] at hq
  have hj2:j < Dat.size T:=by rw [← R.len x (h.sub x (List.mem_of_getElem? hq))];exact (List.getElem?_eq_some_iff.1 hj).1
  rw [World.cell?_setCells_out g _ _ _ _ (fun _ _=>?_)]
  ·exact h.tab q x hq j u hj
  ·left
   dsimp only
   have:(q+1) * Dat.size T≤k * Dat.size T:=Nat.mul_le_mul_right _ hq2
   rw [Nat.succ_mul] at this
   omega
end
end Go.Proofs.YthjdahommnnliaaGreat
namespace Go.Proofs.YthjdahommnnliaaGreat
open Go.ChangeShapes Go.WideShapes Go.ChangeAt Go.RowKit
set_option linter.unusedVariables false
set_option linter.unusedSimpArgs false
def lrow (x:Label):List Value:=[.string x.key,.string x.value]
def trow (x:iU):List Value:=[.string x.key,.string x.value,.int .i64 x.effect]
section
variable {β:Type} {row:β→List Value} {S:Nat}
theorem rowsAt (hS:∀x,(row x).length = S):∀(D:List β) (k:Nat) (x:β),D[k]? = some x→∀(j:Nat) (u:Value),(row x)[j]? = some u→(D.flatMap row)[k * S+j]? = some u
 | [],_,_,h,_,_,_=>by simp at h
 | r :: rs,0,x,h,j,u,hj=>by
   exact Zac3
 | r :: rs,k+1,x,h,j,u,hj=>by
   rw [List.getElem?_cons_succ] at h
   have hr:=hS r
   have hk:(k+1) * S+j = k * S+j+S:=by rw [Nat.succ_mul];omega
   rw [List.flatMap_cons,List.getElem?_append_right (by omega),hr,show (k+1) * S+j - S = k * S+j by omega]
   exact rowsAt hS rs k x h j u hj
theorem rowsLen (hS:∀x,(row x).length = S):∀D:List β,(D.flatMap row).length = D.length * S
 | []=>by simp
 | r :: rs=>by rw [List.flatMap_cons,List.length_append,hS,rowsLen hS rs,List.length_cons,Nat.succ_mul];omega
theorem rowsOne (h1:∀x,∀u∈row x,u.oneCell' = true) (D:List β):∀u∈D.flatMap row,u.oneCell' = true:=fun u hu=>by
 obtain ⟨x,_,hx⟩:=List.mem_flatMap.1 hu
 exact h1 x u hx
theorem rows_own [Dat β] {w:World} {B e g cap:Nat} (hd:Dat.size β = S) (D:List β) (h:w.ownsRow B e S (.slice (some ⟨g,0,none⟩) D.length cap) D.length (D.flatMap row)) (hr:∀x∈D,rd w x (row x) []):∃A c G,Value.slice (some ⟨g,0,none⟩) D.length cap = .slice A D.length c∧Own w B D [.slice A D.length c] G:=by
 subst hd
 have hrc:∀D:List β,(∀x∈D,rd w x (row x) [])→jo w D (D.flatMap row) []:=fun D=>by
  induction D with
  | nil=>intro _;exact ⟨rfl,rfl⟩
  | cons x D ih=>intro hD;exact ⟨row x,D.flatMap row,[],[],rfl,rfl,hD x (List.mem_cons_self ..),ih fun y hy=>hD y (List.mem_cons_of_mem _ hy)⟩
 exact Own.oJ h ⟨hrc D hr,List.nodup_nil,(fun b hb=>by cases hb),(fun b hb=>by cases hb)⟩ (fun g hg hm=>by cases hm)
end
theorem lrow_one (x:Label):∀u∈lrow x,u.oneCell' = true:=by intro u hu;simp only [lrow,List.mem_cons,List.not_mem_nil,or_false] at hu;rcases hu with rfl | rfl <;> rfl
theorem trow_one (x:iU):∀u∈trow x,u.oneCell' = true:=by intro u hu;simp only [trow,List.mem_cons,List.not_mem_nil,or_false] at hu;rcases hu with rfl | rfl | rfl <;> rfl
end Go.Proofs.YthjdahommnnliaaGreat
namespace Go.Proofs.YthjdahommnnliaaGreat
open Go.ChangeShapes Go.WideShapes Go.ChangeAt Go.RowKit
set_option linter.unusedVariables false
set_option linter.unusedSimpArgs false
theorem run_copyK {P:Program} (w:World) (dT sT ty elem:TypeId) (b o dLen dCap:Nat) (a:Addr) (sLen sCap S:Nat) (cs:List Value)
 (hu:P.underlying dT = some (.slice elem)) (hs:(P.info? elem).map (·.size) = some S) (hn:cs.length = Nat.min sLen dLen * S)
 (hsrc:∀j v,cs[j]? = some v→w.cell? (a.add j) = some v) (hc:∀j,j < cs.length→(w.cell? ⟨b,o+j,none⟩).isSome = true) (hf:∀j,j < cs.length→w.frozen? ⟨b,o+j,none⟩ = false) (h1:∀v∈cs,v.oneCell' = true) :
 (Builtin.copy_ #[dT,sT] ty #[.slice (some ⟨b,o,none⟩) dLen dCap,.slice (some a) sLen sCap]).run P w = .ok (goInt (Nat.min sLen dLen)) (w.setCells b o cs):=by
 have hl:=run_loadCells_list (P:=P) w a cs hsrc
 have hst:=run_storeCells_cells (P:=P) b o cs 0 w (by simpa using hc) (by simpa using hf) h1
 cases hq:P.info? elem with
 | none=>simp [hq] at hs
 | some i =>
   have hi:i.size = S:=by simpa [hq] using hs
   simp [Builtin.copy_,run_underlying hu,Builtin.lenOf,Builtin.firstCells,sizeOf,typeInfo,hq,hi,← hn,hl,hst]
theorem setCells_heap (b:Nat):∀(vs:List Value) (o:Nat) (w:World) (cur:Array Value) (t:TypeId) (m:Nat × Nat),w.heap[b]? = some (.cells cur t m)→(w.setCells b o vs).heap[b]? = some (.cells (Go.Sort.setMany cur o vs) t m)
 | [],_,_,_,_,_,h=>h
 | v :: r,o,w,cur,t,m,h=>by
   rw [World.setCells,Go.Sort.setMany]
   exact setCells_heap b r (o+1) _ _ t m (by simp [World.setCell,Array.getElem?_modify,h])
theorem insGetK {R:List Value} {N S:Nat} {arr:Array Value} (hl:R.length = N+S) (hs:N+S≤arr.size) (h:∀j,j < N+S→arr[j]! = R[j]!):arr.toList.take (N+S) = R:=by
 apply List.ext_getElem
 ·rw [List.length_take,Array.length_toList,hl];omega
 ·intro j h1 h2
  have hj:j < N+S:=by rw [← hl];exact h2
  have:=h j hj
  rw [getElem!_pos arr j (by omega),getElem!_pos R j h2] at this
  rw [List.getElem_take,Array.getElem_toList]
  exact this
theorem insAtK (ds cs:List Value) (A N S:Nat) (hcl:cs.length = S) (hdl:ds.length = N) (hA:A≤N) (j:Nat) (hj:j < N+S) :
 (ds.take A++(cs++ds.drop A))[j]! = if j < A then ds[j]! else if j < A+S then cs[j - A]! else ds[j - S]!:=by
 have hl:(ds.take A++(cs++ds.drop A)).length = N+S:=by simp only [List.length_append,List.length_take,List.length_drop];omega
 rw [getElem!_pos _ j (by omega)]
 by_cases h1:j < A
 ·rw [if_pos h1,getElem!_pos ds j (by omega),List.getElem_append_left avI,List.getElem_take]
 ·rw [if_neg h1,List.getElem_append_right avI]
  by_cases h2:j < A+S
  ·rw [if_pos h2,getElem!_pos cs _ (by omega),List.getElem_append_left avI]
   congr 1;rw [List.length_take];omega
  ·rw [if_neg h2,getElem!_pos ds _ (by omega),List.getElem_append_right avI,List.getElem_drop]
   congr 1;simp only [List.length_take];omega
theorem ins_take (cur:Array Value) (ds cs:List Value) (A N S:Nat) (hcl:cs.length = S) (hdl:ds.length = N) (hA:A≤N) (hsz:N+S≤cur.size) (hpre:∀t,t < A→cur[t]! = ds[t]!) :
 (Go.Sort.setMany (Go.Sort.setMany cur (A+S) (ds.drop A)) A cs).toList.take (N+S) = ds.take A++(cs++ds.drop A):=by
 refine insGetK (by simp only [List.length_append,List.length_take,List.length_drop];omega) (by simpa using hsz) fun j hj=>?_
 rw [insAtK ds cs A N S hcl hdl hA j hj,Go.Sort.get_setMany _ _ _ _ (by simp;omega),Go.Sort.get_setMany _ _ _ _ (by omega),hcl,List.length_drop]
 by_cases h1:j < A
 ·rw [if_neg (by omega),if_neg (by omega),if_pos h1];exact hpre j h1
 ·rw [if_neg h1]
  by_cases h2:j < A+S
  ·rw [if_pos (by omega),if_pos h2]
  ·rw [if_neg (by omega),if_pos (by omega),if_neg h2,getElem!_pos (ds.drop A) _ awz,getElem!_pos ds _ (by omega),List.getElem_drop]
   congr 1;omega
theorem ins_take2 (cur:Array Value) (ds cs:List Value) (A N S:Nat) (hcl:cs.length = S) (hdl:ds.length = N) (hA:A≤N) (hsz:N+S≤cur.size) (hpre:∀t,t < A→cur[t]! = ds[t]!) :
 (Go.Sort.setMany (Go.Sort.setMany cur A cs) (A+S) (ds.drop A)).toList.take (N+S) = ds.take A++(cs++ds.drop A):=by
 refine insGetK (by simp only [List.length_append,List.length_take,List.length_drop];omega) (by simpa using hsz) fun j hj=>?_
 rw [insAtK ds cs A N S hcl hdl hA j hj,Go.Sort.get_setMany _ _ _ _ (by simp;omega),Go.Sort.get_setMany _ _ _ _ (by omega),hcl,List.length_drop]
 by_cases h1:j < A
 ·rw [if_neg (by omega),if_neg (by omega),if_pos h1];exact hpre j h1
 ·rw [if_neg h1]
  by_cases h2:j < A+S
  ·rw [if_neg (by omega),if_pos (by omega),if_pos h2]
  ·rw [if_pos (by omega),if_neg h2,getElem!_pos (ds.drop A) _ awz,getElem!_pos ds _ (by omega),List.getElem_drop]
   congr 1;omega
end Go.Proofs.YthjdahommnnliaaGreat
