/- Worlds that only grew. No condition. -/
import Derived.Sort.Grow
import Derived.Deep.Draws
import Derived.Test.YtkbkikggodlbbaaGreatFrame
import Derived.Shelf.Slices.In.SortAlone
import Derived.Shelf.Slices.In.SortNone
import Derived.Shelf.Slices.In.CompactS
import Derived.Test.YtkbkikggodlbbaaGreatRows
import Derived.Lib.SlicesCompact
namespace Go.Proofs.YtkbkikggodlbbaaGreat
open Go.ChangeShapes Go.WideShapes Go.ChangeAt Go.RowKit
def Gr (w w':World):Prop:=∃q os,w' = Go.Sort.grow (w.drewN q) os
theorem Gr.refl (w:World):Gr w w:=⟨0,#[],by simp [Go.Sort.grow,World.drewN]⟩
theorem Gr.alloc {w w':World} (h:Gr w w') (o:Obj):Gr w (w'.alloc o):=by
 obtain ⟨q,os,rfl⟩:=h;exact ⟨q,os.push o,by simp [Go.Sort.grow,World.alloc,World.drewN]⟩
theorem Gr.drew {w w':World} (h:Gr w w'):Gr w w'.drew:=by
 obtain ⟨q,os,rfl⟩:=h;exact ⟨q+1,os,rfl⟩
theorem Gr.trans {w w1 w2:World} (h:Gr w w1) (k:Gr w1 w2):Gr w w2:=by
 obtain ⟨q,os,rfl⟩:=h;obtain ⟨q2,os2,rfl⟩:=k;exact ⟨q+q2,os++os2,by simp [Go.Sort.grow,World.drewN,Nat.add_assoc]⟩
theorem Gr.below {w w':World} (h:Gr w w'):Below w.heap.size w w':=by
 obtain ⟨q,os,rfl⟩:=h;exact ⟨rfl,rfl,rfl,by simp [Go.Sort.grow,World.drewN],fun k hk=>by simp [Go.Sort.grow,World.drewN,Array.getElem?_append_left hk]⟩
end Go.Proofs.YtkbkikggodlbbaaGreat
namespace Go.Proofs.YtkbkikggodlbbaaGreat
open Go.Shelf
def renSort:Go.Shelf.Ren:={
 f:=fun x=>match x with
  | 125=>193
  | 128=>216
  | 129=>217
  | 190=>169
  | 258=>192
  | 302=>207
  | 303=>208
  | 304=>209
  | 305=>210
  | 306=>211
  | 307=>212
  | 308=>213
  | 309=>214
  | 310=>215
  | 329=>246
  | 330=>247
  | 333=>245
  | 334=>248
  | 335=>249
  | 336=>250
  | 344=>262
  | n=>n
 t:=fun x=>match x with
  | 0=>0
  | 3=>3
  | 4=>4
  | 5=>5
  | 9=>9
  | 31=>130
  | 46=>208
  | 51=>227
  | 53=>229
  | 131=>184
  | 182=>220
  | 183=>221
  | 218=>245
  | 222=>249
  | 228=>257
  | 229=>258
  | n=>n
 g:=fun n=>n }
theorem laySort:Lays.n190 Tryz.prog renSort:={
 mixed:=rfl
 f125:=Tryz.func193.trans (congrArg some rfl)
 f128:=Tryz.func216.trans (congrArg some rfl)
 f129:=Tryz.func217.trans (congrArg some rfl)
 f190:=Tryz.func169.trans (congrArg some rfl)
 f258:=Tryz.func192.trans (congrArg some rfl)
 f302:=Tryz.func207.trans (congrArg some rfl)
 f303:=Tryz.func208.trans (congrArg some rfl)
 f304:=Tryz.func209.trans (congrArg some rfl)
 f305:=Tryz.func210.trans (congrArg some rfl)
 f306:=Tryz.func211.trans (congrArg some rfl)
 f307:=Tryz.func212.trans (congrArg some rfl)
 f308:=Tryz.func213.trans (congrArg some rfl)
 f309:=Tryz.func214.trans (congrArg some rfl)
 f310:=Tryz.func215.trans (congrArg some rfl)
 f329:=Tryz.func246.trans (congrArg some rfl)
 f330:=Tryz.func247.trans (congrArg some rfl)
 f333:=Tryz.func245.trans (congrArg some rfl)
 f334:=Tryz.func248.trans (congrArg some rfl)
 f335:=Tryz.func249.trans (congrArg some rfl)
 f336:=Tryz.func250.trans (congrArg some rfl)
 f344:=Tryz.func262.trans (congrArg some rfl)
 t0:=Tryz.underlying0
 a0:=Tryz.isAgg0
 z0:=Tryz.sizeOf0
 v0:=Tryz.zeroValue0
 t3:=Tryz.underlying3
 a3:=Tryz.isAgg3
 z3:=Tryz.sizeOf3
 v3:=Tryz.zeroValue3
 t4:=Tryz.underlying4
 a4:=Tryz.isAgg4
 z4:=Tryz.sizeOf4
 v4:=Tryz.zeroValue4
 t5:=Tryz.underlying5
 a5:=Tryz.isAgg5
 z5:=Tryz.sizeOf5
 v5:=Tryz.zeroValue5
 t9:=Tryz.underlying9
 a9:=Tryz.isAgg9
 z9:=Tryz.sizeOf9
 v9:=Tryz.zeroValue9
 t31:=Tryz.underlying130
 a31:=Tryz.isAgg130
 z31:=Tryz.sizeOf130
 v31:=Tryz.zeroValue130
 t46:=Tryz.underlying208
 a46:=Tryz.isAgg208
 z46:=Tryz.sizeOf208
 v46:=Tryz.zeroValue208
 t51:=Tryz.underlying227
 a51:=Tryz.isAgg227
 z51:=Tryz.sizeOf227
 v51:=Tryz.zeroValue227
 t53:=Tryz.underlying229
 a53:=Tryz.isAgg229
 z53:=Tryz.sizeOf229
 v53:=Tryz.zeroValue229
 t131:=Tryz.underlying184
 a131:=Tryz.isAgg184
 z131:=Tryz.sizeOf184
 v131:=Tryz.zeroValue184
 t182:=Tryz.underlying220
 a182:=Tryz.isAgg220
 z182:=Tryz.sizeOf220
 v182:=Tryz.zeroValue220
 t183:=Tryz.underlying221
 a183:=Tryz.isAgg221
 z183:=Tryz.sizeOf221
 v183:=Tryz.zeroValue221
 t218:=Tryz.underlying245
 a218:=Tryz.isAgg245
 z218:=Tryz.sizeOf245
 v218:=Tryz.zeroValue245
 t222:=Tryz.underlying249
 a222:=Tryz.isAgg249
 z222:=Tryz.sizeOf249
 v222:=Tryz.zeroValue249
 t228:=Tryz.underlying257
 a228:=Tryz.isAgg257
 z228:=Tryz.sizeOf257
 v228:=Tryz.zeroValue257
 t229:=Tryz.underlying258
 a229:=Tryz.isAgg258
 z229:=Tryz.sizeOf258
 v229:=Tryz.zeroValue258 }
def renCompact:Go.Shelf.Ren:={
 f:=fun x=>match x with
  | 194=>170
  | n=>n
 t:=fun x=>match x with
  | 0=>0
  | 3=>3
  | 4=>4
  | 9=>9
  | 31=>130
  | n=>n
 g:=fun n=>n }
theorem layCompact:Lays.n194 Tryz.prog renCompact:={
 mixed:=rfl
 f194:=Tryz.func170.trans (congrArg some rfl)
 t0:=Tryz.underlying0
 a0:=Tryz.isAgg0
 z0:=Tryz.sizeOf0
 v0:=Tryz.zeroValue0
 t3:=Tryz.underlying3
 a3:=Tryz.isAgg3
 z3:=Tryz.sizeOf3
 v3:=Tryz.zeroValue3
 t4:=Tryz.underlying4
 a4:=Tryz.isAgg4
 z4:=Tryz.sizeOf4
 v4:=Tryz.zeroValue4
 t9:=Tryz.underlying9
 a9:=Tryz.isAgg9
 z9:=Tryz.sizeOf9
 v9:=Tryz.zeroValue9
 t31:=Tryz.underlying130
 a31:=Tryz.isAgg130
 z31:=Tryz.sizeOf130
 v31:=Tryz.zeroValue130 }
end Go.Proofs.YtkbkikggodlbbaaGreat
namespace Go.Proofs.YtkbkikggodlbbaaGreat
open Go.Proofs
abbrev S8:=List UInt8
theorem compact_memL (d:Array S8):∀(m:Nat),∀j,j < m→d[j]!∈Lib.compactUpTo d m
 | 0,j,h=>absurd h (Nat.not_lt_zero _)
 | m+1,j,h=>by
   rw [Lib.compactUpTo_succ,List.mem_append];by_cases hj:j < m
   ·exact Or.inl (compact_memL d m j hj)
   ·obtain rfl:j = m:=by omega
    by_cases hk:j = 0∨d[j]!≠d[j - 1]!
    ·exact Or.inr (by rw [show Lib.keeps d j = true from decide_eq_true hk];simp)
    ·have h1:¬j = 0:=fun e=>hk (Or.inl e);have h2:d[j]! = d[j - 1]!:=Classical.byContradiction fun e=>hk (Or.inr e);exact Or.inl (by rw [h2];exact compact_memL d j (j - 1) O')
theorem arr_get (zs:List S8) {j:Nat} (h:j < zs.length):zs.toArray[j]! = zs[j]:=by simp [getElem!_pos,h]
theorem mem_compact_iff (zs:List S8) (x:S8):x∈Lib.compact zs↔x∈zs:=by
 constructor
 ·intro h;unfold Lib.compact Lib.compactUpTo at h;rw [List.mem_map] at h;obtain ⟨j,hj,rfl⟩:=h;have hl:=List.mem_range.1 (List.mem_filter.1 hj).1;rw [arr_get zs hl];exact List.getElem_mem hl
 ·intro h;obtain ⟨j,hj,rfl⟩:=List.getElem_of_mem h;have:=compact_memL zs.toArray zs.length j hj;rwa [arr_get zs hj] at this
theorem compact_strict (zs:List S8) (h:zs.Pairwise (·≤·)):(Lib.compact zs).Pairwise (· < ·):=by
 unfold Lib.compact Lib.compactUpTo;rw [List.pairwise_map];have hp:=(List.pairwise_lt_range (n:=zs.length)).filter (Lib.keeps zs.toArray);refine List.Pairwise.imp_of_mem ?_ hp;intro i j hi hj hij;have hjl:=List.mem_range.1 (List.mem_filter.1 hj).1;have hk:=of_decide_eq_true (List.mem_filter.1 hj).2;rw [arr_get zs O',arr_get zs hjl];have hne:zs[j]≠zs[j - 1]:=by
  rcases hk with hk | hk
  ·omega
  ·rwa [arr_get zs hjl,arr_get zs O'] at hk
 have hget:=List.pairwise_iff_getElem.1 h;have h1:zs[j - 1]≤zs[j]:=hget (j - 1) j O' hjl O';have h2:zs[i]≤zs[j - 1]:=by
  by_cases e:i = j - 1
  ·subst e;exact List.le_refl _
  ·exact hget i (j - 1) O' O' O'
 have h3:zs[j - 1] < zs[j]:=by apply Classical.byContradiction;intro hh;exact hne (List.le_antisymm (List.not_lt.1 hh) h1)
 exact List.lt_of_le_of_lt h2 h3
theorem strict_eq:∀{a b:List S8},a.Pairwise (· < ·)→b.Pairwise (· < ·)→(∀x,x∈a↔x∈b)→a = b
 | [],[],_,_,_=>rfl
 | [],y :: b,_,_,h=>absurd ((h y).2 (List.mem_cons_self ..)) (List.not_mem_nil)
 | x :: a,[],_,_,h=>absurd ((h x).1 (List.mem_cons_self ..)) (List.not_mem_nil)
 | x :: a,y :: b,ha,hb,h=>by
   rw [List.pairwise_cons] at ha hb;have hxy:x = y:=by
    rcases List.mem_cons.1 ((h x).1 (List.mem_cons_self ..)) with e | e
    ·exact e
    ·rcases List.mem_cons.1 ((h y).2 (List.mem_cons_self ..)) with e2 | e2
     ·exact e2.symm
     ·exact absurd (List.lt_trans (hb.1 x e) (ha.1 y e2)) (List.lt_irrefl _)
   subst hxy;congr 1;refine strict_eq ha.2 hb.2 fun z=>⟨fun hz=>?_,fun hz=>?_⟩
   ·rcases List.mem_cons.1 ((h z).1 (List.mem_cons_of_mem _ hz)) with e | e
    ·subst e;exact absurd (ha.1 z hz) (List.lt_irrefl _)
    ·exact e
   ·rcases List.mem_cons.1 ((h z).2 (List.mem_cons_of_mem _ hz)) with e | e
    ·subst e;exact absurd (hb.1 z hz) (List.lt_irrefl _)
    ·exact e
def insUS (x:S8):List S8→List S8
 | []=>[x]
 | y :: r=>if y < x then y :: insUS x r else if y = x then y :: r else x :: y :: r
theorem insUS_mem (x:S8):∀(r:List S8) (z:S8),z∈insUS x r↔z = x∨z∈r
 | [],z=>by simp [insUS]
 | y :: r,z=>by
   unfold insUS;split
   ·rw [List.mem_cons,insUS_mem x r z,List.mem_cons];exact ⟨fun h=>by rcases h with h | h | h <;> simp [h],fun h=>by rcases h with h | h | h <;> simp [h]⟩
   ·split
    ·rename_i e;subst e;simp
    ·simp
theorem insUS_strict (x:S8):∀(r:List S8),r.Pairwise (· < ·)→(insUS x r).Pairwise (· < ·)
 | [],_=>by simp [insUS]
 | y :: r,h=>by
   unfold insUS;rw [List.pairwise_cons] at h;split
   ·rename_i hlt;rw [List.pairwise_cons];refine ⟨fun z hz=>?_,insUS_strict x r h.2⟩;rcases (insUS_mem x r z).1 hz with e | e
    ·subst e;exact hlt
    ·exact h.1 z e
   ·split
    ·rw [List.pairwise_cons];exact h
    ·rename_i h1 h2;have h3:x < y:=by
      apply Classical.byContradiction;intro hh;exact h2 (List.le_antisymm (List.not_lt.1 hh) (List.not_lt.1 h1))
     rw [List.pairwise_cons,List.pairwise_cons];refine ⟨fun z hz=>?_,h⟩;rcases List.mem_cons.1 hz with e | e
     ·subst e;exact h3
     ·exact List.lt_trans h3 (h.1 z e)
def valuesU (l:List S8):List S8:=l.foldl (fun r x=>insUS x r) []
theorem foldU (l:List S8):∀(r:List S8),r.Pairwise (· < ·)→(l.foldl (fun r x=>insUS x r) r).Pairwise (· < ·)∧∀z,z∈l.foldl (fun r x=>insUS x r) r↔z∈l∨z∈r:=by
 induction l with
 | nil=>exact fun r h=>⟨h,fun z=>by simp⟩
 | cons x l ih =>intro r h;obtain ⟨h1,h2⟩:=ih (insUS x r) (insUS_strict x r h);refine ⟨h1,fun z=>?_⟩;rw [List.foldl_cons,h2,insUS_mem,List.mem_cons];exact ⟨fun h=>by rcases h with h | h | h <;> simp [h],fun h=>by rcases h with (h | h) | h <;> simp [h]⟩
theorem sortU (l:List S8):Lib.compact (l.mergeSort fun x y=>decide (x≤y)) = valuesU l:=by
 have hs:(l.mergeSort fun x y=>decide (x≤y)).Pairwise (·≤·):=by have:=List.pairwise_mergeSort (le:=fun x y:S8=>decide (x≤y)) (fun a b c h1 h2=>by simp only [decide_eq_true_eq] at *;exact List.le_trans h1 h2) (fun a b=>by simp only [Bool.or_eq_true,decide_eq_true_eq];exact List.le_total a b) l;exact this.imp (fun h=>of_decide_eq_true h)
 obtain ⟨h1,h2⟩:=foldU l [] List.Pairwise.nil;refine strict_eq (compact_strict _ hs) h1 fun z=>?_;rw [mem_compact_iff,List.mem_mergeSort];exact ((h2 z).trans S').symm
end Go.Proofs.YtkbkikggodlbbaaGreat
namespace Go.Proofs.YtkbkikggodlbbaaGreat
set_option linter.unusedVariables false
set_option linter.unusedSimpArgs false
section
variable {β:Type} (lt:β→β→Bool)
def OM (y:β):List β→List β
 | []=>[y]
 | x :: xs=>if lt y x then y :: x :: xs else x :: OM y xs
def sortB:List β→List β→List β
 | acc,[]=>acc
 | acc,y :: ys=>sortB (OM lt y acc) ys
def fO:List β→List β→List β
 | [],r=>r
 | l,[]=>l
 | x :: l,y :: r=>if lt y x then y :: fO (x :: l) r else x :: fO l (y :: r)
termination_by l r=>l.length+r.length
structure Weak:Prop where
 irr:∀x,lt x x = false
 tr:∀x y z,lt x y = true→lt y z = true→lt x z = true
 neg:∀x y z,lt x y = false→lt y z = false→lt x z = false
def Sorted (l:List β):Prop:=l.Pairwise fun x y=>lt y x = false
variable {lt}
theorem Weak.asym (W:Weak lt) {x y:β} (h:lt x y = true):lt y x = false:=by
 cases h2:lt y x
 ·rfl
 ·have:=W.tr x y x h h2;rw [W.irr] at this;cases this
theorem Weak.left (W:Weak lt) {x y z:β} (h:lt x y = true) (h2:lt z y = false):lt x z = true:=by
 cases h3:lt x z
 ·have:=W.neg x z y h3 h2;rw [this] at h;cases h
 ·rfl
theorem Weak.right (W:Weak lt) {x y z:β} (h:lt y x = false) (h2:lt y z = true):lt x z = true:=by
 cases h3:lt x z
 ·have:=W.neg y x z h h3;rw [this] at h2;cases h2
 ·rfl
theorem ig (r:List β):fO lt [] r = r:=by unfold fO;rfl
theorem gZ (l:List β):fO lt l [] = l:=by
 cases l with
 | nil=>exact ig []
 | cons x l=>unfold fO;rfl
theorem lK (x y:β) (l r:List β):fO lt (x :: l) (y :: r) = if lt y x then y :: fO lt (x :: l) r else x :: fO lt l (y :: r):=by
 conv=>lhs;unfold fO
theorem fU:∀(l r:List β),(fO lt l r).length = l.length+r.length
 | [],r=>by rw [ig];simp
 | x :: l,[]=>by rw [gZ];simp
 | x :: l,y :: r=>by
   rw [lK];split
   ·rw [List.length_cons,fU (x :: l) r];simp only [List.length_cons];omega
   ·rw [List.length_cons,fU l (y :: r)];simp only [List.length_cons];omega
termination_by l r=>l.length+r.length
theorem FV:∀(l1 r1:List β) (l2 r2:List β),(∀y∈r1,∀x∈l2,lt y x = true)→(∀y∈r2,∀x∈l1,lt y x = false)→fO lt (l1++l2) (r1++r2) = fO lt l1 r1++fO lt l2 r2
 | [],[],l2,r2,_,_=>by simp [ig]
 | [],y :: r1,l2,r2,h1,h2=>by
   have ih:=FV [] r1 l2 r2 (fun z hz=>h1 z (List.mem_cons_of_mem _ hz)) (fun _ _ _ hx=>by cases hx);rw [ig] at ih ⊢;cases l2 with
   | nil=>simp only [List.append_nil,ig]
   | cons x l2 =>simp only [List.nil_append,List.cons_append] at ih ⊢;rw [lK,if_pos (h1 y (List.mem_cons_self ..) x (List.mem_cons_self ..)),ih]
 | x :: l1,[],l2,r2,h1,h2=>by
   have ih:=FV l1 [] l2 r2 (fun _ hz=>by cases hz) (fun y hy z hz=>h2 y hy z (List.mem_cons_of_mem _ hz));rw [gZ] at ih ⊢;cases r2 with
   | nil=>simp only [List.append_nil,gZ]
   | cons y r2 =>simp only [List.nil_append,List.cons_append] at ih ⊢;rw [lK,if_neg (by rw [h2 y (List.mem_cons_self ..) x (List.mem_cons_self ..)];simp),ih]
 | x :: l1,y :: r1,l2,r2,h1,h2=>by
   simp only [List.cons_append];rw [lK,lK];split
   ·have ih:=FV (x :: l1) r1 l2 r2 (fun z hz=>h1 z (List.mem_cons_of_mem _ hz)) h2;simp only [List.cons_append] at ih;rw [ih,List.cons_append]
   ·have ih:=FV l1 (y :: r1) l2 r2 h1 (fun z hz w hw=>h2 z hz w (List.mem_cons_of_mem _ hw));simp only [List.cons_append] at ih;rw [ih,List.cons_append]
termination_by l1 r1=>l1.length+r1.length
theorem aeO {x:β} {r1 r2:List β} (h1:∀y∈r1,lt y x = true) (h2:∀y∈r2,lt y x = false):fO lt [x] (r1++r2) = r1++x :: r2:=by
 have h:=FV (lt:=lt) [] r1 [x] r2 (fun y hy z hz=>by rw [List.mem_singleton.1 hz];exact h1 y hy) (fun _ _ _ hz=>by cases hz);rw [List.nil_append,ig] at h;rw [h];congr 1;cases r2 with
 | nil=>exact gZ _
 | cons y r2=>rw [lK,if_neg (by rw [h2 y (List.mem_cons_self ..)];simp),ig]
theorem UU {y:β} {l1 l2:List β} (h1:∀x∈l1,lt y x = false) (h2:∀x∈l2,lt y x = true):fO lt (l1++l2) [y] = l1++y :: l2:=by
 have h:=FV (lt:=lt) l1 [] l2 [y] (fun _ hz=>by cases hz) (fun z hz x hx=>by rw [List.mem_singleton.1 hz];exact h1 x hx);rw [List.nil_append,gZ] at h;rw [h];congr 1;cases l2 with
 | nil=>exact ig _
 | cons x l2=>rw [lK,if_pos (h2 x (List.mem_cons_self ..)),gZ]
theorem xK (y:β):∀l:List β,OM lt y l = fO lt l [y]
 | []=>by rw [ig];rfl
 | x :: l=>by
   rw [OM,lK];split
   ·rw [gZ]
   ·rw [xK y l]
theorem MK {z:β} : ∀{l r:List β},z∈fO lt l r→z∈l∨z∈r
 | [],r,h=>by rw [ig] at h;exact .inr h
 | x :: l,[],h=>by rw [gZ] at h;exact .inl h
 | x :: l,y :: r,h=>by
   rw [lK] at h;split at h
   ·rcases List.mem_cons.1 h with rfl | h
    ·exact .inr (List.mem_cons_self ..)
    ·rcases MK h with h | h
     ·exact .inl h
     ·exact .inr (List.mem_cons_of_mem _ h)
   ·rcases List.mem_cons.1 h with rfl | h
    ·exact .inl (List.mem_cons_self ..)
    ·rcases MK h with h | h
     ·exact .inl (List.mem_cons_of_mem _ h)
     ·exact .inr h
termination_by l r=>l.length+r.length
theorem TV (W:Weak lt):∀{l r:List β},Sorted lt l→Sorted lt r→Sorted lt (fO lt l r)
 | [],r,_,h=>by rw [ig];exact h
 | x :: l,[],h,_=>by rw [gZ];exact h
 | x :: l,y :: r,hl,hr=>by
   have hl':=List.pairwise_cons.1 hl;have hr':=List.pairwise_cons.1 hr;rw [lK];split
   ·rename_i h;refine List.pairwise_cons.2 ⟨fun z hz=>?_,TV W hl hr'.2⟩;rcases MK hz with hz | hz
    ·rcases List.mem_cons.1 hz with rfl | hz
     ·exact W.asym h
     ·exact W.neg z x y (hl'.1 z hz) (W.asym h)
    ·exact hr'.1 z hz
   ·rename_i h;have h:lt y x = false:=(by simpa using h);refine List.pairwise_cons.2 ⟨fun z hz=>?_,TV W hl'.2 hr⟩;rcases MK hz with hz | hz
    ·exact hl'.1 z hz
    ·rcases List.mem_cons.1 hz with rfl | hz
     ·exact h
     ·exact W.neg z y x (hr'.1 z hz) h
termination_by l r=>l.length+r.length
theorem IK (W:Weak lt):∀(a b c:List β),fO lt (fO lt a b) c = fO lt a (fO lt b c)
 | [],b,c=>by simp only [ig]
 | a,[],c=>by simp only [ig,gZ]
 | a,b,[]=>by simp only [gZ]
 | x :: a,y :: b,z :: c=>by
   rw [lK x y,lK y z];by_cases h1:lt y x = true
   ·rw [if_pos h1];by_cases h2:lt z y = true
    ·rw [if_pos h2,lK y z,if_pos h2,lK x z,if_pos (W.tr z y x h2 h1),← IK W (x :: a) (y :: b) c,lK x y,if_pos h1]
    ·rw [if_neg h2,lK y z,if_neg h2,lK x y,if_pos h1,IK W (x :: a) b (z :: c)]
   ·rw [if_neg h1];by_cases h2:lt z y = true
    ·rw [if_pos h2];by_cases h3:lt z x = true
     ·rw [lK x z,if_pos h3,lK x z,if_pos h3,← IK W (x :: a) (y :: b) c,lK x y,if_neg h1]
     ·rw [lK x z,if_neg h3,lK x z,if_neg h3,IK W a (y :: b) (z :: c),lK y z,if_pos h2]
    ·have h3:¬lt z x = true:=by
      have e1:lt z y = false:=(by simpa using h2);have e2:lt y x = false:=(by simpa using h1);rw [W.neg z y x e1 e2];simp
     rw [if_neg h2,lK x z,if_neg h3,lK x y,if_neg h1,IK W a (y :: b) (z :: c),lK y z,if_neg h2]
termination_by a b c=>a.length+b.length+c.length
theorem UW:∀(ys acc:List β),sortB lt acc ys = ys.foldl (fun l y=>fO lt l [y]) acc
 | [],_=>rfl
 | y :: ys,acc=>by rw [sortB,xK,UW ys];rfl
theorem Yv (W:Weak lt):∀(ys acc:List β),sortB lt acc ys = fO lt acc (sortB lt [] ys)
 | [],acc=>by rw [sortB,sortB,gZ]
 | y :: ys,acc=>by
   rw [sortB,sortB,Yv W ys (OM lt y acc),Yv W ys (OM lt y []),xK,xK,ig,IK W]
theorem acz (W:Weak lt) (xs ys:List β):sortB lt [] (xs++ys) = fO lt (sortB lt [] xs) (sortB lt [] ys):=by
 rw [← Yv W,UW,UW,UW,List.foldl_append]
theorem yc (W:Weak lt):∀(ys acc:List β),Sorted lt acc→Sorted lt (sortB lt acc ys)
 | [],_,h=>h
 | y :: ys,acc,h=>by
   rw [sortB];refine yc W ys _ ?_;rw [xK];exact TV W h (List.pairwise_singleton _ _)
theorem rD:∀(ys acc:List β),(sortB lt acc ys).length = acc.length+ys.length
 | [],_=>rfl
 | y :: ys,acc=>by rw [sortB,rD ys,xK,fU];simp only [List.length_cons,List.length_nil];omega
theorem aql (W:Weak lt) {l1 l2 r1 r2:List β} (hl:Sorted lt (l1++l2)) (hr:Sorted lt (r1++r2)) (h1:r1 = []∨l2 = []∨∃r1' y x l2',r1 = r1'++[y]∧l2 = x :: l2'∧lt y x = true)
 (h2:l1 = []∨r2 = []∨∃l1' x y r2',l1 = l1'++[x]∧r2 = y :: r2'∧lt y x = false):fO lt (l1++l2) (r1++r2) = fO lt l1 r1++fO lt l2 r2:=by
 refine FV l1 r1 l2 r2 (fun y hy x hx=>?_) (fun y hy x hx=>?_)
 ·rcases h1 with rfl | rfl | ⟨r1',y0,x0,l2',rfl,rfl,h⟩
  ·cases hy
  ·cases hx
  ·have a:lt y0 y = false:=by
    rcases List.mem_append.1 hy with hy | hy
    ·have:=(List.pairwise_append.1 (List.pairwise_append.1 hr).1).2.2 y hy y0 (List.mem_singleton.2 rfl);exact this
    ·rw [List.mem_singleton.1 hy,W.irr]
   have b:lt x x0 = false:=by
    rcases List.mem_cons.1 hx with rfl | hx
    ·exact W.irr x
    ·exact (List.pairwise_cons.1 (List.pairwise_append.1 hl).2.1).1 x hx
   exact W.left (W.right a h) b
 ·rcases h2 with rfl | rfl | ⟨l1',x0,y0,r2',rfl,rfl,h⟩
  ·cases hx
  ·cases hy
  ·have a:lt x0 x = false:=by
    rcases List.mem_append.1 hx with hx | hx
    ·exact (List.pairwise_append.1 (List.pairwise_append.1 hl).1).2.2 x hx x0 (List.mem_singleton.2 rfl)
    ·rw [List.mem_singleton.1 hx,W.irr]
   have b:lt y y0 = false:=by
    rcases List.mem_cons.1 hy with rfl | hy
    ·exact W.irr y
    ·exact (List.pairwise_cons.1 (List.pairwise_append.1 hr).2.1).1 y hy
   exact W.neg y x0 x (W.neg y y0 x0 b h) a
def runs (lt:β→β→Bool) (s:Nat) (xs:List β):List β:=if h:xs.length≤s∨s = 0 then sortB lt [] xs else sortB lt [] (xs.take s)++runs lt s (xs.drop s)
termination_by xs.length
decreasing_by rw [List.length_drop];omega
theorem zo {s:Nat} {xs:List β} (h:xs.length≤s):runs lt s xs = sortB lt [] xs:=by unfold runs;rw [dif_pos (.inl h)]
theorem amZ (s:Nat):runs lt s ([]:List β) = []:=by rw [zo (Nat.zero_le _)];rfl
theorem Ky {s:Nat} (hs:0 < s) (xs:List β):runs lt s xs = sortB lt [] (xs.take s)++runs lt s (xs.drop s):=by
 by_cases h:xs.length≤s
 ·rw [List.take_of_length_le h,List.drop_of_length_le h,amZ,List.append_nil,zo h]
 ·conv=>lhs;unfold runs
  rw [dif_neg O']
theorem am0 (W:Weak lt) {s:Nat} (hs:0 < s) (ys:List β):runs lt s ys = sortB lt [] (ys.take s)++(sortB lt [] ((ys.drop s).take s)++runs lt s (ys.drop (2 * s))) ∧
 fO lt (sortB lt [] (ys.take s)) (sortB lt [] ((ys.drop s).take s)) = sortB lt [] (ys.take (2 * s)):=by
 constructor
 ·rw [Ky hs ys,Ky hs (ys.drop s),List.drop_drop,show s+s = 2 * s by omega]
 ·rw [← acz W];congr 1;rw [show 2 * s = s+s by omega,List.take_add]
theorem ajf (W:Weak lt) {s:Nat} (hs:0 < s) {ys:List β} (h1:s < ys.length) (h2:ys.length≤2 * s):runs lt s ys = sortB lt [] (ys.take s)++sortB lt [] (ys.drop s) ∧
 fO lt (sortB lt [] (ys.take s)) (sortB lt [] (ys.drop s)) = runs lt (2 * s) ys:=by
 constructor
 ·rw [Ky hs ys,zo (xs:=ys.drop s) awz]
 ·rw [← acz W,List.take_append_drop,zo (s:=2 * s) h2]
theorem alh (W:Weak lt) {y:β} {s1 s2:List β} (hs:Sorted lt (s1++s2)) (h2:∀x∈s2,lt y x = true) (h1:s1 = []∨∃s' x,s1 = s'++[x]∧lt y x = false):OM lt y (s1++s2) = s1++y :: s2:=by
 rw [xK];refine UU (fun x hx=>?_) h2;rcases h1 with rfl | ⟨s',x0,rfl,h⟩
 ·cases hx
 ·rcases List.mem_append.1 hx with hx | hx
  ·exact W.neg y x0 x h ((List.pairwise_append.1 (List.pairwise_append.1 hs).1).2.2 x hx x0 (List.mem_singleton.2 rfl))
  ·rw [List.mem_singleton.1 hx];exact h
theorem V3 (xs:List β) (y:β):sortB lt [] (xs++[y]) = OM lt y (sortB lt [] xs):=by
 rw [UW,UW,List.foldl_append,xK];rfl
end
end Go.Proofs.YtkbkikggodlbbaaGreat
