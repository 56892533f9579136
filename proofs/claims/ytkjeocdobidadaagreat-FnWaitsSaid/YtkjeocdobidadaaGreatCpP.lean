/- The orders of taints, tolerances and needs are total; that of labels by their keys is weak. No condition. -/
import Derived.Test.YtkjeocdobidadaaGreatCmp2
import Derived.Test.YtkjeocdobidadaaGreatInsP
import Derived.Test.YtkjeocdobidadaaGreatTaintsOk
import Derived.Test.YtkjeocdobidadaaGreatStabP
import Derived.Test.YtkjeocdobidadaaGreatMark
import Derived.Test.YtkjeocdobidadaaGreatUsed
import Derived.Shelf.Spec.SlicesInsert
import Derived.Lib.AppendZerosOnto
import Derived.Shelf.GgSortFunc.RowK
import Derived.Deep.RegionLaw
import Derived.Test.YtkjeocdobidadaaGreatRowK
import Derived.Test.YtkjeocdobidadaaGreatCopyH
import Derived.Test.YtkjeocdobidadaaGreatRegionCut
import Derived.Test.YtkjeocdobidadaaGreatLabelsOk
namespace Go.Proofs.YtkjeocdobidadaaGreat
open Go.ChangeShapes Go.WideShapes Go.ChangeAt Go.RowKit
set_option linter.unusedVariables false
set_option linter.unusedSimpArgs false
structure Cq {β:Type} (c:β→β→Int):Prop where
 refl:∀x,c x x = 0
 anti:∀x y,c y x = - c x y
 trans:∀x y z,c x y≤0→c y z≤0→c x z≤0
section
variable {β γ:Type} {c d:β→β→Int}
theorem Cq.lt1 (C:Cq c) {x y z:β} (h:c x y < 0) (k:c y z≤0):c x z < 0:=by
 have h1:=C.trans x y z O' k;apply Classical.byContradiction;intro hn;have h2:c z x≤0:=by rw [C.anti x z];omega
 have h3:=C.trans y z x k h2;rw [C.anti x y] at h3;omega
theorem Cq.lt2 (C:Cq c) {x y z:β} (h:c x y≤0) (k:c y z < 0):c x z < 0:=by
 have h1:=C.trans x y z h O';apply Classical.byContradiction;intro hn;have h2:c z x≤0:=by rw [C.anti x z];omega
 have h3:=C.trans z x y h2 h;rw [C.anti y z] at h3;omega
theorem Cq.at (C:Cq c) (f:γ→β):Cq fun x y=>c (f x) (f y):=⟨fun x=>C.refl _,fun x y=>C.anti _ _,fun x y z=>C.trans _ _ _⟩
theorem Cq.lex (C:Cq c) (D:Cq d):Cq fun x y=>if c x y = 0 then d x y else c x y:=by
 refine ⟨fun x=>by simp only [C.refl,if_true,D.refl],fun x y=>?_,fun x y z=>?_⟩
 ·have:=C.anti x y;by_cases h:c x y = 0
  ·simp only [h,show c y x = 0 by omega,if_true,D.anti x y]
  ·simp only [if_neg h];rw [if_neg (show ¬c y x = 0 by omega)];exact this
 ·intro h k;by_cases h1:c x y = 0
  ·by_cases h2:c y z = 0
   ·have h3:=C.trans x y z O' O';have h4:=C.trans z y x (by rw [C.anti y z];omega) (by rw [C.anti x y];omega);rw [C.anti x z] at h4;simp only [h1,h2,if_true] at h k;simp only [show c x z = 0 by omega,if_true];exact D.trans _ _ _ h k
   ·simp only [if_neg h2] at k;have:=C.lt2 (x:=x) (y:=y) (z:=z) O' O';simp only [if_neg (show ¬c x z = 0 by omega)];omega
  ·simp only [if_neg h1] at h;by_cases h2:c y z = 0
   ·have:=C.lt1 (x:=x) (y:=y) (z:=z) O' O';simp only [if_neg (show ¬c x z = 0 by omega)];omega
   ·simp only [if_neg h2] at k;have:=C.lt1 (x:=x) (y:=y) (z:=z) O' k;simp only [if_neg (show ¬c x z = 0 by omega)];omega
theorem Cq.tot (C:Cq c) (h:∀x y,c x y = 0→x = y):Tot fun x y=>decide (c x y < 0):=by
 refine ⟨fun x=>by simp [C.refl],fun x y z a b=>?_,fun x y a b=>h x y ?_⟩
 ·simp only [decide_eq_true_eq] at *;exact C.lt1 a O'
 ·simp only [decide_eq_false_iff_not] at *;have:=C.anti x y;omega
end
theorem cpBytes:Cq Lib.compareBytes:=by
 refine ⟨fun x=>(J5 x x).2 rfl,fun x y=>alC x y,?_⟩;intro a;induction a with
 | nil=>intro b c _ _;cases c <;> simp [Lib.compareBytes]
 | cons x a ih =>
   intro b c h k;cases b with
   | nil=>simp [Lib.compareBytes] at h
   | cons y b =>
     cases c with
     | nil=>simp [Lib.compareBytes] at k
     | cons z c =>
       unfold Lib.compareBytes at h k ⊢;simp only [UInt8.lt_iff_toNat_lt] at *;by_cases h1:x.toNat < y.toNat
       ·rw [if_pos h1] at h;by_cases k1:y.toNat < z.toNat
        ·rw [if_pos O'];omega
        ·rw [if_neg k1] at k;by_cases k2:z.toNat < y.toNat
         ·rw [if_pos k2] at k;omega
         ·rw [if_pos O'];omega
       ·rw [if_neg h1] at h;by_cases h2:y.toNat < x.toNat
        ·rw [if_pos h2] at h;omega
        ·rw [if_neg h2] at h;by_cases k1:y.toNat < z.toNat
         ·rw [if_pos O'];omega
         ·rw [if_neg k1] at k;by_cases k2:z.toNat < y.toNat
          ·rw [if_pos k2] at k;omega
          ·rw [if_neg k2] at k;rw [if_neg O',if_neg O'];exact ih b c h k
theorem cpInt:Cq Lib.compareInt:=by
 refine ⟨fun x=>?_,fun x y=>?_,fun x y z=>?_⟩ <;> unfold Lib.compareInt <;> (repeat' split) <;> omega
theorem cpFlag:Cq aag:=by
 refine ⟨fun x=>by cases x <;> decide,fun x y=>by cases x <;> cases y <;> decide,fun x y z=>by cases x <;> cases y <;> cases z <;> decide⟩
theorem cpKey:Cq fun a b:ByteArray=>Lib.compareBytes a.data.toList b.data.toList:=cpBytes.at fun a:ByteArray=>a.data.toList
theorem key_eq {a b:ByteArray} (h:Lib.compareBytes a.data.toList b.data.toList = 0):a = b:=by
 have:=(J5 _ _).1 h;cases a;cases b
 simpa using this
theorem int_eq {a b:Int} (h:Lib.compareInt a b = 0):a = b:=by
 unfold Lib.compareInt at h;repeat' split at h
 all_goals omega
theorem flag_eq {a b:Bool} (h:aag a b = 0):a = b:=by cases a <;> cases b <;> first | rfl | (exfalso;revert h;decide)
theorem vals_anti:∀xs ys:List ByteArray,qW ys xs = - qW xs ys
 | [],[]=>rfl
 | [],_ :: _=>rfl
 | _ :: _,[]=>rfl
 | x :: xs,y :: ys=>by
   have h1:=cpKey.anti x y;have h2:=vals_anti xs ys;unfold qW;rw [h1,h2];by_cases h:Lib.compareBytes x.data.toList y.data.toList = 0
   ·rw [if_pos h,if_pos O']
   ·rw [if_neg h,if_neg O']
theorem vals_eq:∀{xs ys:List ByteArray},qW xs ys = 0→xs = ys
 | [],[],_=>rfl
 | [],_ :: _,h=>by simp [qW] at h
 | _ :: _,[],h=>by simp [qW] at h
 | x :: xs,y :: ys,h=>by
   unfold qW at h;by_cases h1:Lib.compareBytes x.data.toList y.data.toList = 0
   ·rw [if_pos h1] at h;rw [key_eq h1,vals_eq h]
   ·rw [if_neg h1] at h;exact absurd h h1
theorem vals_trans:∀xs ys zs:List ByteArray,qW xs ys≤0→qW ys zs≤0→qW xs zs≤0
 | [],_,[],_,_=>by simp [qW]
 | [],_,_ :: _,_,_=>by simp [qW]
 | _ :: _,[],_,h,_=>by simp [qW] at h
 | _ :: _,_ :: _,[],_,k=>by simp [qW] at k
 | x :: xs,y :: ys,z :: zs,h,k=>by
   have C:=cpKey;have ih:=vals_trans xs ys zs;unfold qW at h k ⊢;by_cases h1:Lib.compareBytes x.data.toList y.data.toList = 0
   ·rw [if_pos h1] at h;have e:=key_eq h1;subst e;by_cases h2:Lib.compareBytes x.data.toList z.data.toList = 0
    ·rw [if_pos h2] at k ⊢;exact ih h k
    ·rw [if_neg h2] at k ⊢;exact k
   ·rw [if_neg h1] at h;by_cases h2:Lib.compareBytes y.data.toList z.data.toList = 0
    ·have e:=key_eq h2;subst e;rw [if_neg h1];exact h
    ·rw [if_neg h2] at k;have h3:Lib.compareBytes x.data.toList z.data.toList < 0:=C.lt1 (x:=x) (y:=y) (z:=z) (show Lib.compareBytes x.data.toList y.data.toList < 0 by omega) k;rw [if_neg O'];omega
theorem cpVals:Cq qW:=⟨fun xs=>by have:=vals_anti xs xs;omega,vals_anti,vals_trans⟩
theorem orI3 (a b c:Int):Qa [a,b,c] = if a = 0 then (if b = 0 then c else b) else a:=by
 unfold Qa Qa Qa Qa;by_cases h:c = 0
 ·simp [h]
 ·simp [h]
theorem orI4 (a b c d:Int):Qa [a,b,c,d] = if a = 0 then (if b = 0 then (if c = 0 then d else c) else b) else a:=by
 rw [show Qa [a,b,c,d] = if a = 0 then Qa [b,c,d] else a from rfl,orI3]
theorem cpTaint:Cq fun x y:iU=>Qa (ao0 x y):=by
 have:=(cpKey.at iU.key).lex ((cpKey.at iU.value).lex (cpInt.at iU.effect));simpa only [ao0,orI3] using this
theorem cpTol:Cq fun x y:bH=>Qa (anq x y):=by
 have:=(cpKey.at bH.key).lex ((cpFlag.at bH.equal).lex ((cpKey.at bH.value).lex (cpInt.at bH.effect)));simpa only [anq,orI4] using this
theorem cpNeed:Cq fun x y:Need=>Qa (W9 x y):=by
 have:=(cpKey.at Need.key).lex ((cpInt.at Need.op).lex (cpVals.at Need.values));simpa only [W9,orI3] using this
theorem totTaint:Tot fun x y:iU=>decide (Qa (ao0 x y) < 0):=cpTaint.tot fun x y h=>by
 simp only [ao0,orI3] at h;repeat' split at h
 ·rename_i h1 h2;cases x;cases y
  simp only at *;rw [key_eq h1,key_eq h2,int_eq h]
 ·contradiction
 ·contradiction
theorem totTol:Tot fun x y:bH=>decide (Qa (anq x y) < 0):=cpTol.tot fun x y h=>by
 simp only [anq,orI4] at h;repeat' split at h
 ·rename_i h1 h2 h3;cases x;cases y
  simp only at *;rw [key_eq h1,flag_eq h2,key_eq h3,int_eq h]
 ·contradiction
 ·contradiction
 ·contradiction
theorem totNeed:Tot fun x y:Need=>decide (Qa (W9 x y) < 0):=cpNeed.tot fun x y h=>by
 simp only [W9,orI3] at h;repeat' split at h
 ·rename_i h1 h2;cases x;cases y
  simp only at *;rw [key_eq h1,int_eq h2,vals_eq h]
 ·contradiction
 ·contradiction
def insAt {α:Type} (i:Nat) (x:α) (xs:List α):List α:=xs.take i++x :: xs.drop i
theorem insAt_len {α:Type} (i:Nat) (x:α) (xs:List α):(insAt i x xs).length = xs.length+1:=by simp [insAt];omega
theorem aY.ins {α:Type} [Dat α] {w:World} {B:Nat} {xs:List α} {x:α} {ds cs:List Value} {F G:List Nat} (h:aY w B xs ds F) (hx:Own w B x cs G) (hd:∀y∈F,y∉G) (i:Nat) (hi:i≤xs.length) :
 ∃F',aY w B (insAt i x xs) (ds.take (i * Dat.size α)++(cs++ds.drop (i * Dat.size α))) F'∧(∀y∈F',y∈F∨y∈G):=by
 obtain ⟨hr,hn,hb,hp⟩:=h;rw [← List.take_append_drop i xs] at hr;obtain ⟨d1,d2,F1,F2,rfl,rfl,h1,h2⟩:=jo.of_append hr;have hl:d1.length = i * Dat.size α:=by rw [h1.len,List.length_take,Nat.min_eq_left hi]
 rw [← hl,List.take_left,List.drop_left];have hn3:=List.nodup_append.1 hn;have hsub:∀y∈F1++(G++F2),y∈F1++F2∨y∈G:=fun y hy=>by
  simp only [List.mem_append] at hy ⊢;rcases hy with hy | hy | hy <;> simp [hy]
 refine ⟨F1++(G++F2),⟨h1.append ⟨cs,d2,G,F2,rfl,rfl,hx.rd,h2⟩,?_,fun y hy=>?_,fun y hy=>?_⟩,hsub⟩
 ·rw [List.nodup_append,List.nodup_append];refine ⟨hn3.1,⟨hx.nodup,hn3.2.1,fun a ha b hb' e=>hd b (List.mem_append_right _ hb') (e ▸ ha)⟩,fun a ha b hb' e=>?_⟩;rcases List.mem_append.1 hb' with hb' | hb'
  ·exact hd a (List.mem_append_left _ ha) (e ▸ hb')
  ·exact hn3.2.2 a ha b hb' e
 ·rcases hsub y hy with hy | hy
  ·exact hb y hy
  ·exact hx.base y hy
 ·rcases hsub y hy with hy | hy
  ·exact hp y hy
  ·exact hx.plain y hy
theorem Own.of_rowI {α:Type} [Dat α] {w:World} {B:Nat} {xs:List α} {ds:List Value} {F:List Nat} {e:TypeId} {v:Value} (h0:w.ownsRow B e (Dat.size α) v xs.length ds) (h:aY w B xs ds F) (hne:∀g,v.ownBlock = some g→g∉F):∃A c G,v = .slice A xs.length c∧Own w B xs [.slice A xs.length c] G∧∀y∈G,y∈F∨v.ownBlock = some y:=by
 exact Zabx
theorem infoIHost:(Tryz.prog.info? 42).map (fun i=>(i.zero,i.size,i.bytes)) = some (some (.agg #[.string ⟨#[]⟩,.slice none 0 0,.int .i64 0,.int .i64 0,.int .i64 0,.slice none 0 0]),6,88):=by kernel_rfl
theorem elIHost:DL Tryz.prog 24 42 (.agg #[.string ⟨#[]⟩,.slice none 0 0,.int .i64 0,.int .i64 0,.int .i64 0,.slice none 0 0]) 6 88:=⟨Tryz.underlying24,infoIHost,rfl,O'⟩
theorem infoIPlaced:(Tryz.prog.info? 53).map (fun i=>(i.zero,i.size,i.bytes)) = some (some (.agg #[.string ⟨#[]⟩,.slice none 0 0,.int .i64 0,.int .i64 0,.int .i64 0,.slice none 0 0,.slice none 0 0,.string ⟨#[]⟩,.int .i64 0]),9,136):=by kernel_rfl
theorem elIPlaced:DL Tryz.prog 25 53 (.agg #[.string ⟨#[]⟩,.slice none 0 0,.int .i64 0,.int .i64 0,.int .i64 0,.slice none 0 0,.slice none 0 0,.string ⟨#[]⟩,.int .i64 0]) 9 136:=⟨Tryz.underlying25,infoIPlaced,rfl,O'⟩
def lrow (x:Label):List Value:=[.string x.key,.string x.value]
def trow (x:iU):List Value:=[.string x.key,.string x.value,.int .i64 x.effect]
def vrow (x:bH):List Value:=[.string x.key,.bool x.equal,.string x.value,.int .i64 x.effect]
section
variable {β:Type} {row:β→List Value} {S:Nat}
theorem rowsAt (hS:∀x,(row x).length = S):∀(D:List β) (k:Nat) (x:β),D[k]? = some x→∀(j:Nat) (u:Value),(row x)[j]? = some u→(D.flatMap row)[k * S+j]? = some u
 | [],_,_,h,_,_,_=>by simp at h
 | r :: rs,0,x,h,j,u,hj=>by
   exact Zad0
 | r :: rs,k+1,x,h,j,u,hj=>by
   rw [List.getElem?_cons_succ] at h;have hr:=hS r;have hk:(k+1) * S+j = k * S+j+S:=(by rw [Nat.succ_mul];omega);rw [List.flatMap_cons,List.getElem?_append_right O',hr,show (k+1) * S+j - S = k * S+j by omega];exact rowsAt hS rs k x h j u hj
theorem rowsLen (hS:∀x,(row x).length = S):∀D:List β,(D.flatMap row).length = D.length * S
 | []=>by simp
 | r :: rs=>by rw [List.flatMap_cons,List.length_append,hS,rowsLen hS rs,List.length_cons,Nat.succ_mul];omega
theorem rowsOne (h1:∀x,∀u∈row x,u.oneCell' = true) (D:List β):∀u∈D.flatMap row,u.oneCell' = true:=fun u hu=>by
 obtain ⟨x,_,hx⟩:=List.mem_flatMap.1 hu;exact h1 x u hx
theorem rows_own [Dat β] {w:World} {B e g cap:Nat} (hd:Dat.size β = S) (D:List β) (h:w.ownsRow B e S (.slice (some ⟨g,0,none⟩) D.length cap) D.length (D.flatMap row)) (hr:∀x∈D,rd w x (row x) []):∃A c G,Value.slice (some ⟨g,0,none⟩) D.length cap = .slice A D.length c∧Own w B D [.slice A D.length c] G:=by
 subst hd;have hrc:∀D:List β,(∀x∈D,rd w x (row x) [])→jo w D (D.flatMap row) []:=fun D=>by
  induction D with
  | nil=>intro _;exact ⟨rfl,rfl⟩
  | cons x D ih=>intro hD;exact ⟨row x,D.flatMap row,[],[],rfl,rfl,hD x (List.mem_cons_self ..),ih fun y hy=>hD y (List.mem_cons_of_mem _ hy)⟩
 exact Own.oJ h ⟨hrc D hr,List.nodup_nil,(fun b hb=>by cases hb),(fun b hb=>by cases hb)⟩ (fun g hg hm=>by cases hm)
end
theorem lrow_one (x:Label):∀u∈lrow x,u.oneCell' = true:=by intro u hu;simp only [lrow,List.mem_cons,List.not_mem_nil,or_false] at hu;rcases hu with rfl | rfl <;> rfl
theorem trow_one (x:iU):∀u∈trow x,u.oneCell' = true:=by intro u hu;simp only [trow,List.mem_cons,List.not_mem_nil,or_false] at hu;rcases hu with rfl | rfl | rfl <;> rfl
theorem vrow_one (x:bH):∀u∈vrow x,u.oneCell' = true:=by intro u hu;simp only [vrow,List.mem_cons,List.not_mem_nil,or_false] at hu;rcases hu with rfl | rfl | rfl | rfl <;> rfl
structure Cc (w wk:World) (cs zs os:List Value):Prop where
 box:oG wk w.heap.size cs
 rb:oG wk (w.heap.size+1) zs
 ob:oG wk (w.heap.size+1+1) os
 below:Below w.heap.size w wk
section
variable {w wk w':World} {cs zs os:List Value}
theorem Cc.new (w:World) (cs zs os:List Value) (t:TypeId):Cc w (((w.alloc (.cells cs.toArray t)).alloc (.cells zs.toArray t)).alloc (.cells os.toArray t)) cs zs os :=
 have h:=(Cp.new w cs zs t t).ext (ak (aj _) (.cells os.toArray t))
 ⟨h.box,h.rb,(by have:=oG.new ((w.alloc (.cells cs.toArray t)).alloc (.cells zs.toArray t)) os t;rw [World.size_alloc,World.size_alloc] at this;exact this),h.below⟩
theorem Cc.ext (h:Cc w wk cs zs os) (hb:Below wk.heap.size wk w'):Cc w w' cs zs os:=⟨h.box.ext hb,h.rb.ext hb,h.ob.ext hb,ah h.below hb⟩
theorem Cc.put (h:Cc w wk cs zs os) (i:Nat) (u:Value):Cc w (wk.setCell ⟨w.heap.size+1+1,i,none⟩ u) cs zs (os.set i u):=⟨h.box.far O' i u,h.rb.far O' i u,h.ob.put i u,aC h.below atX u⟩
theorem Cc.far (h:Cc w wk cs zs os) {c:Nat} (hc:w.heap.size+1+1 < c) (i:Nat) (u:Value):Cc w (wk.setCell ⟨c,i,none⟩ u) cs zs os:=⟨h.box.far O' i u,h.rb.far O' i u,h.ob.far O' i u,aC h.below atX u⟩
theorem Cc.lt (h:Cc w wk cs zs os):w.heap.size+1+1 < wk.heap.size:=h.ob.lt
theorem Cc.grown {row:Option Nat} (h:Cc w wk cs zs os) (hg:wk.grownBy w' row) (hr:∀q,row = some q→w.heap.size+1+1 < q):Cc w w' cs zs os :=
 ⟨h.box.keep (hg.block _ h.box.lt auq),h.rb.keep (hg.block _ h.rb.lt auq),h.ob.keep (hg.block _ h.ob.lt auq),
  ⟨hg.os.trans h.below.os,hg.tape.trans h.below.tape,hg.output.trans h.below.output,Nat.le_trans h.below.size hg.size,fun i hi=>(hg.block i avs auq).trans (h.below.block i hi)⟩⟩
end
theorem oG.grown {w w':World} {g:Nat} {cs:List Value} {row:Option Nat} (h:oG w g cs) (hg:w.grownBy w' row) (hr:∀q,row = some q→q≠g):oG w' g cs:=h.keep (hg.block _ h.lt (fun e=>hr g e.symm rfl))
theorem Own.aju {α:Type} [Dat α] {w w':World} {B B2:Nat} {x:α} {cs:List Value} {F:List Nat} {row:Option Nat} (h:Own w B x cs F) (hg:w.grownBy w' row) (hF:∀y∈F,y < B2) (hr:∀q,row = some q→B2≤q):Own w' B x cs F :=
 h.keep (fun y hy=>hg.block y (h.lt y hy) awM) hg.size
theorem Own.apg {w:World} {B:Nat} {p:nI} {nm:ByteArray} {n:Int} {ps:List Value} {G:List Nat} (h:Own w B p ps G) (h1:nm.size≤maxLen) (h2:I64 n):Own w B (⟨p,nm,n⟩:Placed) (ps++[.string nm,.int .i64 n]) G:=by
 refine Own.up (B':=B) (fun x:Placed=>(x.aS,x.on,x.seq)) ?_ (Nat.le_refl _);have h3:Own w (B+w.heap.size) (nm,n) ([.string nm]++[.int .i64 n]) []:=Own.cons (rdStr w nm (rV h1)) (Own.flat (jL w n h2));have h4:=Own.pair h h3 O' (fun b hb=>by have:=h.lt b hb;omega);simpa using h4
theorem Own.alU {w:World} {B B3 B4:Nat} {H:List Host} {P:List Placed} {n p q f:Int} {Ah Ap:Option Addr} {ch cp:Nat} {Gh Gp:List Nat} (h:Own w B3 H [.slice Ah H.length ch] Gh) (k:Own w B4 P [.slice Ap P.length cp] Gp) (hB:B≤B3) (hB4:B3≤B4) (hG:∀y∈Gh,y < B4) (hn:I64 n) (hp:I64 p) (hq:I64 q) (hf:I64 f) :
 Own w B (⟨H,P,n,⟨p,q,f⟩⟩:aU) [.slice Ah H.length ch,.slice Ap P.length cp,.int .i64 n,.int .i64 p,.int .i64 q,.int .i64 f] (Gh++Gp):=by
 refine Own.up (B':=B3) (fun x:aU=>(x.hosts,x.au,x.next,x.weights)) ?_ hB;have h5:Own w (B4+w.heap.size) (⟨p,q,f⟩:rZ) ([.int .i64 p]++([.int .i64 q]++[.int .i64 f])) []:=by refine Own.up (B':=B4+w.heap.size) (fun x:rZ=>(x.pack,x.spread,x.soft)) ?_ (Nat.le_refl _);exact Own.cons (jL w p hp) (Own.cons (jL w q hq) (Own.flat (jL w f hf)))
 have h6:=Own.cons (jL w n hn) h5;have h7:=Own.pair h (Own.pair k h6 O' (fun b hb=>by have:=k.lt b hb;omega)) hB4 hG;simpa using h7
theorem apR:(Tryz.prog.info? 42).map (fun i=>(i.zero,i.size,i.bytes)) = some (some ((.agg #[.string ⟨#[]⟩,.slice none 0 0,.int .i64 0,.int .i64 0,.int .i64 0,.slice none 0 0])),6,88):=by kernel_rfl
theorem aeZ:DL Tryz.prog 24 42 ((.agg #[.string ⟨#[]⟩,.slice none 0 0,.int .i64 0,.int .i64 0,.int .i64 0,.slice none 0 0])) 6 88:=⟨Tryz.underlying24,apR,rfl,O'⟩
theorem alV:(Tryz.prog.info? 53).map (fun i=>(i.zero,i.size,i.bytes)) = some (some ((.agg #[.string ⟨#[]⟩,.slice none 0 0,.int .i64 0,.int .i64 0,.int .i64 0,.slice none 0 0,.slice none 0 0,.string ⟨#[]⟩,.int .i64 0])),9,136):=by kernel_rfl
theorem YH:DL Tryz.prog 25 53 ((.agg #[.string ⟨#[]⟩,.slice none 0 0,.int .i64 0,.int .i64 0,.int .i64 0,.slice none 0 0,.slice none 0 0,.string ⟨#[]⟩,.int .i64 0])) 9 136:=⟨Tryz.underlying25,alV,rfl,O'⟩
theorem adD (x:aU) (hw:(x.wt:Int)≤1048576):(x.hosts.length:Int)≤1048576∧(x.au.length:Int)≤1048576∧Hid (∀h∈x.hosts,(h.labels.length:Int)≤1048576∧(h.aT.length:Int)≤1048576) ∧
 Hid (∀p∈x.au,(p.aS.labels.length:Int)≤1048576∧(p.aS.needs.length:Int)≤1048576∧(p.aS.tolerances.length:Int)≤1048576∧∀y∈p.aS.needs,(y.values.length:Int)≤1048576):=by
 have hwx:x.wt = kL Host.wt x.hosts+kL Placed.wt x.au:=rfl;have h1:=gJ Host.wt x.hosts;have h2:=gJ Placed.wt x.au;refine ⟨O',O',I' fun h hh=>?_,I' fun p hp=>?_⟩
 ·have h3:h.name.size+kL Label.wt h.labels+kL iU.wt h.aT≤kL Host.wt x.hosts:=Bq (f:=Host.wt) hh;have h4:=gJ Label.wt h.labels;have h5:=gJ iU.wt h.aT;constructor <;> omega
 ·have h3:(p.aS.name.size+kL Label.wt p.aS.labels+kL Need.wt p.aS.needs+kL bH.wt p.aS.tolerances)+p.on.size≤kL Placed.wt x.au:=Bq (f:=Placed.wt) hp;have h4:=gJ Label.wt p.aS.labels;have h5:=gJ Need.wt p.aS.needs;have h6:=gJ bH.wt p.aS.tolerances;refine ⟨O',O',O',fun y hy=>?_⟩;have h7:y.key.size+kL ByteArray.size y.values≤kL Need.wt p.aS.needs:=Bq (f:=Need.wt) hy;have h8:=gJ ByteArray.size y.values;omega
end Go.Proofs.YtkjeocdobidadaaGreat
