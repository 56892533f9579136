/- Worlds that only grew. No condition. -/
import Derived.Sort.Grow
import Derived.Test.YtajbbmembionpaaGreatFrame
import Derived.Shelf.Small.Bits
import Derived.Shelf.Bits.Mul64
namespace Go.Proofs.YtajbbmembionpaaGreat
open Go.ChangeShapes Go.WideShapes Go.ChangeAt Go.RowKit
set_option linter.unusedVariables false
set_option linter.unusedSimpArgs false
def Gr (w w':World):Prop:=∃q os,w' = Go.Sort.grow (w.drewN q) os
theorem Gr.refl (w:World):Gr w w:=⟨0,#[],by simp [Go.Sort.grow,World.drewN]⟩
theorem Gr.alloc {w w':World} (h:Gr w w') (o:Obj):Gr w (w'.alloc o):=by
 obtain ⟨q,os,rfl⟩:=h;exact ⟨q,os.push o,by simp [Go.Sort.grow,World.alloc,World.drewN]⟩
theorem Gr.drew {w w':World} (h:Gr w w'):Gr w w'.drew:=by
 obtain ⟨q,os,rfl⟩:=h;exact ⟨q+1,os,rfl⟩
theorem Gr.trans {w w1 w2:World} (h:Gr w w1) (k:Gr w1 w2):Gr w w2:=by
 obtain ⟨q,os,rfl⟩:=h;obtain ⟨q2,os2,rfl⟩:=k;exact ⟨q+q2,os++os2,by simp [Go.Sort.grow,World.drewN,Nat.add_assoc]⟩
theorem Gr.below {w w':World} (h:Gr w w'):Below w.heap.size w w':=by
 obtain ⟨q,os,rfl⟩:=h;exact ⟨rfl,rfl,rfl,by simp [Go.Sort.grow,World.drewN],fun k hk=>by simp [Go.Sort.grow,World.drewN,Array.getElem?_append_left hk]⟩
end Go.Proofs.YtajbbmembionpaaGreat
namespace Go.Proofs.YtajbbmembionpaaGreat
open Go.Shelf
def Bg:Go.Shelf.Ren:={
 f:=fun x=>match x with
  | 264=>54
  | n=>n
 t:=fun x=>match x with
  | 53=>88
  | 46=>134
  | n=>n
 g:=fun n=>n }
theorem Bh:Lays.n264 Tryz.prog Bg:={
 mixed:=rfl
 f264:=Tryz.func54.trans (congrArg some rfl)
 t46:=Tryz.underlying134
 a46:=Tryz.isAgg134
 z46:=Tryz.sizeOf134
 v46:=Tryz.zeroValue134
 t53:=Tryz.underlying88
 a53:=Tryz.isAgg88
 z53:=Tryz.sizeOf88
 v53:=Tryz.zeroValue88 }
def ato:Go.Shelf.Ren:={
 f:=fun x=>match x with
  | 134=>95
  | 129=>141
  | n=>n
 t:=fun x=>match x with
  | 53=>88
  | 3=>3
  | 4=>4
  | 46=>134
  | 5=>5
  | 9=>9
  | n=>n
 g:=fun n=>n }
theorem atp:Lays.n134 Tryz.prog ato:={
 mixed:=rfl
 f129:=Tryz.func141.trans (congrArg some rfl)
 f134:=Tryz.func95.trans (congrArg some rfl)
 t3:=Tryz.underlying3
 a3:=Tryz.isAgg3
 z3:=Tryz.sizeOf3
 v3:=Tryz.zeroValue3
 t4:=Tryz.underlying4
 a4:=Tryz.isAgg4
 z4:=Tryz.sizeOf4
 v4:=Tryz.zeroValue4
 t5:=Tryz.underlying5
 a5:=Tryz.isAgg5
 z5:=Tryz.sizeOf5
 v5:=Tryz.zeroValue5
 t9:=Tryz.underlying9
 a9:=Tryz.isAgg9
 z9:=Tryz.sizeOf9
 v9:=Tryz.zeroValue9
 t46:=Tryz.underlying134
 a46:=Tryz.isAgg134
 z46:=Tryz.sizeOf134
 v46:=Tryz.zeroValue134
 t53:=Tryz.underlying88
 a53:=Tryz.isAgg88
 z53:=Tryz.sizeOf88
 v53:=Tryz.zeroValue88 }
theorem ap5 (x y:Nat) (hx:x < 18446744073709551616) (hy:y < 18446744073709551616) (w:World) :
 Calls Tryz.prog 54 #[.int .u64 x,.int .u64 y] w fun e w'=>e = .returned (.tuple #[.int .u64 ((x * y / 18446744073709551616:Nat):Int),.int .u64 ((x * y % 18446744073709551616:Nat):Int)])∧w' = w:=Any.bits_Mul64 Bh x y hx hy w
theorem aaq (x:Int) (w:World) (h0:0≤x) (h1:x≤18446744073709551615) :
 Calls Tryz.prog 95 #[.int .u64 x] w fun e w'=>e = .returned (.int .i64 (64 - (Lib.bitLen x.toNat:Int)))∧w' = w:=Any.bits_LeadingZeros64 atp x w h0 h1
end Go.Proofs.YtajbbmembionpaaGreat
namespace Go.Proofs.YtajbbmembionpaaGreat
open Go.ChangeShapes Go.WideShapes Go.ChangeAt Go.RowKit
set_option linter.unusedVariables false
set_option linter.unusedSimpArgs false
variable {β:Type}
structure th (lt:β→β→Bool):Prop where
 pp:∀x,lt x x = false
 trans:∀x y z,lt x y = true→lt y z = true→lt x z = true
 LK:∀x y,lt x y = false→lt y x = false→x = y
theorem th.asym {lt:β→β→Bool} (T:th lt) {x y:β} (h:lt x y = true):lt y x = false:=by
 cases h2:lt y x with
 | false=>rfl
 | true=>have:=T.trans x y x h h2;rw [T.pp] at this;cases this
def jD (lt:β→β→Bool) (l:List β):Prop:=l.Pairwise fun x y=>lt x y = true
theorem jD.eq {lt:β→β→Bool} (T:th lt):∀{a b:List β},jD lt a→jD lt b→(∀x,x∈a↔x∈b)→a = b
 | [],[],_,_,_=>rfl
 | [],y :: b,_,_,h=>absurd ((h y).2 (List.mem_cons_self ..)) (List.not_mem_nil)
 | x :: a,[],_,_,h=>absurd ((h x).1 (List.mem_cons_self ..)) (List.not_mem_nil)
 | x :: a,y :: b,ha,hb,h=>by
   unfold jD at ha hb;rw [List.pairwise_cons] at ha hb;have no:∀{u:β} {l:List β},(∀z∈l,lt u z = true)→u∉l:=fun hl hu=>by have:=hl _ hu;rw [T.pp] at this;cases this
   have xH:x = y:=by
    rcases List.mem_cons.1 ((h x).1 (List.mem_cons_self ..)) with e | e
    ·exact e
    ·rcases List.mem_cons.1 ((h y).2 (List.mem_cons_self ..)) with e2 | e2
     ·exact e2.symm
     ·have:=T.trans _ _ _ (hb.1 x e) (ha.1 y e2);rw [T.pp] at this;cases this
   subst xH;congr 1;refine jD.eq T ha.2 hb.2 fun z=>⟨fun hz=>?_,fun hz=>?_⟩
   ·rcases List.mem_cons.1 ((h z).1 (List.mem_cons_of_mem _ hz)) with e | e
    ·subst e;exact absurd hz (no ha.1)
    ·exact e
   ·rcases List.mem_cons.1 ((h z).2 (List.mem_cons_of_mem _ hz)) with e | e
    ·subst e;exact absurd hz (no hb.1)
    ·exact e
def eK (lt:β→β→Bool) (x:β):List β→List β
 | []=>[x]
 | y :: r=>if lt y x then y :: eK lt x r else if lt x y then x :: y :: r else y :: r
theorem Ti {lt:β→β→Bool} (T:th lt) (x:β):∀(r:List β) (z:β),z∈eK lt x r↔z = x∨z∈r
 | [],z=>by simp [eK]
 | y :: r,z=>by
   unfold eK;split
   ·rw [List.mem_cons,Ti T x r z,List.mem_cons];exact ⟨fun h=>by rcases h with h | h | h <;> simp [h],fun h=>by rcases h with h | h | h <;> simp [h]⟩
   ·split
    ·simp
    ·rename_i h1 h2;have e:=T.LK x y LL (by simpa using h1);subst e;simp
theorem LM {lt:β→β→Bool} {y:β} : ∀(s1 s2:List β),(∀z∈s1,lt z y = true)→eK lt y (s1++s2) = s1++eK lt y s2
 | [],_,_=>rfl
 | z :: s1,s2,h=>by
   rw [List.cons_append,eK,if_pos (h z (List.mem_cons_self ..)),LM s1 s2 fun z' hz=>h z' (List.mem_cons_of_mem _ hz)];rfl
theorem LN {lt:β→β→Bool} {y:β} (s1:List β) (h:∀z∈s1,lt z y = true):eK lt y (s1++[]) = s1++y :: []:=by rw [LM s1 [] h];rfl
theorem LO {lt:β→β→Bool} {y z:β} (s1 s2:List β) (h:∀z∈s1,lt z y = true) (h1:lt z y = false) (h2:lt y z = true):eK lt y (s1++z :: s2) = s1++y :: z :: s2:=by
 rw [LM s1 _ h,eK,if_neg (by rw [h1];simp),if_pos h2]
theorem LP {lt:β→β→Bool} {y z:β} (s1 s2:List β) (h:∀z∈s1,lt z y = true) (h1:lt z y = false) (h2:lt y z = false):eK lt y (s1++z :: s2) = s1++z :: s2:=by
 rw [LM s1 _ h,eK,if_neg (by rw [h1];simp),if_neg (by rw [h2];simp)]
def ep (lt:β→β→Bool) (acc:List β):List β→List β
 | []=>acc
 | y :: r=>ep lt (eK lt y acc) r
theorem DG (lt:β→β→Bool) (y:β):∀(xs acc:List β),ep lt acc (xs++[y]) = eK lt y (ep lt acc xs)
 | [],_=>rfl
 | x :: xs,acc=>DG lt y xs (eK lt x acc)
theorem DH {lt:β→β→Bool} (T:th lt) (z:β):∀(xs acc:List β),z∈ep lt acc xs↔z∈acc∨z∈xs
 | [],acc=>by simp [ep]
 | x :: xs,acc=>by
   unfold ep;rw [DH T z xs,Ti T,List.mem_cons];exact ⟨fun h=>by rcases h with (h | h) | h <;> simp [h],fun h=>by rcases h with h | h | h <;> simp [h]⟩
theorem Tj (lt:β→β→Bool) (x:β):∀(r:List β),(eK lt x r).length≤r.length+1
 | []=>Nat.le_refl _
 | y :: r=>by unfold eK;split;· simp [Tj lt x r]
              ·split <;> simp
theorem xL (lt:β→β→Bool):∀(xs acc:List β),(ep lt acc xs).length≤acc.length+xs.length
 | [],_=>by simp [ep]
 | x :: xs,acc=>by have h1:=xL lt xs (eK lt x acc);have h2:=Tj lt x acc;unfold ep;simp only [List.length_cons];omega
theorem Tk (f:β→Nat) (lt:β→β→Bool) (x:β):∀(r:List β),((eK lt x r).map f).sum≤f x+(r.map f).sum
 | []=>by simp [eK]
 | y :: r=>by
   have:=Tk f lt x r;unfold eK;split
   ·exact qV
   ·split <;> simp only [List.map_cons,List.sum_cons] <;> omega
theorem DJ (f:β→Nat) (lt:β→β→Bool):∀(xs acc:List β),((ep lt acc xs).map f).sum≤(acc.map f).sum+(xs.map f).sum
 | [],_=>by simp [ep]
 | x :: xs,acc=>by
   have h1:=DJ f lt xs (eK lt x acc);have h2:=Tk f lt x acc;unfold ep;exact qV
def vD (ne:β→β→Bool) (D:List β):Nat→Bool
 | 0=>true
 | q+1=>match D[q]?,D[q+1]? with | some x,some y=>ne x y | _,_=>false
def kept (ne:β→β→Bool) (D:List β):Nat→List β
 | 0=>[]
 | p+1=>if vD ne D p then kept ne D p++D[p]?.toList else kept ne D p
theorem Tl {ne:β→β→Bool} {D:List β} {p:Nat} {y:β} (hy:D[p]? = some y) (h:vD ne D p = true):kept ne D (p+1) = kept ne D p++[y]:=by rw [kept,if_pos h,hy];rfl
theorem LR {ne:β→β→Bool} {D:List β} {p:Nat} (h:vD ne D p = false):kept ne D (p+1) = kept ne D p:=by rw [kept,if_neg (by rw [h];simp)]
theorem Tm {ne:β→β→Bool} {D:List β} : ∀{p:Nat},(∀j,j < p→vD ne D j = true)→kept ne D p = D.take p
 | 0,_=>by simp [kept]
 | p+1,h=>by
   rw [List.take_add_one,kept,if_pos (h p (Nat.lt_succ_self p)),Tm fun j hj=>h j (Nat.lt_succ_of_lt hj)]
structure vE (ne:β→β→Bool) (D:List β) (p k:Nat) (L:List β):Prop where
 size:L.length = D.length
 at_:k = (kept ne D p).length
 lt:k < p
 low:L.take k = kept ne D p
 high:∀j,p - 1≤j→L[j]? = D[j]?
theorem vE.start {ne:β→β→Bool} {D:List β} {k:Nat} (hk:k < D.length) (h:∀j,j < k→vD ne D j = true) (hn:vD ne D k = false):vE ne D (k+1) k D:=by
 have e:=Tm h;refine ⟨rfl,?_,Nat.lt_succ_self k,?_,fun j _=>rfl⟩
 ·rw [LR hn,e,List.length_take];omega
 ·rw [LR hn,e]
theorem vE.skip {ne:β→β→Bool} {D L:List β} {p k:Nat} (h:vE ne D p k L) (hn:vD ne D p = false):vE ne D (p+1) k L :=
 ⟨h.size,by rw [LR hn];exact h.at_,Nat.lt_succ_of_lt h.lt,by rw [LR hn];exact h.low,fun j hj=>h.high j J⟩
theorem vE.keep {ne:β→β→Bool} {D L:List β} {p k:Nat} {y:β} (h:vE ne D p k L) (hy:D[p]? = some y) (hn:vD ne D p = true):vE ne D (p+1) (k+1) (L.set k y):=by
 have hp:=(List.getElem?_eq_some_iff.1 hy).1;have h1:=h.lt;have h2:=h.size;refine ⟨by rw [List.length_set];exact h.size,by rw [Tl hy hn,List.length_append,← h.at_];rfl,Nat.succ_lt_succ h.lt,?_,fun j hj=>?_⟩
 ·rw [Tl hy hn,← h.low,List.take_add_one,List.take_set_of_le (Nat.le_refl k),List.getElem?_set_self J];rfl
 ·rw [List.getElem?_set_ne J];exact h.high j J
end Go.Proofs.YtajbbmembionpaaGreat
