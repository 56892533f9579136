/- Sorting without doubles, at a total order (plain Lean). No condition. -/
import Derived.Test.YtjahcnjmjahbaaaGreatFrame
import Derived.Sort.Grow
import Derived.Lib.ItoaNum
import Derived.StillTail
import Derived.Deep.RegionHeld
namespace Go.Proofs.YtjahcnjmjahbaaaGreat
open Go.ChangeShapes Go.WideShapes Go.ChangeAt Go.RowKit
set_option linter.unusedVariables false
set_option linter.unusedSimpArgs false
set_option maxRecDepth 4000
section
variable {β:Type}
structure vt (lt:β→β→Bool):Prop where
 DE:∀x,lt x x = false
 trans:∀x y z,lt x y = true→lt y z = true→lt x z = true
 N9:∀x y,lt x y = false→lt y x = false→x = y
def iA (lt:β→β→Bool) (l:List β):Prop:=l.Pairwise fun x y=>lt x y = true
theorem iA.eq {lt:β→β→Bool} (T:vt lt):∀{a b:List β},iA lt a→iA lt b→(∀x,x∈a↔x∈b)→a = b
 | [],[],_,_,_=>rfl
 | [],y :: b,_,_,h=>absurd ((h y).2 (List.mem_cons_self ..)) (List.not_mem_nil)
 | x :: a,[],_,_,h=>absurd ((h x).1 (List.mem_cons_self ..)) (List.not_mem_nil)
 | x :: a,y :: b,ha,hb,h=>by
   unfold iA at ha hb;rw [List.pairwise_cons] at ha hb;have no:∀{u:β} {l:List β},(∀z∈l,lt u z = true)→u∉l:=fun hl hu=>by have:=hl _ hu;rw [T.DE] at this;cases this
   have xT:x = y:=by
    rcases List.mem_cons.1 ((h x).1 (List.mem_cons_self ..)) with e | e
    ·exact e
    ·rcases List.mem_cons.1 ((h y).2 (List.mem_cons_self ..)) with e2 | e2
     ·exact e2.symm
     ·have:=T.trans _ _ _ (hb.1 x e) (ha.1 y e2);rw [T.DE] at this;cases this
   subst xT;congr 1;refine iA.eq T ha.2 hb.2 fun z=>⟨fun hz=>?_,fun hz=>?_⟩
   ·rcases List.mem_cons.1 ((h z).1 (List.mem_cons_of_mem _ hz)) with e | e
    ·subst e;exact absurd hz (no ha.1)
    ·exact e
   ·rcases List.mem_cons.1 ((h z).2 (List.mem_cons_of_mem _ hz)) with e | e
    ·subst e;exact absurd hz (no hb.1)
    ·exact e
def eJ (lt:β→β→Bool) (x:β):List β→List β
 | []=>[x]
 | y :: r=>if lt y x then y :: eJ lt x r else if lt x y then x :: y :: r else y :: r
theorem XT {lt:β→β→Bool} (T:vt lt) (x:β):∀(r:List β) (z:β),z∈eJ lt x r↔z = x∨z∈r
 | [],z=>by simp [eJ]
 | y :: r,z=>by
   unfold eJ;split
   ·rw [List.mem_cons,XT T x r z,List.mem_cons];exact ⟨fun h=>by rcases h with h | h | h <;> simp [h],fun h=>by rcases h with h | h | h <;> simp [h]⟩
   ·split
    ·simp
    ·rename_i h1 h2;have e:=T.N9 x y Rc (by simpa using h1);subst e;simp
theorem Oc {lt:β→β→Bool} {y:β} : ∀(s1 s2:List β),(∀z∈s1,lt z y = true)→eJ lt y (s1++s2) = s1++eJ lt y s2
 | [],_,_=>rfl
 | z :: s1,s2,h=>by
   rw [List.cons_append,eJ,if_pos (h z (List.mem_cons_self ..)),Oc s1 s2 fun z' hz=>h z' (List.mem_cons_of_mem _ hz)];rfl
theorem Od {lt:β→β→Bool} {y:β} (s1:List β) (h:∀z∈s1,lt z y = true):eJ lt y (s1++[]) = s1++y :: []:=by rw [Oc s1 [] h];rfl
theorem Of {lt:β→β→Bool} {y z:β} (s1 s2:List β) (h:∀z∈s1,lt z y = true) (h1:lt z y = false) (h2:lt y z = true):eJ lt y (s1++z :: s2) = s1++y :: z :: s2:=by
 rw [Oc s1 _ h,eJ,if_neg (by rw [h1];simp),if_pos h2]
theorem Oh {lt:β→β→Bool} {y z:β} (s1 s2:List β) (h:∀z∈s1,lt z y = true) (h1:lt z y = false) (h2:lt y z = false):eJ lt y (s1++z :: s2) = s1++z :: s2:=by
 rw [Oc s1 _ h,eJ,if_neg (by rw [h1];simp),if_neg (by rw [h2];simp)]
def eg (lt:β→β→Bool) (acc:List β):List β→List β
 | []=>acc
 | y :: r=>eg lt (eJ lt y acc) r
theorem EP (lt:β→β→Bool) (y:β):∀(xs acc:List β),eg lt acc (xs++[y]) = eJ lt y (eg lt acc xs)
 | [],_=>rfl
 | x :: xs,acc=>EP lt y xs (eJ lt x acc)
theorem EQ {lt:β→β→Bool} (T:vt lt) (z:β):∀(xs acc:List β),z∈eg lt acc xs↔z∈acc∨z∈xs
 | [],acc=>by simp [eg]
 | x :: xs,acc=>by
   unfold eg;rw [EQ T z xs,XT T,List.mem_cons];exact ⟨fun h=>by rcases h with (h | h) | h <;> simp [h],fun h=>by rcases h with h | h | h <;> simp [h]⟩
theorem XU (lt:β→β→Bool) (x:β):∀(r:List β),(eJ lt x r).length≤r.length+1
 | []=>Nat.le_refl _
 | y :: r=>by unfold eJ;split;· simp [XU lt x r]
              ·split <;> simp
theorem xU (lt:β→β→Bool):∀(xs acc:List β),(eg lt acc xs).length≤acc.length+xs.length
 | [],_=>by simp [eg]
 | x :: xs,acc=>by have h1:=xU lt xs (eJ lt x acc);have h2:=XU lt x acc;unfold eg;simp only [List.length_cons];omega
theorem XV (f:β→Nat) (lt:β→β→Bool) (x:β):∀(r:List β),((eJ lt x r).map f).sum≤f x+(r.map f).sum
 | []=>by simp [eJ]
 | y :: r=>by
   have:=XV f lt x r;unfold eJ;split
   ·exact p'
   ·split <;> simp only [List.map_cons,List.sum_cons] <;> omega
theorem ER (f:β→Nat) (lt:β→β→Bool):∀(xs acc:List β),((eg lt acc xs).map f).sum≤(acc.map f).sum+(xs.map f).sum
 | [],_=>by simp [eg]
 | x :: xs,acc=>by
   have h1:=ER f lt xs (eJ lt x acc);have h2:=XV f lt x acc;unfold eg;exact p'
def ES (ne:β→β→Bool) (D:List β):Nat→Bool
 | 0=>true
 | q+1=>match D[q]?,D[q+1]? with | some x,some y=>ne x y | _,_=>false
def kept (ne:β→β→Bool) (D:List β):Nat→List β
 | 0=>[]
 | p+1=>if ES ne D p then kept ne D p++D[p]?.toList else kept ne D p
theorem XW {ne:β→β→Bool} {D:List β} {p:Nat} {y:β} (hy:D[p]? = some y) (h:ES ne D p = true):kept ne D (p+1) = kept ne D p++[y]:=by rw [kept,if_pos h,hy];rfl
theorem XY {ne:β→β→Bool} {D:List β} {p:Nat} (h:ES ne D p = false):kept ne D (p+1) = kept ne D p:=by rw [kept,if_neg (by rw [h];simp)]
structure DG (ne:β→β→Bool) (D:List β) (p k:Nat) (L:List β):Prop where
 size:L.length = D.length
 gj:k = (kept ne D p).length
 lt:k < p
 Re:L.take k = kept ne D p
 ET:∀j,p - 1≤j→L[j]? = D[j]?
theorem DG.skip {ne:β→β→Bool} {D L:List β} {p k:Nat} (h:DG ne D p k L) (hn:ES ne D p = false):DG ne D (p+1) k L :=
 ⟨h.size,by rw [XY hn];exact h.gj,Nat.lt_succ_of_lt h.lt,by rw [XY hn];exact h.Re,fun j hj=>h.ET j J⟩
theorem DG.br {ne:β→β→Bool} {D L:List β} {p k:Nat} {y:β} (h:DG ne D p k L) (hy:D[p]? = some y) (hn:ES ne D p = true):DG ne D (p+1) (k+1) (L.set k y):=by
 have hp:=(List.getElem?_eq_some_iff.1 hy).1;have h1:=h.lt;have h2:=h.size;refine ⟨by rw [List.length_set];exact h.size,by rw [XW hy hn,List.length_append,← h.gj];rfl,Nat.succ_lt_succ h.lt,?_,fun j hj=>?_⟩
 ·rw [XW hy hn,← h.Re,List.take_add_one,List.take_set_of_le (Nat.le_refl k),List.getElem?_set_self J];rfl
 ·rw [List.getElem?_set_ne J];exact h.ET j J
end
section
variable {β:Type} (lt:β→β→Bool)
def OM (y:β):List β→List β
 | []=>[y]
 | x :: xs=>if lt y x then y :: x :: xs else x :: OM y xs
def bJ:List β→List β→List β
 | acc,[]=>acc
 | acc,y :: ys=>bJ (OM lt y acc) ys
def fO:List β→List β→List β
 | [],r=>r
 | l,[]=>l
 | x :: l,y :: r=>if lt y x then y :: fO (x :: l) r else x :: fO l (y :: r)
termination_by l r=>l.length+r.length
structure uG:Prop where
 DE:∀x,lt x x = false
 tr:∀x y z,lt x y = true→lt y z = true→lt x z = true
 neg:∀x y z,lt x y = false→lt y z = false→lt x z = false
def rh (l:List β):Prop:=l.Pairwise fun x y=>lt y x = false
variable {lt}
theorem uG.left (W:uG lt) {x y z:β} (h:lt x y = true) (h2:lt z y = false):lt x z = true:=by
 cases h3:lt x z
 ·have:=W.neg x z y h3 h2;rw [this] at h;cases h
 ·rfl
theorem uG.right (W:uG lt) {x y z:β} (h:lt y x = false) (h2:lt y z = true):lt x z = true:=by
 cases h3:lt x z
 ·have:=W.neg y x z h h3;rw [this] at h2;cases h2
 ·rfl
theorem ig (r:List β):fO lt [] r = r:=by unfold fO;rfl
theorem gZ (l:List β):fO lt l [] = l:=by
 cases l with
 | nil=>exact ig []
 | cons x l=>unfold fO;rfl
theorem lK (x y:β) (l r:List β):fO lt (x :: l) (y :: r) = if lt y x then y :: fO lt (x :: l) r else x :: fO lt l (y :: r):=by
 conv=>lhs;unfold fO
theorem fU:∀(l r:List β),(fO lt l r).length = l.length+r.length
 | [],r=>by rw [ig];simp
 | x :: l,[]=>by rw [gZ];simp
 | x :: l,y :: r=>by
   rw [lK];split
   ·rw [List.length_cons,fU (x :: l) r];simp only [List.length_cons];omega
   ·rw [List.length_cons,fU l (y :: r)];simp only [List.length_cons];omega
termination_by l r=>l.length+r.length
theorem xK (y:β):∀l:List β,OM lt y l = fO lt l [y]
 | []=>by rw [ig];rfl
 | x :: l=>by
   rw [OM,lK];split
   ·rw [gZ]
   ·rw [xK y l]
theorem MK {z:β} : ∀{l r:List β},z∈fO lt l r→z∈l∨z∈r
 | [],r,h=>by rw [ig] at h;exact .inr h
 | x :: l,[],h=>by rw [gZ] at h;exact .inl h
 | x :: l,y :: r,h=>by
   rw [lK] at h;split at h
   ·rcases List.mem_cons.1 h with rfl | h
    ·exact .inr (List.mem_cons_self ..)
    ·rcases MK h with h | h
     ·exact .inl h
     ·exact .inr (List.mem_cons_of_mem _ h)
   ·rcases List.mem_cons.1 h with rfl | h
    ·exact .inl (List.mem_cons_self ..)
    ·rcases MK h with h | h
     ·exact .inl (List.mem_cons_of_mem _ h)
     ·exact .inr h
termination_by l r=>l.length+r.length
theorem UW:∀(ys acc:List β),bJ lt acc ys = ys.foldl (fun l y=>fO lt l [y]) acc
 | [],_=>rfl
 | y :: ys,acc=>by rw [bJ,xK,UW ys];rfl
theorem rD:∀(ys acc:List β),(bJ lt acc ys).length = acc.length+ys.length
 | [],_=>rfl
 | y :: ys,acc=>by rw [bJ,rD ys,xK,fU];simp only [List.length_cons,List.length_nil];omega
theorem V3 (xs:List β) (y:β):bJ lt [] (xs++[y]) = OM lt y (bJ lt [] xs):=by
 rw [UW,UW,List.foldl_append,xK];rfl
end
def Gr (w w':World):Prop:=∃q os,w' = Go.Sort.grow (w.drewN q) os
theorem Gr.refl (w:World):Gr w w:=⟨0,#[],by simp [Go.Sort.grow,World.drewN]⟩
theorem Gr.alloc {w w':World} (h:Gr w w') (o:Obj):Gr w (w'.alloc o):=by
 obtain ⟨q,os,rfl⟩:=h;exact ⟨q,os.push o,by simp [Go.Sort.grow,World.alloc,World.drewN]⟩
theorem Gr.drew {w w':World} (h:Gr w w'):Gr w w'.drew:=by
 obtain ⟨q,os,rfl⟩:=h;exact ⟨q+1,os,rfl⟩
theorem Gr.trans {w w1 w2:World} (h:Gr w w1) (k:Gr w1 w2):Gr w w2:=by
 obtain ⟨q,os,rfl⟩:=h;obtain ⟨q2,os2,rfl⟩:=k;exact ⟨q+q2,os++os2,by simp [Go.Sort.grow,World.drewN,Nat.add_assoc]⟩
theorem Gr.aM {w w':World} (h:Gr w w'):Below w.heap.size w w':=by
 obtain ⟨q,os,rfl⟩:=h;exact ⟨rfl,rfl,rfl,by simp [Go.Sort.grow,World.drewN],fun k hk=>by simp [Go.Sort.grow,World.drewN,Array.getElem?_append_left hk]⟩
structure tg (un v1 v0 u0 q r:Nat):Prop where
 sum:q * v1+r = un
 Re:r < 4294967296
 L7:un * 4294967296+u0 < (q+1) * (v1 * 4294967296+v0)
 few:q≤4294967297
theorem afz {un v1 v0 u0 q r:Nat} (h:tg un v1 v0 u0 q r):q * (v1 * 4294967296+v0)+r * 4294967296 = un * 4294967296+q * v0:=by
 have e:=h.sum;rw [Nat.mul_add,← Nat.mul_assoc,← e,Nat.add_mul,Nat.add_right_comm]
theorem tg.L8 {un v1 v0 u0 q r:Nat} (h:tg un v1 v0 u0 q r) (D3:un < v1 * 4294967296+v0) (h1:2147483648≤v1) (hu:u0 < 4294967296) (ht:4294967296≤q∨4294967296 * r+u0 < q * v0):un * 4294967296+u0 < q * (v1 * 4294967296+v0):=by
 rcases ht with ht | ht
 ·have:4294967296 * (v1 * 4294967296+v0)≤q * (v1 * 4294967296+v0):=Nat.mul_le_mul_right _ ht;omega
 ·have:=afz h;omega
theorem tg.done {un v1 v0 u0 q r:Nat} (h:tg un v1 v0 u0 q r) (h1:2147483648≤v1) (ht:q * v0≤4294967296 * r+u0):q = (un * 4294967296+u0) / (v1 * 4294967296+v0):=by
 have:=afz h;have ha:=h.L7;have:(un * 4294967296+u0) / (v1 * 4294967296+v0) = q:=by
  rw [Nat.div_eq_iff J];have:(q+1) * (v1 * 4294967296+v0) = q * (v1 * 4294967296+v0)+(v1 * 4294967296+v0):=by rw [Nat.add_mul];omega
  omega
 exact this.symm
theorem tg.pos {un v1 v0 u0 q r:Nat} (h:un * 4294967296+u0 < q * (v1 * 4294967296+v0)):0 < q:=by
 cases q with
 | zero=>simp at h
 | succ q=>omega
theorem tg.next {un v1 v0 u0 q r:Nat} (h:tg un v1 v0 u0 q r) (ho:un * 4294967296+u0 < q * (v1 * 4294967296+v0)) (hr:r+v1 < 4294967296):tg un v1 v0 u0 (q - 1) (r+v1):=by
 have hq:=tg.pos (r:=r) ho;obtain ⟨k,rfl⟩:∃k,q = k+1:=⟨q - 1,J⟩;have e:=h.sum;rw [Nat.add_mul] at e;exact ⟨by simp only [Nat.add_sub_cancel];omega,hr,by simpa using ho,by have:=h.few;omega⟩
structure aqI (hi lo y S Y v1 v0 un L u1 u0:Nat):Prop where
 eY:IntKind.u64.wrap ((y:Int) * 2 ^ S) = (Y:Int)
 ev1:(Y:Int) / 4294967296 = (v1:Int)
 ev0:bits .and .u64 (Y:Int) 4294967295 = (v0:Int)
 eun:bits .or .u64 (IntKind.u64.wrap ((hi:Int) * 2 ^ S)) ((lo:Int) / 2 ^ (64 - S)) = (un:Int)
 eL:IntKind.u64.wrap ((lo:Int) * 2 ^ S) = (L:Int)
 eu1:(L:Int) / 4294967296 = (u1:Int)
 eu0:bits .and .u64 (L:Int) 4294967295 = (u0:Int)
 lv1:2147483648≤v1
 lv1b:v1 < 4294967296
 lv0:v0 < 4294967296
 lu1:u1 < 4294967296
 lu0:u0 < 4294967296
 lY:Y = v1 * 4294967296+v0
 lun:un < Y
 whole:(un * 4294967296+u1) * 4294967296+u0 = (hi * 18446744073709551616+lo) * 2 ^ S
 yY:Y = y * 2 ^ S
theorem apY {part whole n rest:Nat} (h:n * whole+rest = 100 * part) (hr:rest < whole):n = 100 * part / whole:=by
 have:100 * part / whole = n:=by rw [Nat.div_eq_iff J];omega
 exact this.symm
def bi (n:Int):Prop:=-9223372036854775808≤n∧n≤9223372036854775807
class bd (α:Type) where
 size:Nat
 pos:0 < size
 rd:World→α→List Value→List Nat→Prop
 len:∀{w a cs F},rd w a cs F→cs.length = size
 one:∀{w a cs F},rd w a cs F→∀u∈cs,u.oneCell' = true
 lt:∀{w a cs F},rd w a cs F→∀b∈F,b < w.heap.size
 frame:∀{w w':World} {a cs F},rd w a cs F→(∀b∈F,w'.heap[b]? = w.heap[b]?)→w.heap.size≤w'.heap.size→rd w' a cs F
export bd (rd)
instance:bd Int where
 size:=1
 pos:=by omega
 rd _ n cs F:=cs = [.int .i64 n]∧F = []∧bi n
 len h:=by rw [h.1];rfl
 one h:=by rw [h.1];intro u hu;simp at hu;subst hu;rfl
 lt h:=by rw [h.2.1];intro b hb;cases hb
 frame h _ _:=h
instance:bd Bool where
 size:=1
 pos:=by omega
 rd _ n cs F:=cs = [.bool n]∧F = []
 len h:=by rw [h.1];rfl
 one h:=by rw [h.1];intro u hu;simp at hu;subst hu;rfl
 lt h:=by rw [h.2];intro b hb;cases hb
 frame h _ _:=h
instance:bd ByteArray where
 size:=1
 pos:=by omega
 rd _ n cs F:=cs = [.string n]∧F = []∧n.size≤maxLen
 len h:=by rw [h.1];rfl
 one h:=by rw [h.1];intro u hu;simp at hu;subst hu;rfl
 lt h:=by rw [h.2.1];intro b hb;cases hb
 frame h _ _:=h
instance {α β:Type} [bd α] [bd β]:bd (α × β) where
 size:=bd.size α+bd.size β
 pos:=by have:=bd.pos (α:=α);omega
 rd w x cs F:=∃c1 c2 F1 F2,cs = c1++c2∧F = F1++F2∧rd w x.1 c1 F1∧rd w x.2 c2 F2
 len h:=by obtain ⟨c1,c2,F1,F2,rfl,rfl,h1,h2⟩:=h;rw [List.length_append,bd.len h1,bd.len h2]
 one h:=by
  obtain ⟨c1,c2,F1,F2,rfl,rfl,h1,h2⟩:=h;intro u hu;rcases List.mem_append.1 hu with hu | hu
  ·exact bd.one h1 u hu
  ·exact bd.one h2 u hu
 lt h:=by
   obtain ⟨c1,c2,F1,F2,rfl,rfl,h1,h2⟩:=h;intro b hb;rcases List.mem_append.1 hb with hb | hb
   ·exact bd.lt h1 b hb
   ·exact bd.lt h2 b hb
 frame h hk hz:=by
  obtain ⟨c1,c2,F1,F2,rfl,rfl,h1,h2⟩:=h;exact ⟨c1,c2,F1,F2,rfl,rfl,bd.frame h1 (fun b hb=>hk b (List.mem_append_left _ hb)) hz,bd.frame h2 (fun b hb=>hk b (List.mem_append_right _ hb)) hz⟩
@[reducible] def bd.oc {α β:Type} (f:α→β) [bd β]:bd α where
  size:=bd.size β
  pos:=bd.pos
  rd w x:=rd w (f x)
  len h:=bd.len h
  one h:=bd.one h
  lt h:=bd.lt h
  frame h:=bd.frame h
def jo {α:Type} [bd α] (w:World):List α→List Value→List Nat→Prop
 | [],cs,F=>cs = []∧F = []
 | x :: xs,cs,F=>∃c1 c2 F1 F2,cs = c1++c2∧F = F1++F2∧rd w x c1 F1∧jo w xs c2 F2
section
variable {α:Type} [bd α]
theorem jo.len {w:World} : ∀{xs:List α} {cs:List Value} {F:List Nat},jo w xs cs F→cs.length = xs.length * bd.size α
 | [],_,_,h=>by rw [h.1];simp
 | x :: xs,_,_,⟨c1,c2,F1,F2,rfl,rfl,h1,h2⟩=>by
   rw [List.length_append,bd.len h1,jo.len h2,List.length_cons,Nat.succ_mul];omega
theorem jo.one {w:World} : ∀{xs:List α} {cs:List Value} {F:List Nat},jo w xs cs F→∀u∈cs,u.oneCell' = true
 | [],_,_,h=>by rw [h.1];intro u hu;cases hu
 | x :: xs,_,_,⟨c1,c2,F1,F2,rfl,rfl,h1,h2⟩=>by
   intro u hu;rcases List.mem_append.1 hu with hu | hu
   ·exact bd.one h1 u hu
   ·exact jo.one h2 u hu
theorem jo.lt {w:World} : ∀{xs:List α} {cs:List Value} {F:List Nat},jo w xs cs F→∀b∈F,b < w.heap.size
 | [],_,_,h=>by rw [h.2];intro b hb;cases hb
 | x :: xs,_,_,⟨c1,c2,F1,F2,rfl,rfl,h1,h2⟩=>by
   intro b hb;rcases List.mem_append.1 hb with hb | hb
   ·exact bd.lt h1 b hb
   ·exact jo.lt h2 b hb
theorem jo.frame {w w':World} : ∀{xs:List α} {cs:List Value} {F:List Nat},jo w xs cs F→(∀b∈F,w'.heap[b]? = w.heap[b]?)→w.heap.size≤w'.heap.size→jo w' xs cs F
 | [],_,_,h,_,_=>h
 | x :: xs,_,_,⟨c1,c2,F1,F2,rfl,rfl,h1,h2⟩,hk,hz =>⟨c1,c2,F1,F2,rfl,rfl,bd.frame h1 (fun b hb=>hk b (List.mem_append_left _ hb)) hz,jo.frame h2 (fun b hb=>hk b (List.mem_append_right _ hb)) hz⟩
theorem jo.append {w:World} : ∀{xs ys:List α} {c1 c2:List Value} {F1 F2:List Nat},jo w xs c1 F1→jo w ys c2 F2→jo w (xs++ys) (c1++c2) (F1++F2)
 | [],_,_,_,_,_,⟨rfl,rfl⟩,h2=>h2
 | x :: xs,ys,_,c2,_,F2,⟨d1,d2,G1,G2,rfl,rfl,h1,h2⟩,h3 =>⟨d1,d2++c2,G1,G2++F2,S',S',h1,jo.append h2 h3⟩
theorem jo.single {w:World} {x:α} {cs:List Value} {F:List Nat} (h:rd w x cs F):jo w [x] cs F:=⟨cs,[],F,[],S',S',h,rfl,rfl⟩
theorem jo.fu {w:World} : ∀{xs ys:List α} {cs:List Value} {F:List Nat},jo w (xs++ys) cs F→∃c1 c2 F1 F2,cs = c1++c2∧F = F1++F2∧jo w xs c1 F1∧jo w ys c2 F2
 | [],_,cs,F,h=>⟨[],cs,[],F,rfl,rfl,⟨rfl,rfl⟩,h⟩
 | x :: xs,ys,_,_,⟨d1,d2,G1,G2,rfl,rfl,h1,h2⟩=>by
   obtain ⟨e1,e2,H1,H2,rfl,rfl,h3,h4⟩:=jo.fu h2;exact ⟨d1++e1,e2,G1++H1,H2,S',S',⟨d1,e1,G1,H1,rfl,rfl,h1,h3⟩,h4⟩
theorem jo.get {w:World} {xs:List α} {cs:List Value} {F:List Nat} (h:jo w xs cs F) {k:Nat} (hk:k < xs.length) :
 ∃ck Fk,rd w xs[k] ck Fk∧(∀b∈Fk,b∈F)∧∀j,j < bd.size α→cs[k * bd.size α+j]? = ck[j]?:=by
 have e:xs = xs.take k++(xs[k] :: xs.drop (k+1)):=by rw [List.getElem_cons_drop,List.take_append_drop]
 rw [e] at h;obtain ⟨c1,c2,F1,F2,rfl,rfl,h1,ck,c3,Fk,F3,rfl,rfl,h2,h3⟩:=jo.fu h;have hl:=h1.len;rw [List.length_take,Nat.min_eq_left J] at hl;refine ⟨ck,Fk,h2,fun b hb=>by simp [hb],fun j hj=>?_⟩;rw [List.getElem?_append_right J,List.getElem?_append_left (by have:=bd.len h2;omega)];congr 1;omega
end
theorem rV {s:ByteArray} (h:s.size≤maxLen):(s.size:Int)≤9223372036854775807:=by unfold maxLen at h;omega
theorem cV (w:World) (s:ByteArray) (h:(s.size:Int)≤9223372036854775807):rd w s [.string s] []:=⟨rfl,rfl,by unfold maxLen;omega⟩
theorem jL (w:World) (n:Int) (h:bi n):rd w n [.int .i64 n] []:=⟨rfl,rfl,h⟩
instance {α:Type} [bd α]:bd (List α) where
 size:=1
 pos:=by omega
 rd w xs cs F:=∃A c G ds,cs = [.slice A xs.length c]∧xs.length≤c∧c≤maxLen∧jo w xs ds G ∧
   ((xs = []∧F = [])∨∃b o,A = some ⟨b,o,none⟩∧F = b :: G∧b < w.heap.size∧∀j u,ds[j]? = some u→w.cell? ⟨b,o+j,none⟩ = some u)
 len h:=by obtain ⟨A,c,G,ds,rfl,_⟩:=h;rfl
 one h:=by obtain ⟨A,c,G,ds,rfl,_⟩:=h;intro u hu;simp at hu;subst hu;rfl
 lt h:=by
   obtain ⟨A,c,G,ds,rfl,_,_,hc,h | ⟨b,o,rfl,rfl,hb,_⟩⟩:=h
   ·rw [h.2];intro b hb;cases hb
   ·intro x hx;rcases List.mem_cons.1 hx with rfl | hx
    ·exact hb
    ·exact hc.lt x hx
 frame h hk hz:=by
  obtain ⟨A,c,G,ds,rfl,h1,h2,hc,h | ⟨b,o,rfl,rfl,hb,cj⟩⟩:=h
  ·obtain ⟨rfl,rfl⟩:=h;obtain ⟨rfl,rfl⟩:=hc;exact ⟨A,c,[],[],rfl,h1,h2,⟨rfl,rfl⟩,.inl ⟨rfl,rfl⟩⟩
  ·refine ⟨_,c,G,ds,rfl,h1,h2,hc.frame (fun x hx=>hk x (List.mem_cons_of_mem _ hx)) hz,.inr ⟨b,o,rfl,rfl,Nat.lt_of_lt_of_le hb hz,fun j u hu=>?_⟩⟩;rw [← cj j u hu];exact World.cell?_of_block (hk b (List.mem_cons_self ..))
def Sl {α:Type} [bd α] (w:World) (xs:List α) (A:Option Addr) (c:Nat) (F:List Nat):Prop:=rd w xs [.slice A xs.length c] F
section
variable {α:Type} [bd α] {w w':World} {xs:List α} {A:Option Addr} {c:Nat} {F:List Nat}
theorem jB {v:List Value} (h:rd w xs v F):∃A c,v = [.slice A xs.length c]∧Sl w xs A c F:=by
 have h0:=h;obtain ⟨A,c,G,ds,rfl,_⟩:=h;exact ⟨A,c,rfl,h0⟩
theorem Sl.lt (h:Sl w xs A c F):∀b∈F,b < w.heap.size:=bd.lt h
theorem Sl.frame (h:Sl w xs A c F) (hk:∀b∈F,w'.heap[b]? = w.heap[b]?) (hz:w.heap.size≤w'.heap.size):Sl w' xs A c F:=bd.frame h hk hz
theorem Sl.aM {B:Nat} (h:Sl w xs A c F) (hb:Below B w w') (hB:∀b∈F,b < B):Sl w' xs A c F:=h.frame (fun b d9=>hb.block b (hB b d9)) hb.size
theorem Sl.ext (h:Sl w xs A c F) (hb:Below w.heap.size w w'):Sl w' xs A c F:=h.aM hb h.lt
theorem Sl.aL (h:Sl w xs A c F):xs.length≤c∧c≤maxLen:=by
 obtain ⟨A',c',G,ds,e,h1,h2,_⟩:=h;simp at e;obtain ⟨_,rfl⟩:=e;exact ⟨h1,h2⟩
theorem Sl.get (h:Sl w xs A c F) {k:Nat} (hk:k < xs.length) :
 ∃b o ck Fk,A = some ⟨b,o,none⟩∧b∈F∧b < w.heap.size∧rd w xs[k] ck Fk∧(∀x∈Fk,x∈F)∧∀j u,ck[j]? = some u→w.cell? ⟨b,o+(k * bd.size α+j),none⟩ = some u:=by
 obtain ⟨A',c',G,ds,e,_,_,hc,h | ⟨b,o,rfl,rfl,hb,cj⟩⟩:=h
 ·rw [h.1] at hk;cases hk
 ·simp at e;obtain ⟨rfl,rfl⟩:=e;obtain ⟨ck,Fk,hr,hs,hj⟩:=hc.get hk;refine ⟨b,o,ck,Fk,rfl,List.mem_cons_self ..,hb,hr,fun x hx=>List.mem_cons_of_mem _ (hs x hx),fun j u hu=>cj _ u ?_⟩;rw [hj j (by rw [← bd.len hr];exact (List.getElem?_eq_some_iff.1 hu).1)];exact hu
theorem Sl.nil (w:World) (A:Option Addr) (c:Nat) (hc:c≤maxLen):Sl w ([]:List α) A c []:=⟨A,c,[],[],rfl,Nat.zero_le _,hc,⟨rfl,rfl⟩,.inl ⟨rfl,rfl⟩⟩
end
structure ao where
 key:ByteArray
 value:ByteArray
instance:bd ao:=bd.oc fun l=>(l.key,l.value)
section
variable {P:Program} {ops:Array Oper} {md:Region.Mode} {C:World→Prop}
def ft (P:Program) (C:World→Prop) (v:Value):Result Next→Prop
 | .ok (.value u) w'=>C w'∧u = v
 | .ok .skip w'=>C w'∧v = undef
 | .ok (.enter f args) w'=>Calls P f args w' (fun e Pv=>e = .returned v∧C Pv)
 | _=>False
def dE (P:Program) (ops:Array Oper) (C:World→Prop) (o:Oper) (v:Value) (a:Act):Prop :=
 if Region.wanted o (yielded ops a.tmps) then ∀w,C w→ft P C v ((execOp a.eval o).run P w) else v = undef
theorem ait {o:Oper} {a:Act} {v:Value} {K:Act→World→Prop} {Q:Exit→Act→World→Prop} {w:World}
 (h:ft P C v ((execOp a.eval o).run P w)) (hK:∀w',C w'→K (a.put o.dst v) w'):o.wp P a w K Q:=by
 unfold Oper.wp;revert h;generalize (execOp a.eval o).run P w = r;intro h;match r,h with
 | .ok (.value u) w',h=>obtain ⟨h1,rfl⟩:=h;exact hK _ h1
 | .ok .skip w',h=>obtain ⟨h1,rfl⟩:=h;exact hK _ h1
 | .ok (.enter f args) w',h =>refine Calls.mono (R:=fun e Pv=>e = .returned v∧C Pv) h (fun e Pv hh=>?_);obtain ⟨rfl,hw⟩:=hh;exact hK _ hw
theorem dE.wpOp {i:Nat} {o:Oper} {v:Value} {a:Act} {K:Act→World→Prop} {Q:Exit→Act→World→Prop} {w:World} (hi:ops[i]? = some o) (hg:dE P ops C o v a) (hw:C w)
 (hK:∀w',C w'→K (a.put o.dst v) w'):wpOp P ops Q i K a w:=by
 unfold Go.wpOp;simp only [hi];unfold dE at hg;split
 ·rename_i hwant;rw [if_pos hwant] at hg;exact .inl (ait (hg w hw) hK)
 ·rename_i hwant;rw [if_neg hwant] at hg;subst hg;exact hK _ hw
theorem dE.put {oi oj:Oper} {u v:Value} {a:Act} (nd:oi.apart ops oj = true) (Pw:∀cs b,oi.op≠.select cs b) (hg:dE P ops C oi v a):dE P ops C oi v (a.put oj.dst u):=by
 obtain ⟨_,_,h3⟩:=Oper.apart_spec nd;unfold dE at *;rw [execOp_put oi Pw a oj.dst u h3,wanted_put oi a oj.dst u h3];exact hg
theorem dE.KJ {oi oj:Oper} {u v:Value} {a:Act} (nd:oi.apart ops oj = true) (SA:∀cs b,oj.op≠.select cs b) (hg:dE P ops C oj v (a.put oi.dst u)):dE P ops C oj v a:=by
 obtain ⟨h1,_,_⟩:=Oper.apart_spec nd;unfold dE at *;rw [execOp_put oj SA a oi.dst u h1,wanted_put oj a oi.dst u h1] at hg;exact hg
def Yn (P:Program) (md:Region.Mode) (ops:Array Oper) (C:World→Prop) (Q:Act→Prop):Nat→Array Bool→Act→Prop
 | 0,aq,a=>Region.ready md ops aq = []∧Q a
 | fe+1,aq,a=>(Region.ready md ops aq = []→Q a) ∧
   ∀i∈Region.ready md ops aq,∀o,ops[i]? = some o→∃v,dE P ops C o v a∧Yn P md ops C Q fe (aq.setIfInBounds i true) (a.put o.dst v)
theorem RX {Q:Act→Prop} {Q':Exit→Act→World→Prop} (hQ:∀a w,C w→Q a→Q' .normal a w):∀(fe:Nat) (aq:Array Bool) (a:Act) (w:World),C w →
 Yn P md ops C Q fe aq a→wpAny P md ops Q' fe aq a w
 | 0,_,_,_,hw,h=>⟨h.1,hQ _ _ hw h.2⟩
 | fe+1,aq,a,w,hw,h=>by
   refine ⟨fun h0=>hQ _ _ hw (h.1 h0),fun i hi=>?_⟩;obtain ⟨_,o,ho,_⟩:=mem_ready.1 hi;obtain ⟨v,hg,hn⟩:=h.2 i hi o ho;exact hg.wpOp ho hw fun w' hJ=>RX hQ fe _ _ w' hJ hn
theorem ahp {Q:Act→Prop} {i:Nat} {oi:Oper} {v:Value} (hi:ops[i]? = some oi) (rc:∀(j:Nat) (o:Oper) cs b,ops[j]? = some o→o.op≠.select cs b) :
 ∀(fe:Nat) (aq:Array Bool) (a:Act),
  (∀j oj,ops[j]? = some oj→j≠i→aq.getD j true = false→(∀e∈oj.after,Region.binds md e = true→e.on≠i)→oi.apart ops oj = true) →
  i∈Region.ready md ops aq→dE P ops C oi v a →
  Yn P md ops C Q fe (aq.setIfInBounds i true) (a.put oi.dst v)→Yn P md ops C Q (fe+1) aq a:=by
 intro fe;induction fe with
 | zero =>
   intro aq a _ hr hy H;refine ⟨fun h=>Ph,fun j hj o ho=>?_⟩;by_cases k':j = i
   ·subst k';rw [hi] at ho;cases ho
    exact ⟨v,hy,H⟩
   ·have:=ready_mono hj k';rw [H.1] at this;cases this
 | succ fe ih =>
   intro aq a mm hr hy H;refine ⟨fun h=>Ph,fun j hj oj lB=>?_⟩;by_cases k':j = i
   ·subst k';rw [hi] at lB;cases lB
    exact ⟨v,hy,H⟩
   ·obtain ⟨u,hu,hn⟩:=H.2 j (ready_mono hj k') oj lB;obtain ⟨re,oj',hoj',hall⟩:=mem_ready.1 hj;rw [lB] at hoj';cases hoj'
    have rg:∀e∈oj.after,Region.binds md e = true→e.on≠i:=fun e he hb OR=>by
     exact ID
    have nd:=mm j oj lB k' re rg;have Pw:=fun cs b=>rc i oi cs b hi;have SA:=fun cs b=>rc j oj cs b lB;refine ⟨u,hu.KJ nd SA,ih _ _ (fun k ok hk uE D3 nf=>mm k ok hk uE ?_ nf) (ready_mono hr (Ne.symm k')) (hy.put nd Pw) ?_⟩
    ·by_cases gm:j = k
     ·subst gm;exact re
     ·rw [getD_set_ne true gm] at D3;exact D3
    ·rw [Array.setIfInBounds_comm _ _ k',Act.put_comm a u v (fun d hd=>by
       have:=(Oper.apart_spec nd).2.1;intro hx
       exact this d hx hd)]
     exact hn
def Yo (P:Program) (ops:Array Oper) (C:World→Prop) (Q:Act→Prop):List Oper→Act→Prop
 | [],a=>Q a
 | o :: rest,a=>∃v,dE P ops C o v a∧Yo P ops C Q rest (a.put o.dst v)
theorem QC {Q:Act→Prop} (hs:Region.noSelect ops = true):∀(l:List Oper) (k:Nat) (aq:Array Bool) (a:Act),(∀j,l[j]? = ops[k+j]?) →
 Region.lexFrom md ops l.length k aq = true→Yo P ops C Q l a→Yn P md ops C Q l.length aq a
 | [],_,_,_,_,hB,h=>⟨by simpa [Region.lexFrom] using hB,h⟩
 | o :: l,k,aq,a,hl,hB,h=>by
   have h0:ops[k]? = some o:=(by simpa using (hl 0).symm);simp only [List.length_cons,Region.lexFrom,Bool.and_eq_true] at hB;obtain ⟨⟨hr,hf⟩,hB'⟩:=hB;obtain ⟨v,hy,hK⟩:=h
   exact ahp h0 (Region.noSelect_spec hs) l.length aq a (Region.free_spec h0 hf) (by simpa using hr) hy
    (QC hs l (k+1) _ _ (fun j=>by have:=hl (j+1);simpa [Nat.add_assoc,Nat.add_comm 1 j] using this) hB' hK)
def gY (w0 w:World):Prop:=Below w0.heap.size w0 w
theorem gY.out {w0 w:World} (h:gY w0 w):Below w0.heap.size w0 w:=h
theorem aI {w0 w w':World} (h:gY w0 w) (k:Below w.heap.size w w'):gY w0 w':=ah h k
theorem aQ {w0 w:World} (h:gY w0 w) (o:Obj):gY w0 (w.alloc o):=ak h o
theorem aB {w0 w:World} (h:gY w0 w):(∀b o,b < w0.heap.size→w.cell? ⟨b,o,none⟩ = w0.cell? ⟨b,o,none⟩)∧(∀b o,b < w0.heap.size→w.frozen? ⟨b,o,none⟩ = w0.frozen? ⟨b,o,none⟩):=ay h
theorem aF {id:Nat} {Q:Exit→Act→World→Prop} {a:Act} {w:World} {l:List Oper} (w0:World) (hm:P.follows .mixedOrders = true) (hB:Region.lexB .any l.toArray = true)
 (hw:Below w0.heap.size w0 w) (h:Yo P l.toArray (gY w0) (fun a'=>∀w',gY w0 w'→Q .normal a' w') l a):(Code.region id l.toArray true).wp P Q a w:=by
 simp only [Region.lexB,Bool.and_eq_true] at hB;refine wp_region_any hm (RX (Q:=fun a'=>∀w',gY w0 w'→Q .normal a' w') (fun _ w' hJ h=>h w' hJ) _ _ _ _ (C:=gY w0) (by exact ⟨hw.os,hw.tape,hw.output,hw.size,hw.block⟩) ?_);have:=QC (C:=gY w0) (md:=.any) (P:=P) hB.1 l 0 (Array.replicate l.toArray.size false) a S' (by simpa using hB.2) h;simpa using this
theorem aH {Q:Act→Prop} {a:Act} {o:Oper} {rest:List Oper} (v:Value) (hw:Region.wanted o (yielded ops a.tmps) = true)
 (h:∀w,C w→ft P C v ((execOp a.eval o).run P w)) (hn:Yo P ops C Q rest (a.put o.dst v)):Yo P ops C Q (o :: rest) a :=
 ⟨v,by unfold dE;rw [if_pos hw];exact h,hn⟩
theorem aG {Q:Act→Prop} {a:Act} {o:Oper} {rest:List Oper} (hw:Region.wanted o (yielded ops a.tmps) = false)
 (hn:Yo P ops C Q rest (a.put o.dst undef)):Yo P ops C Q (o :: rest) a :=
 ⟨undef,by unfold dE;rw [hw];rfl,hn⟩
theorem aN {Q:Act→Prop} {a:Act} (h:Q a):Yo P ops C Q [] a:=h
end
section
variable {P:Program} {ops:Array Oper} {md:Region.Mode} {C:World→Prop} {Q:Exit→Act→World→Prop}
def ED (P:Program) (ops:Array Oper) (C:World→Prop) (Q:Exit→Act→World→Prop):List Oper→Act→World→Prop
 | [],a,w=>Q .normal a w
 | o :: rest,a,w=>if Region.wanted o (yielded ops a.tmps) then o.wp P a w (fun a' w'=>C w'∧ED P ops C Q rest a' w') Q else C w∧ED P ops C Q rest (a.put o.dst undef) w
theorem dX {a:Act} {w:World} (h:Q .normal a w):ED P ops C Q [] a w:=h
theorem aK {a:Act} {w:World} {o:Oper} {rest:List Oper} (hw:Region.wanted o (yielded ops a.tmps) = true)
 (h:∀K:Act→World→Prop,(∀a' w',C w'→(C w'→ED P ops C Q rest a' w')→K a' w')→o.wp P a w K Q):ED P ops C Q (o :: rest) a w:=by
 unfold ED;rw [if_pos hw];exact h _ fun a' w' h1 h2=>⟨h1,h2 h1⟩
def OQ (P:Program) (ops:Array Oper) (C:World→Prop) (Q:Act→Prop):List Oper→Act→Prop
 | [],a=>Q a
 | o :: rest,a=>∃v,YieldsIf P ops C o v a∧OQ P ops C Q rest (a.put o.dst v)
theorem fE {Q:Act→Prop} {a:Act} (h:Q a):OQ P ops C Q [] a:=h
theorem dR {Q:Act→Prop} {a:Act} {o:Oper} {rest:List Oper} (v:Value) (hy:YieldsIf P ops C o v a) (h:OQ P ops C Q rest (a.put o.dst v)):OQ P ops C Q (o :: rest) a:=⟨v,hy,h⟩
def Yp:Nat→Nat→Array Bool→Array Bool
 | 0,_,l=>l
 | n+1,k,l=>Yp n (k+1) (l.setIfInBounds k true)
end
end Go.Proofs.YtjahcnjmjahbaaaGreat
