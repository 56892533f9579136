/- A stable sort in plain Lean: insertion, merging of two runs, runs of a size; what the library's stable sort computes. No condition. -/
import Derived.Test.YtjahcnjmjahbaaaGreatFrame
import Derived.Sort.Statements
namespace Go.Proofs.YtjahcnjmjahbaaaGreat
open Go.ChangeShapes Go.WideShapes Go.ChangeAt Go.RowKit
set_option linter.unusedVariables false
set_option linter.unusedSimpArgs false
section
variable {β:Type} (lt:β→β→Bool)
def OM (y:β):List β→List β
 | []=>[y]
 | x :: xs=>if lt y x then y :: x :: xs else x :: OM y xs
def aE:List β→List β→List β
 | acc,[]=>acc
 | acc,y :: ys=>aE (OM lt y acc) ys
def fO:List β→List β→List β
 | [],r=>r
 | l,[]=>l
 | x :: l,y :: r=>if lt y x then y :: fO (x :: l) r else x :: fO l (y :: r)
termination_by l r=>l.length+r.length
structure da:Prop where
 o0:∀x,lt x x = false
 tr:∀x y z,lt x y = true→lt y z = true→lt x z = true
 neg:∀x y z,lt x y = false→lt y z = false→lt x z = false
def bO (l:List β):Prop:=l.Pairwise fun x y=>lt y x = false
variable {lt}
theorem da.asym (W:da lt) {x y:β} (h:lt x y = true):lt y x = false:=by
 cases h2:lt y x
 ·rfl
 ·have:=W.tr x y x h h2;rw [W.o0] at this;cases this
theorem da.left (W:da lt) {x y z:β} (h:lt x y = true) (h2:lt z y = false):lt x z = true:=by
 cases h3:lt x z
 ·have:=W.neg x z y h3 h2;rw [this] at h;cases h
 ·rfl
theorem da.right (W:da lt) {x y z:β} (h:lt y x = false) (h2:lt y z = true):lt x z = true:=by
 cases h3:lt x z
 ·have:=W.neg y x z h h3;rw [this] at h2;cases h2
 ·rfl
theorem ig (r:List β):fO lt [] r = r:=by unfold fO;rfl
theorem gZ (l:List β):fO lt l [] = l:=by
 cases l with
 | nil=>exact ig []
 | cons x l=>unfold fO;rfl
theorem lK (x y:β) (l r:List β):fO lt (x :: l) (y :: r) = if lt y x then y :: fO lt (x :: l) r else x :: fO lt l (y :: r):=by
 conv=>lhs;unfold fO
theorem fU:∀(l r:List β),(fO lt l r).length = l.length+r.length
 | [],r=>by rw [ig];simp
 | x :: l,[]=>by rw [gZ];simp
 | x :: l,y :: r=>by
   rw [lK];split
   ·rw [List.length_cons,fU (x :: l) r];simp only [List.length_cons];omega
   ·rw [List.length_cons,fU l (y :: r)];simp only [List.length_cons];omega
termination_by l r=>l.length+r.length
theorem FV:∀(l1 r1:List β) (l2 r2:List β),(∀y∈r1,∀x∈l2,lt y x = true)→(∀y∈r2,∀x∈l1,lt y x = false)→fO lt (l1++l2) (r1++r2) = fO lt l1 r1++fO lt l2 r2
 | [],[],l2,r2,_,_=>by simp [ig]
 | [],y :: r1,l2,r2,h1,h2=>by
   have ih:=FV [] r1 l2 r2 (fun z hz=>h1 z (List.mem_cons_of_mem _ hz)) (fun _ _ _ hx=>by cases hx);rw [ig] at ih ⊢;cases l2 with
   | nil=>simp only [List.append_nil,ig]
   | cons x l2 =>simp only [List.nil_append,List.cons_append] at ih ⊢;rw [lK,if_pos (h1 y (List.mem_cons_self ..) x (List.mem_cons_self ..)),ih]
 | x :: l1,[],l2,r2,h1,h2=>by
   have ih:=FV l1 [] l2 r2 (fun _ hz=>by cases hz) (fun y hy z hz=>h2 y hy z (List.mem_cons_of_mem _ hz));rw [gZ] at ih ⊢;cases r2 with
   | nil=>simp only [List.append_nil,gZ]
   | cons y r2 =>simp only [List.nil_append,List.cons_append] at ih ⊢;rw [lK,if_neg (by rw [h2 y (List.mem_cons_self ..) x (List.mem_cons_self ..)];simp),ih]
 | x :: l1,y :: r1,l2,r2,h1,h2=>by
   simp only [List.cons_append];rw [lK,lK];split
   ·have ih:=FV (x :: l1) r1 l2 r2 (fun z hz=>h1 z (List.mem_cons_of_mem _ hz)) h2;simp only [List.cons_append] at ih;rw [ih,List.cons_append]
   ·have ih:=FV l1 (y :: r1) l2 r2 h1 (fun z hz w hw=>h2 z hz w (List.mem_cons_of_mem _ hw));simp only [List.cons_append] at ih;rw [ih,List.cons_append]
termination_by l1 r1=>l1.length+r1.length
theorem aeO {x:β} {r1 r2:List β} (h1:∀y∈r1,lt y x = true) (h2:∀y∈r2,lt y x = false):fO lt [x] (r1++r2) = r1++x :: r2:=by
 have h:=FV (lt:=lt) [] r1 [x] r2 (fun y hy z hz=>by rw [List.mem_singleton.1 hz];exact h1 y hy) (fun _ _ _ hz=>by cases hz);rw [List.nil_append,ig] at h;rw [h];congr 1;cases r2 with
 | nil=>exact gZ _
 | cons y r2=>rw [lK,if_neg (by rw [h2 y (List.mem_cons_self ..)];simp),ig]
theorem UU {y:β} {l1 l2:List β} (h1:∀x∈l1,lt y x = false) (h2:∀x∈l2,lt y x = true):fO lt (l1++l2) [y] = l1++y :: l2:=by
 have h:=FV (lt:=lt) l1 [] l2 [y] (fun _ hz=>by cases hz) (fun z hz x hx=>by rw [List.mem_singleton.1 hz];exact h1 x hx);rw [List.nil_append,gZ] at h;rw [h];congr 1;cases l2 with
 | nil=>exact ig _
 | cons x l2=>rw [lK,if_pos (h2 x (List.mem_cons_self ..)),gZ]
theorem xK (y:β):∀l:List β,OM lt y l = fO lt l [y]
 | []=>by rw [ig];rfl
 | x :: l=>by
   rw [OM,lK];split
   ·rw [gZ]
   ·rw [xK y l]
theorem MK {z:β} : ∀{l r:List β},z∈fO lt l r→z∈l∨z∈r
 | [],r,h=>by rw [ig] at h;exact .inr h
 | x :: l,[],h=>by rw [gZ] at h;exact .inl h
 | x :: l,y :: r,h=>by
   rw [lK] at h;split at h
   ·rcases List.mem_cons.1 h with rfl | h
    ·exact .inr (List.mem_cons_self ..)
    ·rcases MK h with h | h
     ·exact .inl h
     ·exact .inr (List.mem_cons_of_mem _ h)
   ·rcases List.mem_cons.1 h with rfl | h
    ·exact .inl (List.mem_cons_self ..)
    ·rcases MK h with h | h
     ·exact .inl (List.mem_cons_of_mem _ h)
     ·exact .inr h
termination_by l r=>l.length+r.length
theorem TV (W:da lt):∀{l r:List β},bO lt l→bO lt r→bO lt (fO lt l r)
 | [],r,_,h=>by rw [ig];exact h
 | x :: l,[],h,_=>by rw [gZ];exact h
 | x :: l,y :: r,hl,hr=>by
   have pt:=List.pairwise_cons.1 hl;have cj:=List.pairwise_cons.1 hr;rw [lK];split
   ·rename_i h;refine List.pairwise_cons.2 ⟨fun z hz=>?_,TV W hl cj.2⟩;rcases MK hz with hz | hz
    ·rcases List.mem_cons.1 hz with rfl | hz
     ·exact W.asym h
     ·exact W.neg z x y (pt.1 z hz) (W.asym h)
    ·exact cj.1 z hz
   ·rename_i h;have h:lt y x = false:=(by simpa using h);refine List.pairwise_cons.2 ⟨fun z hz=>?_,TV W pt.2 hr⟩;rcases MK hz with hz | hz
    ·exact pt.1 z hz
    ·rcases List.mem_cons.1 hz with rfl | hz
     ·exact h
     ·exact W.neg z y x (cj.1 z hz) h
termination_by l r=>l.length+r.length
theorem IK (W:da lt):∀(a b c:List β),fO lt (fO lt a b) c = fO lt a (fO lt b c)
 | [],b,c=>by simp only [ig]
 | a,[],c=>by simp only [ig,gZ]
 | a,b,[]=>by simp only [gZ]
 | x :: a,y :: b,z :: c=>by
   rw [lK x y,lK y z];by_cases h1:lt y x = true
   ·rw [if_pos h1];by_cases h2:lt z y = true
    ·rw [if_pos h2,lK y z,if_pos h2,lK x z,if_pos (W.tr z y x h2 h1),← IK W (x :: a) (y :: b) c,lK x y,if_pos h1]
    ·rw [if_neg h2,lK y z,if_neg h2,lK x y,if_pos h1,IK W (x :: a) b (z :: c)]
   ·rw [if_neg h1];by_cases h2:lt z y = true
    ·rw [if_pos h2];by_cases h3:lt z x = true
     ·rw [lK x z,if_pos h3,lK x z,if_pos h3,← IK W (x :: a) (y :: b) c,lK x y,if_neg h1]
     ·rw [lK x z,if_neg h3,lK x z,if_neg h3,IK W a (y :: b) (z :: c),lK y z,if_pos h2]
    ·have h3:¬lt z x = true:=by
      have e1:lt z y = false:=(by simpa using h2);have e2:lt y x = false:=(by simpa using h1);rw [W.neg z y x e1 e2];simp
     rw [if_neg h2,lK x z,if_neg h3,lK x y,if_neg h1,IK W a (y :: b) (z :: c),lK y z,if_neg h2]
termination_by a b c=>a.length+b.length+c.length
theorem UW:∀(ys acc:List β),aE lt acc ys = ys.foldl (fun l y=>fO lt l [y]) acc
 | [],_=>rfl
 | y :: ys,acc=>by rw [aE,xK,UW ys];rfl
theorem Yv (W:da lt):∀(ys acc:List β),aE lt acc ys = fO lt acc (aE lt [] ys)
 | [],acc=>by rw [aE,aE,gZ]
 | y :: ys,acc=>by
   rw [aE,aE,Yv W ys (OM lt y acc),Yv W ys (OM lt y []),xK,xK,ig,IK W]
theorem Yd (W:da lt) (xs ys:List β):aE lt [] (xs++ys) = fO lt (aE lt [] xs) (aE lt [] ys):=by
 rw [← Yv W,UW,UW,UW,List.foldl_append]
theorem yc (W:da lt):∀(ys acc:List β),bO lt acc→bO lt (aE lt acc ys)
 | [],_,h=>h
 | y :: ys,acc,h=>by
   rw [aE];refine yc W ys _ ?_;rw [xK];exact TV W h (List.pairwise_singleton _ _)
theorem rD:∀(ys acc:List β),(aE lt acc ys).length = acc.length+ys.length
 | [],_=>rfl
 | y :: ys,acc=>by rw [aE,rD ys,xK,fU];simp only [List.length_cons,List.length_nil];omega
theorem aql (W:da lt) {l1 l2 r1 r2:List β} (hl:bO lt (l1++l2)) (hr:bO lt (r1++r2)) (h1:r1 = []∨l2 = []∨∃Ye y x Yf,r1 = Ye++[y]∧l2 = x :: Yf∧lt y x = true)
 (h2:l1 = []∨r2 = []∨∃Yg x y Yh,l1 = Yg++[x]∧r2 = y :: Yh∧lt y x = false):fO lt (l1++l2) (r1++r2) = fO lt l1 r1++fO lt l2 r2:=by
 refine FV l1 r1 l2 r2 (fun y hy x hx=>?_) (fun y hy x hx=>?_)
 ·rcases h1 with rfl | rfl | ⟨Ye,y0,x0,Yf,rfl,rfl,h⟩
  ·cases hy
  ·cases hx
  ·have a:lt y0 y = false:=by
    rcases List.mem_append.1 hy with hy | hy
    ·have:=(List.pairwise_append.1 (List.pairwise_append.1 hr).1).2.2 y hy y0 (List.mem_singleton.2 rfl);exact this
    ·rw [List.mem_singleton.1 hy,W.o0]
   have b:lt x x0 = false:=by
    rcases List.mem_cons.1 hx with rfl | hx
    ·exact W.o0 x
    ·exact (List.pairwise_cons.1 (List.pairwise_append.1 hl).2.1).1 x hx
   exact W.left (W.right a h) b
 ·rcases h2 with rfl | rfl | ⟨Yg,x0,y0,Yh,rfl,rfl,h⟩
  ·cases hx
  ·cases hy
  ·have a:lt x0 x = false:=by
    rcases List.mem_append.1 hx with hx | hx
    ·exact (List.pairwise_append.1 (List.pairwise_append.1 hl).1).2.2 x hx x0 (List.mem_singleton.2 rfl)
    ·rw [List.mem_singleton.1 hx,W.o0]
   have b:lt y y0 = false:=by
    rcases List.mem_cons.1 hy with rfl | hy
    ·exact W.o0 y
    ·exact (List.pairwise_cons.1 (List.pairwise_append.1 hr).2.1).1 y hy
   exact W.neg y x0 x (W.neg y y0 x0 b h) a
def dz (lt:β→β→Bool) (s:Nat) (xs:List β):List β:=if h:xs.length≤s∨s = 0 then aE lt [] xs else aE lt [] (xs.take s)++dz lt s (xs.drop s)
termination_by xs.length
decreasing_by rw [List.length_drop];omega
theorem zo {s:Nat} {xs:List β} (h:xs.length≤s):dz lt s xs = aE lt [] xs:=by unfold dz;rw [dif_pos (.inl h)]
theorem Yi (s:Nat):dz lt s ([]:List β) = []:=by rw [zo (Nat.zero_le _)];rfl
theorem Ky {s:Nat} (hs:0 < s) (xs:List β):dz lt s xs = aE lt [] (xs.take s)++dz lt s (xs.drop s):=by
 by_cases h:xs.length≤s
 ·rw [List.take_of_length_le h,List.drop_of_length_le h,Yi,List.append_nil,zo h]
 ·conv=>lhs;unfold dz
  rw [dif_neg O]
theorem Yj (W:da lt) {s:Nat} (hs:0 < s) (ys:List β):dz lt s ys = aE lt [] (ys.take s)++(aE lt [] ((ys.drop s).take s)++dz lt s (ys.drop (2 * s))) ∧
 fO lt (aE lt [] (ys.take s)) (aE lt [] ((ys.drop s).take s)) = aE lt [] (ys.take (2 * s)):=by
 constructor
 ·rw [Ky hs ys,Ky hs (ys.drop s),List.drop_drop,show s+s = 2 * s by omega]
 ·rw [← Yd W];congr 1;rw [show 2 * s = s+s by omega,List.take_add]
theorem Yk (W:da lt) {s:Nat} (hs:0 < s) {ys:List β} (h1:s < ys.length) (h2:ys.length≤2 * s):dz lt s ys = aE lt [] (ys.take s)++aE lt [] (ys.drop s) ∧
 fO lt (aE lt [] (ys.take s)) (aE lt [] (ys.drop s)) = dz lt (2 * s) ys:=by
 constructor
 ·rw [Ky hs ys,zo (xs:=ys.drop s) Pw]
 ·rw [← Yd W,List.take_append_drop,zo (s:=2 * s) h2]
theorem WN (W:da lt) {y:β} {s1 s2:List β} (hs:bO lt (s1++s2)) (h2:∀x∈s2,lt y x = true) (h1:s1 = []∨∃s' x,s1 = s'++[x]∧lt y x = false):OM lt y (s1++s2) = s1++y :: s2:=by
 rw [xK];refine UU (fun x hx=>?_) h2;rcases h1 with rfl | ⟨s',x0,rfl,h⟩
 ·cases hx
 ·rcases List.mem_append.1 hx with hx | hx
  ·exact W.neg y x0 x h ((List.pairwise_append.1 (List.pairwise_append.1 hs).1).2.2 x hx x0 (List.mem_singleton.2 rfl))
  ·rw [List.mem_singleton.1 hx];exact h
theorem V3 (xs:List β) (y:β):aE lt [] (xs++[y]) = OM lt y (aE lt [] xs):=by
 rw [UW,UW,List.foldl_append,xK];rfl
end
section
variable {β:Type}
structure tF (lt:β→β→Bool):Prop where
 o0:∀x,lt x x = false
 trans:∀x y z,lt x y = true→lt y z = true→lt x z = true
 Oj:∀x y,lt x y = false→lt y x = false→x = y
theorem tF.asym {lt:β→β→Bool} (T:tF lt) {x y:β} (h:lt x y = true):lt y x = false:=by
 cases h2:lt y x with
 | false=>rfl
 | true=>have:=T.trans x y x h h2;rw [T.o0] at this;cases this
def jA (lt:β→β→Bool) (l:List β):Prop:=l.Pairwise fun x y=>lt x y = true
theorem jA.eq {lt:β→β→Bool} (T:tF lt):∀{a b:List β},jA lt a→jA lt b→(∀x,x∈a↔x∈b)→a = b
 | [],[],_,_,_=>rfl
 | [],y :: b,_,_,h=>absurd ((h y).2 (List.mem_cons_self ..)) (List.not_mem_nil)
 | x :: a,[],_,_,h=>absurd ((h x).1 (List.mem_cons_self ..)) (List.not_mem_nil)
 | x :: a,y :: b,ha,hb,h=>by
   unfold jA at ha hb;rw [List.pairwise_cons] at ha hb;have no:∀{u:β} {l:List β},(∀z∈l,lt u z = true)→u∉l:=fun hl hu=>by have:=hl _ hu;rw [T.o0] at this;cases this
   have zk:x = y:=by
    rcases List.mem_cons.1 ((h x).1 (List.mem_cons_self ..)) with e | e
    ·exact e
    ·rcases List.mem_cons.1 ((h y).2 (List.mem_cons_self ..)) with e2 | e2
     ·exact e2.symm
     ·have:=T.trans _ _ _ (hb.1 x e) (ha.1 y e2);rw [T.o0] at this;cases this
   subst zk;congr 1;refine jA.eq T ha.2 hb.2 fun z=>⟨fun hz=>?_,fun hz=>?_⟩
   ·rcases List.mem_cons.1 ((h z).1 (List.mem_cons_of_mem _ hz)) with e | e
    ·subst e;exact absurd hz (no ha.1)
    ·exact e
   ·rcases List.mem_cons.1 ((h z).2 (List.mem_cons_of_mem _ hz)) with e | e
    ·subst e;exact absurd hz (no hb.1)
    ·exact e
def eZ (lt:β→β→Bool) (x:β):List β→List β
 | []=>[x]
 | y :: r=>if lt y x then y :: eZ lt x r else if lt x y then x :: y :: r else y :: r
theorem Wc {lt:β→β→Bool} (T:tF lt) (x:β):∀(r:List β) (z:β),z∈eZ lt x r↔z = x∨z∈r
 | [],z=>by simp [eZ]
 | y :: r,z=>by
   unfold eZ;split
   ·rw [List.mem_cons,Wc T x r z,List.mem_cons];exact ⟨fun h=>by rcases h with h | h | h <;> simp [h],fun h=>by rcases h with h | h | h <;> simp [h]⟩
   ·split
    ·simp
    ·rename_i h1 h2;have e:=T.Oj x y Ol (by simpa using h1);subst e;simp
theorem Om {lt:β→β→Bool} {y:β} : ∀(s1 s2:List β),(∀z∈s1,lt z y = true)→eZ lt y (s1++s2) = s1++eZ lt y s2
 | [],_,_=>rfl
 | z :: s1,s2,h=>by
   rw [List.cons_append,eZ,if_pos (h z (List.mem_cons_self ..)),Om s1 s2 fun z' hz=>h z' (List.mem_cons_of_mem _ hz)];rfl
theorem On {lt:β→β→Bool} {y:β} (s1:List β) (h:∀z∈s1,lt z y = true):eZ lt y (s1++[]) = s1++y :: []:=by rw [Om s1 [] h];rfl
theorem Oo {lt:β→β→Bool} {y z:β} (s1 s2:List β) (h:∀z∈s1,lt z y = true) (h1:lt z y = false) (h2:lt y z = true):eZ lt y (s1++z :: s2) = s1++y :: z :: s2:=by
 rw [Om s1 _ h,eZ,if_neg (by rw [h1];simp),if_pos h2]
theorem Oq {lt:β→β→Bool} {y z:β} (s1 s2:List β) (h:∀z∈s1,lt z y = true) (h1:lt z y = false) (h2:lt y z = false):eZ lt y (s1++z :: s2) = s1++z :: s2:=by
 rw [Om s1 _ h,eZ,if_neg (by rw [h1];simp),if_neg (by rw [h2];simp)]
def ey (lt:β→β→Bool) (acc:List β):List β→List β
 | []=>acc
 | y :: r=>ey lt (eZ lt y acc) r
theorem EU (lt:β→β→Bool) (y:β):∀(xs acc:List β),ey lt acc (xs++[y]) = eZ lt y (ey lt acc xs)
 | [],_=>rfl
 | x :: xs,acc=>EU lt y xs (eZ lt x acc)
theorem EV {lt:β→β→Bool} (T:tF lt) (z:β):∀(xs acc:List β),z∈ey lt acc xs↔z∈acc∨z∈xs
 | [],acc=>by simp [ey]
 | x :: xs,acc=>by
   unfold ey;rw [EV T z xs,Wc T,List.mem_cons];exact ⟨fun h=>by rcases h with (h | h) | h <;> simp [h],fun h=>by rcases h with h | h | h <;> simp [h]⟩
theorem Wd (lt:β→β→Bool) (x:β):∀(r:List β),(eZ lt x r).length≤r.length+1
 | []=>Nat.le_refl _
 | y :: r=>by unfold eZ;split;· simp [Wd lt x r]
              ·split <;> simp
theorem zl (lt:β→β→Bool):∀(xs acc:List β),(ey lt acc xs).length≤acc.length+xs.length
 | [],_=>by simp [ey]
 | x :: xs,acc=>by have h1:=zl lt xs (eZ lt x acc);have h2:=Wd lt x acc;unfold ey;simp only [List.length_cons];omega
theorem We (f:β→Nat) (lt:β→β→Bool) (x:β):∀(r:List β),((eZ lt x r).map f).sum≤f x+(r.map f).sum
 | []=>by simp [eZ]
 | y :: r=>by
   have:=We f lt x r;unfold eZ;split
   ·exact qF
   ·split <;> simp only [List.map_cons,List.sum_cons] <;> omega
theorem EX (f:β→Nat) (lt:β→β→Bool):∀(xs acc:List β),((ey lt acc xs).map f).sum≤(acc.map f).sum+(xs.map f).sum
 | [],_=>by simp [ey]
 | x :: xs,acc=>by
   have h1:=EX f lt xs (eZ lt x acc);have h2:=We f lt x acc;unfold ey;exact qF
def xa (ne:β→β→Bool) (D:List β):Nat→Bool
 | 0=>true
 | q+1=>match D[q]?,D[q+1]? with | some x,some y=>ne x y | _,_=>false
def kept (ne:β→β→Bool) (D:List β):Nat→List β
 | 0=>[]
 | p+1=>if xa ne D p then kept ne D p++D[p]?.toList else kept ne D p
theorem Wf {ne:β→β→Bool} {D:List β} {p:Nat} {y:β} (hy:D[p]? = some y) (h:xa ne D p = true):kept ne D (p+1) = kept ne D p++[y]:=by rw [kept,if_pos h,hy];rfl
theorem Ow {ne:β→β→Bool} {D:List β} {p:Nat} (h:xa ne D p = false):kept ne D (p+1) = kept ne D p:=by rw [kept,if_neg (by rw [h];simp)]
theorem Wg {ne:β→β→Bool} {D:List β} : ∀{p:Nat},(∀j,j < p→xa ne D j = true)→kept ne D p = D.take p
 | 0,_=>by simp [kept]
 | p+1,h=>by
   rw [List.take_add_one,kept,if_pos (h p (Nat.lt_succ_self p)),Wg fun j hj=>h j (Nat.lt_succ_of_lt hj)]
structure xb (ne:β→β→Bool) (D:List β) (p k:Nat) (L:List β):Prop where
 size:L.length = D.length
 jC:k = (kept ne D p).length
 lt:k < p
 zm:L.take k = kept ne D p
 E0:∀j,p - 1≤j→L[j]? = D[j]?
theorem xb.start {ne:β→β→Bool} {D:List β} {k:Nat} (hk:k < D.length) (h:∀j,j < k→xa ne D j = true) (hn:xa ne D k = false):xb ne D (k+1) k D:=by
 have e:=Wg h;refine ⟨rfl,?_,Nat.lt_succ_self k,?_,fun j _=>rfl⟩
 ·rw [Ow hn,e,List.length_take];omega
 ·rw [Ow hn,e]
theorem xb.skip {ne:β→β→Bool} {D L:List β} {p k:Nat} (h:xb ne D p k L) (hn:xa ne D p = false):xb ne D (p+1) k L :=
 ⟨h.size,by rw [Ow hn];exact h.jC,Nat.lt_succ_of_lt h.lt,by rw [Ow hn];exact h.zm,fun j hj=>h.E0 j O⟩
theorem xb.bJ {ne:β→β→Bool} {D L:List β} {p k:Nat} {y:β} (h:xb ne D p k L) (hy:D[p]? = some y) (hn:xa ne D p = true):xb ne D (p+1) (k+1) (L.set k y):=by
 have hp:=(List.getElem?_eq_some_iff.1 hy).1;have h1:=h.lt;have h2:=h.size;refine ⟨by rw [List.length_set];exact h.size,by rw [Wf hy hn,List.length_append,← h.jC];rfl,Nat.succ_lt_succ h.lt,?_,fun j hj=>?_⟩
 ·rw [Wf hy hn,← h.zm,List.take_add_one,List.take_set_of_le (Nat.le_refl k),List.getElem?_set_self O];rfl
 ·rw [List.getElem?_set_ne O];exact h.E0 j O
end
def bv (n:Int):Prop:=-9223372036854775808≤n∧n≤9223372036854775807
class bk (α:Type) where
 size:Nat
 pos:0 < size
 rd:World→α→List Value→List Nat→Prop
 len:∀{w a cs F},rd w a cs F→cs.length = size
 one:∀{w a cs F},rd w a cs F→∀u∈cs,u.oneCell' = true
 lt:∀{w a cs F},rd w a cs F→∀b∈F,b < w.heap.size
 frame:∀{w w':World} {a cs F},rd w a cs F→(∀b∈F,w'.heap[b]? = w.heap[b]?)→w.heap.size≤w'.heap.size→rd w' a cs F
export bk (rd)
instance:bk Int where
 size:=1
 pos:=by omega
 rd _ n cs F:=cs = [.int .i64 n]∧F = []∧bv n
 len h:=by rw [h.1];rfl
 one h:=by rw [h.1];intro u hu;simp at hu;subst hu;rfl
 lt h:=by rw [h.2.1];intro b hb;cases hb
 frame h _ _:=h
instance:bk Bool where
 size:=1
 pos:=by omega
 rd _ n cs F:=cs = [.bool n]∧F = []
 len h:=by rw [h.1];rfl
 one h:=by rw [h.1];intro u hu;simp at hu;subst hu;rfl
 lt h:=by rw [h.2];intro b hb;cases hb
 frame h _ _:=h
instance:bk ByteArray where
 size:=1
 pos:=by omega
 rd _ n cs F:=cs = [.string n]∧F = []∧n.size≤maxLen
 len h:=by rw [h.1];rfl
 one h:=by rw [h.1];intro u hu;simp at hu;subst hu;rfl
 lt h:=by rw [h.2.1];intro b hb;cases hb
 frame h _ _:=h
instance {α β:Type} [bk α] [bk β]:bk (α × β) where
 size:=bk.size α+bk.size β
 pos:=by have:=bk.pos (α:=α);omega
 rd w x cs F:=∃c1 c2 F1 F2,cs = c1++c2∧F = F1++F2∧rd w x.1 c1 F1∧rd w x.2 c2 F2
 len h:=by obtain ⟨c1,c2,F1,F2,rfl,rfl,h1,h2⟩:=h;rw [List.length_append,bk.len h1,bk.len h2]
 one h:=by
  obtain ⟨c1,c2,F1,F2,rfl,rfl,h1,h2⟩:=h;intro u hu;rcases List.mem_append.1 hu with hu | hu
  ·exact bk.one h1 u hu
  ·exact bk.one h2 u hu
 lt h:=by
   obtain ⟨c1,c2,F1,F2,rfl,rfl,h1,h2⟩:=h;intro b hb;rcases List.mem_append.1 hb with hb | hb
   ·exact bk.lt h1 b hb
   ·exact bk.lt h2 b hb
 frame h hk hz:=by
  obtain ⟨c1,c2,F1,F2,rfl,rfl,h1,h2⟩:=h;exact ⟨c1,c2,F1,F2,rfl,rfl,bk.frame h1 (fun b hb=>hk b (List.mem_append_left _ hb)) hz,bk.frame h2 (fun b hb=>hk b (List.mem_append_right _ hb)) hz⟩
@[reducible] def bk.oD {α β:Type} (f:α→β) [bk β]:bk α where
  size:=bk.size β
  pos:=bk.pos
  rd w x:=rd w (f x)
  len h:=bk.len h
  one h:=bk.one h
  lt h:=bk.lt h
  frame h:=bk.frame h
def jo {α:Type} [bk α] (w:World):List α→List Value→List Nat→Prop
 | [],cs,F=>cs = []∧F = []
 | x :: xs,cs,F=>∃c1 c2 F1 F2,cs = c1++c2∧F = F1++F2∧rd w x c1 F1∧jo w xs c2 F2
section
variable {α:Type} [bk α]
theorem jo.len {w:World} : ∀{xs:List α} {cs:List Value} {F:List Nat},jo w xs cs F→cs.length = xs.length * bk.size α
 | [],_,_,h=>by rw [h.1];simp
 | x :: xs,_,_,⟨c1,c2,F1,F2,rfl,rfl,h1,h2⟩=>by
   rw [List.length_append,bk.len h1,jo.len h2,List.length_cons,Nat.succ_mul];omega
theorem jo.one {w:World} : ∀{xs:List α} {cs:List Value} {F:List Nat},jo w xs cs F→∀u∈cs,u.oneCell' = true
 | [],_,_,h=>by rw [h.1];intro u hu;cases hu
 | x :: xs,_,_,⟨c1,c2,F1,F2,rfl,rfl,h1,h2⟩=>by
   intro u hu;rcases List.mem_append.1 hu with hu | hu
   ·exact bk.one h1 u hu
   ·exact jo.one h2 u hu
theorem jo.lt {w:World} : ∀{xs:List α} {cs:List Value} {F:List Nat},jo w xs cs F→∀b∈F,b < w.heap.size
 | [],_,_,h=>by rw [h.2];intro b hb;cases hb
 | x :: xs,_,_,⟨c1,c2,F1,F2,rfl,rfl,h1,h2⟩=>by
   intro b hb;rcases List.mem_append.1 hb with hb | hb
   ·exact bk.lt h1 b hb
   ·exact jo.lt h2 b hb
theorem jo.frame {w w':World} : ∀{xs:List α} {cs:List Value} {F:List Nat},jo w xs cs F→(∀b∈F,w'.heap[b]? = w.heap[b]?)→w.heap.size≤w'.heap.size→jo w' xs cs F
 | [],_,_,h,_,_=>h
 | x :: xs,_,_,⟨c1,c2,F1,F2,rfl,rfl,h1,h2⟩,hk,hz =>⟨c1,c2,F1,F2,rfl,rfl,bk.frame h1 (fun b hb=>hk b (List.mem_append_left _ hb)) hz,jo.frame h2 (fun b hb=>hk b (List.mem_append_right _ hb)) hz⟩
theorem jo.append {w:World} : ∀{xs ys:List α} {c1 c2:List Value} {F1 F2:List Nat},jo w xs c1 F1→jo w ys c2 F2→jo w (xs++ys) (c1++c2) (F1++F2)
 | [],_,_,_,_,_,⟨rfl,rfl⟩,h2=>h2
 | x :: xs,ys,_,c2,_,F2,⟨d1,d2,G1,G2,rfl,rfl,h1,h2⟩,h3 =>⟨d1,d2++c2,G1,G2++F2,S',S',h1,jo.append h2 h3⟩
theorem jo.single {w:World} {x:α} {cs:List Value} {F:List Nat} (h:rd w x cs F):jo w [x] cs F:=⟨cs,[],F,[],S',S',h,rfl,rfl⟩
theorem jo.fW {w:World} : ∀{xs ys:List α} {cs:List Value} {F:List Nat},jo w (xs++ys) cs F→∃c1 c2 F1 F2,cs = c1++c2∧F = F1++F2∧jo w xs c1 F1∧jo w ys c2 F2
 | [],_,cs,F,h=>⟨[],cs,[],F,rfl,rfl,⟨rfl,rfl⟩,h⟩
 | x :: xs,ys,_,_,⟨d1,d2,G1,G2,rfl,rfl,h1,h2⟩=>by
   obtain ⟨e1,e2,H1,H2,rfl,rfl,h3,h4⟩:=jo.fW h2;exact ⟨d1++e1,e2,G1++H1,H2,S',S',⟨d1,e1,G1,H1,rfl,rfl,h1,h3⟩,h4⟩
theorem jo.get {w:World} {xs:List α} {cs:List Value} {F:List Nat} (h:jo w xs cs F) {k:Nat} (hk:k < xs.length) :
 ∃ck Fk,rd w xs[k] ck Fk∧(∀b∈Fk,b∈F)∧∀j,j < bk.size α→cs[k * bk.size α+j]? = ck[j]?:=by
 have e:xs = xs.take k++(xs[k] :: xs.drop (k+1)):=by rw [List.getElem_cons_drop,List.take_append_drop]
 rw [e] at h;obtain ⟨c1,c2,F1,F2,rfl,rfl,h1,ck,c3,Fk,F3,rfl,rfl,h2,h3⟩:=jo.fW h;have hl:=h1.len;rw [List.length_take,Nat.min_eq_left O] at hl;refine ⟨ck,Fk,h2,fun b hb=>by simp [hb],fun j hj=>?_⟩;rw [List.getElem?_append_right O,List.getElem?_append_left (by have:=bk.len h2;omega)];congr 1;omega
end
theorem rV {s:ByteArray} (h:s.size≤maxLen):(s.size:Int)≤9223372036854775807:=by unfold maxLen at h;omega
theorem d7 (w:World) (s:ByteArray) (h:(s.size:Int)≤9223372036854775807):rd w s [.string s] []:=⟨rfl,rfl,by unfold maxLen;omega⟩
theorem jL (w:World) (n:Int) (h:bv n):rd w n [.int .i64 n] []:=⟨rfl,rfl,h⟩
instance {α:Type} [bk α]:bk (List α) where
 size:=1
 pos:=by omega
 rd w xs cs F:=∃A c G ds,cs = [.slice A xs.length c]∧xs.length≤c∧c≤maxLen∧jo w xs ds G ∧
   ((xs = []∧F = [])∨∃b o,A = some ⟨b,o,none⟩∧F = b :: G∧b < w.heap.size∧∀j u,ds[j]? = some u→w.cell? ⟨b,o+j,none⟩ = some u)
 len h:=by obtain ⟨A,c,G,ds,rfl,_⟩:=h;rfl
 one h:=by obtain ⟨A,c,G,ds,rfl,_⟩:=h;intro u hu;simp at hu;subst hu;rfl
 lt h:=by
   obtain ⟨A,c,G,ds,rfl,_,_,hc,h | ⟨b,o,rfl,rfl,hb,_⟩⟩:=h
   ·rw [h.2];intro b hb;cases hb
   ·intro x hx;rcases List.mem_cons.1 hx with rfl | hx
    ·exact hb
    ·exact hc.lt x hx
 frame h hk hz:=by
  obtain ⟨A,c,G,ds,rfl,h1,h2,hc,h | ⟨b,o,rfl,rfl,hb,cq⟩⟩:=h
  ·obtain ⟨rfl,rfl⟩:=h;obtain ⟨rfl,rfl⟩:=hc;exact ⟨A,c,[],[],rfl,h1,h2,⟨rfl,rfl⟩,.inl ⟨rfl,rfl⟩⟩
  ·refine ⟨_,c,G,ds,rfl,h1,h2,hc.frame (fun x hx=>hk x (List.mem_cons_of_mem _ hx)) hz,.inr ⟨b,o,rfl,rfl,Nat.lt_of_lt_of_le hb hz,fun j u hu=>?_⟩⟩;rw [← cq j u hu];exact World.cell?_of_block (hk b (List.mem_cons_self ..))
def Sl {α:Type} [bk α] (w:World) (xs:List α) (A:Option Addr) (c:Nat) (F:List Nat):Prop:=rd w xs [.slice A xs.length c] F
section
variable {α:Type} [bk α] {w w':World} {xs:List α} {A:Option Addr} {c:Nat} {F:List Nat}
theorem jB {v:List Value} (h:rd w xs v F):∃A c,v = [.slice A xs.length c]∧Sl w xs A c F:=by
 have h0:=h;obtain ⟨A,c,G,ds,rfl,_⟩:=h;exact ⟨A,c,rfl,h0⟩
theorem Sl.lt (h:Sl w xs A c F):∀b∈F,b < w.heap.size:=bk.lt h
theorem Sl.frame (h:Sl w xs A c F) (hk:∀b∈F,w'.heap[b]? = w.heap[b]?) (hz:w.heap.size≤w'.heap.size):Sl w' xs A c F:=bk.frame h hk hz
theorem Sl.aL {B:Nat} (h:Sl w xs A c F) (hb:Below B w w') (hB:∀b∈F,b < B):Sl w' xs A c F:=h.frame (fun b ei=>hb.block b (hB b ei)) hb.size
theorem Sl.ext (h:Sl w xs A c F) (hb:Below w.heap.size w w'):Sl w' xs A c F:=h.aL hb h.lt
theorem Sl.aM (h:Sl w xs A c F):xs.length≤c∧c≤maxLen:=by
 obtain ⟨A',c',G,ds,e,h1,h2,_⟩:=h;simp at e;obtain ⟨_,rfl⟩:=e;exact ⟨h1,h2⟩
theorem Sl.get (h:Sl w xs A c F) {k:Nat} (hk:k < xs.length) :
 ∃b o ck Fk,A = some ⟨b,o,none⟩∧b∈F∧b < w.heap.size∧rd w xs[k] ck Fk∧(∀x∈Fk,x∈F)∧∀j u,ck[j]? = some u→w.cell? ⟨b,o+(k * bk.size α+j),none⟩ = some u:=by
 obtain ⟨A',c',G,ds,e,_,_,hc,h | ⟨b,o,rfl,rfl,hb,cq⟩⟩:=h
 ·rw [h.1] at hk;cases hk
 ·simp at e;obtain ⟨rfl,rfl⟩:=e;obtain ⟨ck,Fk,hr,hs,hj⟩:=hc.get hk;refine ⟨b,o,ck,Fk,rfl,List.mem_cons_self ..,hb,hr,fun x hx=>List.mem_cons_of_mem _ (hs x hx),fun j u hu=>cq _ u ?_⟩;rw [hj j (by rw [← bk.len hr];exact (List.getElem?_eq_some_iff.1 hu).1)];exact hu
theorem Sl.nil (w:World) (A:Option Addr) (c:Nat) (hc:c≤maxLen):Sl w ([]:List α) A c []:=⟨A,c,[],[],rfl,Nat.zero_le _,hc,⟨rfl,rfl⟩,.inl ⟨rfl,rfl⟩⟩
end
structure aD where
 key:ByteArray
 value:ByteArray
instance:bk aD:=bk.oD fun l=>(l.key,l.value)
end Go.Proofs.YtjahcnjmjahbaaaGreat
