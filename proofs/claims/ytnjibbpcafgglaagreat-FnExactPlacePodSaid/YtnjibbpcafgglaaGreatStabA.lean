/- A stable sort in plain Lean: insertion, merging of two runs, runs of a size; what the library's stable sort computes. No condition. -/
import Derived.Test.YtnjibbpcafgglaaGreatBase0
import Derived.Test.YtnjibbpcafgglaaGreatDelP
import Derived.Deep.RegionLaw
import Derived.Deep.RegionWith
import Derived.Test.YtnjibbpcafgglaaGreatRegion
namespace Go.Proofs.YtnjibbpcafgglaaGreat
set_option linter.unusedVariables false
set_option linter.unusedSimpArgs false
section
variable {β:Type} (lt:β→β→Bool)
def OM (y:β):List β→List β
 | []=>[y]
 | x :: xs=>if lt y x then y :: x :: xs else x :: OM y xs
def sortB:List β→List β→List β
 | acc,[]=>acc
 | acc,y :: ys=>sortB (OM lt y acc) ys
def fO:List β→List β→List β
 | [],r=>r
 | l,[]=>l
 | x :: l,y :: r=>if lt y x then y :: fO (x :: l) r else x :: fO l (y :: r)
termination_by l r=>l.length+r.length
structure Weak:Prop where
 irr:∀x,lt x x = false
 tr:∀x y z,lt x y = true→lt y z = true→lt x z = true
 neg:∀x y z,lt x y = false→lt y z = false→lt x z = false
def Sorted (l:List β):Prop:=l.Pairwise fun x y=>lt y x = false
variable {lt}
theorem Weak.asym (W:Weak lt) {x y:β} (h:lt x y = true):lt y x = false:=by
 cases h2:lt y x
 ·rfl
 ·have:=W.tr x y x h h2;rw [W.irr] at this;cases this
theorem Weak.left (W:Weak lt) {x y z:β} (h:lt x y = true) (h2:lt z y = false):lt x z = true:=by
 cases h3:lt x z
 ·have:=W.neg x z y h3 h2;rw [this] at h;cases h
 ·rfl
theorem Weak.right (W:Weak lt) {x y z:β} (h:lt y x = false) (h2:lt y z = true):lt x z = true:=by
 cases h3:lt x z
 ·have:=W.neg y x z h h3;rw [this] at h2;cases h2
 ·rfl
theorem ig (r:List β):fO lt [] r = r:=by unfold fO;rfl
theorem gZ (l:List β):fO lt l [] = l:=by
 cases l with
 | nil=>exact ig []
 | cons x l=>unfold fO;rfl
theorem lK (x y:β) (l r:List β):fO lt (x :: l) (y :: r) = if lt y x then y :: fO lt (x :: l) r else x :: fO lt l (y :: r):=by
 conv=>lhs;unfold fO
theorem fU:∀(l r:List β),(fO lt l r).length = l.length+r.length
 | [],r=>by rw [ig];simp
 | x :: l,[]=>by rw [gZ];simp
 | x :: l,y :: r=>by
   rw [lK]
   split
   ·rw [List.length_cons,fU (x :: l) r];simp only [List.length_cons];omega
   ·rw [List.length_cons,fU l (y :: r)];simp only [List.length_cons];omega
termination_by l r=>l.length+r.length
theorem FV:∀(l1 r1:List β) (l2 r2:List β),(∀y∈r1,∀x∈l2,lt y x = true)→(∀y∈r2,∀x∈l1,lt y x = false)→fO lt (l1++l2) (r1++r2) = fO lt l1 r1++fO lt l2 r2
 | [],[],l2,r2,_,_=>by simp [ig]
 | [],y :: r1,l2,r2,h1,h2=>by
   have ih:=FV [] r1 l2 r2 (fun z hz=>h1 z (List.mem_cons_of_mem _ hz)) (fun _ _ _ hx=>by cases hx)
   rw [ig] at ih ⊢
   cases l2 with
   | nil=>simp only [List.append_nil,ig]
   | cons x l2 =>
     simp only [List.nil_append,List.cons_append] at ih ⊢
     rw [lK,if_pos (h1 y (List.mem_cons_self ..) x (List.mem_cons_self ..)),ih]
 | x :: l1,[],l2,r2,h1,h2=>by
   have ih:=FV l1 [] l2 r2 (fun _ hz=>by cases hz) (fun y hy z hz=>h2 y hy z (List.mem_cons_of_mem _ hz))
   rw [gZ] at ih ⊢
   cases r2 with
   | nil=>simp only [List.append_nil,gZ]
   | cons y r2 =>
     simp only [List.nil_append,List.cons_append] at ih ⊢
     rw [lK,if_neg (by rw [h2 y (List.mem_cons_self ..) x (List.mem_cons_self ..)];simp),ih]
 | x :: l1,y :: r1,l2,r2,h1,h2=>by
   simp only [List.cons_append]
   rw [lK,lK]
   split
   ·have ih:=FV (x :: l1) r1 l2 r2 (fun z hz=>h1 z (List.mem_cons_of_mem _ hz)) h2
    simp only [List.cons_append] at ih
    rw [ih,List.cons_append]
   ·have ih:=FV l1 (y :: r1) l2 r2 h1 (fun z hz w hw=>h2 z hz w (List.mem_cons_of_mem _ hw))
    simp only [List.cons_append] at ih
    rw [ih,List.cons_append]
termination_by l1 r1=>l1.length+r1.length
theorem aeO {x:β} {r1 r2:List β} (h1:∀y∈r1,lt y x = true) (h2:∀y∈r2,lt y x = false):fO lt [x] (r1++r2) = r1++x :: r2:=by
 have h:=FV (lt:=lt) [] r1 [x] r2 (fun y hy z hz=>by rw [List.mem_singleton.1 hz];exact h1 y hy) (fun _ _ _ hz=>by cases hz)
 rw [List.nil_append,ig] at h
 rw [h]
 congr 1
 cases r2 with
 | nil=>exact gZ _
 | cons y r2=>rw [lK,if_neg (by rw [h2 y (List.mem_cons_self ..)];simp),ig]
theorem UU {y:β} {l1 l2:List β} (h1:∀x∈l1,lt y x = false) (h2:∀x∈l2,lt y x = true):fO lt (l1++l2) [y] = l1++y :: l2:=by
 have h:=FV (lt:=lt) l1 [] l2 [y] (fun _ hz=>by cases hz) (fun z hz x hx=>by rw [List.mem_singleton.1 hz];exact h1 x hx)
 rw [List.nil_append,gZ] at h
 rw [h]
 congr 1
 cases l2 with
 | nil=>exact ig _
 | cons x l2=>rw [lK,if_pos (h2 x (List.mem_cons_self ..)),gZ]
theorem xK (y:β):∀l:List β,OM lt y l = fO lt l [y]
 | []=>by rw [ig];rfl
 | x :: l=>by
   rw [OM,lK]
   split
   ·rw [gZ]
   ·rw [xK y l]
theorem MK {z:β} : ∀{l r:List β},z∈fO lt l r→z∈l∨z∈r
 | [],r,h=>by rw [ig] at h;exact .inr h
 | x :: l,[],h=>by rw [gZ] at h;exact .inl h
 | x :: l,y :: r,h=>by
   rw [lK] at h
   split at h
   ·rcases List.mem_cons.1 h with rfl | h
    ·exact .inr (List.mem_cons_self ..)
    ·rcases MK h with h | h
     ·exact .inl h
     ·exact .inr (List.mem_cons_of_mem _ h)
   ·rcases List.mem_cons.1 h with rfl | h
    ·exact .inl (List.mem_cons_self ..)
    ·rcases MK h with h | h
     ·exact .inl (List.mem_cons_of_mem _ h)
     ·exact .inr h
termination_by l r=>l.length+r.length
theorem TV (W:Weak lt):∀{l r:List β},Sorted lt l→Sorted lt r→Sorted lt (fO lt l r)
 | [],r,_,h=>by rw [ig];exact h
 | x :: l,[],h,_=>by rw [gZ];exact h
 | x :: l,y :: r,hl,hr=>by
   have hl':=List.pairwise_cons.1 hl
   have hr':=List.pairwise_cons.1 hr
   rw [lK]
   split
   ·rename_i h
    refine List.pairwise_cons.2 ⟨fun z hz=>?_,TV W hl hr'.2⟩
    rcases MK hz with hz | hz
    ·rcases List.mem_cons.1 hz with rfl | hz
     ·exact W.asym h
     ·exact W.neg z x y (hl'.1 z hz) (W.asym h)
    ·exact hr'.1 z hz
   ·rename_i h
    have h:lt y x = false:=by simpa using h
    refine List.pairwise_cons.2 ⟨fun z hz=>?_,TV W hl'.2 hr⟩
    rcases MK hz with hz | hz
    ·exact hl'.1 z hz
    ·rcases List.mem_cons.1 hz with rfl | hz
     ·exact h
     ·exact W.neg z y x (hr'.1 z hz) h
termination_by l r=>l.length+r.length
theorem IK (W:Weak lt):∀(a b c:List β),fO lt (fO lt a b) c = fO lt a (fO lt b c)
 | [],b,c=>by simp only [ig]
 | a,[],c=>by simp only [ig,gZ]
 | a,b,[]=>by simp only [gZ]
 | x :: a,y :: b,z :: c=>by
   rw [lK x y,lK y z]
   by_cases h1:lt y x = true
   ·rw [if_pos h1]
    by_cases h2:lt z y = true
    ·rw [if_pos h2,lK y z,if_pos h2,lK x z,if_pos (W.tr z y x h2 h1),← IK W (x :: a) (y :: b) c,lK x y,if_pos h1]
    ·rw [if_neg h2,lK y z,if_neg h2,lK x y,if_pos h1,IK W (x :: a) b (z :: c)]
   ·rw [if_neg h1]
    by_cases h2:lt z y = true
    ·rw [if_pos h2]
     by_cases h3:lt z x = true
     ·rw [lK x z,if_pos h3,lK x z,if_pos h3,← IK W (x :: a) (y :: b) c,lK x y,if_neg h1]
     ·rw [lK x z,if_neg h3,lK x z,if_neg h3,IK W a (y :: b) (z :: c),lK y z,if_pos h2]
    ·have h3:¬lt z x = true:=by
      have e1:lt z y = false:=by simpa using h2
      have e2:lt y x = false:=by simpa using h1
      rw [W.neg z y x e1 e2];simp
     rw [if_neg h2,lK x z,if_neg h3,lK x y,if_neg h1,IK W a (y :: b) (z :: c),lK y z,if_neg h2]
termination_by a b c=>a.length+b.length+c.length
theorem UW:∀(ys acc:List β),sortB lt acc ys = ys.foldl (fun l y=>fO lt l [y]) acc
 | [],_=>rfl
 | y :: ys,acc=>by rw [sortB,xK,UW ys];rfl
theorem Yv (W:Weak lt):∀(ys acc:List β),sortB lt acc ys = fO lt acc (sortB lt [] ys)
 | [],acc=>by rw [sortB,sortB,gZ]
 | y :: ys,acc=>by
   rw [sortB,sortB,Yv W ys (OM lt y acc),Yv W ys (OM lt y []),xK,xK,ig,IK W]
theorem acz (W:Weak lt) (xs ys:List β):sortB lt [] (xs++ys) = fO lt (sortB lt [] xs) (sortB lt [] ys):=by
 rw [← Yv W,UW,UW,UW,List.foldl_append]
theorem yc (W:Weak lt):∀(ys acc:List β),Sorted lt acc→Sorted lt (sortB lt acc ys)
 | [],_,h=>h
 | y :: ys,acc,h=>by
   rw [sortB]
   refine yc W ys _ ?_
   rw [xK]
   exact TV W h (List.pairwise_singleton _ _)
theorem rD:∀(ys acc:List β),(sortB lt acc ys).length = acc.length+ys.length
 | [],_=>rfl
 | y :: ys,acc=>by rw [sortB,rD ys,xK,fU];simp only [List.length_cons,List.length_nil];omega
theorem aql (W:Weak lt) {l1 l2 r1 r2:List β} (hl:Sorted lt (l1++l2)) (hr:Sorted lt (r1++r2)) (h1:r1 = []∨l2 = []∨∃r1' y x l2',r1 = r1'++[y]∧l2 = x :: l2'∧lt y x = true)
 (h2:l1 = []∨r2 = []∨∃l1' x y r2',l1 = l1'++[x]∧r2 = y :: r2'∧lt y x = false):fO lt (l1++l2) (r1++r2) = fO lt l1 r1++fO lt l2 r2:=by
 refine FV l1 r1 l2 r2 (fun y hy x hx=>?_) (fun y hy x hx=>?_)
 ·rcases h1 with rfl | rfl | ⟨r1',y0,x0,l2',rfl,rfl,h⟩
  ·cases hy
  ·cases hx
  ·have a:lt y0 y = false:=by
    rcases List.mem_append.1 hy with hy | hy
    ·have:=(List.pairwise_append.1 (List.pairwise_append.1 hr).1).2.2 y hy y0 (List.mem_singleton.2 rfl);exact this
    ·rw [List.mem_singleton.1 hy,W.irr]
   have b:lt x x0 = false:=by
    rcases List.mem_cons.1 hx with rfl | hx
    ·exact W.irr x
    ·exact (List.pairwise_cons.1 (List.pairwise_append.1 hl).2.1).1 x hx
   exact W.left (W.right a h) b
 ·rcases h2 with rfl | rfl | ⟨l1',x0,y0,r2',rfl,rfl,h⟩
  ·cases hx
  ·cases hy
  ·have a:lt x0 x = false:=by
    rcases List.mem_append.1 hx with hx | hx
    ·exact (List.pairwise_append.1 (List.pairwise_append.1 hl).1).2.2 x hx x0 (List.mem_singleton.2 rfl)
    ·rw [List.mem_singleton.1 hx,W.irr]
   have b:lt y y0 = false:=by
    rcases List.mem_cons.1 hy with rfl | hy
    ·exact W.irr y
    ·exact (List.pairwise_cons.1 (List.pairwise_append.1 hr).2.1).1 y hy
   exact W.neg y x0 x (W.neg y y0 x0 b h) a
def runs (lt:β→β→Bool) (s:Nat) (xs:List β):List β:=if h:xs.length≤s∨s = 0 then sortB lt [] xs else sortB lt [] (xs.take s)++runs lt s (xs.drop s)
termination_by xs.length
decreasing_by rw [List.length_drop];omega
theorem zo {s:Nat} {xs:List β} (h:xs.length≤s):runs lt s xs = sortB lt [] xs:=by unfold runs;rw [dif_pos (.inl h)]
theorem amZ (s:Nat):runs lt s ([]:List β) = []:=by rw [zo (Nat.zero_le _)];rfl
theorem Ky {s:Nat} (hs:0 < s) (xs:List β):runs lt s xs = sortB lt [] (xs.take s)++runs lt s (xs.drop s):=by
 by_cases h:xs.length≤s
 ·rw [List.take_of_length_le h,List.drop_of_length_le h,amZ,List.append_nil,zo h]
 ·conv=>lhs;unfold runs
  rw [dif_neg (by omega)]
theorem am0 (W:Weak lt) {s:Nat} (hs:0 < s) (ys:List β):runs lt s ys = sortB lt [] (ys.take s)++(sortB lt [] ((ys.drop s).take s)++runs lt s (ys.drop (2 * s))) ∧
 fO lt (sortB lt [] (ys.take s)) (sortB lt [] ((ys.drop s).take s)) = sortB lt [] (ys.take (2 * s)):=by
 constructor
 ·rw [Ky hs ys,Ky hs (ys.drop s),List.drop_drop,show s+s = 2 * s by omega]
 ·rw [← acz W]
  congr 1
  rw [show 2 * s = s+s by omega,List.take_add]
theorem ajf (W:Weak lt) {s:Nat} (hs:0 < s) {ys:List β} (h1:s < ys.length) (h2:ys.length≤2 * s):runs lt s ys = sortB lt [] (ys.take s)++sortB lt [] (ys.drop s) ∧
 fO lt (sortB lt [] (ys.take s)) (sortB lt [] (ys.drop s)) = runs lt (2 * s) ys:=by
 constructor
 ·rw [Ky hs ys,zo (xs:=ys.drop s) awz]
 ·rw [← acz W,List.take_append_drop,zo (s:=2 * s) h2]
theorem alh (W:Weak lt) {y:β} {s1 s2:List β} (hs:Sorted lt (s1++s2)) (h2:∀x∈s2,lt y x = true) (h1:s1 = []∨∃s' x,s1 = s'++[x]∧lt y x = false):OM lt y (s1++s2) = s1++y :: s2:=by
 rw [xK]
 refine UU (fun x hx=>?_) h2
 rcases h1 with rfl | ⟨s',x0,rfl,h⟩
 ·cases hx
 ·rcases List.mem_append.1 hx with hx | hx
  ·exact W.neg y x0 x h ((List.pairwise_append.1 (List.pairwise_append.1 hs).1).2.2 x hx x0 (List.mem_singleton.2 rfl))
  ·rw [List.mem_singleton.1 hx];exact h
theorem V3 (xs:List β) (y:β):sortB lt [] (xs++[y]) = OM lt y (sortB lt [] xs):=by
 rw [UW,UW,List.foldl_append,xK]
 rfl
end
end Go.Proofs.YtnjibbpcafgglaaGreat
namespace Go.Proofs.YtnjibbpcafgglaaGreat
open Go.ChangeShapes Go.WideShapes Go.ChangeAt Go.RowKit
set_option linter.unusedVariables false
set_option linter.unusedSimpArgs false
section
variable {β:Type} {row:β→List Value} {S:Nat}
def Tab (row:β→List Value) (S:Nat) (w:World) (b o:Nat) (D:List β):Prop:=∀k x,D[k]? = some x→∀j u,(row x)[j]? = some u→w.cell? ⟨b,o+k * S+j,none⟩ = some u
theorem Tab.put {w:World} {b o:Nat} {D:List β} (h:Tab row S w b o D) (hS:∀x,(row x).length = S) {i:Nat} (hi:i < D.length) (y:β):Tab row S (w.setCells b (o+i * S) (row y)) b o (D.set i y):=by
 intro k x hk j u hj
 have hj2:j < S:=by rw [← hS x];exact (List.getElem?_eq_some_iff.1 hj).1
 have hex:∀q,q < (row y).length→(w.cell? ⟨b,o+i * S+q,none⟩).isSome = true:=fun q hq=>by
  rw [hS] at hq
  have hx:=h i D[i] (List.getElem?_eq_getElem hi) q ((row D[i])[q]'(by rw [hS];exact hq)) (List.getElem?_eq_getElem _)
  rw [hx];rfl
 by_cases hik:i = k
 ·subst hik
  rw [List.getElem?_set_self hi] at hk
  obtain rfl:=Option.some.inj hk
  have:=World.cell?_setCells_in b (row y) (o+i * S) w hex j (by rw [hS];exact hj2)
  rw [this,← hj]
  exact (List.getElem?_eq_getElem _).symm
 ·rw [List.getElem?_set_ne hik] at hk
  rw [World.cell?_setCells_out b _ _ _ _ (fun _ _=>?_)]
  ·exact h k x hk j u hj
  ·dsimp only
   rw [hS]
   rcases Nat.lt_or_gt_of_ne hik with h1 | h1
   ·right
    have:(i+1) * S≤k * S:=Nat.mul_le_mul_right _ h1
    rw [Nat.succ_mul] at this
    omega
   ·left
    have:(k+1) * S≤i * S:=Nat.mul_le_mul_right _ h1
    rw [Nat.succ_mul] at this
    omega
theorem Tab.at_ {w:World} {b o:Nat} {D:List β} (h:Tab row S w b o D) {k:Nat} (hk:k < D.length) {j:Nat} {u:Value} (hj:(row D[k])[j]? = some u):w.cell? ⟨b,o+k * S+j,none⟩ = some u:=h k D[k] (List.getElem?_eq_getElem hk) j u hj
theorem Tab.keep {w w':World} {b o:Nat} {D:List β} (h:Tab row S w b o D) (hk:w'.heap[b]? = w.heap[b]?):Tab row S w' b o D:=fun k x hx j u hj=>(World.cell?_of_block hk).trans (h k x hx j u hj)
theorem Tab.ext {w w':World} {b o:Nat} {D:List β} (h:Tab row S w b o D) (hb:b < w.heap.size) (he:Below w.heap.size w w'):Tab row S w' b o D:=h.keep (he.block b hb)
def WQ (D:List β) (i j:Nat):List β:=match D[i]?,D[j]? with | some x,some y=>(D.set i y).set j x | _,_=>D
theorem asA {D:List β} {i j:Nat} (hi:i < D.length) (hj:j < D.length):WQ D i j = (D.set i D[j]).set j D[i]:=by unfold WQ;rw [List.getElem?_eq_getElem hi,List.getElem?_eq_getElem hj]
theorem swapL_len (D:List β) (i j:Nat):(WQ D i j).length = D.length:=by unfold WQ;split <;> simp
structure jJ (row:β→List Value) (S:Nat) (w0 w:World) (b o:Nat) (D:List β):Prop where
 tab:Tab row S w b o D
 plain:Plain w b
 upd:nN [b] w0 w
theorem jJ.ext {w0 w w':World} {b o:Nat} {D:List β} (h:jJ row S w0 w b o D) (he:Below w.heap.size w w'):jJ row S w0 w' b o D :=
 ⟨h.tab.ext h.plain.lt he,by obtain ⟨ds,t,hp⟩:=h.plain;exact ⟨ds,t,(he.block b h.plain.lt).trans hp⟩,h.upd.trans (nN.lq _ he)⟩
theorem jJ.put {w0 w:World} {b o:Nat} {D:List β} (h:jJ row S w0 w b o D) (hS:∀x,(row x).length = S) {i:Nat} (hi:i < D.length) (y:β):jJ row S w0 (w.setCells b (o+i * S) (row y)) b o (D.set i y):=by
 refine ⟨h.tab.put hS hi y,EK b _ _ _ h.plain,?_⟩
 have e:=F8 b (row y) (o+i * S) w
 exact h.upd.trans ⟨e.1,e.2.1,e.2.2,by rw [setCells_size];exact Nat.le_refl _,fun k _ hk=>vV b (by simpa using hk) _ _ _⟩
theorem jJ.swap {w0 w:World} {b o:Nat} {D:List β} (h:jJ row S w0 w b o D) (hS:∀x,(row x).length = S) {i j:Nat} (hi:i < D.length) (hj:j < D.length) :
 jJ row S w0 ((w.setCells b (o+i * S) (row D[j])).setCells b (o+j * S) (row D[i])) b o (WQ D i j):=by
 rw [asA hi hj]
 exact (h.put hS hi D[j]).put hS (by rw [List.length_set];exact hj) D[i]
theorem set_mid (A B:List β) (x y:β) (n:Nat) (hn:A.length = n):(A++x :: B).set n y = A++y :: B:=by
 subst hn
 rw [List.set_append_right _ _ (Nat.le_refl _),Nat.sub_self,List.set_cons_zero]
theorem am1 (p u m v q:List β) (k:Nat) (hk:k < u.length) (hl:u.length = v.length) :
 WQ (p++(v.take k++(u.drop k++(m++(u.take k++(v.drop k++q)))))) (p.length+k) (p.length+u.length+m.length+k) = p++(v.take (k+1)++(u.drop (k+1)++(m++(u.take (k+1)++(v.drop (k+1)++q))))):=by
 have hkv:k < v.length:=by omega
 have e1:(v.take k).length = k:=by rw [List.length_take];omega
 have e2:(u.take k).length = k:=by rw [List.length_take];omega
 obtain ⟨a,ha⟩:∃a,u[k] = a:=⟨_,rfl⟩
 obtain ⟨c,hc⟩:∃c,v[k] = c:=⟨_,rfl⟩
 have du:u.drop k = a :: u.drop (k+1):=by rw [← ha];exact (List.getElem_cons_drop ..).symm
 have dv:v.drop k = c :: v.drop (k+1):=by rw [← hc];exact (List.getElem_cons_drop ..).symm
 have tu:u.take (k+1) = u.take k++[a]:=by rw [← ha];exact List.take_succ_eq_append_getElem hk
 have tv:v.take (k+1) = v.take k++[c]:=by rw [← hc];exact List.take_succ_eq_append_getElem hkv
 have lu:(u.drop (k+1)).length = u.length - (k+1):=by rw [List.length_drop]
 rw [du,dv,tu,tv]
 have gi:(p++(v.take k++(a :: u.drop (k+1)++(m++(u.take k++(c :: v.drop (k+1)++q))))))[p.length+k]? = some a:=by
  rw [List.getElem?_append_right (by omega),List.getElem?_append_right (by omega)]
  simp [e1]
 have gj:(p++(v.take k++(a :: u.drop (k+1)++(m++(u.take k++(c :: v.drop (k+1)++q))))))[p.length+u.length+m.length+k]? = some c:=by
  rw [List.getElem?_append_right (by omega),List.getElem?_append_right (by omega),List.getElem?_append_right (by simp;omega),List.getElem?_append_right (by simp;omega),List.getElem?_append_right (by simp;omega),e1,e2]
  simp only [List.length_cons,lu,List.cons_append]
  rw [show p.length+u.length+m.length+k - p.length - k - (u.length - (k+1)+1) - m.length - k = 0 by omega]
  rfl
 unfold WQ
 rw [gi,gj]
 dsimp only
 have s1:(p++(v.take k++(a :: u.drop (k+1)++(m++(u.take k++(c :: v.drop (k+1)++q)))))).set (p.length+k) c = p++(v.take k++(c :: u.drop (k+1)++(m++(u.take k++(c :: v.drop (k+1)++q))))):=by
  have h:=set_mid (p++v.take k) (u.drop (k+1)++(m++(u.take k++(c :: v.drop (k+1)++q)))) a c (p.length+k) (by rw [List.length_append,e1])
  simpa only [List.append_assoc,List.cons_append] using h
 have s2:(p++(v.take k++(c :: u.drop (k+1)++(m++(u.take k++(c :: v.drop (k+1)++q)))))).set (p.length+u.length+m.length+k) a = p++(v.take k++(c :: u.drop (k+1)++(m++(u.take k++(a :: v.drop (k+1)++q))))):=by
  have h:=set_mid (p++(v.take k++(c :: u.drop (k+1)++(m++u.take k)))) (v.drop (k+1)++q) c a (p.length+u.length+m.length+k) (by simp only [List.length_append,List.length_cons,e1,e2,lu];omega)
  simpa only [List.append_assoc,List.cons_append] using h
 rw [s1,s2]
 simp only [List.append_assoc,List.cons_append,List.nil_append]
theorem am2 (p u m v q:List β) (k:Nat) (hk:k < u.length) (hl:u.length = v.length):(p++(v.take k++(u.drop k++(m++(u.take k++(v.drop k++q))))))[p.length+k]? = some u[k]:=by
 have e1:(v.take k).length = k:=by rw [List.length_take];omega
 rw [List.getElem?_append_right (by omega),List.getElem?_append_right (by omega),e1,show p.length+k - p.length - k = 0 by omega,List.getElem?_append_left awz,List.getElem?_drop,Nat.add_zero]
 exact List.getElem?_eq_getElem hk
theorem ajg (p u m v q:List β) (k:Nat) (hk:k < v.length) (hl:u.length = v.length):(p++(v.take k++(u.drop k++(m++(u.take k++(v.drop k++q))))))[p.length+u.length+m.length+k]? = some v[k]:=by
 have e1:(v.take k).length = k:=by rw [List.length_take];omega
 have e2:(u.take k).length = k:=by rw [List.length_take];omega
 have e3:(u.drop k).length = u.length - k:=List.length_drop
 rw [List.getElem?_append_right (by omega),List.getElem?_append_right (by omega),List.getElem?_append_right (by omega),List.getElem?_append_right (by omega),List.getElem?_append_right (by omega),e1,e2,e3,
   show p.length+u.length+m.length+k - p.length - k - (u.length - k) - m.length - k = 0 by omega,List.getElem?_append_left awz,List.getElem?_drop,Nat.add_zero]
 exact List.getElem?_eq_getElem hk
theorem jJ.swap_ {w0 w:World} {b o:Nat} {D:List β} (h:jJ row S w0 w b o D) (hS:∀x,(row x).length = S) {i j:Nat} {x y:β} (hi:D[i]? = some x) (hj:D[j]? = some y) :
 jJ row S w0 ((w.setCells b (o+i * S) (row y)).setCells b (o+j * S) (row x)) b o (WQ D i j):=by
 obtain ⟨hi1,rfl⟩:=List.getElem?_eq_some_iff.1 hi
 obtain ⟨hj1,rfl⟩:=List.getElem?_eq_some_iff.1 hj
 exact h.swap hS hi1 hj1
end
end Go.Proofs.YtnjibbpcafgglaaGreat
namespace Go.Proofs.YtnjibbpcafgglaaGreat
set_option linter.unusedVariables false
set_option linter.unusedSimpArgs false
def kS {β:Type} (cv:β→β→Int) (x y:β):Bool:=decide (cv x y < 0)
section
variable {β:Type} {lt:β→β→Bool}
theorem Sorted.at_ {l:List β} (h:Sorted lt l) {t u:Nat} (htu:t < u) (hu:u < l.length):lt l[u] (l[t]'(by omega)) = false :=
 List.pairwise_iff_getElem.1 h t u (by omega) hu htu
theorem ad5 {l:List β} {k:Nat} {z:β} (h:z∈l.take k):∃t,∃ht:t < l.length,t < k∧l[t] = z:=by
 obtain ⟨t,ht,e⟩:=List.mem_iff_getElem.1 h
 rw [List.length_take] at ht
 exact ⟨t,by omega,by omega,by rw [← e,List.getElem_take]⟩
theorem ad6 {l:List β} {k:Nat} {z:β} (h:z∈l.drop k):∃t,∃ht:t < l.length,k≤t∧l[t] = z:=by
 obtain ⟨t,ht,e⟩:=List.mem_iff_getElem.1 h
 rw [List.length_drop] at ht
 exact ⟨k+t,by omega,by omega,by rw [← e,List.getElem_drop]⟩
theorem acA (W:Weak lt) {r:List β} (hr:Sorted lt r) {x:β} {k:Nat} (hk:k < r.length) (h:lt r[k] x = true):∀y∈r.take (k+1),lt y x = true:=by
 intro y hy
 obtain ⟨t,ht,htk,rfl⟩:=ad5 hy
 rcases Nat.lt_or_ge t k with h1 | h1
 ·exact W.right (hr.at_ h1 hk) h
 ·obtain rfl:t = k:=by omega
  exact h
theorem ad7 (W:Weak lt) {r:List β} (hr:Sorted lt r) {x:β} {k:Nat} (hk:k < r.length) (h:lt r[k] x = false):∀y∈r.drop k,lt y x = false:=by
 intro y hy
 obtain ⟨t,ht,htk,rfl⟩:=ad6 hy
 rcases Nat.lt_or_ge k t with h1 | h1
 ·exact W.neg _ _ _ (hr.at_ h1 ht) h
 ·obtain rfl:t = k:=by omega
  exact h
theorem acB (W:Weak lt) {l:List β} (hl:Sorted lt l) {y:β} {k:Nat} (hk:k < l.length) (h:lt y l[k] = false):∀x∈l.take (k+1),lt y x = false:=by
 intro x hx
 obtain ⟨t,ht,htk,rfl⟩:=ad5 hx
 rcases Nat.lt_or_ge t k with h1 | h1
 ·exact W.neg _ _ _ h (hl.at_ h1 hk)
 ·obtain rfl:t = k:=by omega
  exact h
theorem Z9 (W:Weak lt) {l:List β} (hl:Sorted lt l) {y:β} {k:Nat} (hk:k < l.length) (h:lt y l[k] = true):∀x∈l.drop k,lt y x = true:=by
 intro x hx
 obtain ⟨t,ht,htk,rfl⟩:=ad6 hx
 rcases Nat.lt_or_ge k t with h1 | h1
 ·exact W.left h (hl.at_ h1 ht)
 ·obtain rfl:t = k:=by omega
  exact h
theorem Yw {x:β} {r:List β} {k:Nat} (h1:∀y∈r.take k,lt y x = true) (h2:∀y∈r.drop k,lt y x = false):fO lt [x] r = r.take k++x :: r.drop k:=by
 have:=aeO h1 h2
 rwa [List.take_append_drop] at this
theorem WR {y:β} {l:List β} {k:Nat} (h1:∀x∈l.take k,lt y x = false) (h2:∀x∈l.drop k,lt y x = true):fO lt l [y] = l.take k++y :: l.drop k:=by
 have:=UU h1 h2
 rwa [List.take_append_drop] at this
theorem ali (W:Weak lt) {l r:List β} (hl:Sorted lt l) (hr:Sorted lt r) {d s lo hi:Nat} (hlo:lo = 0∨lo+r.length = d) (hhi:hi = l.length∨hi = d) (h1:lo≤s) (h2:s≤hi) (hd:s≤d) (hsl:s≤l.length)
 (p1:s = lo∨∃x y,l[s - 1]? = some x∧r[d - s]? = some y∧lt y x = false) (p2:s = hi∨∃x y,l[s]? = some x∧r[d - 1 - s]? = some y∧lt y x = true) :
 fO lt l r = fO lt (l.take s) (r.take (d - s))++fO lt (l.drop s) (r.drop (d - s)):=by
 rw [← aql W (l1:=l.take s) (l2:=l.drop s) (r1:=r.take (d - s)) (r2:=r.drop (d - s))]
 ·rw [List.take_append_drop,List.take_append_drop]
 ·rw [List.take_append_drop];exact hl
 ·rw [List.take_append_drop];exact hr
 ·by_cases e:s = hi
  ·rcases hhi with h | h
   ·right;left;rw [List.drop_eq_nil_iff];omega
   ·left;rw [show d - s = 0 by omega];rfl
  ·obtain ⟨x,y,hx,hy,hlt⟩:=p2.resolve_left e
   obtain ⟨hx1,rfl⟩:=List.getElem?_eq_some_iff.1 hx
   obtain ⟨hy1,rfl⟩:=List.getElem?_eq_some_iff.1 hy
   by_cases e2:s = d
   ·left;rw [show d - s = 0 by omega];rfl
   ·right;right
    refine ⟨r.take (d - 1 - s),_,_,l.drop (s+1),?_,(List.getElem_cons_drop hx1).symm,hlt⟩
    rw [← List.take_succ_eq_append_getElem hy1]
    congr 1;omega
 ·by_cases e:s = lo
  ·rcases hlo with h | h
   ·left;rw [show s = 0 by omega];rfl
   ·right;left;rw [List.drop_eq_nil_iff];omega
  ·obtain ⟨x,y,hx,hy,hlt⟩:=p1.resolve_left e
   obtain ⟨hx1,rfl⟩:=List.getElem?_eq_some_iff.1 hx
   obtain ⟨hy1,rfl⟩:=List.getElem?_eq_some_iff.1 hy
   right;right
   refine ⟨l.take (s - 1),_,_,r.drop (d - s+1),?_,(List.getElem_cons_drop hy1).symm,hlt⟩
   rw [← List.take_succ_eq_append_getElem hx1]
   congr 1;omega
theorem am3 {s:Nat} (hs:0 < s):∀(n:Nat) (xs:List β),xs.length≤n→(runs lt s xs).length = xs.length:=by
 intro n
 induction n with
 | zero =>
   intro xs h
   have:xs = []:=List.eq_nil_of_length_eq_zero (by omega)
   subst this
   rw [amZ]
 | succ n ih =>
   intro xs h
   rcases Nat.lt_or_ge s xs.length with h1 | h1
   ·rw [Ky hs,List.length_append,rD,ih (xs.drop s) awz,List.length_take,List.length_drop,List.length_nil];omega
   ·rw [zo h1,rD,List.length_nil];omega
theorem wY (p s r:List β) (x y:β) {n:Nat} (hn:p.length+s.length = n):(p++(s++(x :: y :: r)))[n]? = some x:=by
 subst hn
 rw [List.getElem?_append_right (by omega),List.getElem?_append_right (by omega),show p.length+s.length - p.length - s.length = 0 by omega]
 rfl
theorem wZ (p s r:List β) (x y:β) {n:Nat} (hn:p.length+s.length = n):(p++(s++(x :: y :: r)))[n+1]? = some y:=by
 subst hn
 rw [List.getElem?_append_right (by omega),List.getElem?_append_right (by omega),show p.length+s.length+1 - p.length - s.length = 1 by omega]
 rfl
theorem asB (p s r:List β) (x z:β) {n:Nat} (hn:p.length+s.length = n):(p++(s++(x :: r))).set n z = p++(s++(z :: r)):=by
 have:=set_mid (p++s) r x z n (by rw [List.length_append,hn])
 simpa only [List.append_assoc] using this
theorem apF (p s r:List β) (x y z:β) {n:Nat} (hn:p.length+s.length = n):(p++(s++(x :: y :: r))).set (n+1) z = p++(s++(x :: z :: r)):=by
 have:=set_mid (p++(s++[x])) r y z (n+1) (by simp only [List.length_append,List.length_cons,List.length_nil];omega)
 simpa only [List.append_assoc,List.cons_append,List.nil_append] using this
theorem ajh (p s r:List β) (x y:β) {n:Nat} (hn:p.length+s.length = n):WQ (p++(s++(x :: y :: r))) n (n+1) = p++(s++(y :: x :: r)):=by
 unfold WQ
 rw [wY p s r x y hn,wZ p s r x y hn]
 dsimp only
 rw [asB p s _ x y hn,apF p s r y y x hn]
theorem V7 (p s r:List β) (x y:β) {n:Nat} (hn:p.length+s.length = n):WQ (p++(s++(x :: y :: r))) (n+1) n = p++(s++(y :: x :: r)):=by
 unfold WQ
 rw [wY p s r x y hn,wZ p s r x y hn]
 dsimp only
 rw [apF p s r x y x hn,asB p s _ x y hn]
end
end Go.Proofs.YtnjibbpcafgglaaGreat
namespace Go.Proofs.YtnjibbpcafgglaaGreat
open Go.ChangeShapes Go.WideShapes Go.ChangeAt Go.RowKit
set_option linter.unusedVariables false
set_option linter.unusedSimpArgs false
section
variable {β:Type} (nm:β→ByteArray)
set_option maxRecDepth 100000 in
set_option maxHeartbeats 2000000 in
theorem TW (W0 w:World) (b o c N:Nat) (p u m v q:List β) (a bb n:Nat) (f:Value) (h:jJ (fun x=>[Value.string (nm x)]) 1 W0 w b o (p++(u++(m++(v++q))))) (hN:(p++(u++(m++(v++q)))).length≤N) (BI:N≤1048576) (ha:Hid (p.length = a)) (hu:Hid (u.length = n)) (hv:Hid (v.length = n)) (hm:Hid (p.length+u.length+m.length = bb)) :
 Calls Tryz.prog 209 #[.slice (some ⟨b,o,none⟩) N c,.int .i64 a,.int .i64 bb,.int .i64 n,f] w fun e w'=>e = .returned (.tuple #[])∧jJ (fun x=>[Value.string (nm x)]) 1 W0 w' b o (p++(v++(m++(u++q)))):=by
 have hlen:a+n+m.length+n≤N:=by have e1:=ha.out;have e2:=hu.out;have e3:=hv.out;simp only [List.length_append] at hN;omega
 have hbb:bb = a+n+m.length:=by have e1:=ha.out;have e2:=hu.out;have e3:=hm.out;omega
 have HBB:=Lib.hid hbb
 have hb1:a+n≤bb:=by omega
 have hb2:bb+n≤N:=by omega
 clear hbb
 go_enter Tryz.func209,Tryz.ntmps209
 go_wp2_with fail
 go_loopw [10] (fun i wr=>∃k:Nat,k≤n∧i = .int .i64 k∧jJ (fun x=>[Value.string (nm x)]) 1 W0 wr b o (p++(v.take k++(u.drop k++(m++(u.take k++(v.drop k++q))))))) (fun i _=>n - (intOf i).toNat)
 case atStart=>exact ⟨0,Nat.zero_le _,rfl,by simpa using h⟩
 case round =>
  obtain ⟨k,hk,rfl,hS⟩:=hrel
  by_cases hlt:k < n
  ·have hku:k < u.length:=by have:=hu.out;omega
   have hkv:k < v.length:=by have:=hv.out;omega
   have alj:u.length = v.length:=by rw [hu.out,hv.out]
   have gl:=am2 p u m v q k hku alj
   have gr:=ajg p u m v q k hkv alj
   have sg:=am1 p u m v q k hku alj
   rw [hm.out] at gr sg
   rw [ha.out] at gl sg
   generalize u[k] = x at gl
   generalize v[k] = y at gr
   have HS:=Lib.hid hS
   have qx:wr.cell? ⟨b,o+(a+k),none⟩ = some (.string (nm x)):=by have:=hS.tab _ x gl 0 _ rfl;simpa using this
   have qy:wr.cell? ⟨b,o+(bb+k),none⟩ = some (.string (nm y)):=by have:=hS.tab _ y gr 0 _ rfl;simpa using this
   have qf:=hS.plain.frozen
   have ql:=hS.plain.lt
   have HGL:=Lib.hid gl
   have HGR:=Lib.hid gr
   have HSG:=Lib.hid sg
   clear hS gl gr sg alj
   go_wp2_with fail
   go_region
   go_wp2
   have h2:=HS.out.swap_ (fun _=>rfl) HGL.out HGR.out
   rw [HSG.out,Nat.mul_one,Nat.mul_one] at h2
   exact ⟨⟨k+1,by omega,by go_num,jJ.ext h2 (aA (aj _))⟩,by simp [intOf];omega⟩
  ·have hkl:k = n:=by omega
   subst hkl
   rw [← hu.out,List.take_of_length_le awC,List.drop_length,List.take_length,List.drop_of_length_le awC,List.nil_append,List.nil_append] at hS
   go_wp2
   go_end0
   exact ⟨rfl,hS⟩
set_option maxRecDepth 100000 in
set_option maxHeartbeats 2000000 in
theorem Ii (W0 w:World) (b o c N:Nat) (p u v q:List β) (a mm bb:Nat) (f:Value) (h:jJ (fun x=>[Value.string (nm x)]) 1 W0 w b o (p++(u++(v++q)))) (hN:(p++(u++(v++q))).length≤N) (BI:N≤1048576) (ha:Hid (p.length = a)) (hm:Hid (a+u.length = mm)) (hb:Hid (mm+v.length = bb)) (hu0:0 < u.length) (hv0:0 < v.length) :
 Calls Tryz.prog 197 #[.slice (some ⟨b,o,none⟩) N c,.int .i64 a,.int .i64 mm,.int .i64 bb,f] w fun e w'=>e = .returned (.tuple #[])∧jJ (fun x=>[Value.string (nm x)]) 1 W0 w' b o (p++(v++(u++q))):=by
 have hlen:a+u.length+v.length≤N:=by have e1:=ha.out;simp only [List.length_append] at hN;omega
 have hmm:a+u.length = mm:=hm.out
 have hbb:mm+v.length = bb:=hb.out
 have HM:=Lib.hid hmm
 have HB:=Lib.hid hbb
 have h1:a≤mm:=by omega
 have h2:mm≤bb:=by omega
 have h3:bb≤N:=by omega
 have MO:=Lib.hid hN
 clear hmm hbb hN
 go_enter Tryz.func197,Tryz.ntmps197
 go_wp2_with fail
 go_loopw [10,11] (fun i j wr=>∃A U V B:List β,i = .int .i64 U.length∧j = .int .i64 V.length∧0 < U.length∧0 < V.length∧Hid (v++u = A++(V++(U++B)))∧Hid (p.length+A.length+U.length = mm)∧jJ (fun x=>[Value.string (nm x)]) 1 W0 wr b o (p++(A++(U++(V++(B++q)))))) (fun i j _=>(intOf i).toNat+(intOf j).toNat)
 case atStart =>
  have e1:=ha.out;have e2:=HM.out;have e3:=HB.out
  exact ⟨[],u,v,[],by simp;omega,by simp;omega,hu0,hv0,Lib.hid (by simp),Lib.hid (by simp;omega),by simpa using h⟩
 case round =>
  obtain ⟨A,U,V,B,rfl,rfl,hU,hV,hE,hP,hS⟩:=hrel
  have hle:A.length+U.length+V.length+B.length = u.length+v.length:=by have:=congrArg List.length hE.out;simp only [List.length_append] at this;omega
  have hpa:p.length+A.length+U.length = mm:=hP.out
  have hUm:U.length≤mm:=by omega
  have hbn:mm+V.length≤N:=by have e1:=ha.out;have e2:=HM.out;omega
  have HLE:=Lib.hid hle
  have HPA:=Lib.hid hpa
  have HS:=Lib.hid hS
  clear hle hpa hS
  have hlq:(p++(u++(v++q))).length = p.length+u.length+v.length+q.length:=by simp only [List.length_append];omega
  have HLQ:=Lib.hid hlq
  clear hlq
  rcases Nat.lt_trichotomy U.length V.length with hlt | heq | hgt
  ·have hne:((U.length:Int) != V.length) = true:=by simp;omega
   go_wp2_with fail
   obtain ⟨V1,V2,rfl,hV2⟩:∃V1 V2,V = V1++V2∧V2.length = U.length:=⟨V.take (V.length - U.length),V.drop (V.length - U.length),(List.take_append_drop ..).symm,by rw [List.length_drop];omega⟩
   have hpa:=HPA.out
   have hle:=HLE.out
   have hl:(V1++V2).length = V1.length+V2.length:=List.length_append ..
   rw [show (mm:Int) - U.length = ((p.length+A.length:Nat):Int) by omega,show (mm:Int)+(V1++V2).length - U.length = ((mm+V1.length:Nat):Int) by omega]
   refine (TW nm W0 wr b o c N (p++A) U V1 V2 (B++q) (p.length+A.length) (mm+V1.length) U.length f avF ?_ BI (Lib.hid (by simp)) (Lib.hid rfl) (Lib.hid hV2) (Lib.hid ?_)).mono ?_
   ·have:=MO.out;have:=HLQ.out;simp only [List.length_append] at *;omega
   ·simp only [List.length_append];omega
   rintro e w2 ⟨rfl,hS2⟩
   clear hpa hle
   go_wp2
   refine ⟨⟨A,V2,V1,U++B,by rw [hV2],by first | rfl | (congr 1;omega),by omega,by omega,Lib.hid awD,Lib.hid (by have:=HPA.out;omega),by simpa [List.append_assoc] using hS2⟩,by simp only [intOf];omega⟩
  ·have hne:((U.length:Int) != V.length) = false:=by simp;omega
   go_wp2_with fail
   have hpa:=HPA.out
   have hle:=HLE.out
   rw [show (mm:Int) - V.length = ((p.length+A.length:Nat):Int) by omega]
   refine (TW nm W0 wr b o c N (p++A) U [] V (B++q) (p.length+A.length) mm V.length f avF ?_ BI (Lib.hid (by simp)) (Lib.hid heq) (Lib.hid rfl) (Lib.hid ?_)).mono ?_
   ·have:=MO.out;have:=HLQ.out;simp only [List.length_append,List.length_nil] at *;omega
   ·simp only [List.length_append,List.length_nil];omega
   rintro e w2 ⟨rfl,hS2⟩
   clear hpa hle heq
   go_wp2
   go_end0
   refine ⟨rfl,?_⟩
   have e9:p++(v++(u++q)) = (p++A)++(V++([]++(U++(B++q)))):=by rw [← List.append_assoc v u q,hE.out];simp [List.append_assoc]
   rw [e9]
   exact hS2
  ·have hne:((U.length:Int) != V.length) = true:=by simp;omega
   go_wp2_with fail
   obtain ⟨U1,U2,rfl,hU1⟩:∃U1 U2,U = U1++U2∧U1.length = V.length:=⟨U.take V.length,U.drop V.length,(List.take_append_drop ..).symm,by rw [List.length_take];omega⟩
   have hpa:=HPA.out
   have hle:=HLE.out
   have hl:(U1++U2).length = U1.length+U2.length:=List.length_append ..
   rw [show (mm:Int) - (U1++U2).length = ((p.length+A.length:Nat):Int) by omega]
   refine (TW nm W0 wr b o c N (p++A) U1 U2 V (B++q) (p.length+A.length) mm V.length f avF ?_ BI (Lib.hid (by simp)) (Lib.hid hU1) (Lib.hid rfl) (Lib.hid ?_)).mono ?_
   ·have:=MO.out;have:=HLQ.out;simp only [List.length_append] at *;omega
   ·simp only [List.length_append];omega
   rintro e w2 ⟨rfl,hS2⟩
   clear hpa hle
   go_wp2
   refine ⟨⟨A++V,U2,U1,B,by first | rfl | (congr 1;omega),by rw [hU1],by omega,by omega,Lib.hid awD,Lib.hid (by have:=HPA.out;simp only [List.length_append] at *;omega),by simpa [List.append_assoc] using hS2⟩,by simp only [intOf];omega⟩
end
end Go.Proofs.YtnjibbpcafgglaaGreat
namespace Go.Proofs.YtnjibbpcafgglaaGreat
open Go.ChangeShapes Go.WideShapes Go.ChangeAt Go.RowKit
set_option linter.unusedVariables false
set_option linter.unusedSimpArgs false
section
variable {β:Type} (nm:β→ByteArray)
def aaS (cv:β→β→Int) (q1 q2:Addr) (W0:World) (b:Nat):Prop:=∀(x y:β) (w:World),nN [b] W0 w →
 Calls Tryz.prog 105 #[.string (nm x),.string (nm y),.pointer (some q1),.pointer (some q2)] w fun e w'=>e = .returned (.int .i64 (cv x y))∧Below w.heap.size w w'
set_option maxRecDepth 100000 in
set_option maxHeartbeats 2000000 in
theorem Yy (W0 w:World) (b o c N:Nat) (P X Q:List β) (a bb:Nat) (cv:β→β→Int) (q1 q2:Addr) (h:jJ (fun x=>[Value.string (nm x)]) 1 W0 w b o (P++(X++Q))) (hN:(P++(X++Q)).length≤N) (BI:N≤1048576) (ha:Hid (P.length = a)) (hm:Hid (a+X.length = bb)) (W:Weak (kS cv)) (hc:aaS nm cv q1 q2 W0 b) :
 Calls Tryz.prog 178 #[.slice (some ⟨b,o,none⟩) N c,.int .i64 a,.int .i64 bb,.func (.func 105) #[] #[.pointer (some q1),.pointer (some q2)]] w fun e w'=>e = .returned (.tuple #[])∧jJ (fun x=>[Value.string (nm x)]) 1 W0 w' b o (P++(sortB (kS cv) [] X++Q)):=by
 have hlen:bb≤N:=by have e1:=ha.out;have e2:=hm.out;simp only [List.length_append] at hN;omega
 have hle:a≤bb:=by have e2:=hm.out;omega
 have HC:=Lib.hid hc
 have HW:=Lib.hid W
 clear hc hN W
 go_enter Tryz.func178,Tryz.ntmps178
 go_wp2_with fail
 by_cases hX:X = []
 ·subst hX
  have hab:a = bb:=by simpa using hm.out
  subst hab
  go_loopw [8] (fun i wr=>i = .int .i64 ((a+1:Nat):Int)∧wr = w) (fun _ _=>0)
  case atStart=>exact ⟨by go_num,rfl⟩
  case round =>
   obtain ⟨rfl,rfl⟩:=hrel
   go_wp2
   go_end0
   exact ⟨rfl,h⟩
 have hX1:1≤X.length:=by cases X with | nil=>exact absurd rfl hX | cons x X=>simp
 clear hX
 go_loopw [8] (fun i wr=>∃k:Nat,1≤k∧k≤X.length∧i = .int .i64 ((a+k:Nat):Int)∧jJ (fun x=>[Value.string (nm x)]) 1 W0 wr b o (P++(sortB (kS cv) [] (X.take k)++(X.drop k++Q)))) (fun i _=>bb - (intOf i).toNat)
 case atStart =>
  refine ⟨1,by omega,hX1,by go_num,?_⟩
  have e:sortB (kS cv) [] (X.take 1)++(X.drop 1++Q) = X++Q:=by
   cases X with
   | nil=>simp at hX1
   | cons x X=>rfl
  rw [e];exact h
 case round =>
  obtain ⟨k,hk1,hk,rfl,hS⟩:=hrel
  by_cases hlt:k < X.length
  ·obtain ⟨wo,hwo⟩:∃wo,wo = wr:=⟨_,rfl⟩
   subst hwo
   have hlt2:a+k < bb:=by have e2:=hm.out;omega
   obtain ⟨y,hy⟩:∃y,X[k] = y:=⟨_,rfl⟩
   have hdr:X.drop k = y :: X.drop (k+1):=by rw [← hy];exact (List.getElem_cons_drop ..).symm
   have hnx:sortB (kS cv) [] (X.take (k+1)) = OM (kS cv) y (sortB (kS cv) [] (X.take k)):=by rw [List.take_succ_eq_append_getElem hlt,hy,V3]
   have hso:Sorted (kS cv) (sortB (kS cv) [] (X.take k)):=yc HW.out _ _ List.Pairwise.nil
   have hsl:(sortB (kS cv) [] (X.take k)).length = k:=by rw [rD,List.length_take];simp;omega
   rw [hdr] at hS
   have Jf:=Lib.hid hnx
   have LJ:=Lib.hid hso
   clear hdr hnx hso hy
   generalize hSS:sortB (kS cv) [] (X.take k) = SS at *
   generalize hRR:X.drop (k+1)++Q = RR at *
   have HSS:=Lib.hid hSS
   have HRR:=Lib.hid hRR
   have HSL:=Lib.hid hsl
   clear hSS hRR hsl
   go_wp2_with fail
   go_loopw [9] (fun j wr=>∃(s1 s2:List β) (jj:Nat),Hid (SS = s1++s2)∧j = .int .i64 (jj:Int)∧Hid (a+s1.length = jj)∧Hid (∀x∈s2,kS cv y x = true)∧jJ (fun x=>[Value.string (nm x)]) 1 W0 wr b o (P++(s1++(y :: (s2++RR))))) (fun j _=>(intOf j).toNat)
   case atStart =>
    refine ⟨SS,[],a+k,Lib.hid (by simp),rfl,Lib.hid (by rw [HSL.out]),Lib.hid (by simp),?_⟩
    simpa [HRR.out] using hS
   case round =>
    obtain ⟨s1,s2,jj,HE,rfl,HJ,HY,hS2⟩:=hrel
    have HU:=Lib.hid hS2.upd
    have hbl:b < wr.heap.size:=hS2.plain.lt
    have hjb:jj < bb:=by have e1:=HJ.out;have e2:=congrArg List.length HE.out;have e3:=HSL.out;rw [List.length_append] at e2;omega
    rcases List.eq_nil_or_concat s1 with rfl | ⟨s',x,rfl⟩
    ·have hja:jj = a:=by simpa using HJ.out.symm
     subst hja
     have HN:=Lib.hid (show OM (kS cv) y SS = y :: s2 by
      have e1:SS = s2:=HE.out
      rw [e1]
      exact alh HW.out (y:=y) (s1:=[]) (s2:=s2) (by rw [List.nil_append,← e1];exact LJ.out) HY.out (.inl rfl))
     have HS:=Lib.hid hS2
     clear hS2
     go_wp2_with fail
     refine aF wr (by kernel_rfl) (by kernel_rfl) (aj _) ?_
     repeat (first
      | (apply aG
         case hw=>rfl
         simp only [Act.put,pz])
      | (apply aH
         case hw=>rfl
         case h =>
          intro wq hq
          have hcq:=(aB hq).1
          have lJ:=(aB hq).2
          go_simp
          first
           | exact ⟨hq,rfl⟩
           | (refine (HC.out y y _ (HU.out.trans (nN.lq _ hq))).mono ?_;rintro e w2 ⟨rfl,hb2⟩;exact ⟨rfl,aI hq hb2⟩)
           | (simp only [↓IntWalk.iteOmega];exact ⟨hq,rfl⟩)
         simp only [Act.put,pz]))
     refine aN ?_
     intro wn hn
     replace hn:=hn.out
     go_wp2
     refine ⟨⟨k+1,by omega,by omega,by go_num,?_⟩,by simp [intOf];omega⟩
     rw [Jf.out,HN.out,HRR.out]
     exact (HS.out).ext hn
    ·obtain ⟨jk,hjk⟩:∃jk,jj = jk+1:=⟨jj - 1,by have:=HJ.out;simp at this;omega⟩
     subst hjk
     have hpj:P.length+s'.length = jk:=by have e1:=HJ.out;have e2:=ha.out;simp at e1;omega
     have hjl:a≤jk:=by have:=ha.out;omega
     have hS3:jJ (fun x=>[Value.string (nm x)]) 1 W0 wr b o (P++(s'++(x :: y :: (s2++RR)))):=by simpa only [List.concat_eq_append,List.append_assoc,List.cons_append,List.nil_append] using hS2
     have g1:=wY P s' (s2++RR) x y hpj
     have g2:=wZ P s' (s2++RR) x y hpj
     have qx:wr.cell? ⟨b,o+jk,none⟩ = some (.string (nm x)):=by have:=hS3.tab _ x g1 0 _ rfl;simpa using this
     have qy:wr.cell? ⟨b,o+(jk+1),none⟩ = some (.string (nm y)):=by have:=hS3.tab _ y g2 0 _ rfl;simpa using this
     have qf:=hS3.plain.frozen
     have HP:=Lib.hid hpj
     have HS:=Lib.hid hS3
     clear hS2 hS3 g1 g2 hpj
     have hdj:decide ((a:Int) < (jk:Int)+1) = true:=by simp;omega
     have hwj:IntKind.i64.wrap (jk:Int) = jk:=IntWalk.i64_in _ (by omega)
     cases hcv:decide (cv y x < 0) with
     | true =>
       go_wp2_with fail
       refine aF wr (by kernel_rfl) (by kernel_rfl) (aj _) ?_
       repeat (first
        | (apply aG
           case hw=>rfl
           simp only [Act.put,pz])
        | (apply aH
           case hw=>rfl
           case h =>
            intro wq hq
            have hcq:=(aB hq).1
            have lJ:=(aB hq).2
            go_simp
            first
             | exact ⟨hq,rfl⟩
             | (refine (HC.out y x _ (HU.out.trans (nN.lq _ hq))).mono ?_;rintro e w2 ⟨rfl,hb2⟩;exact ⟨rfl,aI hq hb2⟩)
             | (simp only [↓IntWalk.iteOmega];exact ⟨hq,rfl⟩)
           simp only [Act.put,pz]))
       refine aN ?_
       intro wn hn
       replace hn:=hn.out
       go_wp2_with fail
       clear qx qy qf HU hbl
       have hSn:=HS.out.ext hn
       have qx:wn.cell? ⟨b,o+jk,none⟩ = some (.string (nm x)):=by have:=hSn.tab _ x (wY P s' (s2++RR) x y HP.out) 0 _ rfl;simpa using this
       have qy:wn.cell? ⟨b,o+(jk+1),none⟩ = some (.string (nm y)):=by have:=hSn.tab _ y (wZ P s' (s2++RR) x y HP.out) 0 _ rfl;simpa using this
       have qf:=hSn.plain.frozen
       have ql:=hSn.plain.lt
       have HSn:=Lib.hid hSn
       have HCV:=Lib.hid hcv
       clear hSn hcv
       go_region
       go_wp2
       have h2:=HSn.out.swap_ (fun _=>rfl) (wZ P s' (s2++RR) x y HP.out) (wY P s' (s2++RR) x y HP.out)
       rw [V7 P s' (s2++RR) x y HP.out,Nat.mul_one,Nat.mul_one] at h2
       refine ⟨⟨s',x :: s2,jk,Lib.hid avz,rfl,Lib.hid (by rw [← HP.out,ha.out]),Lib.hid ?_,jJ.ext h2 (aA (aj _))⟩,by simp [intOf]⟩
       intro z hz
       rcases List.mem_cons.1 hz with rfl | hz
       ·exact HCV.out
       ·exact HY.out z hz
     | false =>
       go_wp2_with fail
       refine aF wr (by kernel_rfl) (by kernel_rfl) (aj _) ?_
       repeat (first
        | (apply aG
           case hw=>rfl
           simp only [Act.put,pz])
        | (apply aH
           case hw=>rfl
           case h =>
            intro wq hq
            have hcq:=(aB hq).1
            have lJ:=(aB hq).2
            go_simp
            first
             | exact ⟨hq,rfl⟩
             | (refine (HC.out y x _ (HU.out.trans (nN.lq _ hq))).mono ?_;rintro e w2 ⟨rfl,hb2⟩;exact ⟨rfl,aI hq hb2⟩)
             | (simp only [↓IntWalk.iteOmega];exact ⟨hq,rfl⟩)
           simp only [Act.put,pz]))
       refine aN ?_
       intro wn hn
       replace hn:=hn.out
       go_wp2
       have BI:OM (kS cv) y SS = (s'++[x])++y :: s2:=by
        have e1:SS = (s'++[x])++s2:=by rw [HE.out];simp
        rw [e1]
        exact alh HW.out (by rw [← e1];exact LJ.out) HY.out (.inr ⟨s',x,rfl,hcv⟩)
       refine ⟨⟨k+1,by omega,by omega,by go_num,?_⟩,by simp [intOf];omega⟩
       rw [Jf.out,BI,HRR.out]
       have h2:=HS.out.ext hn
       simpa only [List.append_assoc,List.cons_append,List.nil_append] using h2
  ·have hkl:k = X.length:=by omega
   subst hkl
   rw [hm.out,List.take_length,List.drop_length,List.nil_append] at *
   go_wp2
   go_end0
   exact ⟨rfl,hS⟩
end
end Go.Proofs.YtnjibbpcafgglaaGreat
namespace Go.Proofs.YtnjibbpcafgglaaGreat
open Go.ChangeShapes Go.WideShapes Go.ChangeAt Go.RowKit
set_option linter.unusedVariables false
set_option linter.unusedSimpArgs false
section
variable {β:Type} (nm:β→ByteArray)
set_option maxRecDepth 100000 in
set_option maxHeartbeats 4000000 in
theorem aht (W0 w:World) (b o c N:Nat) (P R Q:List β) (x:β) (a bb:Nat) (cv:β→β→Int) (q1 q2:Addr) (h:jJ (fun x=>[Value.string (nm x)]) 1 W0 w b o (P++(x :: (R++Q)))) (hN:(P++(x :: (R++Q))).length≤N) (BI:N≤1048576) (ha:Hid (P.length = a)) (hm:Hid (a+1+R.length = bb)) (W:Weak (kS cv)) (hR:Sorted (kS cv) R) (hc:aaS nm cv q1 q2 W0 b) :
 Calls Tryz.prog 179 #[.slice (some ⟨b,o,none⟩) N c,.int .i64 a,.int .i64 ((a+1:Nat):Int),.int .i64 bb,.func (.func 105) #[] #[.pointer (some q1),.pointer (some q2)]] w fun e w'=>e = .returned (.tuple #[])∧jJ (fun x=>[Value.string (nm x)]) 1 W0 w' b o (P++(fO (kS cv) [x] R++Q)):=by
 have hlen:bb≤N:=by have e1:=ha.out;have e2:=hm.out;simp only [List.length_append,List.length_cons] at hN;omega
 have hle:a+1≤bb:=by have e2:=hm.out;omega
 have HC:=Lib.hid hc
 have HW:=Lib.hid W
 have HR:=Lib.hid hR
 clear hc hN W hR
 go_enter Tryz.func179,Tryz.ntmps179
 go_wp2_with fail
 go_loopw [10,11] (fun i j wr=>∃u v i0 j0:Nat,u≤v∧v≤R.length∧i = .int .i64 (i0:Int)∧j = .int .i64 (j0:Int)∧Hid (a+1+u = i0)∧Hid (a+1+v = j0)∧Hid (∀y∈R.take u,kS cv y x = true)∧Hid (∀y∈R.drop v,kS cv y x = false)∧jJ (fun x=>[Value.string (nm x)]) 1 W0 wr b o (P++(x :: (R++Q)))) (fun i j _=>(intOf j - intOf i).toNat)
 case atStart =>
  have e2:=hm.out
  exact ⟨0,R.length,a+1,bb,by omega,by omega,rfl,rfl,Lib.hid rfl,hm,Lib.hid (by simp),Lib.hid (by simp),h⟩
 case round =>
  obtain ⟨u,v,i0,j0,huv,hv,rfl,rfl,HI,HJ,HY,HN,hS⟩:=hrel
  by_cases hlt:u < v
  ·have hij:i0 < j0:=by have:=HI.out;have:=HJ.out;omega
   have hjb:j0≤bb:=by have:=HJ.out;have:=hm.out;omega
   have hai:a+1≤i0:=by have:=HI.out;omega
   obtain ⟨t,ht⟩:∃t:Nat,(i0+j0) / 2 = t:=⟨_,rfl⟩
   have hti:i0≤t:=by omega
   have htj:t < j0:=by omega
   obtain ⟨k,hk⟩:∃k,a+1+k = t:=⟨t - (a+1),by omega⟩
   have hkR:k < R.length:=by have:=hm.out;omega
   have huk:u≤k:=by have:=HI.out;omega
   have hkv:k < v:=by have:=HJ.out;omega
   have hR1:R[k]? = some R[k]:=List.getElem?_eq_getElem hkR
   obtain ⟨y,hy⟩:∃y,R[k] = y:=⟨_,rfl⟩
   have MV:(P++(x :: (R++Q)))[t]? = some y:=by
    rw [List.getElem?_append_right auu,show t - P.length = k+1 by have:=ha.out;omega,List.getElem?_cons_succ,List.getElem?_append_left hkR,hR1,hy]
   have hgx:(P++(x :: (R++Q)))[a]? = some x:=by
    rw [List.getElem?_append_right auu,show a - P.length = 0 by have:=ha.out;omega];rfl
   have qx:wr.cell? ⟨b,o+a,none⟩ = some (.string (nm x)):=by have:=hS.tab _ x hgx 0 _ rfl;simpa using this
   have qy:wr.cell? ⟨b,o+t,none⟩ = some (.string (nm y)):=by have:=hS.tab _ y MV 0 _ rfl;simpa using this
   have HU:=Lib.hid hS.upd
   have hbl:b < wr.heap.size:=hS.plain.lt
   have HS:=Lib.hid hS
   have HK:=Lib.hid hk
   have htI:((i0:Int)+j0) / 2 = t:=by omega
   have HY2:=Lib.hid (fun h:kS cv y x = true=>acA HW.out HR.out hkR (by rw [hy];exact h))
   have Gn:=Lib.hid (fun h:kS cv y x = false=>ad7 HW.out HR.out hkR (by rw [hy];exact h))
   clear hS hR1 MV hgx ht hk hy
   cases hcv:decide (cv y x < 0) with
   | true =>
     go_wp2_with fail
     refine aF wr (by kernel_rfl) (by kernel_rfl) (aj _) ?_
     repeat (first
      | (apply aG
         case hw=>rfl
         simp only [Act.put,pz])
      | (apply aH
         case hw=>rfl
         case h =>
          intro wq hq
          have hcq:=(aB hq).1
          have lJ:=(aB hq).2
          go_simp
          first
           | exact ⟨hq,rfl⟩
           | (refine (HC.out y x _ (HU.out.trans (nN.lq _ hq))).mono ?_;rintro e w2 ⟨rfl,hb2⟩;exact ⟨rfl,aI hq hb2⟩)
           | (simp only [↓IntWalk.iteOmega];exact ⟨hq,rfl⟩)
         simp only [Act.put,pz]))
     refine aN ?_
     intro wn hn
     replace hn:=hn.out
     go_wp2
     refine ⟨⟨k+1,v,t+1,j0,by omega,hv,by go_num,rfl,Lib.hid auL,HJ,Lib.hid (HY2.out hcv),HN,HS.out.ext hn⟩,by simp [intOf];omega⟩
   | false =>
     go_wp2_with fail
     refine aF wr (by kernel_rfl) (by kernel_rfl) (aj _) ?_
     repeat (first
      | (apply aG
         case hw=>rfl
         simp only [Act.put,pz])
      | (apply aH
         case hw=>rfl
         case h =>
          intro wq hq
          have hcq:=(aB hq).1
          have lJ:=(aB hq).2
          go_simp
          first
           | exact ⟨hq,rfl⟩
           | (refine (HC.out y x _ (HU.out.trans (nN.lq _ hq))).mono ?_;rintro e w2 ⟨rfl,hb2⟩;exact ⟨rfl,aI hq hb2⟩)
           | (simp only [↓IntWalk.iteOmega];exact ⟨hq,rfl⟩)
         simp only [Act.put,pz]))
     refine aN ?_
     intro wn hn
     replace hn:=hn.out
     go_wp2
     refine ⟨⟨u,k,i0,t,by omega,by omega,rfl,rfl,HI,HK,HY,Lib.hid (Gn.out hcv),HS.out.ext hn⟩,by simp [intOf];omega⟩
  ·have aa4:v = u:=by omega
   subst aa4
   have hj0:j0 = i0:=by have:=HI.out;have:=HJ.out;omega
   subst hj0
   have HM:=Lib.hid (Yw HY.out HN.out)
   have hai:a+1≤j0:=by have:=HI.out;omega
   have hjb:j0≤bb:=by have:=HJ.out;have:=hm.out;omega
   obtain ⟨wo,hwo⟩:∃wo,wo = wr:=⟨_,rfl⟩
   subst hwo
   clear HJ HY HN
   go_wp2_with fail
   go_loopw [13] (fun k wr=>∃s k0:Nat,s≤v∧k = .int .i64 (k0:Int)∧Hid (a+s = k0)∧jJ (fun x=>[Value.string (nm x)]) 1 W0 wr b o (P++(R.take s++(x :: (R.drop s++Q))))) (fun k _=>j0 - (intOf k).toNat)
   case atStart=>exact ⟨0,a,by omega,rfl,Lib.hid rfl,by simpa using hS⟩
   case round =>
    obtain ⟨s,k0,hs,rfl,HK,hS2⟩:=hrel
    by_cases hlt:s < v
    ·have hks:(k0:Int) < j0 - 1:=by have:=HI.out;have:=HK.out;omega
     have hkb:k0+1 < bb:=by omega
     have hsR:s < R.length:=by omega
     obtain ⟨y,hy⟩:∃y,R[s] = y:=⟨_,rfl⟩
     have hdr:R.drop s = y :: R.drop (s+1):=by rw [← hy];exact (List.getElem_cons_drop ..).symm
     have htk:R.take (s+1) = R.take s++[y]:=by rw [← hy];exact List.take_succ_eq_append_getElem hsR
     rw [hdr] at hS2
     have hS3:jJ (fun x=>[Value.string (nm x)]) 1 W0 wr b o (P++(R.take s++(x :: y :: (R.drop (s+1)++Q)))):=hS2
     have hpk:P.length+(R.take s).length = k0:=by rw [List.length_take];have:=HK.out;have:=ha.out;omega
     have g1:=wY P (R.take s) (R.drop (s+1)++Q) x y hpk
     have g2:=wZ P (R.take s) (R.drop (s+1)++Q) x y hpk
     have qx:wr.cell? ⟨b,o+k0,none⟩ = some (.string (nm x)):=by have:=hS3.tab _ x g1 0 _ rfl;simpa using this
     have qy:wr.cell? ⟨b,o+(k0+1),none⟩ = some (.string (nm y)):=by have:=hS3.tab _ y g2 0 _ rfl;simpa using this
     have qf:=hS3.plain.frozen
     have ql:=hS3.plain.lt
     have h2:=hS3.swap_ (fun _=>rfl) g1 g2
     rw [ajh P (R.take s) (R.drop (s+1)++Q) x y hpk,Nat.mul_one,Nat.mul_one] at h2
     have H2:=Lib.hid h2
     have HTK:=Lib.hid htk
     clear hS2 hS3 h2 htk hdr hpk g1 g2 hy
     go_wp2_with fail
     go_region
     go_wp2
     refine ⟨⟨s+1,k0+1,by omega,by go_num,Lib.hid auL,?_⟩,by simp [intOf];omega⟩
     have h3:=jJ.ext H2.out (aA (aj _))
     rw [HTK.out,show P++((R.take s++[y])++(x :: (R.drop (s+1)++Q))) = P++(R.take s++(y :: x :: (R.drop (s+1)++Q))) by simp only [List.append_assoc,List.cons_append,List.nil_append]]
     exact h3
    ·have hsv:s = v:=by omega
     subst hsv
     have hks:(j0:Int) - 1≤k0:=by have:=HI.out;have:=HK.out;omega
     go_wp2
     refine bodyPost_ret (results_none rfl _ _ _) rfl ?_
     refine ⟨rfl,?_⟩
     rw [HM.out]
     simpa only [List.append_assoc,List.cons_append] using hS2
set_option maxRecDepth 100000 in
set_option maxHeartbeats 4000000 in
theorem aeQ (W0 w:World) (b o c N:Nat) (P L Q:List β) (y:β) (a m:Nat) (cv:β→β→Int) (q1 q2:Addr) (h:jJ (fun x=>[Value.string (nm x)]) 1 W0 w b o (P++(L++(y :: Q)))) (hN:(P++(L++(y :: Q))).length≤N) (BI:N≤1048576) (ha:Hid (P.length = a)) (hm:Hid (a+L.length = m)) (h2:2≤L.length) (W:Weak (kS cv)) (hL:Sorted (kS cv) L) (hc:aaS nm cv q1 q2 W0 b) :
 Calls Tryz.prog 179 #[.slice (some ⟨b,o,none⟩) N c,.int .i64 a,.int .i64 m,.int .i64 ((m+1:Nat):Int),.func (.func 105) #[] #[.pointer (some q1),.pointer (some q2)]] w fun e w'=>e = .returned (.tuple #[])∧jJ (fun x=>[Value.string (nm x)]) 1 W0 w' b o (P++(fO (kS cv) L [y]++Q)):=by
 have hlen:m+1≤N:=by have e1:=ha.out;have e2:=hm.out;simp only [List.length_append,List.length_cons] at hN;omega
 have hle:a+2≤m:=by have e2:=hm.out;omega
 have HC:=Lib.hid hc
 have HW:=Lib.hid W
 have HL:=Lib.hid hL
 have hne1:((m:Int) - a == 1) = false:=by simp;omega
 clear hc hN W hL
 go_enter Tryz.func179,Tryz.ntmps179
 go_wp2_with fail
 go_loopw [14,15] (fun i j wr=>∃u v i0 j0:Nat,u≤v∧v≤L.length∧i = .int .i64 (i0:Int)∧j = .int .i64 (j0:Int)∧Hid (a+u = i0)∧Hid (a+v = j0)∧Hid (∀x∈L.take u,kS cv y x = false)∧Hid (∀x∈L.drop v,kS cv y x = true)∧jJ (fun x=>[Value.string (nm x)]) 1 W0 wr b o (P++(L++(y :: Q)))) (fun i j _=>(intOf j - intOf i).toNat)
 case atStart =>
  have e2:=hm.out
  exact ⟨0,L.length,a,m,by omega,by omega,rfl,rfl,Lib.hid rfl,hm,Lib.hid (by simp),Lib.hid (by simp),h⟩
 case round =>
  obtain ⟨u,v,i0,j0,huv,hv,rfl,rfl,HI,HJ,HY,HN,hS⟩:=hrel
  by_cases hlt:u < v
  ·have hij:i0 < j0:=by have:=HI.out;have:=HJ.out;omega
   have hjb:j0≤m:=by have:=HJ.out;have:=hm.out;omega
   have hai:a≤i0:=by have:=HI.out;omega
   obtain ⟨t,ht⟩:∃t:Nat,(i0+j0) / 2 = t:=⟨_,rfl⟩
   have hti:i0≤t:=by omega
   have htj:t < j0:=by omega
   obtain ⟨k,hk⟩:∃k,a+k = t:=⟨t - a,by omega⟩
   have hkL:k < L.length:=by have:=hm.out;omega
   have huk:u≤k:=by have:=HI.out;omega
   have hkv:k < v:=by have:=HJ.out;omega
   have hL1:L[k]? = some L[k]:=List.getElem?_eq_getElem hkL
   obtain ⟨x,hx⟩:∃x,L[k] = x:=⟨_,rfl⟩
   have hgx:(P++(L++(y :: Q)))[t]? = some x:=by
    rw [List.getElem?_append_right auu,show t - P.length = k by have:=ha.out;omega,List.getElem?_append_left hkL,hL1,hx]
   have MV:(P++(L++(y :: Q)))[m]? = some y:=by
    rw [List.getElem?_append_right auu,List.getElem?_append_right avG,show m - P.length - L.length = 0 by have:=ha.out;have:=hm.out;omega];rfl
   have qx:wr.cell? ⟨b,o+t,none⟩ = some (.string (nm x)):=by have:=hS.tab _ x hgx 0 _ rfl;simpa using this
   have qy:wr.cell? ⟨b,o+m,none⟩ = some (.string (nm y)):=by have:=hS.tab _ y MV 0 _ rfl;simpa using this
   have HU:=Lib.hid hS.upd
   have hbl:b < wr.heap.size:=hS.plain.lt
   have HS:=Lib.hid hS
   have HK:=Lib.hid hk
   have htI:((i0:Int)+j0) / 2 = t:=by omega
   have HY2:=Lib.hid (fun h:kS cv y x = false=>acB HW.out HL.out hkL (by rw [hx];exact h))
   have Gn:=Lib.hid (fun h:kS cv y x = true=>Z9 HW.out HL.out hkL (by rw [hx];exact h))
   clear hS hL1 MV hgx ht hk hx
   cases hcv:decide (cv y x < 0) with
   | false =>
     go_wp2_with fail
     refine aF wr (by kernel_rfl) (by kernel_rfl) (aj _) ?_
     repeat (first
      | (apply aG
         case hw=>rfl
         simp only [Act.put,pz])
      | (apply aH
         case hw=>rfl
         case h =>
          intro wq hq
          have hcq:=(aB hq).1
          have lJ:=(aB hq).2
          go_simp
          first
           | exact ⟨hq,rfl⟩
           | (refine (HC.out y x _ (HU.out.trans (nN.lq _ hq))).mono ?_;rintro e w2 ⟨rfl,hb2⟩;exact ⟨rfl,aI hq hb2⟩)
           | (simp only [↓IntWalk.iteOmega];exact ⟨hq,rfl⟩)
         simp only [Act.put,pz]))
     refine aN ?_
     intro wn hn
     replace hn:=hn.out
     go_wp2
     refine ⟨⟨k+1,v,t+1,j0,by omega,hv,by go_num,rfl,Lib.hid auL,HJ,Lib.hid (HY2.out hcv),HN,HS.out.ext hn⟩,by simp [intOf];omega⟩
   | true =>
     go_wp2_with fail
     refine aF wr (by kernel_rfl) (by kernel_rfl) (aj _) ?_
     repeat (first
      | (apply aG
         case hw=>rfl
         simp only [Act.put,pz])
      | (apply aH
         case hw=>rfl
         case h =>
          intro wq hq
          have hcq:=(aB hq).1
          have lJ:=(aB hq).2
          go_simp
          first
           | exact ⟨hq,rfl⟩
           | (refine (HC.out y x _ (HU.out.trans (nN.lq _ hq))).mono ?_;rintro e w2 ⟨rfl,hb2⟩;exact ⟨rfl,aI hq hb2⟩)
           | (simp only [↓IntWalk.iteOmega];exact ⟨hq,rfl⟩)
         simp only [Act.put,pz]))
     refine aN ?_
     intro wn hn
     replace hn:=hn.out
     go_wp2
     refine ⟨⟨u,k,i0,t,by omega,by omega,rfl,rfl,HI,HK,HY,Lib.hid (Gn.out hcv),HS.out.ext hn⟩,by simp [intOf];omega⟩
  ·have aa4:v = u:=by omega
   subst aa4
   have hj0:j0 = i0:=by have:=HI.out;have:=HJ.out;omega
   subst hj0
   have HM:=Lib.hid (WR HY.out HN.out)
   have hai:a≤j0:=by have:=HI.out;omega
   have hjb:j0≤m:=by have:=HJ.out;have:=hm.out;omega
   obtain ⟨wo,hwo⟩:∃wo,wo = wr:=⟨_,rfl⟩
   subst hwo
   clear HJ HY HN
   go_wp2_with fail
   go_loopw [17] (fun k wr=>∃s k0:Nat,v≤s∧s≤L.length∧k = .int .i64 (k0:Int)∧Hid (a+s = k0)∧jJ (fun x=>[Value.string (nm x)]) 1 W0 wr b o (P++(L.take s++(y :: (L.drop s++Q))))) (fun k _=>(intOf k).toNat)
   case atStart=>exact ⟨L.length,m,hv,by omega,rfl,hm,by simpa using hS⟩
   case round =>
    obtain ⟨s,k1,hs1,hs,rfl,HK,hS2⟩:=hrel
    by_cases hlt:v < s
    ·obtain ⟨s,rfl⟩:∃s',s = s'+1:=⟨s - 1,by omega⟩
     obtain ⟨k0,rfl⟩:∃k',k1 = k'+1:=⟨k1 - 1,by have:=HK.out;omega⟩
     have hks:(j0:Int) < k0+1:=by have:=HI.out;have:=HK.out;omega
     have hkb:k0+1≤m:=by have:=HK.out;have:=hm.out;omega
     have hsL:s < L.length:=by omega
     obtain ⟨x,hx⟩:∃x,L[s] = x:=⟨_,rfl⟩
     have hdr:L.drop s = x :: L.drop (s+1):=by rw [← hx];exact (List.getElem_cons_drop ..).symm
     have htk:L.take (s+1) = L.take s++[x]:=by rw [← hx];exact List.take_succ_eq_append_getElem hsL
     rw [htk] at hS2
     have hS3:jJ (fun x=>[Value.string (nm x)]) 1 W0 wr b o (P++(L.take s++(x :: y :: (L.drop (s+1)++Q)))):=by
      have e:P++((L.take s++[x])++(y :: (L.drop (s+1)++Q))) = P++(L.take s++(x :: y :: (L.drop (s+1)++Q))):=by simp only [List.append_assoc,List.cons_append,List.nil_append]
      rw [← e];exact hS2
     have hpk:P.length+(L.take s).length = k0:=by rw [List.length_take];have:=HK.out;have:=ha.out;omega
     have g1:=wY P (L.take s) (L.drop (s+1)++Q) x y hpk
     have g2:=wZ P (L.take s) (L.drop (s+1)++Q) x y hpk
     have qx:wr.cell? ⟨b,o+k0,none⟩ = some (.string (nm x)):=by have:=hS3.tab _ x g1 0 _ rfl;simpa using this
     have qy:wr.cell? ⟨b,o+(k0+1),none⟩ = some (.string (nm y)):=by have:=hS3.tab _ y g2 0 _ rfl;simpa using this
     have qf:=hS3.plain.frozen
     have ql:=hS3.plain.lt
     have h2:=hS3.swap_ (fun _=>rfl) g2 g1
     rw [V7 P (L.take s) (L.drop (s+1)++Q) x y hpk,Nat.mul_one,Nat.mul_one] at h2
     have H2:=Lib.hid h2
     have HDR:=Lib.hid hdr
     clear hS2 hS3 h2 htk hdr hpk g1 g2 hx
     go_wp2_with fail
     go_region
     go_wp2
     refine ⟨⟨s,k0,by omega,by omega,by go_num,Lib.hid auL,?_⟩,by simp [intOf]⟩
     have h3:=jJ.ext H2.out (aA (aj _))
     rw [HDR.out]
     exact h3
    ·have hsv:s = v:=by omega
     subst hsv
     have hkj:k1 = j0:=by have:=HI.out;have:=HK.out;omega
     subst hkj
     go_wp2
     refine bodyPost_ret (results_none rfl _ _ _) rfl ?_
     refine ⟨rfl,?_⟩
     rw [HM.out]
     simpa only [List.append_assoc,List.cons_append] using hS2
end
end Go.Proofs.YtnjibbpcafgglaaGreat
namespace Go.Proofs.YtnjibbpcafgglaaGreat
open Go.ChangeShapes Go.WideShapes Go.ChangeAt Go.RowKit
set_option linter.unusedVariables false
set_option linter.unusedSimpArgs false
section
variable {β:Type} (nm:β→ByteArray)
set_option maxRecDepth 100000 in
set_option maxHeartbeats 8000000 in
theorem aad (K:Nat):∀(W0 w:World) (b o c N:Nat) (P L R Q:List β) (a m bb:Nat) (cv:β→β→Int) (q1 q2:Addr) (h:jJ (fun x=>[Value.string (nm x)]) 1 W0 w b o (P++(L++(R++Q)))) (hN:(P++(L++(R++Q))).length≤N) (BI:N≤1048576) (ha:Hid (P.length = a)) (hm:Hid (a+L.length = m)) (hb:Hid (m+R.length = bb)) (h1:0 < L.length) (h2:0 < R.length) (W:Weak (kS cv)) (hL:Sorted (kS cv) L) (hR:Sorted (kS cv) R) (hc:aaS nm cv q1 q2 W0 b) (hK:L.length+R.length≤K),
 Calls Tryz.prog 179 #[.slice (some ⟨b,o,none⟩) N c,.int .i64 a,.int .i64 m,.int .i64 bb,.func (.func 105) #[] #[.pointer (some q1),.pointer (some q2)]] w fun e w'=>e = .returned (.tuple #[])∧jJ (fun x=>[Value.string (nm x)]) 1 W0 w' b o (P++(fO (kS cv) L R++Q)):=by
 induction K with
 | zero=>intro W0 w b o c N P L R Q a m bb cv q1 q2 h hN BI ha hm hb h1 h2 W hL hR hc hK;omega
 | succ K ih =>
   intro W0 w b o c N P L R Q a m bb cv q1 q2 h hN BI ha hm hb h1 h2 W hL hR hc hK
   by_cases hL1:L.length = 1
   ·obtain ⟨x,rfl⟩:=List.length_eq_one_iff.1 hL1
    have e:m = a+1:=by simpa using hm.out.symm
    subst e
    exact aht nm W0 w b o c N P R Q x a bb cv q1 q2 h hN BI ha hb W hR hc
   by_cases hR1:R.length = 1
   ·obtain ⟨y,rfl⟩:=List.length_eq_one_iff.1 hR1
    have e:bb = m+1:=by simpa using hb.out.symm
    subst e
    exact aeQ nm W0 w b o c N P L Q y a m cv q1 q2 h hN BI ha hm (by omega) W hL hc
   have hlq:(P++(L++(R++Q))).length = P.length+L.length+R.length+Q.length:=by simp only [List.length_append];omega
   have HN:=Lib.hid (show P.length+L.length+R.length+Q.length≤N by omega)
   have hlen:bb≤N:=by have:=HN.out;have:=ha.out;have:=hm.out;have:=hb.out;omega
   have hLL:2≤L.length:=by omega
   have hRR:2≤R.length:=by omega
   have ham:a+2≤m:=by have:=hm.out;omega
   have hmb:m+2≤bb:=by have:=hb.out;omega
   have HC:=Lib.hid hc
   have HW:=Lib.hid W
   have HSL:=Lib.hid hL
   have HSR:=Lib.hid hR
   have HKK:=Lib.hid hK
   have HIH:=Lib.hid ih
   have hne1:((m:Int) - a == 1) = false:=by simp;omega
   have hne2:((bb:Int) - m == 1) = false:=by simp;omega
   obtain ⟨mid,hmid⟩:∃mid:Nat,(a+bb) / 2 = mid:=⟨_,rfl⟩
   have hmI:((a:Int)+bb) / 2 = mid:=by omega
   obtain ⟨d,hd⟩:∃d,a+d = mid:=⟨mid - a,by omega⟩
   have HD:=Lib.hid (show a+d = mid∧(2 * d = L.length+R.length∨2 * d+1 = L.length+R.length) by have:=hm.out;have:=hb.out;omega)
   obtain ⟨lo,HLO⟩:∃lo:Nat,Hid ((mid < m→lo+R.length = d)∧(¬mid < m→lo = 0)):=by
    by_cases hgt:mid < m
    ·exact ⟨d - R.length,Lib.hid ⟨fun _=>by have:=HD.out;have:=hm.out;have:=hb.out;omega,fun h=>absurd hgt h⟩⟩
    ·exact ⟨0,Lib.hid ⟨fun h=>absurd h hgt,fun _=>rfl⟩⟩
   obtain ⟨hi,HHI⟩:∃hi:Nat,Hid ((mid < m→hi = d)∧(¬mid < m→hi = L.length)):=by
    by_cases hgt:mid < m
    ·exact ⟨d,Lib.hid ⟨fun _=>rfl,fun h=>absurd hgt h⟩⟩
    ·exact ⟨L.length,Lib.hid ⟨fun h=>absurd h hgt,fun _=>rfl⟩⟩
   have hmab:a≤mid∧mid≤bb:=by omega
   obtain ⟨hma,hmbb⟩:=hmab
   clear hc hN W hL hR hK ih hL1 hR1 hlq hmid hd
   go_enter Tryz.func179,Tryz.ntmps179
   by_cases hgt:mid < m
   ·have hlo:lo+R.length = d:=by have:=HLO.out.1 hgt;omega
    have hhi:hi = d:=HHI.out.1 hgt
    have aoW:=Lib.hid (show lo = 0∨lo+R.length = d from .inr hlo)
    have aoX:=Lib.hid (show hi = L.length∨hi = d from .inr hhi)
    have hlh:lo≤hi:=by have:=hm.out;have:=hb.out;have:=HD.out;omega
    have hhd:hi≤d:=by have:=hm.out;have:=HD.out;omega
    have hhl:hi≤L.length:=by have:=hm.out;have:=HD.out;omega
    have hld:d≤lo+R.length:=by have:=hm.out;have:=hb.out;have:=HD.out;omega
    have Ij:=Lib.hid hlo
    have Ik:=Lib.hid hhi
    clear hlo hhi
    go_wp2_with fail
    go_loopw [20,21] (fun i j wr=>∃u v i0 j0:Nat,lo≤u∧u≤v∧v≤hi∧i = .int .i64 (i0:Int)∧j = .int .i64 (j0:Int)∧Hid (a+u = i0)∧Hid (a+v = j0)∧Hid (u = lo∨∃x y,L[u - 1]? = some x∧R[d - u]? = some y∧kS cv y x = false)∧Hid (v = hi∨∃x y,L[v]? = some x∧R[d - 1 - v]? = some y∧kS cv y x = true)∧jJ (fun x=>[Value.string (nm x)]) 1 W0 wr b o (P++(L++(R++Q)))) (fun i j _=>(intOf j - intOf i).toNat)
    case atStart =>
     have e1:=Ij.out;have e2:=Ik.out;have e3:=HD.out;have e4:=hm.out;have e5:=hb.out
     exact ⟨lo,hi,a+lo,a+hi,by omega,by omega,by omega,by first | (congr 1;omega) | (congr 1;push_cast;omega),by first | (congr 1;omega) | (congr 1;push_cast;omega),Lib.hid rfl,Lib.hid rfl,Lib.hid (.inl rfl),Lib.hid (.inl rfl),h⟩
    case round =>
     obtain ⟨u,v,i0,j0,hlu,huv,hv,rfl,rfl,HI,HJ,HP1,HP2,hS⟩:=hrel
     by_cases hlt:u < v
     ·have hij:i0 < j0:=by have:=HI.out;have:=HJ.out;omega
      have hjb:j0≤m:=by have:=HJ.out;have:=hm.out;omega
      have hai:a≤i0:=by have:=HI.out;omega
      obtain ⟨t,ht⟩:∃t:Nat,(i0+j0) / 2 = t:=⟨_,rfl⟩
      have hti:i0≤t:=by omega
      have htj:t < j0:=by omega
      obtain ⟨k,hk⟩:∃k,a+k = t:=⟨t - a,by omega⟩
      have huk:u≤k:=by have:=HI.out;omega
      have hkv:k < v:=by have:=HJ.out;omega
      have hkL:k < L.length:=by omega
      have hkd:k < d:=by omega
      have hkR:d - 1 - k < R.length:=by omega
      obtain ⟨q,hq⟩:∃q:Nat,mid+m - 1 - t = q:=⟨_,rfl⟩
      have hqm:m≤q:=by have:=HD.out;omega
      have hqb:q < bb:=by have:=HD.out;have:=hb.out;omega
      have hmd:mid≤bb:=by have:=HD.out;have:=hm.out;have:=hb.out;omega
      have hqq:q - m = d - 1 - k:=by have:=HD.out;omega
      have hL1:L[k]? = some L[k]:=List.getElem?_eq_getElem hkL
      have hR1:R[d - 1 - k]? = some R[d - 1 - k]:=List.getElem?_eq_getElem hkR
      obtain ⟨x,hx⟩:∃x,L[k] = x:=⟨_,rfl⟩
      obtain ⟨y,hy⟩:∃y,R[d - 1 - k] = y:=⟨_,rfl⟩
      rw [hx] at hL1
      rw [hy] at hR1
      have hgx:(P++(L++(R++Q)))[t]? = some x:=by
       rw [List.getElem?_append_right auu,show t - P.length = k by have:=ha.out;omega,List.getElem?_append_left hkL,hL1]
      have MV:(P++(L++(R++Q)))[q]? = some y:=by
       rw [List.getElem?_append_right auu,List.getElem?_append_right avG,show q - P.length - L.length = d - 1 - k by have:=ha.out;have:=hm.out;omega,List.getElem?_append_left hkR,hR1]
      have qx:wr.cell? ⟨b,o+t,none⟩ = some (.string (nm x)):=by have:=hS.tab _ x hgx 0 _ rfl;simpa using this
      have qy:wr.cell? ⟨b,o+q,none⟩ = some (.string (nm y)):=by have:=hS.tab _ y MV 0 _ rfl;simpa using this
      have HU:=Lib.hid hS.upd
      have hbl:b < wr.heap.size:=hS.plain.lt
      have HS:=Lib.hid hS
      have HK:=Lib.hid hk
      have htI:((i0:Int)+j0) / 2 = t:=by omega
      have hwq:IntKind.i64.wrap ((mid:Int)+m - 1 - t) = (q:Int):=by rw [IntWalk.i64_in _ (by omega)];omega
      have HXY:=Lib.hid (And.intro hL1 hR1)
      clear hS hL1 hR1 MV hgx ht hk hx hy hq hqq
      cases hcv:decide (cv y x < 0) with
      | false =>
        go_wp2_with fail
        refine aF wr (by kernel_rfl) (by kernel_rfl) (aj _) ?_
        repeat (first
         | (apply aG
            case hw=>rfl
            simp only [Act.put,pz])
         | (apply aH
            case hw=>rfl
            case h =>
             intro wq hq
             have hcq:=(aB hq).1
             have lJ:=(aB hq).2
             go_simp
             first
              | exact ⟨hq,rfl⟩
              | (refine (HC.out y x _ (HU.out.trans (nN.lq _ hq))).mono ?_;rintro e w2 ⟨rfl,hb2⟩;exact ⟨rfl,aI hq hb2⟩)
              | (simp only [↓IntWalk.iteOmega];exact ⟨hq,rfl⟩)
            simp only [Act.put,pz]))
        refine aN ?_
        intro wn hn
        replace hn:=hn.out
        go_wp2
        refine ⟨⟨k+1,v,t+1,j0,by omega,by omega,hv,by go_num,rfl,Lib.hid auL,HJ,Lib.hid (.inr ⟨x,y,by rw [Nat.add_sub_cancel];exact HXY.out.1,by rw [show d - (k+1) = d - 1 - k by omega];exact HXY.out.2,hcv⟩),HP2,HS.out.ext hn⟩,by simp [intOf];omega⟩
      | true =>
        go_wp2_with fail
        refine aF wr (by kernel_rfl) (by kernel_rfl) (aj _) ?_
        repeat (first
         | (apply aG
            case hw=>rfl
            simp only [Act.put,pz])
         | (apply aH
            case hw=>rfl
            case h =>
             intro wq hq
             have hcq:=(aB hq).1
             have lJ:=(aB hq).2
             go_simp
             first
              | exact ⟨hq,rfl⟩
              | (refine (HC.out y x _ (HU.out.trans (nN.lq _ hq))).mono ?_;rintro e w2 ⟨rfl,hb2⟩;exact ⟨rfl,aI hq hb2⟩)
              | (simp only [↓IntWalk.iteOmega];exact ⟨hq,rfl⟩)
            simp only [Act.put,pz]))
        refine aN ?_
        intro wn hn
        replace hn:=hn.out
        go_wp2
        refine ⟨⟨u,k,i0,t,hlu,by omega,by omega,rfl,rfl,HI,HK,HP1,Lib.hid (.inr ⟨x,y,HXY.out.1,HXY.out.2,hcv⟩),HS.out.ext hn⟩,by simp [intOf];omega⟩
     ·have aa4:v = u:=by omega
      subst aa4
      have hj0:j0 = i0:=by have:=HI.out;have:=HJ.out;omega
      subst hj0
      have hvd:v≤d:=by omega
      have hdR:d - v≤R.length:=by omega
      obtain ⟨l1,l2,r1,r2,Ob,fJ,LJ,HM⟩:∃l1 l2 r1 r2,Hid (L = l1++l2∧R = r1++r2)∧Hid (l1.length = v∧l2.length+v = L.length∧r1.length+v = d∧r1.length+r2.length = R.length)∧Hid (Sorted (kS cv) l1∧Sorted (kS cv) l2∧Sorted (kS cv) r1∧Sorted (kS cv) r2)∧Hid (fO (kS cv) L R = fO (kS cv) l1 r1++fO (kS cv) l2 r2) :=
       ⟨L.take v,L.drop v,R.take (d - v),R.drop (d - v),Lib.hid ⟨(List.take_append_drop ..).symm,(List.take_append_drop ..).symm⟩,Lib.hid ⟨by rw [List.length_take];omega,by rw [List.length_drop];omega,by rw [List.length_take];omega,by rw [List.length_take,List.length_drop];omega⟩,
         Lib.hid ⟨List.Pairwise.sublist (List.take_sublist ..) HSL.out,List.Pairwise.sublist (List.drop_sublist ..) HSL.out,List.Pairwise.sublist (List.take_sublist ..) HSR.out,List.Pairwise.sublist (List.drop_sublist ..) HSR.out⟩,
         Lib.hid (ali HW.out HSL.out HSR.out aoW.out aoX.out hlu hv (by omega) (by omega) HP1.out HP2.out)⟩
      have hS1:jJ (fun x=>[Value.string (nm x)]) 1 W0 wr b o (P++(l1++(l2++(r1++(r2++Q))))):=by
       have:=hS
       rw [Ob.out.1,Ob.out.2] at this
       simpa only [List.append_assoc] using this
      obtain ⟨e0,he0⟩:∃e0:Nat,mid+m - j0 = e0:=⟨_,rfl⟩
      have HF:=Lib.hid (show a+v = j0∧j0≤m∧e0+j0 = mid+m∧e0≤bb∧P.length = a∧a+d = mid∧m≤e0 by
       have f1:=HI.out;have f2:=hm.out;have f3:=hb.out;have f4:=HD.out;have f5:=ha.out;omega)
      have hE0:(mid:Int)+m - j0 = e0:=by have:=HF.out;omega
      have hej:e0≤bb:=HF.out.2.2.2.1
      have hjm:j0≤m:=HF.out.2.1
      clear he0 HP1 HP2 hS
      rcases Nat.lt_or_ge v d with aoY | aoY
      ·rcases Nat.eq_zero_or_pos v with hv0 | hv0
       ·rcases Nat.eq_zero_or_pos r2.length with hr2 | hr2
        ·first
          | (exfalso;have e3:=Ij.out;have e4:=Ik.out;have e5:=HD.out;have f1:=HF.out;have f2:=hm.out;have f3:=hb.out;have f4:=fJ.out;omega)
          | (
           have g1:j0 < m:=by have f1:=HF.out;have f2:=hm.out;have f3:=hb.out;have f4:=fJ.out;omega
           have g2:m < e0:=by have f1:=HF.out;have f2:=hm.out;have f3:=hb.out;have f4:=fJ.out;omega
           have g3:j0≤a:=by have f1:=HF.out;have f2:=hm.out;have f3:=hb.out;have f4:=fJ.out;omega
           have g5:mid < e0:=by have f1:=HF.out;have f2:=hm.out;have f3:=hb.out;have f4:=fJ.out;omega
           have g6:bb≤e0:=by have f1:=HF.out;have f2:=hm.out;have f3:=hb.out;have f4:=fJ.out;omega
           go_wp2_with fail
           refine (Ii nm W0 _ b o c N (P++l1) l2 r1 (r2++Q) j0 m e0 _ auv auc BI (Lib.hid auw) (Lib.hid atU) (Lib.hid atU) atU atU).mono ?_
           rintro e w2 ⟨rfl,hS2⟩
           replace hS2:jJ (fun x=>[Value.string (nm x)]) 1 W0 w2 b o (P++(l1++(r1++(l2++(r2++Q))))):=by simpa only [List.append_assoc] using hS2
           go_wp2_with fail
           have l1e:l1 = []:=List.eq_nil_of_length_eq_zero atU
           have hS3:jJ (fun x=>[Value.string (nm x)]) 1 W0 w2 b o (P++(fO (kS cv) l1 r1++(l2++(r2++Q)))):=by rw [l1e] at hS2 ⊢;simpa only [ig,List.nil_append] using hS2
           have r2e:r2 = []:=List.eq_nil_of_length_eq_zero atU
           have hS4:jJ (fun x=>[Value.string (nm x)]) 1 W0 w2 b o (P++(fO (kS cv) l1 r1++(fO (kS cv) l2 r2++Q))):=by rw [r2e] at hS3 ⊢;simpa only [gZ,List.nil_append] using hS3
           go_end0
           refine ⟨rfl,?_⟩
           rw [HM.out]
           simpa only [List.append_assoc] using hS4)
        ·first
          | (exfalso;have e3:=Ij.out;have e4:=Ik.out;have e5:=HD.out;have f1:=HF.out;have f2:=hm.out;have f3:=hb.out;have f4:=fJ.out;omega)
          | (
           have g1:j0 < m:=by have f1:=HF.out;have f2:=hm.out;have f3:=hb.out;have f4:=fJ.out;omega
           have g2:m < e0:=by have f1:=HF.out;have f2:=hm.out;have f3:=hb.out;have f4:=fJ.out;omega
           have g3:j0≤a:=by have f1:=HF.out;have f2:=hm.out;have f3:=hb.out;have f4:=fJ.out;omega
           have g5:mid < e0:=by have f1:=HF.out;have f2:=hm.out;have f3:=hb.out;have f4:=fJ.out;omega
           have g6:e0 < bb:=by have f1:=HF.out;have f2:=hm.out;have f3:=hb.out;have f4:=fJ.out;omega
           go_wp2_with fail
           refine (Ii nm W0 _ b o c N (P++l1) l2 r1 (r2++Q) j0 m e0 _ auv auc BI (Lib.hid auw) (Lib.hid atU) (Lib.hid atU) atU atU).mono ?_
           rintro e w2 ⟨rfl,hS2⟩
           replace hS2:jJ (fun x=>[Value.string (nm x)]) 1 W0 w2 b o (P++(l1++(r1++(l2++(r2++Q))))):=by simpa only [List.append_assoc] using hS2
           go_wp2_with fail
           have l1e:l1 = []:=List.eq_nil_of_length_eq_zero atU
           have hS3:jJ (fun x=>[Value.string (nm x)]) 1 W0 w2 b o (P++(fO (kS cv) l1 r1++(l2++(r2++Q)))):=by rw [l1e] at hS2 ⊢;simpa only [ig,List.nil_append] using hS2
           refine (HIH.out W0 _ b o c N (P++fO (kS cv) l1 r1) l2 r2 Q mid e0 bb cv q1 q2 auM auc BI (Lib.hid auN) (Lib.hid atU) (Lib.hid atU) atU atU HW.out LJ.out.2.1 LJ.out.2.2.2 HC.out auk).mono ?_
           rintro e w4 ⟨rfl,hS4⟩
           go_wp2
           go_end0
           refine ⟨rfl,?_⟩
           rw [HM.out]
           simpa only [List.append_assoc] using hS4)
       ·rcases Nat.eq_zero_or_pos l2.length with hl2 | hl2
        ·first
          | (exfalso;have e3:=Ij.out;have e4:=Ik.out;have e5:=HD.out;have f1:=HF.out;have f2:=hm.out;have f3:=hb.out;have f4:=fJ.out;omega)
          | (
           have g1:m≤j0:=by have f1:=HF.out;have f2:=hm.out;have f3:=hb.out;have f4:=fJ.out;omega
           have g3:a < j0:=by have f1:=HF.out;have f2:=hm.out;have f3:=hb.out;have f4:=fJ.out;omega
           have g4:j0 < mid:=by have f1:=HF.out;have f2:=hm.out;have f3:=hb.out;have f4:=fJ.out;omega
           have g5:e0≤mid:=by have f1:=HF.out;have f2:=hm.out;have f3:=hb.out;have f4:=fJ.out;omega
           go_wp2_with fail
           have l2e:l2 = []:=List.eq_nil_of_length_eq_zero atU
           have hS2:jJ (fun x=>[Value.string (nm x)]) 1 W0 wr b o (P++(l1++(r1++(l2++(r2++Q))))):=by rw [l2e] at hS1 ⊢;simpa only [List.append_assoc,List.nil_append] using hS1
           refine (HIH.out W0 _ b o c N P l1 r1 (l2++(r2++Q)) a j0 mid cv q1 q2 hS2 auc BI ha (Lib.hid atU) (Lib.hid atU) atU atU HW.out LJ.out.1 LJ.out.2.2.1 HC.out auk).mono ?_
           rintro e w3 ⟨rfl,hS3⟩
           go_wp2_with fail
           have hS4:jJ (fun x=>[Value.string (nm x)]) 1 W0 w3 b o (P++(fO (kS cv) l1 r1++(fO (kS cv) l2 r2++Q))):=by rw [l2e] at hS3 ⊢;simpa only [ig,List.nil_append] using hS3
           go_end0
           refine ⟨rfl,?_⟩
           rw [HM.out]
           simpa only [List.append_assoc] using hS4)
        ·rcases Nat.eq_zero_or_pos r2.length with hr2 | hr2
         ·first
           | (exfalso;have e3:=Ij.out;have e4:=Ik.out;have e5:=HD.out;have f1:=HF.out;have f2:=hm.out;have f3:=hb.out;have f4:=fJ.out;omega)
           | (
            have g1:j0 < m:=by have f1:=HF.out;have f2:=hm.out;have f3:=hb.out;have f4:=fJ.out;omega
            have g2:m < e0:=by have f1:=HF.out;have f2:=hm.out;have f3:=hb.out;have f4:=fJ.out;omega
            have g3:a < j0:=by have f1:=HF.out;have f2:=hm.out;have f3:=hb.out;have f4:=fJ.out;omega
            have g4:j0 < mid:=by have f1:=HF.out;have f2:=hm.out;have f3:=hb.out;have f4:=fJ.out;omega
            have g5:mid < e0:=by have f1:=HF.out;have f2:=hm.out;have f3:=hb.out;have f4:=fJ.out;omega
            have g6:bb≤e0:=by have f1:=HF.out;have f2:=hm.out;have f3:=hb.out;have f4:=fJ.out;omega
            go_wp2_with fail
            refine (Ii nm W0 _ b o c N (P++l1) l2 r1 (r2++Q) j0 m e0 _ auv auc BI (Lib.hid auw) (Lib.hid atU) (Lib.hid atU) atU atU).mono ?_
            rintro e w2 ⟨rfl,hS2⟩
            replace hS2:jJ (fun x=>[Value.string (nm x)]) 1 W0 w2 b o (P++(l1++(r1++(l2++(r2++Q))))):=by simpa only [List.append_assoc] using hS2
            go_wp2_with fail
            refine (HIH.out W0 _ b o c N P l1 r1 (l2++(r2++Q)) a j0 mid cv q1 q2 hS2 auc BI ha (Lib.hid atU) (Lib.hid atU) atU atU HW.out LJ.out.1 LJ.out.2.2.1 HC.out auk).mono ?_
            rintro e w3 ⟨rfl,hS3⟩
            go_wp2_with fail
            have r2e:r2 = []:=List.eq_nil_of_length_eq_zero atU
            have hS4:jJ (fun x=>[Value.string (nm x)]) 1 W0 w3 b o (P++(fO (kS cv) l1 r1++(fO (kS cv) l2 r2++Q))):=by rw [r2e] at hS3 ⊢;simpa only [gZ,List.nil_append] using hS3
            go_end0
            refine ⟨rfl,?_⟩
            rw [HM.out]
            simpa only [List.append_assoc] using hS4)
         ·first
           | (exfalso;have e3:=Ij.out;have e4:=Ik.out;have e5:=HD.out;have f1:=HF.out;have f2:=hm.out;have f3:=hb.out;have f4:=fJ.out;omega)
           | (
            have g1:j0 < m:=by have f1:=HF.out;have f2:=hm.out;have f3:=hb.out;have f4:=fJ.out;omega
            have g2:m < e0:=by have f1:=HF.out;have f2:=hm.out;have f3:=hb.out;have f4:=fJ.out;omega
            have g3:a < j0:=by have f1:=HF.out;have f2:=hm.out;have f3:=hb.out;have f4:=fJ.out;omega
            have g4:j0 < mid:=by have f1:=HF.out;have f2:=hm.out;have f3:=hb.out;have f4:=fJ.out;omega
            have g5:mid < e0:=by have f1:=HF.out;have f2:=hm.out;have f3:=hb.out;have f4:=fJ.out;omega
            have g6:e0 < bb:=by have f1:=HF.out;have f2:=hm.out;have f3:=hb.out;have f4:=fJ.out;omega
            go_wp2_with fail
            refine (Ii nm W0 _ b o c N (P++l1) l2 r1 (r2++Q) j0 m e0 _ auv auc BI (Lib.hid auw) (Lib.hid atU) (Lib.hid atU) atU atU).mono ?_
            rintro e w2 ⟨rfl,hS2⟩
            replace hS2:jJ (fun x=>[Value.string (nm x)]) 1 W0 w2 b o (P++(l1++(r1++(l2++(r2++Q))))):=by simpa only [List.append_assoc] using hS2
            go_wp2_with fail
            refine (HIH.out W0 _ b o c N P l1 r1 (l2++(r2++Q)) a j0 mid cv q1 q2 hS2 auc BI ha (Lib.hid atU) (Lib.hid atU) atU atU HW.out LJ.out.1 LJ.out.2.2.1 HC.out auk).mono ?_
            rintro e w3 ⟨rfl,hS3⟩
            go_wp2_with fail
            refine (HIH.out W0 _ b o c N (P++fO (kS cv) l1 r1) l2 r2 Q mid e0 bb cv q1 q2 auM auc BI (Lib.hid auN) (Lib.hid atU) (Lib.hid atU) atU atU HW.out LJ.out.2.1 LJ.out.2.2.2 HC.out auk).mono ?_
            rintro e w4 ⟨rfl,hS4⟩
            go_wp2
            go_end0
            refine ⟨rfl,?_⟩
            rw [HM.out]
            simpa only [List.append_assoc] using hS4)
      ·rcases Nat.eq_zero_or_pos l2.length with hl2 | hl2
       ·first
         | (exfalso;have e3:=Ij.out;have e4:=Ik.out;have e5:=HD.out;have f1:=HF.out;have f2:=hm.out;have f3:=hb.out;have f4:=fJ.out;omega)
         | (
          have g1:m≤j0:=by have f1:=HF.out;have f2:=hm.out;have f3:=hb.out;have f4:=fJ.out;omega
          have g3:a < j0:=by have f1:=HF.out;have f2:=hm.out;have f3:=hb.out;have f4:=fJ.out;omega
          have g4:mid≤j0:=by have f1:=HF.out;have f2:=hm.out;have f3:=hb.out;have f4:=fJ.out;omega
          have g5:e0≤mid:=by have f1:=HF.out;have f2:=hm.out;have f3:=hb.out;have f4:=fJ.out;omega
          go_wp2_with fail
          have l2e:l2 = []:=List.eq_nil_of_length_eq_zero atU
          have hS2:jJ (fun x=>[Value.string (nm x)]) 1 W0 wr b o (P++(l1++(r1++(l2++(r2++Q))))):=by rw [l2e] at hS1 ⊢;simpa only [List.append_assoc,List.nil_append] using hS1
          have r1e:r1 = []:=List.eq_nil_of_length_eq_zero atU
          have hS3:jJ (fun x=>[Value.string (nm x)]) 1 W0 wr b o (P++(fO (kS cv) l1 r1++(l2++(r2++Q)))):=by rw [r1e] at hS2 ⊢;simpa only [gZ,List.nil_append] using hS2
          have hS4:jJ (fun x=>[Value.string (nm x)]) 1 W0 wr b o (P++(fO (kS cv) l1 r1++(fO (kS cv) l2 r2++Q))):=by rw [l2e] at hS3 ⊢;simpa only [ig,List.nil_append] using hS3
          go_end0
          refine ⟨rfl,?_⟩
          rw [HM.out]
          simpa only [List.append_assoc] using hS4)
       ·first
         | (exfalso;have e3:=Ij.out;have e4:=Ik.out;have e5:=HD.out;have f1:=HF.out;have f2:=hm.out;have f3:=hb.out;have f4:=fJ.out;omega)
         | (
          have g1:j0 < m:=by have f1:=HF.out;have f2:=hm.out;have f3:=hb.out;have f4:=fJ.out;omega
          have g2:e0≤m:=by have f1:=HF.out;have f2:=hm.out;have f3:=hb.out;have f4:=fJ.out;omega
          have g3:a < j0:=by have f1:=HF.out;have f2:=hm.out;have f3:=hb.out;have f4:=fJ.out;omega
          have g4:mid≤j0:=by have f1:=HF.out;have f2:=hm.out;have f3:=hb.out;have f4:=fJ.out;omega
          have g5:mid < e0:=by have f1:=HF.out;have f2:=hm.out;have f3:=hb.out;have f4:=fJ.out;omega
          have g6:e0 < bb:=by have f1:=HF.out;have f2:=hm.out;have f3:=hb.out;have f4:=fJ.out;omega
          go_wp2_with fail
          have r1e:r1 = []:=List.eq_nil_of_length_eq_zero atU
          have hS2:jJ (fun x=>[Value.string (nm x)]) 1 W0 wr b o (P++(l1++(r1++(l2++(r2++Q))))):=by rw [r1e] at hS1 ⊢;simpa only [List.append_assoc,List.nil_append] using hS1
          have hS3:jJ (fun x=>[Value.string (nm x)]) 1 W0 wr b o (P++(fO (kS cv) l1 r1++(l2++(r2++Q)))):=by rw [r1e] at hS2 ⊢;simpa only [gZ,List.nil_append] using hS2
          refine (HIH.out W0 _ b o c N (P++fO (kS cv) l1 r1) l2 r2 Q mid e0 bb cv q1 q2 auM auc BI (Lib.hid auN) (Lib.hid atU) (Lib.hid atU) atU atU HW.out LJ.out.2.1 LJ.out.2.2.2 HC.out auk).mono ?_
          rintro e w4 ⟨rfl,hS4⟩
          go_wp2
          go_end0
          refine ⟨rfl,?_⟩
          rw [HM.out]
          simpa only [List.append_assoc] using hS4)
   ·have hlo:lo = 0:=HLO.out.2 (by omega)
    have hhi:hi = L.length:=HHI.out.2 (by omega)
    have aoW:=Lib.hid (show lo = 0∨lo+R.length = d from .inl hlo)
    have aoX:=Lib.hid (show hi = L.length∨hi = d from .inl hhi)
    have hlh:lo≤hi:=by have:=hm.out;have:=hb.out;have:=HD.out;omega
    have hhd:hi≤d:=by have:=hm.out;have:=HD.out;omega
    have hhl:hi≤L.length:=by have:=hm.out;have:=HD.out;omega
    have hld:d≤lo+R.length:=by have:=hm.out;have:=hb.out;have:=HD.out;omega
    have Ij:=Lib.hid hlo
    have Ik:=Lib.hid hhi
    clear hlo hhi
    go_wp2_with fail
    go_loopw [20,21] (fun i j wr=>∃u v i0 j0:Nat,lo≤u∧u≤v∧v≤hi∧i = .int .i64 (i0:Int)∧j = .int .i64 (j0:Int)∧Hid (a+u = i0)∧Hid (a+v = j0)∧Hid (u = lo∨∃x y,L[u - 1]? = some x∧R[d - u]? = some y∧kS cv y x = false)∧Hid (v = hi∨∃x y,L[v]? = some x∧R[d - 1 - v]? = some y∧kS cv y x = true)∧jJ (fun x=>[Value.string (nm x)]) 1 W0 wr b o (P++(L++(R++Q)))) (fun i j _=>(intOf j - intOf i).toNat)
    case atStart =>
     have e1:=Ij.out;have e2:=Ik.out;have e3:=HD.out;have e4:=hm.out;have e5:=hb.out
     exact ⟨lo,hi,a+lo,a+hi,by omega,by omega,by omega,by first | (congr 1;omega) | (congr 1;push_cast;omega),by first | (congr 1;omega) | (congr 1;push_cast;omega),Lib.hid rfl,Lib.hid rfl,Lib.hid (.inl rfl),Lib.hid (.inl rfl),h⟩
    case round =>
     obtain ⟨u,v,i0,j0,hlu,huv,hv,rfl,rfl,HI,HJ,HP1,HP2,hS⟩:=hrel
     by_cases hlt:u < v
     ·have hij:i0 < j0:=by have:=HI.out;have:=HJ.out;omega
      have hjb:j0≤m:=by have:=HJ.out;have:=hm.out;omega
      have hai:a≤i0:=by have:=HI.out;omega
      obtain ⟨t,ht⟩:∃t:Nat,(i0+j0) / 2 = t:=⟨_,rfl⟩
      have hti:i0≤t:=by omega
      have htj:t < j0:=by omega
      obtain ⟨k,hk⟩:∃k,a+k = t:=⟨t - a,by omega⟩
      have huk:u≤k:=by have:=HI.out;omega
      have hkv:k < v:=by have:=HJ.out;omega
      have hkL:k < L.length:=by omega
      have hkd:k < d:=by omega
      have hkR:d - 1 - k < R.length:=by omega
      obtain ⟨q,hq⟩:∃q:Nat,mid+m - 1 - t = q:=⟨_,rfl⟩
      have hqm:m≤q:=by have:=HD.out;omega
      have hqb:q < bb:=by have:=HD.out;have:=hb.out;omega
      have hmd:mid≤bb:=by have:=HD.out;have:=hm.out;have:=hb.out;omega
      have hqq:q - m = d - 1 - k:=by have:=HD.out;omega
      have hL1:L[k]? = some L[k]:=List.getElem?_eq_getElem hkL
      have hR1:R[d - 1 - k]? = some R[d - 1 - k]:=List.getElem?_eq_getElem hkR
      obtain ⟨x,hx⟩:∃x,L[k] = x:=⟨_,rfl⟩
      obtain ⟨y,hy⟩:∃y,R[d - 1 - k] = y:=⟨_,rfl⟩
      rw [hx] at hL1
      rw [hy] at hR1
      have hgx:(P++(L++(R++Q)))[t]? = some x:=by
       rw [List.getElem?_append_right auu,show t - P.length = k by have:=ha.out;omega,List.getElem?_append_left hkL,hL1]
      have MV:(P++(L++(R++Q)))[q]? = some y:=by
       rw [List.getElem?_append_right auu,List.getElem?_append_right avG,show q - P.length - L.length = d - 1 - k by have:=ha.out;have:=hm.out;omega,List.getElem?_append_left hkR,hR1]
      have qx:wr.cell? ⟨b,o+t,none⟩ = some (.string (nm x)):=by have:=hS.tab _ x hgx 0 _ rfl;simpa using this
      have qy:wr.cell? ⟨b,o+q,none⟩ = some (.string (nm y)):=by have:=hS.tab _ y MV 0 _ rfl;simpa using this
      have HU:=Lib.hid hS.upd
      have hbl:b < wr.heap.size:=hS.plain.lt
      have HS:=Lib.hid hS
      have HK:=Lib.hid hk
      have htI:((i0:Int)+j0) / 2 = t:=by omega
      have hwq:IntKind.i64.wrap ((mid:Int)+m - 1 - t) = (q:Int):=by rw [IntWalk.i64_in _ (by omega)];omega
      have HXY:=Lib.hid (And.intro hL1 hR1)
      clear hS hL1 hR1 MV hgx ht hk hx hy hq hqq
      cases hcv:decide (cv y x < 0) with
      | false =>
        go_wp2_with fail
        refine aF wr (by kernel_rfl) (by kernel_rfl) (aj _) ?_
        repeat (first
         | (apply aG
            case hw=>rfl
            simp only [Act.put,pz])
         | (apply aH
            case hw=>rfl
            case h =>
             intro wq hq
             have hcq:=(aB hq).1
             have lJ:=(aB hq).2
             go_simp
             first
              | exact ⟨hq,rfl⟩
              | (refine (HC.out y x _ (HU.out.trans (nN.lq _ hq))).mono ?_;rintro e w2 ⟨rfl,hb2⟩;exact ⟨rfl,aI hq hb2⟩)
              | (simp only [↓IntWalk.iteOmega];exact ⟨hq,rfl⟩)
            simp only [Act.put,pz]))
        refine aN ?_
        intro wn hn
        replace hn:=hn.out
        go_wp2
        refine ⟨⟨k+1,v,t+1,j0,by omega,by omega,hv,by go_num,rfl,Lib.hid auL,HJ,Lib.hid (.inr ⟨x,y,by rw [Nat.add_sub_cancel];exact HXY.out.1,by rw [show d - (k+1) = d - 1 - k by omega];exact HXY.out.2,hcv⟩),HP2,HS.out.ext hn⟩,by simp [intOf];omega⟩
      | true =>
        go_wp2_with fail
        refine aF wr (by kernel_rfl) (by kernel_rfl) (aj _) ?_
        repeat (first
         | (apply aG
            case hw=>rfl
            simp only [Act.put,pz])
         | (apply aH
            case hw=>rfl
            case h =>
             intro wq hq
             have hcq:=(aB hq).1
             have lJ:=(aB hq).2
             go_simp
             first
              | exact ⟨hq,rfl⟩
              | (refine (HC.out y x _ (HU.out.trans (nN.lq _ hq))).mono ?_;rintro e w2 ⟨rfl,hb2⟩;exact ⟨rfl,aI hq hb2⟩)
              | (simp only [↓IntWalk.iteOmega];exact ⟨hq,rfl⟩)
            simp only [Act.put,pz]))
        refine aN ?_
        intro wn hn
        replace hn:=hn.out
        go_wp2
        refine ⟨⟨u,k,i0,t,hlu,by omega,by omega,rfl,rfl,HI,HK,HP1,Lib.hid (.inr ⟨x,y,HXY.out.1,HXY.out.2,hcv⟩),HS.out.ext hn⟩,by simp [intOf];omega⟩
     ·have aa4:v = u:=by omega
      subst aa4
      have hj0:j0 = i0:=by have:=HI.out;have:=HJ.out;omega
      subst hj0
      have hvd:v≤d:=by omega
      have hdR:d - v≤R.length:=by omega
      obtain ⟨l1,l2,r1,r2,Ob,fJ,LJ,HM⟩:∃l1 l2 r1 r2,Hid (L = l1++l2∧R = r1++r2)∧Hid (l1.length = v∧l2.length+v = L.length∧r1.length+v = d∧r1.length+r2.length = R.length)∧Hid (Sorted (kS cv) l1∧Sorted (kS cv) l2∧Sorted (kS cv) r1∧Sorted (kS cv) r2)∧Hid (fO (kS cv) L R = fO (kS cv) l1 r1++fO (kS cv) l2 r2) :=
       ⟨L.take v,L.drop v,R.take (d - v),R.drop (d - v),Lib.hid ⟨(List.take_append_drop ..).symm,(List.take_append_drop ..).symm⟩,Lib.hid ⟨by rw [List.length_take];omega,by rw [List.length_drop];omega,by rw [List.length_take];omega,by rw [List.length_take,List.length_drop];omega⟩,
         Lib.hid ⟨List.Pairwise.sublist (List.take_sublist ..) HSL.out,List.Pairwise.sublist (List.drop_sublist ..) HSL.out,List.Pairwise.sublist (List.take_sublist ..) HSR.out,List.Pairwise.sublist (List.drop_sublist ..) HSR.out⟩,
         Lib.hid (ali HW.out HSL.out HSR.out aoW.out aoX.out hlu hv (by omega) (by omega) HP1.out HP2.out)⟩
      have hS1:jJ (fun x=>[Value.string (nm x)]) 1 W0 wr b o (P++(l1++(l2++(r1++(r2++Q))))):=by
       have:=hS
       rw [Ob.out.1,Ob.out.2] at this
       simpa only [List.append_assoc] using this
      obtain ⟨e0,he0⟩:∃e0:Nat,mid+m - j0 = e0:=⟨_,rfl⟩
      have HF:=Lib.hid (show a+v = j0∧j0≤m∧e0+j0 = mid+m∧e0≤bb∧P.length = a∧a+d = mid∧m≤e0 by
       have f1:=HI.out;have f2:=hm.out;have f3:=hb.out;have f4:=HD.out;have f5:=ha.out;omega)
      have hE0:(mid:Int)+m - j0 = e0:=by have:=HF.out;omega
      have hej:e0≤bb:=HF.out.2.2.2.1
      have hjm:j0≤m:=HF.out.2.1
      clear he0 HP1 HP2 hS
      rcases Nat.lt_or_ge v d with aoY | aoY
      ·rcases Nat.eq_zero_or_pos v with hv0 | hv0
       ·rcases Nat.eq_zero_or_pos r2.length with hr2 | hr2
        ·first
          | (exfalso;have e3:=Ij.out;have e4:=Ik.out;have e5:=HD.out;have f1:=HF.out;have f2:=hm.out;have f3:=hb.out;have f4:=fJ.out;omega)
          | (
           have g1:j0 < m:=by have f1:=HF.out;have f2:=hm.out;have f3:=hb.out;have f4:=fJ.out;omega
           have g2:m < e0:=by have f1:=HF.out;have f2:=hm.out;have f3:=hb.out;have f4:=fJ.out;omega
           have g3:j0≤a:=by have f1:=HF.out;have f2:=hm.out;have f3:=hb.out;have f4:=fJ.out;omega
           have g5:mid < e0:=by have f1:=HF.out;have f2:=hm.out;have f3:=hb.out;have f4:=fJ.out;omega
           have g6:bb≤e0:=by have f1:=HF.out;have f2:=hm.out;have f3:=hb.out;have f4:=fJ.out;omega
           go_wp2_with fail
           refine (Ii nm W0 _ b o c N (P++l1) l2 r1 (r2++Q) j0 m e0 _ auv auc BI (Lib.hid auw) (Lib.hid atU) (Lib.hid atU) atU atU).mono ?_
           rintro e w2 ⟨rfl,hS2⟩
           replace hS2:jJ (fun x=>[Value.string (nm x)]) 1 W0 w2 b o (P++(l1++(r1++(l2++(r2++Q))))):=by simpa only [List.append_assoc] using hS2
           go_wp2_with fail
           have l1e:l1 = []:=List.eq_nil_of_length_eq_zero atU
           have hS3:jJ (fun x=>[Value.string (nm x)]) 1 W0 w2 b o (P++(fO (kS cv) l1 r1++(l2++(r2++Q)))):=by rw [l1e] at hS2 ⊢;simpa only [ig,List.nil_append] using hS2
           have r2e:r2 = []:=List.eq_nil_of_length_eq_zero atU
           have hS4:jJ (fun x=>[Value.string (nm x)]) 1 W0 w2 b o (P++(fO (kS cv) l1 r1++(fO (kS cv) l2 r2++Q))):=by rw [r2e] at hS3 ⊢;simpa only [gZ,List.nil_append] using hS3
           go_end0
           refine ⟨rfl,?_⟩
           rw [HM.out]
           simpa only [List.append_assoc] using hS4)
        ·first
          | (exfalso;have e3:=Ij.out;have e4:=Ik.out;have e5:=HD.out;have f1:=HF.out;have f2:=hm.out;have f3:=hb.out;have f4:=fJ.out;omega)
          | (
           have g1:j0 < m:=by have f1:=HF.out;have f2:=hm.out;have f3:=hb.out;have f4:=fJ.out;omega
           have g2:m < e0:=by have f1:=HF.out;have f2:=hm.out;have f3:=hb.out;have f4:=fJ.out;omega
           have g3:j0≤a:=by have f1:=HF.out;have f2:=hm.out;have f3:=hb.out;have f4:=fJ.out;omega
           have g5:mid < e0:=by have f1:=HF.out;have f2:=hm.out;have f3:=hb.out;have f4:=fJ.out;omega
           have g6:e0 < bb:=by have f1:=HF.out;have f2:=hm.out;have f3:=hb.out;have f4:=fJ.out;omega
           go_wp2_with fail
           refine (Ii nm W0 _ b o c N (P++l1) l2 r1 (r2++Q) j0 m e0 _ auv auc BI (Lib.hid auw) (Lib.hid atU) (Lib.hid atU) atU atU).mono ?_
           rintro e w2 ⟨rfl,hS2⟩
           replace hS2:jJ (fun x=>[Value.string (nm x)]) 1 W0 w2 b o (P++(l1++(r1++(l2++(r2++Q))))):=by simpa only [List.append_assoc] using hS2
           go_wp2_with fail
           have l1e:l1 = []:=List.eq_nil_of_length_eq_zero atU
           have hS3:jJ (fun x=>[Value.string (nm x)]) 1 W0 w2 b o (P++(fO (kS cv) l1 r1++(l2++(r2++Q)))):=by rw [l1e] at hS2 ⊢;simpa only [ig,List.nil_append] using hS2
           refine (HIH.out W0 _ b o c N (P++fO (kS cv) l1 r1) l2 r2 Q mid e0 bb cv q1 q2 auM auc BI (Lib.hid auN) (Lib.hid atU) (Lib.hid atU) atU atU HW.out LJ.out.2.1 LJ.out.2.2.2 HC.out auk).mono ?_
           rintro e w4 ⟨rfl,hS4⟩
           go_wp2
           go_end0
           refine ⟨rfl,?_⟩
           rw [HM.out]
           simpa only [List.append_assoc] using hS4)
       ·rcases Nat.eq_zero_or_pos l2.length with hl2 | hl2
        ·first
          | (exfalso;have e3:=Ij.out;have e4:=Ik.out;have e5:=HD.out;have f1:=HF.out;have f2:=hm.out;have f3:=hb.out;have f4:=fJ.out;omega)
          | (
           have g1:m≤j0:=by have f1:=HF.out;have f2:=hm.out;have f3:=hb.out;have f4:=fJ.out;omega
           have g3:a < j0:=by have f1:=HF.out;have f2:=hm.out;have f3:=hb.out;have f4:=fJ.out;omega
           have g4:j0 < mid:=by have f1:=HF.out;have f2:=hm.out;have f3:=hb.out;have f4:=fJ.out;omega
           have g5:e0≤mid:=by have f1:=HF.out;have f2:=hm.out;have f3:=hb.out;have f4:=fJ.out;omega
           go_wp2_with fail
           have l2e:l2 = []:=List.eq_nil_of_length_eq_zero atU
           have hS2:jJ (fun x=>[Value.string (nm x)]) 1 W0 wr b o (P++(l1++(r1++(l2++(r2++Q))))):=by rw [l2e] at hS1 ⊢;simpa only [List.append_assoc,List.nil_append] using hS1
           refine (HIH.out W0 _ b o c N P l1 r1 (l2++(r2++Q)) a j0 mid cv q1 q2 hS2 auc BI ha (Lib.hid atU) (Lib.hid atU) atU atU HW.out LJ.out.1 LJ.out.2.2.1 HC.out auk).mono ?_
           rintro e w3 ⟨rfl,hS3⟩
           go_wp2_with fail
           have hS4:jJ (fun x=>[Value.string (nm x)]) 1 W0 w3 b o (P++(fO (kS cv) l1 r1++(fO (kS cv) l2 r2++Q))):=by rw [l2e] at hS3 ⊢;simpa only [ig,List.nil_append] using hS3
           go_end0
           refine ⟨rfl,?_⟩
           rw [HM.out]
           simpa only [List.append_assoc] using hS4)
        ·rcases Nat.eq_zero_or_pos r2.length with hr2 | hr2
         ·first
           | (exfalso;have e3:=Ij.out;have e4:=Ik.out;have e5:=HD.out;have f1:=HF.out;have f2:=hm.out;have f3:=hb.out;have f4:=fJ.out;omega)
           | (
            have g1:j0 < m:=by have f1:=HF.out;have f2:=hm.out;have f3:=hb.out;have f4:=fJ.out;omega
            have g2:m < e0:=by have f1:=HF.out;have f2:=hm.out;have f3:=hb.out;have f4:=fJ.out;omega
            have g3:a < j0:=by have f1:=HF.out;have f2:=hm.out;have f3:=hb.out;have f4:=fJ.out;omega
            have g4:j0 < mid:=by have f1:=HF.out;have f2:=hm.out;have f3:=hb.out;have f4:=fJ.out;omega
            have g5:mid < e0:=by have f1:=HF.out;have f2:=hm.out;have f3:=hb.out;have f4:=fJ.out;omega
            have g6:bb≤e0:=by have f1:=HF.out;have f2:=hm.out;have f3:=hb.out;have f4:=fJ.out;omega
            go_wp2_with fail
            refine (Ii nm W0 _ b o c N (P++l1) l2 r1 (r2++Q) j0 m e0 _ auv auc BI (Lib.hid auw) (Lib.hid atU) (Lib.hid atU) atU atU).mono ?_
            rintro e w2 ⟨rfl,hS2⟩
            replace hS2:jJ (fun x=>[Value.string (nm x)]) 1 W0 w2 b o (P++(l1++(r1++(l2++(r2++Q))))):=by simpa only [List.append_assoc] using hS2
            go_wp2_with fail
            refine (HIH.out W0 _ b o c N P l1 r1 (l2++(r2++Q)) a j0 mid cv q1 q2 hS2 auc BI ha (Lib.hid atU) (Lib.hid atU) atU atU HW.out LJ.out.1 LJ.out.2.2.1 HC.out auk).mono ?_
            rintro e w3 ⟨rfl,hS3⟩
            go_wp2_with fail
            have r2e:r2 = []:=List.eq_nil_of_length_eq_zero atU
            have hS4:jJ (fun x=>[Value.string (nm x)]) 1 W0 w3 b o (P++(fO (kS cv) l1 r1++(fO (kS cv) l2 r2++Q))):=by rw [r2e] at hS3 ⊢;simpa only [gZ,List.nil_append] using hS3
            go_end0
            refine ⟨rfl,?_⟩
            rw [HM.out]
            simpa only [List.append_assoc] using hS4)
         ·first
           | (exfalso;have e3:=Ij.out;have e4:=Ik.out;have e5:=HD.out;have f1:=HF.out;have f2:=hm.out;have f3:=hb.out;have f4:=fJ.out;omega)
           | (
            have g1:j0 < m:=by have f1:=HF.out;have f2:=hm.out;have f3:=hb.out;have f4:=fJ.out;omega
            have g2:m < e0:=by have f1:=HF.out;have f2:=hm.out;have f3:=hb.out;have f4:=fJ.out;omega
            have g3:a < j0:=by have f1:=HF.out;have f2:=hm.out;have f3:=hb.out;have f4:=fJ.out;omega
            have g4:j0 < mid:=by have f1:=HF.out;have f2:=hm.out;have f3:=hb.out;have f4:=fJ.out;omega
            have g5:mid < e0:=by have f1:=HF.out;have f2:=hm.out;have f3:=hb.out;have f4:=fJ.out;omega
            have g6:e0 < bb:=by have f1:=HF.out;have f2:=hm.out;have f3:=hb.out;have f4:=fJ.out;omega
            go_wp2_with fail
            refine (Ii nm W0 _ b o c N (P++l1) l2 r1 (r2++Q) j0 m e0 _ auv auc BI (Lib.hid auw) (Lib.hid atU) (Lib.hid atU) atU atU).mono ?_
            rintro e w2 ⟨rfl,hS2⟩
            replace hS2:jJ (fun x=>[Value.string (nm x)]) 1 W0 w2 b o (P++(l1++(r1++(l2++(r2++Q))))):=by simpa only [List.append_assoc] using hS2
            go_wp2_with fail
            refine (HIH.out W0 _ b o c N P l1 r1 (l2++(r2++Q)) a j0 mid cv q1 q2 hS2 auc BI ha (Lib.hid atU) (Lib.hid atU) atU atU HW.out LJ.out.1 LJ.out.2.2.1 HC.out auk).mono ?_
            rintro e w3 ⟨rfl,hS3⟩
            go_wp2_with fail
            refine (HIH.out W0 _ b o c N (P++fO (kS cv) l1 r1) l2 r2 Q mid e0 bb cv q1 q2 auM auc BI (Lib.hid auN) (Lib.hid atU) (Lib.hid atU) atU atU HW.out LJ.out.2.1 LJ.out.2.2.2 HC.out auk).mono ?_
            rintro e w4 ⟨rfl,hS4⟩
            go_wp2
            go_end0
            refine ⟨rfl,?_⟩
            rw [HM.out]
            simpa only [List.append_assoc] using hS4)
      ·rcases Nat.eq_zero_or_pos l2.length with hl2 | hl2
       ·first
         | (exfalso;have e3:=Ij.out;have e4:=Ik.out;have e5:=HD.out;have f1:=HF.out;have f2:=hm.out;have f3:=hb.out;have f4:=fJ.out;omega)
         | (
          have g1:m≤j0:=by have f1:=HF.out;have f2:=hm.out;have f3:=hb.out;have f4:=fJ.out;omega
          have g3:a < j0:=by have f1:=HF.out;have f2:=hm.out;have f3:=hb.out;have f4:=fJ.out;omega
          have g4:mid≤j0:=by have f1:=HF.out;have f2:=hm.out;have f3:=hb.out;have f4:=fJ.out;omega
          have g5:e0≤mid:=by have f1:=HF.out;have f2:=hm.out;have f3:=hb.out;have f4:=fJ.out;omega
          go_wp2_with fail
          have l2e:l2 = []:=List.eq_nil_of_length_eq_zero atU
          have hS2:jJ (fun x=>[Value.string (nm x)]) 1 W0 wr b o (P++(l1++(r1++(l2++(r2++Q))))):=by rw [l2e] at hS1 ⊢;simpa only [List.append_assoc,List.nil_append] using hS1
          have r1e:r1 = []:=List.eq_nil_of_length_eq_zero atU
          have hS3:jJ (fun x=>[Value.string (nm x)]) 1 W0 wr b o (P++(fO (kS cv) l1 r1++(l2++(r2++Q)))):=by rw [r1e] at hS2 ⊢;simpa only [gZ,List.nil_append] using hS2
          have hS4:jJ (fun x=>[Value.string (nm x)]) 1 W0 wr b o (P++(fO (kS cv) l1 r1++(fO (kS cv) l2 r2++Q))):=by rw [l2e] at hS3 ⊢;simpa only [ig,List.nil_append] using hS3
          go_end0
          refine ⟨rfl,?_⟩
          rw [HM.out]
          simpa only [List.append_assoc] using hS4)
       ·first
         | (exfalso;have e3:=Ij.out;have e4:=Ik.out;have e5:=HD.out;have f1:=HF.out;have f2:=hm.out;have f3:=hb.out;have f4:=fJ.out;omega)
         | (
          have g1:j0 < m:=by have f1:=HF.out;have f2:=hm.out;have f3:=hb.out;have f4:=fJ.out;omega
          have g2:e0≤m:=by have f1:=HF.out;have f2:=hm.out;have f3:=hb.out;have f4:=fJ.out;omega
          have g3:a < j0:=by have f1:=HF.out;have f2:=hm.out;have f3:=hb.out;have f4:=fJ.out;omega
          have g4:mid≤j0:=by have f1:=HF.out;have f2:=hm.out;have f3:=hb.out;have f4:=fJ.out;omega
          have g5:mid < e0:=by have f1:=HF.out;have f2:=hm.out;have f3:=hb.out;have f4:=fJ.out;omega
          have g6:e0 < bb:=by have f1:=HF.out;have f2:=hm.out;have f3:=hb.out;have f4:=fJ.out;omega
          go_wp2_with fail
          have r1e:r1 = []:=List.eq_nil_of_length_eq_zero atU
          have hS2:jJ (fun x=>[Value.string (nm x)]) 1 W0 wr b o (P++(l1++(r1++(l2++(r2++Q))))):=by rw [r1e] at hS1 ⊢;simpa only [List.append_assoc,List.nil_append] using hS1
          have hS3:jJ (fun x=>[Value.string (nm x)]) 1 W0 wr b o (P++(fO (kS cv) l1 r1++(l2++(r2++Q)))):=by rw [r1e] at hS2 ⊢;simpa only [gZ,List.nil_append] using hS2
          refine (HIH.out W0 _ b o c N (P++fO (kS cv) l1 r1) l2 r2 Q mid e0 bb cv q1 q2 auM auc BI (Lib.hid auN) (Lib.hid atU) (Lib.hid atU) atU atU HW.out LJ.out.2.1 LJ.out.2.2.2 HC.out auk).mono ?_
          rintro e w4 ⟨rfl,hS4⟩
          go_wp2
          go_end0
          refine ⟨rfl,?_⟩
          rw [HM.out]
          simpa only [List.append_assoc] using hS4)
end
end Go.Proofs.YtnjibbpcafgglaaGreat
namespace Go.Proofs.YtnjibbpcafgglaaGreat
open Go.ChangeShapes Go.WideShapes Go.ChangeAt Go.RowKit
set_option linter.unusedVariables false
set_option linter.unusedSimpArgs false
section
variable {β:Type} (nm:β→ByteArray)
set_option maxRecDepth 100000 in
set_option maxHeartbeats 8000000 in
theorem am6 (W0 w:World) (b o c N:Nat) (D:List β) (cv:β→β→Int) (q1 q2:Addr) (h:jJ (fun x=>[Value.string (nm x)]) 1 W0 w b o (D)) (hN:D.length = N) (BI:N≤1048576) (W:Weak (kS cv)) (hc:aaS nm cv q1 q2 W0 b) :
 Calls Tryz.prog 151 #[.slice (some ⟨b,o,none⟩) N c,.int .i64 N,.func (.func 105) #[] #[.pointer (some q1),.pointer (some q2)]] w fun e w'=>e = .returned (.tuple #[])∧jJ (fun x=>[Value.string (nm x)]) 1 W0 w' b o (sortB (kS cv) [] D):=by
 have HC:=Lib.hid hc
 have HW:=Lib.hid W
 have HN:=Lib.hid hN
 clear hc hN W
 go_enter Tryz.func151,Tryz.ntmps151
 go_wp2_with fail
 go_loopw [7,8] (fun i j wr=>∃(a0 b0:Nat) (A:List β),i = .int .i64 (a0:Int)∧j = .int .i64 (b0:Int)∧b0 = a0+20∧a0≤N∧Hid (A.length = a0)∧Hid (runs (kS cv) 20 D = A++runs (kS cv) 20 (D.drop a0))∧jJ (fun x=>[Value.string (nm x)]) 1 W0 wr b o (A++D.drop a0)) (fun i _ _=>N - (intOf i).toNat)
 case atStart=>exact ⟨0,20,[],rfl,rfl,rfl,by omega,Lib.hid rfl,Lib.hid (by simp),by simpa using h⟩
 case round =>
  obtain ⟨a0,b0,A,rfl,rfl,hb0,ha0,HA,HR,hS⟩:=hrel
  by_cases hlt:b0≤N
  ·have HB:=Lib.hid hb0
   have hab:a0 < b0:=by omega
   clear hb0
   go_wp2_with fail
   have hx:((D.drop a0).take 20).length = 20:=by rw [List.length_take,List.length_drop];have:=HB.out;have:=HN.out;omega
   have hdr:(D.drop a0).drop 20 = D.drop b0:=by rw [List.drop_drop,HB.out]
   have hst:=Ky (lt:=(kS cv)) (s:=20) (by omega) (D.drop a0)
   rw [hdr] at hst
   refine (Yy nm W0 _ b o c N A ((D.drop a0).take 20) (D.drop b0) a0 b0 cv q1 q2 (by rw [← hdr,List.take_append_drop];exact hS) (by rw [← hdr,List.take_append_drop,List.length_append,List.length_drop];have:=HA.out;have:=HN.out;omega) BI HA (Lib.hid (by rw [hx];exact HB.out.symm)) HW.out HC.out).mono ?_
   rintro e w2 ⟨rfl,hS2⟩
   have HX:=Lib.hid hx
   have HST:=Lib.hid hst
   clear hx hdr hst
   go_wp2
   refine ⟨⟨b0,b0+20,A++sortB (kS cv) [] ((D.drop a0).take 20),rfl,by go_num,rfl,hlt,Lib.hid (by rw [List.length_append,rD,HX.out,HA.out,HB.out];simp),Lib.hid awE,by simpa only [List.append_assoc] using hS2⟩,by simp [intOf];have:=HB.out;omega⟩
  ·go_wp2_with fail
   have hx:(D.drop a0).length≤20:=by rw [List.length_drop];have:=HN.out;omega
   have hst:=zo (lt:=(kS cv)) hx
   refine (Yy nm W0 _ b o c N A (D.drop a0) [] a0 N cv q1 q2 awF (by rw [List.append_nil,List.length_append,List.length_drop];have:=HA.out;have:=HN.out;omega) BI HA (Lib.hid auV) HW.out HC.out).mono ?_
   rintro e w2 ⟨rfl,hS2⟩
   have hS3:jJ (fun x=>[Value.string (nm x)]) 1 W0 w2 b o (runs (kS cv) 20 D):=by rw [HR.out,hst];simpa only [List.append_nil] using hS2
   clear hS2 hS hx hst HR HA hb0 hlt
   go_wp2_with fail
   go_loopw [6] (fun z wr=>∃s:Nat,0 < s∧s≤2097152∧z = .int .i64 (s:Int)∧jJ (fun x=>[Value.string (nm x)]) 1 W0 wr b o (runs (kS cv) s D)) (fun z _=>N - (intOf z).toNat)
   case atStart=>exact ⟨20,by omega,by omega,rfl,hS3⟩
   case round =>
    obtain ⟨s,hs0,hs1,rfl,hS4⟩:=hrel
    by_cases hsn:s < N
    ·obtain ⟨wo,hwo⟩:∃wo,wo = wr:=⟨_,rfl⟩
     subst hwo
     clear hS3
     go_wp2_with fail
     go_loopw [7,8] (fun i j wr=>∃(a0 b0:Nat) (A:List β),i = .int .i64 (a0:Int)∧j = .int .i64 (b0:Int)∧b0 = a0+2 * s∧a0≤N∧Hid (A.length = a0)∧Hid (runs (kS cv) (2 * s) D = A++runs (kS cv) (2 * s) (D.drop a0))∧jJ (fun x=>[Value.string (nm x)]) 1 W0 wr b o (A++runs (kS cv) s (D.drop a0))) (fun i _ _=>N - (intOf i).toNat)
     case atStart=>exact ⟨0,2 * s,[],rfl,by go_num,by omega,by omega,Lib.hid rfl,Lib.hid (by simp),by simpa using hS4⟩
     case round =>
      obtain ⟨a0,b0,A,rfl,rfl,hb0,ha0,HA,HR,hS⟩:=hrel
      by_cases hlt:b0≤N
      ·have HB:=Lib.hid hb0
       have hab:a0+s < b0:=by omega
       clear hb0
       go_wp2_with fail
       obtain ⟨h1,h2⟩:=am0 HW.out hs0 (D.drop a0)
       have hdr:(D.drop a0).drop (2 * s) = D.drop b0:=by rw [List.drop_drop,HB.out]
       have hst:=Ky (lt:=(kS cv)) (s:=2 * s) (by omega) (D.drop a0)
       rw [hdr] at h1 hst
       have hl1:(sortB (kS cv) [] ((D.drop a0).take s)).length = s:=by rw [rD,List.length_take,List.length_drop];have:=HB.out;have:=HN.out;simp;omega
       have hl2:(sortB (kS cv) [] (((D.drop a0).drop s).take s)).length = s:=by rw [rD,List.length_take,List.length_drop,List.length_drop];have:=HB.out;have:=HN.out;simp;omega
       have hl3:(runs (kS cv) s (D.drop b0)).length = N - b0:=by rw [am3 hs0 _ _ (Nat.le_refl _),List.length_drop,HN.out]
       rw [h1] at hS
       have hx:(sortB (kS cv) [] ((D.drop a0).take (2 * s))).length = 2 * s:=by rw [rD,List.length_take,List.length_drop];have:=HB.out;have:=HN.out;simp;omega
       rw [show ((a0:Int)+s) = ((a0+s:Nat):Int) by omega]
       refine (aad nm (s+s) W0 _ b o c N A _ _ _ a0 (a0+s) b0 cv q1 q2 hS (by simp only [List.length_append,hl1,hl2,hl3];have:=HA.out;have:=HB.out;omega) BI HA (Lib.hid (by rw [hl1])) (Lib.hid (by rw [hl2];have:=HB.out;omega)) (by omega) (by omega) HW.out (yc HW.out _ _ List.Pairwise.nil) (yc HW.out _ _ List.Pairwise.nil) HC.out (by rw [hl1,hl2];exact Nat.le_refl _)).mono ?_
       rintro e w2 ⟨rfl,hS2⟩
       rw [h2] at hS2
       have HX:=Lib.hid hx
       have HST:=Lib.hid hst
       clear h1 h2 hdr hst hl1 hl2 hl3 hx hS
       go_wp2
       refine ⟨⟨b0,b0+2 * s,A++sortB (kS cv) [] ((D.drop a0).take (2 * s)),rfl,by go_num,rfl,hlt,Lib.hid (by rw [List.length_append,HX.out,HA.out,HB.out]),Lib.hid awE,by simpa only [List.append_assoc] using hS2⟩,by simp [intOf];omega⟩
      ·by_cases hm:a0+s < N
       ·go_wp2_with fail
        obtain ⟨h1,h2⟩:=ajf HW.out hs0 (ys:=D.drop a0) auV auV
        have hl1:(sortB (kS cv) [] ((D.drop a0).take s)).length = s:=by rw [rD,List.length_take,List.length_drop];have:=HN.out;simp;omega
        have hl2:(sortB (kS cv) [] ((D.drop a0).drop s)).length = N - a0 - s:=by rw [rD,List.length_drop,List.length_drop];have:=HN.out;simp;omega
        rw [h1] at hS
        try rw [show ((a0:Int)+s) = ((a0+s:Nat):Int) by omega]
        refine (aad nm (s+s) W0 _ b o c N A _ _ [] a0 (a0+s) N cv q1 q2 awF (by simp only [List.length_append,hl1,hl2,List.length_nil];have:=HA.out;omega) BI HA (Lib.hid (by rw [hl1])) (Lib.hid (by rw [hl2];omega)) (by omega) (by omega) HW.out (yc HW.out _ _ List.Pairwise.nil) (yc HW.out _ _ List.Pairwise.nil) HC.out (by rw [hl1,hl2];omega)).mono ?_
        rintro e w2 ⟨rfl,hS2⟩
        rw [h2,List.append_nil,← HR.out] at hS2
        clear h1 h2 hl1 hl2 hS
        go_wp2
        refine ⟨⟨2 * s,by omega,by omega,by first | go_num | (congr 1;omega),hS2⟩,by simp [intOf];omega⟩
       ·go_wp2
        have e1:=zo (lt:=(kS cv)) (s:=s) (xs:=D.drop a0) auV
        have e2:=zo (lt:=(kS cv)) (s:=2 * s) (xs:=D.drop a0) auV
        rw [e1,← e2,← HR.out] at hS
        refine ⟨⟨2 * s,by omega,by omega,by first | go_num | (congr 1;omega),hS⟩,by simp [intOf];omega⟩
    ·go_wp2
     go_end0
     refine ⟨rfl,?_⟩
     rw [← zo (lt:=(kS cv)) (s:=s) (by have:=HN.out;omega)]
     exact hS4
set_option maxRecDepth 100000 in
theorem aeJ (W0 w:World) (b o c N:Nat) (D:List β) (cv:β→β→Int) (q1 q2:Addr) (h:jJ (fun x=>[Value.string (nm x)]) 1 W0 w b o (D)) (hN:D.length = N) (BI:N≤1048576) (W:Weak (kS cv)) (hc:aaS nm cv q1 q2 W0 b) :
 Calls Tryz.prog 104 #[.slice (some ⟨b,o,none⟩) N c,.func (.func 105) #[] #[.pointer (some q1),.pointer (some q2)]] w fun e w'=>e = .returned (.tuple #[])∧jJ (fun x=>[Value.string (nm x)]) 1 W0 w' b o (sortB (kS cv) [] D):=by
 have HN:=Lib.hid hN
 clear hN
 go_enter Tryz.func104,Tryz.ntmps104
 go_wp2_with fail
 refine (am6 nm W0 _ b o c N D cv q1 q2 h HN.out BI W hc).mono ?_
 rintro e w2 ⟨rfl,hS⟩
 go_wp2
 go_end0
 exact ⟨rfl,hS⟩
set_option maxRecDepth 100000 in
theorem ahv (w:World) (A:Option Addr) (c:Nat) (f:Value):Calls Tryz.prog 178 #[.slice A 0 c,.int .i64 0,.int .i64 0,f] w fun e w'=>e = .returned (.tuple #[])∧w' = w:=by
 go_enter Tryz.func178,Tryz.ntmps178
 go_wp2_with fail
 go_loopw [8] (fun i wr=>i = .int .i64 1∧wr = w) (fun _ _=>0)
 case atStart=>exact ⟨by simp,rfl⟩
 case round =>
  obtain ⟨rfl,rfl⟩:=hrel
  go_wp2
  go_end0
  exact ⟨rfl,rfl⟩
set_option maxRecDepth 100000 in
theorem am7 (w:World) (A:Option Addr) (c:Nat) (f:Value):Calls Tryz.prog 151 #[.slice A 0 c,.int .i64 0,f] w fun e w'=>e = .returned (.tuple #[])∧w' = w:=by
 go_enter Tryz.func151,Tryz.ntmps151
 go_wp2_with fail
 go_loopw [7,8] (fun i j wr=>i = .int .i64 0∧j = .int .i64 20∧wr = w) (fun _ _ _=>0)
 case atStart=>exact ⟨rfl,rfl,rfl⟩
 case round =>
  obtain ⟨rfl,rfl,hw⟩:=hrel
  subst hw
  go_wp2_with fail
  refine (ahv _ A c f).mono ?_
  rintro e w2 ⟨rfl,hw2⟩
  subst hw2
  go_wp2_with fail
  go_loopw [6] (fun z wz=>z = .int .i64 20∧wz = w2) (fun _ _=>0)
  case atStart=>exact ⟨rfl,rfl⟩
  case round =>
   obtain ⟨rfl,hw⟩:=hrel
   subst hw
   go_wp2
   go_end0
   exact ⟨rfl,rfl⟩
set_option maxRecDepth 100000 in
theorem aeI (w:World) (A:Option Addr) (c:Nat) (f:Value):Calls Tryz.prog 104 #[.slice A 0 c,f] w fun e w'=>e = .returned (.tuple #[])∧w' = w:=by
 go_enter Tryz.func104,Tryz.ntmps104
 go_wp2_with fail
 refine (am7 _ A c f).mono ?_
 rintro e w2 ⟨rfl,hw⟩
 subst hw
 go_wp2
 go_end0
 exact ⟨rfl,rfl⟩
end
end Go.Proofs.YtnjibbpcafgglaaGreat
