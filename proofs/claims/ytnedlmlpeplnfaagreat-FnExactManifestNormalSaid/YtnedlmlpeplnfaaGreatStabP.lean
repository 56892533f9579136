/- A stable sort in plain Lean: insertion, merging of two runs, runs of a size; what the library's stable sort computes. No condition. -/
import Derived.Test.YtnedlmlpeplnfaaGreatFrame
import Derived.Sort.Statements
import Derived.Test.YtnedlmlpeplnfaaGreatRows
namespace Go.Proofs.YtnedlmlpeplnfaaGreat
set_option linter.unusedVariables false
set_option linter.unusedSimpArgs false
section
variable {β:Type} (lt:β→β→Bool)
def OM (y:β):List β→List β
 | []=>[y]
 | x :: xs=>if lt y x then y :: x :: xs else x :: OM y xs
def sortB:List β→List β→List β
 | acc,[]=>acc
 | acc,y :: ys=>sortB (OM lt y acc) ys
def fO:List β→List β→List β
 | [],r=>r
 | l,[]=>l
 | x :: l,y :: r=>if lt y x then y :: fO (x :: l) r else x :: fO l (y :: r)
termination_by l r=>l.length+r.length
structure Weak:Prop where
 irr:∀x,lt x x = false
 tr:∀x y z,lt x y = true→lt y z = true→lt x z = true
 neg:∀x y z,lt x y = false→lt y z = false→lt x z = false
def Sorted (l:List β):Prop:=l.Pairwise fun x y=>lt y x = false
variable {lt}
theorem Weak.asym (W:Weak lt) {x y:β} (h:lt x y = true):lt y x = false:=by
 cases h2:lt y x
 ·rfl
 ·have:=W.tr x y x h h2;rw [W.irr] at this;cases this
theorem Weak.left (W:Weak lt) {x y z:β} (h:lt x y = true) (h2:lt z y = false):lt x z = true:=by
 cases h3:lt x z
 ·have:=W.neg x z y h3 h2;rw [this] at h;cases h
 ·rfl
theorem Weak.right (W:Weak lt) {x y z:β} (h:lt y x = false) (h2:lt y z = true):lt x z = true:=by
 cases h3:lt x z
 ·have:=W.neg y x z h h3;rw [this] at h2;cases h2
 ·rfl
theorem ig (r:List β):fO lt [] r = r:=by unfold fO;rfl
theorem gZ (l:List β):fO lt l [] = l:=by
 cases l with
 | nil=>exact ig []
 | cons x l=>unfold fO;rfl
theorem lK (x y:β) (l r:List β):fO lt (x :: l) (y :: r) = if lt y x then y :: fO lt (x :: l) r else x :: fO lt l (y :: r):=by
 conv=>lhs;unfold fO
theorem fU:∀(l r:List β),(fO lt l r).length = l.length+r.length
 | [],r=>by rw [ig];simp
 | x :: l,[]=>by rw [gZ];simp
 | x :: l,y :: r=>by
   rw [lK];split
   ·rw [List.length_cons,fU (x :: l) r];simp only [List.length_cons];omega
   ·rw [List.length_cons,fU l (y :: r)];simp only [List.length_cons];omega
termination_by l r=>l.length+r.length
theorem FV:∀(l1 r1:List β) (l2 r2:List β),(∀y∈r1,∀x∈l2,lt y x = true)→(∀y∈r2,∀x∈l1,lt y x = false)→fO lt (l1++l2) (r1++r2) = fO lt l1 r1++fO lt l2 r2
 | [],[],l2,r2,_,_=>by simp [ig]
 | [],y :: r1,l2,r2,h1,h2=>by
   have ih:=FV [] r1 l2 r2 (fun z hz=>h1 z (List.mem_cons_of_mem _ hz)) (fun _ _ _ hx=>by cases hx);rw [ig] at ih ⊢;cases l2 with
   | nil=>simp only [List.append_nil,ig]
   | cons x l2 =>simp only [List.nil_append,List.cons_append] at ih ⊢;rw [lK,if_pos (h1 y (List.mem_cons_self ..) x (List.mem_cons_self ..)),ih]
 | x :: l1,[],l2,r2,h1,h2=>by
   have ih:=FV l1 [] l2 r2 (fun _ hz=>by cases hz) (fun y hy z hz=>h2 y hy z (List.mem_cons_of_mem _ hz));rw [gZ] at ih ⊢;cases r2 with
   | nil=>simp only [List.append_nil,gZ]
   | cons y r2 =>simp only [List.nil_append,List.cons_append] at ih ⊢;rw [lK,if_neg (by rw [h2 y (List.mem_cons_self ..) x (List.mem_cons_self ..)];simp),ih]
 | x :: l1,y :: r1,l2,r2,h1,h2=>by
   simp only [List.cons_append];rw [lK,lK];split
   ·have ih:=FV (x :: l1) r1 l2 r2 (fun z hz=>h1 z (List.mem_cons_of_mem _ hz)) h2;simp only [List.cons_append] at ih;rw [ih,List.cons_append]
   ·have ih:=FV l1 (y :: r1) l2 r2 h1 (fun z hz w hw=>h2 z hz w (List.mem_cons_of_mem _ hw));simp only [List.cons_append] at ih;rw [ih,List.cons_append]
termination_by l1 r1=>l1.length+r1.length
theorem aeO {x:β} {r1 r2:List β} (h1:∀y∈r1,lt y x = true) (h2:∀y∈r2,lt y x = false):fO lt [x] (r1++r2) = r1++x :: r2:=by
 have h:=FV (lt:=lt) [] r1 [x] r2 (fun y hy z hz=>by rw [List.mem_singleton.1 hz];exact h1 y hy) (fun _ _ _ hz=>by cases hz);rw [List.nil_append,ig] at h;rw [h];congr 1;cases r2 with
 | nil=>exact gZ _
 | cons y r2=>rw [lK,if_neg (by rw [h2 y (List.mem_cons_self ..)];simp),ig]
theorem UU {y:β} {l1 l2:List β} (h1:∀x∈l1,lt y x = false) (h2:∀x∈l2,lt y x = true):fO lt (l1++l2) [y] = l1++y :: l2:=by
 have h:=FV (lt:=lt) l1 [] l2 [y] (fun _ hz=>by cases hz) (fun z hz x hx=>by rw [List.mem_singleton.1 hz];exact h1 x hx);rw [List.nil_append,gZ] at h;rw [h];congr 1;cases l2 with
 | nil=>exact ig _
 | cons x l2=>rw [lK,if_pos (h2 x (List.mem_cons_self ..)),gZ]
theorem xK (y:β):∀l:List β,OM lt y l = fO lt l [y]
 | []=>by rw [ig];rfl
 | x :: l=>by
   rw [OM,lK];split
   ·rw [gZ]
   ·rw [xK y l]
theorem MK {z:β} : ∀{l r:List β},z∈fO lt l r→z∈l∨z∈r
 | [],r,h=>by rw [ig] at h;exact .inr h
 | x :: l,[],h=>by rw [gZ] at h;exact .inl h
 | x :: l,y :: r,h=>by
   rw [lK] at h;split at h
   ·rcases List.mem_cons.1 h with rfl | h
    ·exact .inr (List.mem_cons_self ..)
    ·rcases MK h with h | h
     ·exact .inl h
     ·exact .inr (List.mem_cons_of_mem _ h)
   ·rcases List.mem_cons.1 h with rfl | h
    ·exact .inl (List.mem_cons_self ..)
    ·rcases MK h with h | h
     ·exact .inl (List.mem_cons_of_mem _ h)
     ·exact .inr h
termination_by l r=>l.length+r.length
theorem TV (W:Weak lt):∀{l r:List β},Sorted lt l→Sorted lt r→Sorted lt (fO lt l r)
 | [],r,_,h=>by rw [ig];exact h
 | x :: l,[],h,_=>by rw [gZ];exact h
 | x :: l,y :: r,hl,hr=>by
   have hl':=List.pairwise_cons.1 hl;have hr':=List.pairwise_cons.1 hr;rw [lK];split
   ·rename_i h;refine List.pairwise_cons.2 ⟨fun z hz=>?_,TV W hl hr'.2⟩;rcases MK hz with hz | hz
    ·rcases List.mem_cons.1 hz with rfl | hz
     ·exact W.asym h
     ·exact W.neg z x y (hl'.1 z hz) (W.asym h)
    ·exact hr'.1 z hz
   ·rename_i h;have h:lt y x = false:=(by simpa using h);refine List.pairwise_cons.2 ⟨fun z hz=>?_,TV W hl'.2 hr⟩;rcases MK hz with hz | hz
    ·exact hl'.1 z hz
    ·rcases List.mem_cons.1 hz with rfl | hz
     ·exact h
     ·exact W.neg z y x (hr'.1 z hz) h
termination_by l r=>l.length+r.length
theorem IK (W:Weak lt):∀(a b c:List β),fO lt (fO lt a b) c = fO lt a (fO lt b c)
 | [],b,c=>by simp only [ig]
 | a,[],c=>by simp only [ig,gZ]
 | a,b,[]=>by simp only [gZ]
 | x :: a,y :: b,z :: c=>by
   rw [lK x y,lK y z];by_cases h1:lt y x = true
   ·rw [if_pos h1];by_cases h2:lt z y = true
    ·rw [if_pos h2,lK y z,if_pos h2,lK x z,if_pos (W.tr z y x h2 h1),← IK W (x :: a) (y :: b) c,lK x y,if_pos h1]
    ·rw [if_neg h2,lK y z,if_neg h2,lK x y,if_pos h1,IK W (x :: a) b (z :: c)]
   ·rw [if_neg h1];by_cases h2:lt z y = true
    ·rw [if_pos h2];by_cases h3:lt z x = true
     ·rw [lK x z,if_pos h3,lK x z,if_pos h3,← IK W (x :: a) (y :: b) c,lK x y,if_neg h1]
     ·rw [lK x z,if_neg h3,lK x z,if_neg h3,IK W a (y :: b) (z :: c),lK y z,if_pos h2]
    ·have h3:¬lt z x = true:=by
      have e1:lt z y = false:=(by simpa using h2);have e2:lt y x = false:=(by simpa using h1);rw [W.neg z y x e1 e2];simp
     rw [if_neg h2,lK x z,if_neg h3,lK x y,if_neg h1,IK W a (y :: b) (z :: c),lK y z,if_neg h2]
termination_by a b c=>a.length+b.length+c.length
theorem UW:∀(ys acc:List β),sortB lt acc ys = ys.foldl (fun l y=>fO lt l [y]) acc
 | [],_=>rfl
 | y :: ys,acc=>by rw [sortB,xK,UW ys];rfl
theorem Yv (W:Weak lt):∀(ys acc:List β),sortB lt acc ys = fO lt acc (sortB lt [] ys)
 | [],acc=>by rw [sortB,sortB,gZ]
 | y :: ys,acc=>by
   rw [sortB,sortB,Yv W ys (OM lt y acc),Yv W ys (OM lt y []),xK,xK,ig,IK W]
theorem acz (W:Weak lt) (xs ys:List β):sortB lt [] (xs++ys) = fO lt (sortB lt [] xs) (sortB lt [] ys):=by
 rw [← Yv W,UW,UW,UW,List.foldl_append]
theorem yc (W:Weak lt):∀(ys acc:List β),Sorted lt acc→Sorted lt (sortB lt acc ys)
 | [],_,h=>h
 | y :: ys,acc,h=>by
   rw [sortB];refine yc W ys _ ?_;rw [xK];exact TV W h (List.pairwise_singleton _ _)
theorem rD:∀(ys acc:List β),(sortB lt acc ys).length = acc.length+ys.length
 | [],_=>rfl
 | y :: ys,acc=>by rw [sortB,rD ys,xK,fU];simp only [List.length_cons,List.length_nil];omega
theorem aql (W:Weak lt) {l1 l2 r1 r2:List β} (hl:Sorted lt (l1++l2)) (hr:Sorted lt (r1++r2)) (h1:r1 = []∨l2 = []∨∃r1' y x l2',r1 = r1'++[y]∧l2 = x :: l2'∧lt y x = true)
 (h2:l1 = []∨r2 = []∨∃l1' x y r2',l1 = l1'++[x]∧r2 = y :: r2'∧lt y x = false):fO lt (l1++l2) (r1++r2) = fO lt l1 r1++fO lt l2 r2:=by
 refine FV l1 r1 l2 r2 (fun y hy x hx=>?_) (fun y hy x hx=>?_)
 ·rcases h1 with rfl | rfl | ⟨r1',y0,x0,l2',rfl,rfl,h⟩
  ·cases hy
  ·cases hx
  ·have a:lt y0 y = false:=by
    rcases List.mem_append.1 hy with hy | hy
    ·have:=(List.pairwise_append.1 (List.pairwise_append.1 hr).1).2.2 y hy y0 (List.mem_singleton.2 rfl);exact this
    ·rw [List.mem_singleton.1 hy,W.irr]
   have b:lt x x0 = false:=by
    rcases List.mem_cons.1 hx with rfl | hx
    ·exact W.irr x
    ·exact (List.pairwise_cons.1 (List.pairwise_append.1 hl).2.1).1 x hx
   exact W.left (W.right a h) b
 ·rcases h2 with rfl | rfl | ⟨l1',x0,y0,r2',rfl,rfl,h⟩
  ·cases hx
  ·cases hy
  ·have a:lt x0 x = false:=by
    rcases List.mem_append.1 hx with hx | hx
    ·exact (List.pairwise_append.1 (List.pairwise_append.1 hl).1).2.2 x hx x0 (List.mem_singleton.2 rfl)
    ·rw [List.mem_singleton.1 hx,W.irr]
   have b:lt y y0 = false:=by
    rcases List.mem_cons.1 hy with rfl | hy
    ·exact W.irr y
    ·exact (List.pairwise_cons.1 (List.pairwise_append.1 hr).2.1).1 y hy
   exact W.neg y x0 x (W.neg y y0 x0 b h) a
def runs (lt:β→β→Bool) (s:Nat) (xs:List β):List β:=if h:xs.length≤s∨s = 0 then sortB lt [] xs else sortB lt [] (xs.take s)++runs lt s (xs.drop s)
termination_by xs.length
decreasing_by rw [List.length_drop];omega
theorem zo {s:Nat} {xs:List β} (h:xs.length≤s):runs lt s xs = sortB lt [] xs:=by unfold runs;rw [dif_pos (.inl h)]
theorem amZ (s:Nat):runs lt s ([]:List β) = []:=by rw [zo (Nat.zero_le _)];rfl
theorem Ky {s:Nat} (hs:0 < s) (xs:List β):runs lt s xs = sortB lt [] (xs.take s)++runs lt s (xs.drop s):=by
 by_cases h:xs.length≤s
 ·rw [List.take_of_length_le h,List.drop_of_length_le h,amZ,List.append_nil,zo h]
 ·conv=>lhs;unfold runs
  rw [dif_neg O']
theorem am0 (W:Weak lt) {s:Nat} (hs:0 < s) (ys:List β):runs lt s ys = sortB lt [] (ys.take s)++(sortB lt [] ((ys.drop s).take s)++runs lt s (ys.drop (2 * s))) ∧
 fO lt (sortB lt [] (ys.take s)) (sortB lt [] ((ys.drop s).take s)) = sortB lt [] (ys.take (2 * s)):=by
 constructor
 ·rw [Ky hs ys,Ky hs (ys.drop s),List.drop_drop,show s+s = 2 * s by omega]
 ·rw [← acz W];congr 1;rw [show 2 * s = s+s by omega,List.take_add]
theorem ajf (W:Weak lt) {s:Nat} (hs:0 < s) {ys:List β} (h1:s < ys.length) (h2:ys.length≤2 * s):runs lt s ys = sortB lt [] (ys.take s)++sortB lt [] (ys.drop s) ∧
 fO lt (sortB lt [] (ys.take s)) (sortB lt [] (ys.drop s)) = runs lt (2 * s) ys:=by
 constructor
 ·rw [Ky hs ys,zo (xs:=ys.drop s) awz]
 ·rw [← acz W,List.take_append_drop,zo (s:=2 * s) h2]
theorem alh (W:Weak lt) {y:β} {s1 s2:List β} (hs:Sorted lt (s1++s2)) (h2:∀x∈s2,lt y x = true) (h1:s1 = []∨∃s' x,s1 = s'++[x]∧lt y x = false):OM lt y (s1++s2) = s1++y :: s2:=by
 rw [xK];refine UU (fun x hx=>?_) h2;rcases h1 with rfl | ⟨s',x0,rfl,h⟩
 ·cases hx
 ·rcases List.mem_append.1 hx with hx | hx
  ·exact W.neg y x0 x h ((List.pairwise_append.1 (List.pairwise_append.1 hs).1).2.2 x hx x0 (List.mem_singleton.2 rfl))
  ·rw [List.mem_singleton.1 hx];exact h
theorem V3 (xs:List β) (y:β):sortB lt [] (xs++[y]) = OM lt y (sortB lt [] xs):=by
 rw [UW,UW,List.foldl_append,xK];rfl
end
end Go.Proofs.YtnedlmlpeplnfaaGreat
namespace Go.Proofs.YtnedlmlpeplnfaaGreat
set_option linter.unusedVariables false
variable {β:Type}
structure Tot (lt:β→β→Bool):Prop where
 irr:∀x,lt x x = false
 trans:∀x y z,lt x y = true→lt y z = true→lt x z = true
 tri:∀x y,lt x y = false→lt y x = false→x = y
theorem Tot.asym {lt:β→β→Bool} (T:Tot lt) {x y:β} (h:lt x y = true):lt y x = false:=by
 cases h2:lt y x with
 | false=>rfl
 | true=>have:=T.trans x y x h h2;rw [T.irr] at this;cases this
theorem Tot.swo {lt:β→β→Bool} (T:Tot lt):Go.Sort.SWO lt:=⟨T.irr,T.trans,fun x y z h1 h2=>by
 cases h3:lt x z with
 | false=>rfl
 | true =>
   exfalso;cases h4:lt y x with
   | false=>rw [T.tri x y h1 h4] at h3;rw [h3] at h2;cases h2
   | true=>have:=T.trans y x z h4 h3;rw [this] at h2;cases h2⟩
def Strict (lt:β→β→Bool) (l:List β):Prop:=l.Pairwise fun x y=>lt x y = true
theorem Strict.eq {lt:β→β→Bool} (T:Tot lt):∀{a b:List β},Strict lt a→Strict lt b→(∀x,x∈a↔x∈b)→a = b
 | [],[],_,_,_=>rfl
 | [],y :: b,_,_,h=>absurd ((h y).2 (List.mem_cons_self ..)) (List.not_mem_nil)
 | x :: a,[],_,_,h=>absurd ((h x).1 (List.mem_cons_self ..)) (List.not_mem_nil)
 | x :: a,y :: b,ha,hb,h=>by
   unfold Strict at ha hb;rw [List.pairwise_cons] at ha hb;have no:∀{u:β} {l:List β},(∀z∈l,lt u z = true)→u∉l:=fun hl hu=>by have:=hl _ hu;rw [T.irr] at this;cases this
   have hxy:x = y:=by
    rcases List.mem_cons.1 ((h x).1 (List.mem_cons_self ..)) with e | e
    ·exact e
    ·rcases List.mem_cons.1 ((h y).2 (List.mem_cons_self ..)) with e2 | e2
     ·exact e2.symm
     ·have:=T.trans _ _ _ (hb.1 x e) (ha.1 y e2);rw [T.irr] at this;cases this
   subst hxy;congr 1;refine Strict.eq T ha.2 hb.2 fun z=>⟨fun hz=>?_,fun hz=>?_⟩
   ·rcases List.mem_cons.1 ((h z).1 (List.mem_cons_of_mem _ hz)) with e | e
    ·subst e;exact absurd hz (no ha.1)
    ·exact e
   ·rcases List.mem_cons.1 ((h z).2 (List.mem_cons_of_mem _ hz)) with e | e
    ·subst e;exact absurd hz (no hb.1)
    ·exact e
def insU (lt:β→β→Bool) (x:β):List β→List β
 | []=>[x]
 | y :: r=>if lt y x then y :: insU lt x r else if lt x y then x :: y :: r else y :: r
theorem insU_mem {lt:β→β→Bool} (T:Tot lt) (x:β):∀(r:List β) (z:β),z∈insU lt x r↔z = x∨z∈r
 | [],z=>by simp [insU]
 | y :: r,z=>by
   unfold insU;split
   ·rw [List.mem_cons,insU_mem T x r z,List.mem_cons];exact ⟨fun h=>by rcases h with h | h | h <;> simp [h],fun h=>by rcases h with h | h | h <;> simp [h]⟩
   ·split
    ·simp
    ·rename_i h1 h2;have e:=T.tri x y (by simpa using h2) (by simpa using h1);subst e;simp
theorem insU_strict {lt:β→β→Bool} (T:Tot lt) (x:β):∀{r:List β},Strict lt r→Strict lt (insU lt x r)
 | [],_=>List.pairwise_singleton _ _
 | y :: r,h=>by
   unfold Strict at h;rw [List.pairwise_cons] at h;unfold insU;split
   ·rename_i h1;refine List.pairwise_cons.2 ⟨fun z hz=>?_,insU_strict T x h.2⟩;rcases (insU_mem T x r z).1 hz with e | e
    ·rw [e];exact h1
    ·exact h.1 z e
   ·split
    ·rename_i h2;refine List.pairwise_cons.2 ⟨fun z hz=>?_,List.pairwise_cons.2 h⟩;rcases List.mem_cons.1 hz with e | e
     ·rw [e];exact h2
     ·exact T.trans _ _ _ h2 (h.1 z e)
    ·exact List.pairwise_cons.2 h
theorem insU_go {lt:β→β→Bool} {y:β} : ∀(s1 s2:List β),(∀z∈s1,lt z y = true)→insU lt y (s1++s2) = s1++insU lt y s2
 | [],_,_=>rfl
 | z :: s1,s2,h=>by
   rw [List.cons_append,insU,if_pos (h z (List.mem_cons_self ..)),insU_go s1 s2 fun z' hz=>h z' (List.mem_cons_of_mem _ hz)];rfl
theorem insU_nil {lt:β→β→Bool} {y:β} (s1:List β) (h:∀z∈s1,lt z y = true):insU lt y (s1++[]) = s1++y :: []:=by rw [insU_go s1 [] h];rfl
theorem insU_cons {lt:β→β→Bool} {y z:β} (s1 s2:List β) (h:∀z∈s1,lt z y = true) (h1:lt z y = false) (h2:lt y z = true):insU lt y (s1++z :: s2) = s1++y :: z :: s2:=by
 rw [insU_go s1 _ h,insU,if_neg (by rw [h1];simp),if_pos h2]
theorem insU_same {lt:β→β→Bool} {y z:β} (s1 s2:List β) (h:∀z∈s1,lt z y = true) (h1:lt z y = false) (h2:lt y z = false):insU lt y (s1++z :: s2) = s1++z :: s2:=by
 rw [insU_go s1 _ h,insU,if_neg (by rw [h1];simp),if_neg (by rw [h2];simp)]
def uniqL (lt:β→β→Bool) (acc:List β):List β→List β
 | []=>acc
 | y :: r=>uniqL lt (insU lt y acc) r
theorem uniqL_snoc (lt:β→β→Bool) (y:β):∀(xs acc:List β),uniqL lt acc (xs++[y]) = insU lt y (uniqL lt acc xs)
 | [],_=>rfl
 | x :: xs,acc=>uniqL_snoc lt y xs (insU lt x acc)
theorem uniqL_strict {lt:β→β→Bool} (T:Tot lt):∀(xs:List β) {acc:List β},Strict lt acc→Strict lt (uniqL lt acc xs)
 | [],_,h=>h
 | x :: xs,_,h=>uniqL_strict T xs (insU_strict T x h)
theorem uniqL_mem {lt:β→β→Bool} (T:Tot lt) (z:β):∀(xs acc:List β),z∈uniqL lt acc xs↔z∈acc∨z∈xs
 | [],acc=>by simp [uniqL]
 | x :: xs,acc=>by
   unfold uniqL;rw [uniqL_mem T z xs,insU_mem T,List.mem_cons];exact ⟨fun h=>by rcases h with (h | h) | h <;> simp [h],fun h=>by rcases h with h | h | h <;> simp [h]⟩
theorem insU_len (lt:β→β→Bool) (x:β):∀(r:List β),(insU lt x r).length≤r.length+1
 | []=>Nat.le_refl _
 | y :: r=>by unfold insU;split;· simp [insU_len lt x r]
              ·split <;> simp
theorem uniqL_len (lt:β→β→Bool):∀(xs acc:List β),(uniqL lt acc xs).length≤acc.length+xs.length
 | [],_=>by simp [uniqL]
 | x :: xs,acc=>by have h1:=uniqL_len lt xs (insU lt x acc);have h2:=insU_len lt x acc;unfold uniqL;simp only [List.length_cons];omega
theorem insU_sum (f:β→Nat) (lt:β→β→Bool) (x:β):∀(r:List β),((insU lt x r).map f).sum≤f x+(r.map f).sum
 | []=>by simp [insU]
 | y :: r=>by
   have:=insU_sum f lt x r;unfold insU;split
   ·simp only [List.map_cons,List.sum_cons];omega
   ·split <;> simp only [List.map_cons,List.sum_cons] <;> omega
theorem uniqL_sum (f:β→Nat) (lt:β→β→Bool):∀(xs acc:List β),((uniqL lt acc xs).map f).sum≤(acc.map f).sum+(xs.map f).sum
 | [],_=>by simp [uniqL]
 | x :: xs,acc=>by
   have h1:=uniqL_sum f lt xs (insU lt x acc);have h2:=insU_sum f lt x acc;unfold uniqL;simp only [List.map_cons,List.sum_cons];omega
def keepAt (ne:β→β→Bool) (D:List β):Nat→Bool
 | 0=>true
 | q+1=>match D[q]?,D[q+1]? with | some x,some y=>ne x y | _,_=>false
def kept (ne:β→β→Bool) (D:List β):Nat→List β
 | 0=>[]
 | p+1=>if keepAt ne D p then kept ne D p++D[p]?.toList else kept ne D p
theorem keepAt_at {ne:β→β→Bool} {D:List β} {p:Nat} {x y:β} (h0:0 < p) (hx:D[p - 1]? = some x) (hy:D[p]? = some y):keepAt ne D p = ne x y:=by
 obtain ⟨q,rfl⟩:∃q,p = q+1:=⟨p - 1,O'⟩;rw [Nat.add_sub_cancel] at hx;simp only [keepAt,hx,hy]
theorem keepAt_one (ne:β→β→Bool) (D:List β) (j:Nat) (hj:j < 1):keepAt ne D j = true:=by
 obtain rfl:j = 0:=by omega
 rfl
theorem kept_yes {ne:β→β→Bool} {D:List β} {p:Nat} {y:β} (hy:D[p]? = some y) (h:keepAt ne D p = true):kept ne D (p+1) = kept ne D p++[y]:=by rw [kept,if_pos h,hy];rfl
theorem kept_no {ne:β→β→Bool} {D:List β} {p:Nat} (h:keepAt ne D p = false):kept ne D (p+1) = kept ne D p:=by rw [kept,if_neg (by rw [h];simp)]
theorem kept_sub (ne:β→β→Bool) (D:List β):∀p,(kept ne D p).Sublist (D.take p)
 | 0=>by simp [kept]
 | p+1=>by
   have h:=kept_sub ne D p;rw [List.take_add_one];unfold kept;split
   ·exact h.append (List.Sublist.refl _)
   ·exact h.trans (List.sublist_append_left _ _)
theorem kept_len (ne:β→β→Bool) (D:List β) (p:Nat):(kept ne D p).length≤p:=Nat.le_trans (kept_sub ne D p).length_le avI
theorem kept_mem {ne:β→β→Bool} {D:List β} {p:Nat} {z:β} (h:z∈kept ne D p):z∈D:=List.mem_of_mem_take ((kept_sub ne D p).subset h)
theorem kept_all {ne:β→β→Bool} {D:List β} : ∀{p:Nat},(∀j,j < p→keepAt ne D j = true)→kept ne D p = D.take p
 | 0,_=>by simp [kept]
 | p+1,h=>by
   rw [List.take_add_one,kept,if_pos (h p (Nat.lt_succ_self p)),kept_all fun j hj=>h j (Nat.lt_succ_of_lt hj)]
theorem kept_map {γ:Type} (f:γ→β) (ne:β→β→Bool) (D:List γ):∀p,(kept (fun x y=>ne (f x) (f y)) D p).map f = kept ne (D.map f) p
 | 0=>rfl
 | p+1=>by
   have hk:keepAt (fun x y=>ne (f x) (f y)) D p = keepAt ne (D.map f) p:=by
    cases p with
    | zero=>rfl
    | succ q =>simp only [keepAt,List.getElem?_map];cases D[q]? <;> cases D[q+1]? <;> rfl
   unfold kept;rw [hk];split
   ·rw [List.map_append,kept_map f ne D p,List.getElem?_map];cases D[p]? <;> rfl
   ·exact kept_map f ne D p
structure Press (ne:β→β→Bool) (D:List β) (p k:Nat) (L:List β):Prop where
 size:L.length = D.length
 at_:k = (kept ne D p).length
 lt:k < p
 low:L.take k = kept ne D p
 high:∀j,p - 1≤j→L[j]? = D[j]?
theorem Press.start {ne:β→β→Bool} {D:List β} {k:Nat} (hk:k < D.length) (h:∀j,j < k→keepAt ne D j = true) (hn:keepAt ne D k = false):Press ne D (k+1) k D:=by
 have e:=kept_all h;refine ⟨rfl,?_,Nat.lt_succ_self k,?_,fun j _=>rfl⟩
 ·rw [kept_no hn,e,List.length_take];omega
 ·rw [kept_no hn,e]
theorem Press.skip {ne:β→β→Bool} {D L:List β} {p k:Nat} (h:Press ne D p k L) (hn:keepAt ne D p = false):Press ne D (p+1) k L :=
 ⟨h.size,by rw [kept_no hn];exact h.at_,Nat.lt_succ_of_lt h.lt,by rw [kept_no hn];exact h.low,fun j hj=>h.high j O'⟩
theorem Press.keep {ne:β→β→Bool} {D L:List β} {p k:Nat} {y:β} (h:Press ne D p k L) (hy:D[p]? = some y) (hn:keepAt ne D p = true):Press ne D (p+1) (k+1) (L.set k y):=by
 have hp:=(List.getElem?_eq_some_iff.1 hy).1;have h1:=h.lt;have h2:=h.size;refine ⟨by rw [List.length_set];exact h.size,by rw [kept_yes hy hn,List.length_append,← h.at_];rfl,Nat.succ_lt_succ h.lt,?_,fun j hj=>?_⟩
 ·rw [kept_yes hy hn,← h.low,List.take_add_one,List.take_set_of_le (Nat.le_refl k),List.getElem?_set_self O'];rfl
 ·rw [List.getElem?_set_ne O'];exact h.high j O'
theorem kept_uniq {lt:β→β→Bool} (T:Tot lt) {ne:β→β→Bool} (hne:∀x y,ne x y = true↔x≠y) {xs l:List β} (hp:l.Perm xs) (hs:l.Pairwise (fun x y=>lt y x = false)):kept ne l l.length = uniqL lt [] xs:=by
 have hget:=List.pairwise_iff_getElem.1 hs;have key:∀p,p≤l.length→Strict lt (kept ne l p)∧∀z,z∈kept ne l p↔z∈l.take p:=by
  intro p;induction p with
  | zero=>intro _;exact ⟨List.Pairwise.nil,fun z=>by simp [kept]⟩
  | succ p ih =>
    intro hl;obtain ⟨h1,h2⟩:=ih O';have hy:l[p]? = some l[p]:=List.getElem?_eq_getElem O';have le:∀z∈l.take p,lt l[p] z = false:=fun z hz=>by
     obtain ⟨j,hj,rfl⟩:=List.getElem_of_mem hz;rw [List.getElem_take];rw [List.length_take] at hj;exact hget j p O' O' O'
    cases hk:keepAt ne l p with
    | true =>
      rw [kept_yes hy hk];refine ⟨List.pairwise_append.2 ⟨h1,List.pairwise_singleton _ _,fun z hz y hy'=>?_⟩,fun z=>by rw [List.mem_append,h2 z,List.take_add_one,List.mem_append,hy];rfl⟩;rw [List.mem_singleton.1 hy'];have hz2:=(h2 z).1 hz;cases hzl:lt z l[p] with
      | true=>rfl
      | false =>
        exfalso;have e:=T.tri z l[p] hzl (le z hz2);obtain ⟨j,hj,hjz⟩:=List.getElem_of_mem hz2;rw [List.getElem_take] at hjz;rw [List.length_take] at hj;have hp0:0 < p:=O';rw [keepAt_at hp0 (List.getElem?_eq_getElem O') hy] at hk;refine (hne _ _).1 hk (T.tri _ _ ?_ (hget (p - 1) p O' O' O'));rw [← e,← hjz];by_cases ej:j = p - 1
        ·subst ej;exact T.irr _
        ·exact hget j (p - 1) O' O' O'
    | false =>
      rw [kept_no hk];refine ⟨h1,fun z=>?_⟩;rw [h2 z,List.take_add_one,List.mem_append,hy];refine ⟨Or.inl,fun h=>?_⟩;rcases h with h | h
      ·exact h
      ·simp only [Option.toList_some,List.mem_singleton] at h;have hp0:0 < p:=by
        rcases Nat.eq_zero_or_pos p with h0 | h0
        ·subst h0;simp [keepAt] at hk
        ·exact h0
       rw [keepAt_at hp0 (List.getElem?_eq_getElem O') hy] at hk;have e:l[p - 1] = l[p]:=Classical.byContradiction fun hh=>by rw [(hne _ _).2 hh] at hk;cases hk
       rw [h,← e];exact List.mem_of_getElem? (i:=p - 1) (by rw [List.getElem?_take];simp only [show p - 1 < p by omega,if_true];exact List.getElem?_eq_getElem _)
 obtain ⟨h1,h2⟩:=key l.length (Nat.le_refl _);exact Strict.eq T h1 (uniqL_strict T xs List.Pairwise.nil) fun z=>by
  rw [h2 z,List.take_length,uniqL_mem T z,hp.mem_iff];simp
end Go.Proofs.YtnedlmlpeplnfaaGreat
