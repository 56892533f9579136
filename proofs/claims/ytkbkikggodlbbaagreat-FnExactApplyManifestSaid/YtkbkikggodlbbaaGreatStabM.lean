/- A table of rows in one block: elements are swapped in place. No condition. -/
import Derived.Test.YtkbkikggodlbbaaGreatGr
import Derived.Test.YtkbkikggodlbbaaGreatLaw0
import Derived.Test.YtkbkikggodlbbaaGreatOrdP
import Derived.Shelf.SlSortCmp.NoneTotal
namespace Go.Proofs.YtkbkikggodlbbaaGreat
open Go.ChangeShapes Go.WideShapes Go.ChangeAt Go.RowKit
set_option linter.unusedVariables false
set_option linter.unusedSimpArgs false
section
variable {β:Type} {row:β→List Value} {S:Nat}
def Tab (row:β→List Value) (S:Nat) (w:World) (b o:Nat) (D:List β):Prop:=∀k x,D[k]? = some x→∀j u,(row x)[j]? = some u→w.cell? ⟨b,o+k * S+j,none⟩ = some u
theorem Tab.put {w:World} {b o:Nat} {D:List β} (h:Tab row S w b o D) (hS:∀x,(row x).length = S) {i:Nat} (hi:i < D.length) (y:β):Tab row S (w.setCells b (o+i * S) (row y)) b o (D.set i y):=by
 intro k x hk j u hj;have hj2:j < S:=by rw [← hS x];exact (List.getElem?_eq_some_iff.1 hj).1
 have hex:∀q,q < (row y).length→(w.cell? ⟨b,o+i * S+q,none⟩).isSome = true:=fun q hq=>by
  rw [hS] at hq;have hx:=h i D[i] (List.getElem?_eq_getElem hi) q ((row D[i])[q]'(by rw [hS];exact hq)) (List.getElem?_eq_getElem _);rw [hx];rfl
 by_cases hik:i = k
 ·subst hik;rw [List.getElem?_set_self hi] at hk;obtain rfl:=Option.some.inj hk;have:=World.cell?_setCells_in b (row y) (o+i * S) w hex j (by rw [hS];exact hj2);rw [this,← hj];exact (List.getElem?_eq_getElem _).symm
 ·rw [List.getElem?_set_ne hik] at hk;rw [World.cell?_setCells_out b _ _ _ _ (fun _ _=>?_)]
  ·exact h k x hk j u hj
  ·dsimp only;rw [hS];rcases Nat.lt_or_gt_of_ne hik with h1 | h1
   ·right;have:(i+1) * S≤k * S:=Nat.mul_le_mul_right _ h1;rw [Nat.succ_mul] at this;omega
   ·left;have:(k+1) * S≤i * S:=Nat.mul_le_mul_right _ h1;rw [Nat.succ_mul] at this;omega
theorem Tab.at_ {w:World} {b o:Nat} {D:List β} (h:Tab row S w b o D) {k:Nat} (hk:k < D.length) {j:Nat} {u:Value} (hj:(row D[k])[j]? = some u):w.cell? ⟨b,o+k * S+j,none⟩ = some u:=h k D[k] (List.getElem?_eq_getElem hk) j u hj
theorem Tab.keep {w w':World} {b o:Nat} {D:List β} (h:Tab row S w b o D) (hk:w'.heap[b]? = w.heap[b]?):Tab row S w' b o D:=fun k x hx j u hj=>(World.cell?_of_block hk).trans (h k x hx j u hj)
theorem Tab.ext {w w':World} {b o:Nat} {D:List β} (h:Tab row S w b o D) (hb:b < w.heap.size) (he:Below w.heap.size w w'):Tab row S w' b o D:=h.keep (he.block b hb)
def WQ (D:List β) (i j:Nat):List β:=match D[i]?,D[j]? with | some x,some y=>(D.set i y).set j x | _,_=>D
theorem asA {D:List β} {i j:Nat} (hi:i < D.length) (hj:j < D.length):WQ D i j = (D.set i D[j]).set j D[i]:=by unfold WQ;rw [List.getElem?_eq_getElem hi,List.getElem?_eq_getElem hj]
structure jJ (row:β→List Value) (S:Nat) (w0 w:World) (b o:Nat) (D:List β):Prop where
 tab:Tab row S w b o D
 plain:Plain w b
 upd:nN [b] w0 w
theorem jJ.ext {w0 w w':World} {b o:Nat} {D:List β} (h:jJ row S w0 w b o D) (he:Below w.heap.size w w'):jJ row S w0 w' b o D :=
 ⟨h.tab.ext h.plain.lt he,by obtain ⟨ds,t,hp⟩:=h.plain;exact ⟨ds,t,(he.block b h.plain.lt).trans hp⟩,h.upd.trans (nN.lq _ he)⟩
theorem jJ.put {w0 w:World} {b o:Nat} {D:List β} (h:jJ row S w0 w b o D) (hS:∀x,(row x).length = S) {i:Nat} (hi:i < D.length) (y:β):jJ row S w0 (w.setCells b (o+i * S) (row y)) b o (D.set i y):=by
 refine ⟨h.tab.put hS hi y,EK b _ _ _ h.plain,?_⟩;have e:=F8 b (row y) (o+i * S) w;exact h.upd.trans ⟨e.1,e.2.1,e.2.2,by rw [setCells_size];exact Nat.le_refl _,fun k _ hk=>vV b (by simpa using hk) _ _ _⟩
theorem jJ.swap {w0 w:World} {b o:Nat} {D:List β} (h:jJ row S w0 w b o D) (hS:∀x,(row x).length = S) {i j:Nat} (hi:i < D.length) (hj:j < D.length) :
 jJ row S w0 ((w.setCells b (o+i * S) (row D[j])).setCells b (o+j * S) (row D[i])) b o (WQ D i j):=by
 rw [asA hi hj];exact (h.put hS hi D[j]).put hS (by rw [List.length_set];exact hj) D[i]
theorem set_mid (A B:List β) (x y:β) (n:Nat) (hn:A.length = n):(A++x :: B).set n y = A++y :: B:=by
 subst hn;rw [List.set_append_right _ _ (Nat.le_refl _),Nat.sub_self,List.set_cons_zero]
theorem am1 (p u m v q:List β) (k:Nat) (hk:k < u.length) (hl:u.length = v.length) :
 WQ (p++(v.take k++(u.drop k++(m++(u.take k++(v.drop k++q)))))) (p.length+k) (p.length+u.length+m.length+k) = p++(v.take (k+1)++(u.drop (k+1)++(m++(u.take (k+1)++(v.drop (k+1)++q))))):=by
 have hkv:k < v.length:=by omega
 have e1:(v.take k).length = k:=by rw [List.length_take];omega
 have e2:(u.take k).length = k:=by rw [List.length_take];omega
 obtain ⟨a,ha⟩:∃a,u[k] = a:=⟨_,rfl⟩;obtain ⟨c,hc⟩:∃c,v[k] = c:=⟨_,rfl⟩;have du:u.drop k = a :: u.drop (k+1):=by rw [← ha];exact (List.getElem_cons_drop ..).symm
 have dv:v.drop k = c :: v.drop (k+1):=by rw [← hc];exact (List.getElem_cons_drop ..).symm
 have tu:u.take (k+1) = u.take k++[a]:=by rw [← ha];exact List.take_succ_eq_append_getElem hk
 have tv:v.take (k+1) = v.take k++[c]:=by rw [← hc];exact List.take_succ_eq_append_getElem hkv
 have lu:(u.drop (k+1)).length = u.length - (k+1):=by rw [List.length_drop]
 rw [du,dv,tu,tv];have gi:(p++(v.take k++(a :: u.drop (k+1)++(m++(u.take k++(c :: v.drop (k+1)++q))))))[p.length+k]? = some a:=by rw [List.getElem?_append_right O',List.getElem?_append_right O'];simp [e1]
 have gj:(p++(v.take k++(a :: u.drop (k+1)++(m++(u.take k++(c :: v.drop (k+1)++q))))))[p.length+u.length+m.length+k]? = some c:=by rw [List.getElem?_append_right O',List.getElem?_append_right O',List.getElem?_append_right (by simp;omega),List.getElem?_append_right (by simp;omega),List.getElem?_append_right (by simp;omega),e1,e2];simp only [List.length_cons,lu,List.cons_append];rw [show p.length+u.length+m.length+k - p.length - k - (u.length - (k+1)+1) - m.length - k = 0 by omega];rfl
 unfold WQ;rw [gi,gj];dsimp only;have s1:(p++(v.take k++(a :: u.drop (k+1)++(m++(u.take k++(c :: v.drop (k+1)++q)))))).set (p.length+k) c = p++(v.take k++(c :: u.drop (k+1)++(m++(u.take k++(c :: v.drop (k+1)++q))))):=by
  have h:=set_mid (p++v.take k) (u.drop (k+1)++(m++(u.take k++(c :: v.drop (k+1)++q)))) a c (p.length+k) (by rw [List.length_append,e1]);simpa only [List.append_assoc,List.cons_append] using h
 have s2:(p++(v.take k++(c :: u.drop (k+1)++(m++(u.take k++(c :: v.drop (k+1)++q)))))).set (p.length+u.length+m.length+k) a = p++(v.take k++(c :: u.drop (k+1)++(m++(u.take k++(a :: v.drop (k+1)++q))))):=by have h:=set_mid (p++(v.take k++(c :: u.drop (k+1)++(m++u.take k)))) (v.drop (k+1)++q) c a (p.length+u.length+m.length+k) (by simp only [List.length_append,List.length_cons,e1,e2,lu];omega);simpa only [List.append_assoc,List.cons_append] using h
 rw [s1,s2];simp only [List.append_assoc,List.cons_append,List.nil_append]
theorem am2 (p u m v q:List β) (k:Nat) (hk:k < u.length) (hl:u.length = v.length):(p++(v.take k++(u.drop k++(m++(u.take k++(v.drop k++q))))))[p.length+k]? = some u[k]:=by
 have e1:(v.take k).length = k:=by rw [List.length_take];omega
 rw [List.getElem?_append_right O',List.getElem?_append_right O',e1,show p.length+k - p.length - k = 0 by omega,List.getElem?_append_left awz,List.getElem?_drop,Nat.add_zero];exact List.getElem?_eq_getElem hk
theorem ajg (p u m v q:List β) (k:Nat) (hk:k < v.length) (hl:u.length = v.length):(p++(v.take k++(u.drop k++(m++(u.take k++(v.drop k++q))))))[p.length+u.length+m.length+k]? = some v[k]:=by
 have e1:(v.take k).length = k:=by rw [List.length_take];omega
 have e2:(u.take k).length = k:=by rw [List.length_take];omega
 have e3:(u.drop k).length = u.length - k:=List.length_drop
 rw [List.getElem?_append_right O',List.getElem?_append_right O',List.getElem?_append_right O',List.getElem?_append_right O',List.getElem?_append_right O',e1,e2,e3,
   show p.length+u.length+m.length+k - p.length - k - (u.length - k) - m.length - k = 0 by omega,List.getElem?_append_left awz,List.getElem?_drop,Nat.add_zero]
 exact List.getElem?_eq_getElem hk
theorem jJ.swap_ {w0 w:World} {b o:Nat} {D:List β} (h:jJ row S w0 w b o D) (hS:∀x,(row x).length = S) {i j:Nat} {x y:β} (hi:D[i]? = some x) (hj:D[j]? = some y) :
 jJ row S w0 ((w.setCells b (o+i * S) (row y)).setCells b (o+j * S) (row x)) b o (WQ D i j):=by
 obtain ⟨hi1,rfl⟩:=List.getElem?_eq_some_iff.1 hi;obtain ⟨hj1,rfl⟩:=List.getElem?_eq_some_iff.1 hj;exact h.swap hS hi1 hj1
end
end Go.Proofs.YtkbkikggodlbbaaGreat
namespace Go.Proofs.YtkbkikggodlbbaaGreat
set_option linter.unusedVariables false
set_option linter.unusedSimpArgs false
def kS {β:Type} (cv:β→β→Int) (x y:β):Bool:=decide (cv x y < 0)
section
variable {β:Type} {lt:β→β→Bool}
theorem Sorted.at_ {l:List β} (h:Sorted lt l) {t u:Nat} (htu:t < u) (hu:u < l.length):lt l[u] (l[t]'O') = false :=
 List.pairwise_iff_getElem.1 h t u O' hu htu
theorem ad5 {l:List β} {k:Nat} {z:β} (h:z∈l.take k):∃t,∃ht:t < l.length,t < k∧l[t] = z:=by
 obtain ⟨t,ht,e⟩:=List.mem_iff_getElem.1 h;rw [List.length_take] at ht;exact ⟨t,O',O',by rw [← e,List.getElem_take]⟩
theorem ad6 {l:List β} {k:Nat} {z:β} (h:z∈l.drop k):∃t,∃ht:t < l.length,k≤t∧l[t] = z:=by
 obtain ⟨t,ht,e⟩:=List.mem_iff_getElem.1 h;rw [List.length_drop] at ht;exact ⟨k+t,O',O',by rw [← e,List.getElem_drop]⟩
theorem acA (W:Weak lt) {r:List β} (hr:Sorted lt r) {x:β} {k:Nat} (hk:k < r.length) (h:lt r[k] x = true):∀y∈r.take (k+1),lt y x = true:=by
 intro y hy;obtain ⟨t,ht,htk,rfl⟩:=ad5 hy;rcases Nat.lt_or_ge t k with h1 | h1
 ·exact W.right (hr.at_ h1 hk) h
 ·obtain rfl:t = k:=by omega
  exact h
theorem ad7 (W:Weak lt) {r:List β} (hr:Sorted lt r) {x:β} {k:Nat} (hk:k < r.length) (h:lt r[k] x = false):∀y∈r.drop k,lt y x = false:=by
 intro y hy;obtain ⟨t,ht,htk,rfl⟩:=ad6 hy;rcases Nat.lt_or_ge k t with h1 | h1
 ·exact W.neg _ _ _ (hr.at_ h1 ht) h
 ·obtain rfl:t = k:=by omega
  exact h
theorem acB (W:Weak lt) {l:List β} (hl:Sorted lt l) {y:β} {k:Nat} (hk:k < l.length) (h:lt y l[k] = false):∀x∈l.take (k+1),lt y x = false:=by
 intro x hx;obtain ⟨t,ht,htk,rfl⟩:=ad5 hx;rcases Nat.lt_or_ge t k with h1 | h1
 ·exact W.neg _ _ _ h (hl.at_ h1 hk)
 ·obtain rfl:t = k:=by omega
  exact h
theorem Z9 (W:Weak lt) {l:List β} (hl:Sorted lt l) {y:β} {k:Nat} (hk:k < l.length) (h:lt y l[k] = true):∀x∈l.drop k,lt y x = true:=by
 intro x hx;obtain ⟨t,ht,htk,rfl⟩:=ad6 hx;rcases Nat.lt_or_ge k t with h1 | h1
 ·exact W.left h (hl.at_ h1 ht)
 ·obtain rfl:t = k:=by omega
  exact h
theorem Yw {x:β} {r:List β} {k:Nat} (h1:∀y∈r.take k,lt y x = true) (h2:∀y∈r.drop k,lt y x = false):fO lt [x] r = r.take k++x :: r.drop k:=by
 have:=aeO h1 h2;rwa [List.take_append_drop] at this
theorem WR {y:β} {l:List β} {k:Nat} (h1:∀x∈l.take k,lt y x = false) (h2:∀x∈l.drop k,lt y x = true):fO lt l [y] = l.take k++y :: l.drop k:=by
 have:=UU h1 h2;rwa [List.take_append_drop] at this
theorem ali (W:Weak lt) {l r:List β} (hl:Sorted lt l) (hr:Sorted lt r) {d s lo hi:Nat} (hlo:lo = 0∨lo+r.length = d) (hhi:hi = l.length∨hi = d) (h1:lo≤s) (h2:s≤hi) (hd:s≤d) (hsl:s≤l.length)
 (p1:s = lo∨∃x y,l[s - 1]? = some x∧r[d - s]? = some y∧lt y x = false) (p2:s = hi∨∃x y,l[s]? = some x∧r[d - 1 - s]? = some y∧lt y x = true) :
 fO lt l r = fO lt (l.take s) (r.take (d - s))++fO lt (l.drop s) (r.drop (d - s)):=by
 rw [← aql W (l1:=l.take s) (l2:=l.drop s) (r1:=r.take (d - s)) (r2:=r.drop (d - s))]
 ·rw [List.take_append_drop,List.take_append_drop]
 ·rw [List.take_append_drop];exact hl
 ·rw [List.take_append_drop];exact hr
 ·by_cases e:s = hi
  ·rcases hhi with h | h
   ·right;left;rw [List.drop_eq_nil_iff];omega
   ·left;rw [show d - s = 0 by omega];rfl
  ·obtain ⟨x,y,hx,hy,hlt⟩:=p2.resolve_left e;obtain ⟨hx1,rfl⟩:=List.getElem?_eq_some_iff.1 hx;obtain ⟨hy1,rfl⟩:=List.getElem?_eq_some_iff.1 hy;by_cases e2:s = d
   ·left;rw [show d - s = 0 by omega];rfl
   ·right;right;refine ⟨r.take (d - 1 - s),_,_,l.drop (s+1),?_,(List.getElem_cons_drop hx1).symm,hlt⟩;rw [← List.take_succ_eq_append_getElem hy1];congr 1;omega
 ·by_cases e:s = lo
  ·rcases hlo with h | h
   ·left;rw [show s = 0 by omega];rfl
   ·right;left;rw [List.drop_eq_nil_iff];omega
  ·obtain ⟨x,y,hx,hy,hlt⟩:=p1.resolve_left e;obtain ⟨hx1,rfl⟩:=List.getElem?_eq_some_iff.1 hx;obtain ⟨hy1,rfl⟩:=List.getElem?_eq_some_iff.1 hy;right;right;refine ⟨l.take (s - 1),_,_,r.drop (d - s+1),?_,(List.getElem_cons_drop hy1).symm,hlt⟩;rw [← List.take_succ_eq_append_getElem hx1];congr 1;omega
theorem am3 {s:Nat} (hs:0 < s):∀(n:Nat) (xs:List β),xs.length≤n→(runs lt s xs).length = xs.length:=by
 intro n;induction n with
 | zero =>intro xs h;have:xs = []:=List.eq_nil_of_length_eq_zero O';subst this;rw [amZ]
 | succ n ih =>
   intro xs h;rcases Nat.lt_or_ge s xs.length with h1 | h1
   ·rw [Ky hs,List.length_append,rD,ih (xs.drop s) awz,List.length_take,List.length_drop,List.length_nil];omega
   ·rw [zo h1,rD,List.length_nil];omega
theorem wY (p s r:List β) (x y:β) {n:Nat} (hn:p.length+s.length = n):(p++(s++(x :: y :: r)))[n]? = some x:=by
 subst hn;rw [List.getElem?_append_right O',List.getElem?_append_right O',show p.length+s.length - p.length - s.length = 0 by omega];rfl
theorem wZ (p s r:List β) (x y:β) {n:Nat} (hn:p.length+s.length = n):(p++(s++(x :: y :: r)))[n+1]? = some y:=by
 subst hn;rw [List.getElem?_append_right O',List.getElem?_append_right O',show p.length+s.length+1 - p.length - s.length = 1 by omega];rfl
theorem asB (p s r:List β) (x z:β) {n:Nat} (hn:p.length+s.length = n):(p++(s++(x :: r))).set n z = p++(s++(z :: r)):=by
 have:=set_mid (p++s) r x z n (by rw [List.length_append,hn]);simpa only [List.append_assoc] using this
theorem apF (p s r:List β) (x y z:β) {n:Nat} (hn:p.length+s.length = n):(p++(s++(x :: y :: r))).set (n+1) z = p++(s++(x :: z :: r)):=by
 have:=set_mid (p++(s++[x])) r y z (n+1) (by simp only [List.length_append,List.length_cons,List.length_nil];omega);simpa only [List.append_assoc,List.cons_append,List.nil_append] using this
theorem ajh (p s r:List β) (x y:β) {n:Nat} (hn:p.length+s.length = n):WQ (p++(s++(x :: y :: r))) n (n+1) = p++(s++(y :: x :: r)):=by
 unfold WQ;rw [wY p s r x y hn,wZ p s r x y hn];dsimp only;rw [asB p s _ x y hn,apF p s r y y x hn]
theorem V7 (p s r:List β) (x y:β) {n:Nat} (hn:p.length+s.length = n):WQ (p++(s++(x :: y :: r))) (n+1) n = p++(s++(y :: x :: r)):=by
 unfold WQ;rw [wY p s r x y hn,wZ p s r x y hn];dsimp only;rw [apF p s r x y x hn,asB p s _ x y hn]
end
end Go.Proofs.YtkbkikggodlbbaaGreat
namespace Go.Proofs.YtkbkikggodlbbaaGreat
open Go.ChangeShapes Go.WideShapes Go.ChangeAt Go.RowKit
set_option linter.unusedVariables false
set_option linter.unusedSimpArgs false
structure El (T:Type) where
 x:T
 cs:List Value
 F:List Nat
section
variable {T:Type}
theorem flat_to {S:Nat} : ∀(D:List (El T)),(∀e∈D,e.cs.length = S)→∀(k:Nat) (e:El T),D[k]? = some e→∀(j:Nat) (u:Value),e.cs[j]? = some u→(D.flatMap El.cs)[k * S+j]? = some u
 | [],_,_,_,h,_,_,_=>by simp at h
 | r :: rs,hl,0,e,h,j,u,hj=>by
   exact Zad8
 | r :: rs,hl,k+1,e,h,j,u,hj=>by
   rw [List.getElem?_cons_succ] at h;have hr:=hl r (List.mem_cons_self ..);have hk:(k+1) * S+j = k * S+j+S:=(by rw [Nat.succ_mul];omega);rw [List.flatMap_cons,List.getElem?_append_right O',hr,show (k+1) * S+j - S = k * S+j by omega];exact flat_to rs (fun e' he=>hl e' (List.mem_cons_of_mem _ he)) k e h j u hj
theorem flat_of {S:Nat} {w:World} {g:Nat} : ∀(D:List (El T)) (o:Nat),(∀e∈D,e.cs.length = S)→Tab El.cs S w g o D→∀(j:Nat) (u:Value),(D.flatMap El.cs)[j]? = some u→w.cell? ⟨g,o+j,none⟩ = some u
 | [],_,_,_,j,u,hj=>by simp at hj
 | r :: rs,o,hl,ht,j,u,hj=>by
   have hr:=hl r (List.mem_cons_self ..);rw [List.flatMap_cons] at hj;by_cases hlt:j < S
   ·rw [List.getElem?_append_left O'] at hj;have:=ht 0 r rfl j u hj;rwa [Nat.zero_mul,Nat.add_zero] at this
   ·rw [List.getElem?_append_right O',hr] at hj
    have:=flat_of rs (o+S) (fun e' he=>hl e' (List.mem_cons_of_mem _ he)) (fun k e he j' u' hj'=>by
     have:=ht (k+1) e (by rw [List.getElem?_cons_succ];exact he) j' u' hj'
     rwa [show o+(k+1) * S+j' = o+S+k * S+j' by rw [Nat.succ_mul];omega] at this) (j - S) u hj
    rwa [show o+S+(j - S) = o+j by omega] at this
end
section
variable {T:Type} [Dat T] {w w':World} {B g o c:Nat} {D D':List (El T)}
theorem jo.els {w:World} : ∀{xs:List T} {ds:List Value} {G:List Nat},jo w xs ds G→∃D:List (El T),D.map El.x = xs∧D.flatMap El.cs = ds∧D.flatMap El.F = G∧∀e∈D,rd w e.x e.cs e.F
 | [],_,_,⟨rfl,rfl⟩=>⟨[],rfl,rfl,rfl,fun e he=>by cases he⟩
 | x :: xs,_,_,⟨c1,c2,F1,F2,rfl,rfl,h1,h2⟩=>by
   obtain ⟨D,rfl,rfl,rfl,hD⟩:=jo.els h2;refine ⟨⟨x,c1,F1⟩ :: D,rfl,rfl,rfl,fun e he=>?_⟩;rcases List.mem_cons.1 he with rfl | he
   ·exact h1
   ·exact hD e he
theorem els_rdCells {w:World} : ∀{D:List (El T)},(∀e∈D,rd w e.x e.cs e.F)→jo w (D.map El.x) (D.flatMap El.cs) (D.flatMap El.F)
 | [],_=>⟨rfl,rfl⟩
 | e :: D,h=>⟨e.cs,_,e.F,_,rfl,rfl,h e (List.mem_cons_self ..),els_rdCells fun e' he=>h e' (List.mem_cons_of_mem _ he)⟩
structure RowE (w:World) (B g o:Nat) (D:List (El T)):Prop where
 rd:∀e∈D,rd w e.x e.cs e.F
 nodup:(g :: D.flatMap El.F).Nodup
 base:∀b∈g :: D.flatMap El.F,B≤b
 plain:∀b∈g :: D.flatMap El.F,Plain w b
 tab:Tab El.cs (Dat.size T) w g o D
theorem RowE.len (h:RowE w B g o D):∀e∈D,e.cs.length = Dat.size T:=fun e he=>Dat.len (h.rd e he)
theorem RowE.lt (h:RowE w B g o D):g < w.heap.size:=(h.plain g (List.mem_cons_self ..)).lt
theorem RowE.free (h:RowE w B g o D) {e:El T} (he:e∈D):g∉e.F:=fun hg=>(List.nodup_cons.1 h.nodup).1 (List.mem_flatMap.2 ⟨e,he,hg⟩)
theorem Own.rowE {xs:List T} {A:Option Addr} {F:List Nat} (h:Own w B xs [.slice A xs.length c] F) (hne:xs≠[]):∃g o,∃D:List (El T),A = some ⟨g,o,none⟩∧D.map El.x = xs∧F = g :: D.flatMap El.F∧RowE w B g o D:=by
 obtain ⟨⟨A',c',G,ds,e0,_,_,hc,h0⟩,hn,hb,hp⟩:=h;simp only [List.cons.injEq,Value.slice.injEq,and_true,true_and] at e0;obtain ⟨rfl,rfl⟩:=e0;rcases h0 with ⟨h1,_⟩ | ⟨b,o,rfl,rfl,hlt,hcell⟩
 ·exact absurd h1 hne
 ·obtain ⟨D,hx,rfl,rfl,hD⟩:=hc.els
  exact ⟨b,o,D,rfl,hx,rfl,hD,hn,hb,hp,fun k e he j u hj=>by
   rw [Nat.add_assoc]
   exact hcell _ u (flat_to D (fun e' he'=>Dat.len (hD e' he')) k e he j u hj)⟩
theorem RowE.own (h:RowE w B g o D) (hc:D.length≤c) (hm:c≤maxLen):Own w B (D.map El.x) [.slice (some ⟨g,o,none⟩) (D.map El.x).length c] (g :: D.flatMap El.F) :=
 ⟨⟨_,c,_,_,rfl,by rw [List.length_map];exact hc,hm,els_rdCells h.rd,.inr ⟨g,o,rfl,rfl,h.lt,flat_of D o h.len h.tab⟩⟩,h.nodup,h.base,h.plain⟩
theorem RowE.turn (h:RowE w B g o D) (hu:nN [g] w w') (hp:Plain w' g) (hs:∀e∈D',e∈D) (hn:(D'.flatMap El.F).Nodup) (ht:Tab El.cs (Dat.size T) w' g o D'):RowE w' B g o D':=by
 have hF:∀b∈D'.flatMap El.F,b∈D.flatMap El.F:=fun b hb=>by
  obtain ⟨e,he,hb⟩:=List.mem_flatMap.1 hb;exact List.mem_flatMap.2 ⟨e,hs e he,hb⟩
 have hg:=(List.nodup_cons.1 h.nodup).1;have keep:∀b∈D.flatMap El.F,w'.heap[b]? = w.heap[b]?:=fun b hb=>hu.block b (h.plain b (List.mem_cons_of_mem _ hb)).lt (fun e=>by rw [List.mem_singleton] at e;subst e;exact hg hb);refine ⟨fun e he=>Dat.frame (h.rd e (hs e he)) (fun b hb=>keep b (List.mem_flatMap.2 ⟨e,hs e he,hb⟩)) hu.size,List.nodup_cons.2 ⟨fun hb=>hg (hF g hb),hn⟩,fun b hb=>?_,fun b hb=>?_,ht⟩
 ·rcases List.mem_cons.1 hb with rfl | hb
  ·exact h.base b (List.mem_cons_self ..)
  ·exact h.base b (List.mem_cons_of_mem _ (hF b hb))
 ·rcases List.mem_cons.1 hb with rfl | hb
  ·exact hp
  ·obtain ⟨ds,t,hd⟩:=h.plain b (List.mem_cons_of_mem _ (hF b hb));exact ⟨ds,t,(keep b (hF b hb)).trans hd⟩
end
section
variable {α:Type} [Inhabited α]
theorem sortW_upd (enc:α→List Value) (k:Nat) (w:World) (g o n:Nat) (d:Array α) (os:Array Obj):nN [g] w (sortWorldK enc k w g o n d os):=by
 refine ⟨rfl,rfl,rfl,Go.Proofs.size_sortWorldK_c enc k w g o n d os,fun b hb hn=>?_⟩;have hne:b≠g:=by simpa using hn
 show ((Go.Sort.putRowK enc k (Go.Sort.ahead w n) g o d).heap++os)[b]? = _;rw [Array.getElem?_append_left (by rw [Go.Sort.size_putRowK];exact hb)];simp [Go.Sort.putRowK,Go.Sort.putRow,Go.Sort.mapBlock,Array.getElem?_modify,Ne.symm hne]
theorem sortW_plain (enc:α→List Value) (k:Nat) (w:World) (g o n:Nat) (d:Array α) (os:Array Obj) (h:Plain w g):Plain (sortWorldK enc k w g o n d os) g:=by
 have hlt:=h.lt;obtain ⟨ds,t,h⟩:=h;refine ⟨Go.Sort.putCells id o (Go.Sort.flatK enc k d) ds,t,?_⟩;show ((Go.Sort.putRowK enc k (Go.Sort.ahead w n) g o d).heap++os)[g]? = _;rw [Array.getElem?_append_left (by rw [Go.Sort.size_putRowK];exact hlt)];simp [Go.Sort.putRowK,Go.Sort.putRow,Go.Sort.mapBlock,Array.getElem?_modify,h,Go.Sort.onCells]
end
section
variable {T:Type} [Dat T]
theorem tab_holds {α:Type} [Inhabited α] (enc:α→List Value) (k:Nat) (hk:∀x,(enc x).length = k) {w:World} {g o:Nat} (d:Array α) (hp:Plain w g) (ht:Tab enc k w g o d.toList):Go.Sort.HoldsK enc k w g o d:=by
 intro j hj;rw [Go.Sort.size_flatK] at hj;have k0:0 < k:=Nat.pos_of_ne_zero fun h=>by subst h;simp at hj
 have h1:j / k < d.size:=Nat.div_lt_of_lt_mul (by rw [Nat.mul_comm];exact hj);have h2:j % k < k:=Nat.mod_lt _ k0;refine ⟨?_,hp.frozen _⟩;rw [Go.Sort.get_flatK _ _ _ _ hj];have:=ht (j / k) d[j / k] (by simp [h1]) (j % k) (enc d[j / k])[j % k]! (by rw [getElem!_pos (enc d[j / k]) (j % k) (by rw [hk];exact h2)];exact List.getElem?_eq_getElem _);rw [show o+j / k * k+j % k = o+j by have:=Nat.div_add_mod j k;rw [Nat.mul_comm] at this;omega] at this;rw [this,getElem!_pos d (j / k) h1];rfl
theorem holds_tab {α:Type} [Inhabited α] (enc:α→List Value) (k:Nat) (hk:∀x,(enc x).length = k) {w:World} {g o:Nat} (d:Array α) (h:Go.Sort.HoldsK enc k w g o d):Tab enc k w g o d.toList:=by
 intro i x hx j u hj;have hi:i < d.size:=by have:=(List.getElem?_eq_some_iff.1 hx).1;simpa using this
 have hxe:d[i] = x:=by have:=(List.getElem?_eq_some_iff.1 hx).2;simpa using this
 have hjk:j < k:=by have:=(List.getElem?_eq_some_iff.1 hj).1;rw [hk] at this;exact this
 have:=(h.cell hi hjk).1;rw [this,getElem!_pos d i hi,hxe,getElem!_pos (enc x) j (by rw [hk];exact hjk)];rw [List.getElem?_eq_getElem (by rw [hk];exact hjk)] at hj;exact hj
theorem SortFunc_own (ρ:Go.Shelf.Ren) (L:SlLaysF0.n6 Tryz.prog ρ) (aE:∀w,(isAgg (ρ.t 24)).run Tryz.prog w = .ok true w) (zE:∀w,(Go.sizeOf (ρ.t 24)).run Tryz.prog w = .ok (Dat.size T) w)
 (cf:T→T→Int) (hT:Tot fun x y:T=>decide (cf x y < 0)) (gf:Nat) (eg:∀args w,(callFunc gf args).run Tryz.prog w = .ok (.enter gf args) w)
 (ok:T→Prop) (hc:∀(x y:T) (cs ds:List Value) (F G:List Nat) (W:World),rd W x cs F→rd W y ds G→ok x→ok y→Calls Tryz.prog gf #[.agg cs.toArray,.agg ds.toArray] W fun e w'=>e = .returned (.int .i64 (cf x y))∧Gr W w')
 (xs:List T) (A:Option Addr) (c:Nat) (F:List Nat) (w:World) (B:Nat) (h:Own w B xs [.slice A xs.length c] F) (hB:B≤w.heap.size) (hl:(xs.length:Int)≤1048576) (hok:∀x∈xs,ok x) :
 Calls Tryz.prog (ρ.f 6) #[.slice A xs.length c,.func (.func gf) #[] #[]] w fun e w'=>e = .returned (.tuple #[])∧∃(ys:List T) (F':List Nat),ys.Perm xs∧ys.Pairwise (fun x y=>decide (cf y x < 0) = false)∧Own w' B ys [.slice A xs.length c] F'∧Below B w w':=by
 by_cases hne:xs = []
 ·subst hne;refine (Go.Proofs.AnyF.slices_SortFunc_none L A c _ w).mono ?_;rintro e w' ⟨rfl,rfl⟩;exact ⟨rfl,[],F,.refl _,.nil,h,.refl _ _⟩
 ·have hcap:=Sl.cap (α:=T) h.rd;obtain ⟨g,o,D,rfl,rfl,rfl,R⟩:=h.rowE hne;have hfree:∀e∈D,rd w e.x e.cs e.F∧g∉e.F∧ok e.x:=fun e he=>⟨R.rd e he,R.free he,hok e.x (List.mem_map.2 ⟨e,he,rfl⟩)⟩;let α:={e:El T // rd w e.x e.cs e.F∧g∉e.F∧ok e.x}
  have hD0:D≠[]:=fun e=>hne (by rw [e];rfl);have hinh:Nonempty α:=by
   cases D with
   | nil=>exact absurd rfl hD0
   | cons e D=>exact ⟨⟨e,hfree e (List.mem_cons_self ..)⟩⟩
  haveI:Inhabited α:=⟨Classical.choice hinh⟩
  let enc:α→List Value:=fun e=>e.1.cs
  have hk:∀x:α,(enc x).length = Dat.size T:=fun x=>Dat.len x.2.1;have h1:∀x:α,∀v∈enc x,v.oneCell' = true:=fun x=>Dat.one x.2.1;let cf':α→α→Int:=fun x y=>cf x.1.x y.1.x
  have hO:Go.Sort.SWO (Go.Proofs.ltOf cf'):=⟨fun x=>hT.swo.irrefl x.1.x,fun x y z=>hT.swo.trans x.1.x y.1.x z.1.x,fun x y z=>hT.swo.ntrans x.1.x y.1.x z.1.x⟩;obtain ⟨L0,hL0⟩:∃L0:List α,L0 = D.attachWith _ hfree:=⟨_,rfl⟩;have hv:L0.map Subtype.val = D:=by rw [hL0];exact List.attachWith_map_subtype_val ..
  have hlen:L0.length = D.length:=by rw [← hv,List.length_map]
  have hT0:Tab enc (Dat.size T) w g o L0.toArray.toList:=fun k e he j u hj=>R.tab k e.1 (by rw [← hv,List.getElem?_map];rw [show L0[k]? = some e from he];rfl) j u hj;have hH:=tab_holds enc (Dat.size T) hk L0.toArray (R.plain g (List.mem_cons_self ..)) hT0;have hcmp:Go.Proofs.CmpLays Tryz.prog gf #[] enc (Dat.size T) cf' g o L0.toArray.size w:=fun m os dk hs x y=>by
   have hu:=sortW_upd enc (Dat.size T) w g o m dk os;have fr:∀z:α,rd (sortWorldK enc (Dat.size T) w g o m dk os) z.1.x z.1.cs z.1.F:=fun z =>Dat.frame z.2.1 (fun b hb=>hu.block b (Dat.lt z.2.1 b hb) (fun e=>by rw [List.mem_singleton] at e;subst e;exact z.2.2.1 hb)) hu.size;have:=hc x.1.x y.1.x x.1.cs y.1.cs x.1.F y.1.F _ (fr x) (fr y) x.2.2.2 y.2.2.2;rw [show (#[Value.agg (enc x).toArray,Value.agg (enc y).toArray]++#[]:Array Value) = #[.agg x.1.cs.toArray,.agg y.1.cs.toArray] by simp [enc]];exact this
  have hsz:L0.toArray.size = (D.map El.x).length:=by simp [hlen]
  have:=Go.Proofs.AnyQ.slices_SortFunc L (Dat.size T) aE zE enc hk h1 cf' hO gf #[] g o c L0.toArray w eg hcmp hH R.lt (by rw [hsz];omega);rw [hsz] at this;refine this.mono ?_;rintro e w' ⟨rfl,d',n,os,hperm,hsort,rfl⟩;refine ⟨rfl,?_⟩;obtain ⟨p1,p2,p3⟩:=hperm;rw [hsz] at p1;have hp:d'.toList.Perm L0:=by have e1:(d'.extract 0 (D.map El.x).length).toList = d'.toList:=(by rw [← p1,Array.extract_size]);have e2:(L0.toArray.extract 0 (D.map El.x).length).toList = L0:=(by rw [← hsz,Array.extract_size]);rw [e1,e2] at p3;exact p3
  have hpD:(d'.toList.map Subtype.val).Perm D:=by have:=hp.map Subtype.val;rwa [hv] at this
  have hu:=sortW_upd enc (Dat.size T) w g o n d' os;have hpl:=sortW_plain enc (Dat.size T) w g o n d' os (R.plain g (List.mem_cons_self ..));have hH':=Go.Proofs.holdsK_sortWorldK_c enc (Dat.size T) w g o L0.toArray d' n os hH R.lt (by rw [p1,hsz]);have ht':=holds_tab enc (Dat.size T) hk d' hH'
  have R':RowE (sortWorldK enc (Dat.size T) w g o n d' os) B g o (d'.toList.map Subtype.val) :=
   R.turn hu hpl (fun e he=>hpD.mem_iff.1 he) ((hpD.flatMap_right El.F).nodup_iff.2 (List.nodup_cons.1 R.nodup).2) (fun k e he j u hj=>by
     rw [List.getElem?_map] at he;cases hk2:d'.toList[k]? with
     | none=>rw [hk2] at he;cases he
     | some z =>
       rw [hk2] at he;simp only [Option.map_some,Option.some.injEq] at he;subst he
       exact ht' k z hk2 j u hj)
  have hl':((d'.toList.map Subtype.val).map El.x).length = (D.map El.x).length:=by simp only [List.length_map];rw [List.length_map] at p1;simpa using p1
  refine ⟨(d'.toList.map Subtype.val).map El.x,g :: (d'.toList.map Subtype.val).flatMap El.F,hpD.map El.x,?_,?_,hu.below (fun b hb=>by rw [List.mem_singleton.1 hb];exact R.base g (List.mem_cons_self ..)) hB⟩
  ·rw [List.pairwise_map,List.pairwise_map];refine List.pairwise_iff_getElem.2 fun i j hi hj hij=>?_;have hj2:j < d'.size:=(by simpa using hj);have:=hsort i j (Nat.zero_le _) hij (by rw [← p1];exact hj2);rw [getElem!_pos d' j hj2,getElem!_pos d' i O'] at this;exact this
  ·rw [← hl'];exact R'.own (by rw [List.length_map,List.length_map] at *;rw [← p1] at hcap;simpa using hcap.1) hcap.2
end
end Go.Proofs.YtkbkikggodlbbaaGreat
