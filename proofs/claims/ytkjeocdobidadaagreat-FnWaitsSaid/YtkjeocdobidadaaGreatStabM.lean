/- A table of rows in one block: elements are swapped in place. No condition. -/
import Derived.Test.YtkjeocdobidadaaGreatStabP
import Derived.Test.YtkjeocdobidadaaGreatUsed
import Derived.Test.YtkjeocdobidadaaGreatLabelsOk
namespace Go.Proofs.YtkjeocdobidadaaGreat
open Go.ChangeShapes Go.WideShapes Go.ChangeAt Go.RowKit
set_option linter.unusedVariables false
set_option linter.unusedSimpArgs false
section
variable {β:Type} {row:β→List Value} {S:Nat}
def Tab (row:β→List Value) (S:Nat) (w:World) (b o:Nat) (D:List β):Prop:=∀k x,D[k]? = some x→∀j u,(row x)[j]? = some u→w.cell? ⟨b,o+k * S+j,none⟩ = some u
theorem Tab.put {w:World} {b o:Nat} {D:List β} (h:Tab row S w b o D) (hS:∀x,(row x).length = S) {i:Nat} (hi:i < D.length) (y:β):Tab row S (w.setCells b (o+i * S) (row y)) b o (D.set i y):=by
 intro k x hk j u hj;have hj2:j < S:=by rw [← hS x];exact (List.getElem?_eq_some_iff.1 hj).1
 have hex:∀q,q < (row y).length→(w.cell? ⟨b,o+i * S+q,none⟩).isSome = true:=fun q hq=>by
  rw [hS] at hq;have hx:=h i D[i] (List.getElem?_eq_getElem hi) q ((row D[i])[q]'(by rw [hS];exact hq)) (List.getElem?_eq_getElem _);rw [hx];rfl
 by_cases hik:i = k
 ·subst hik;rw [List.getElem?_set_self hi] at hk;obtain rfl:=Option.some.inj hk;have:=World.cell?_setCells_in b (row y) (o+i * S) w hex j (by rw [hS];exact hj2);rw [this,← hj];exact (List.getElem?_eq_getElem _).symm
 ·rw [List.getElem?_set_ne hik] at hk;rw [World.cell?_setCells_out b _ _ _ _ (fun _ _=>?_)]
  ·exact h k x hk j u hj
  ·dsimp only;rw [hS];rcases Nat.lt_or_gt_of_ne hik with h1 | h1
   ·right;have:(i+1) * S≤k * S:=Nat.mul_le_mul_right _ h1;rw [Nat.succ_mul] at this;omega
   ·left;have:(k+1) * S≤i * S:=Nat.mul_le_mul_right _ h1;rw [Nat.succ_mul] at this;omega
theorem Tab.at_ {w:World} {b o:Nat} {D:List β} (h:Tab row S w b o D) {k:Nat} (hk:k < D.length) {j:Nat} {u:Value} (hj:(row D[k])[j]? = some u):w.cell? ⟨b,o+k * S+j,none⟩ = some u:=h k D[k] (List.getElem?_eq_getElem hk) j u hj
theorem Tab.keep {w w':World} {b o:Nat} {D:List β} (h:Tab row S w b o D) (hk:w'.heap[b]? = w.heap[b]?):Tab row S w' b o D:=fun k x hx j u hj=>(World.cell?_of_block hk).trans (h k x hx j u hj)
theorem Tab.ext {w w':World} {b o:Nat} {D:List β} (h:Tab row S w b o D) (hb:b < w.heap.size) (he:Below w.heap.size w w'):Tab row S w' b o D:=h.keep (he.block b hb)
def WQ (D:List β) (i j:Nat):List β:=match D[i]?,D[j]? with | some x,some y=>(D.set i y).set j x | _,_=>D
theorem asA {D:List β} {i j:Nat} (hi:i < D.length) (hj:j < D.length):WQ D i j = (D.set i D[j]).set j D[i]:=by unfold WQ;rw [List.getElem?_eq_getElem hi,List.getElem?_eq_getElem hj]
structure jJ (row:β→List Value) (S:Nat) (w0 w:World) (b o:Nat) (D:List β):Prop where
 tab:Tab row S w b o D
 plain:Plain w b
 upd:nN [b] w0 w
theorem jJ.ext {w0 w w':World} {b o:Nat} {D:List β} (h:jJ row S w0 w b o D) (he:Below w.heap.size w w'):jJ row S w0 w' b o D :=
 ⟨h.tab.ext h.plain.lt he,by obtain ⟨ds,t,hp⟩:=h.plain;exact ⟨ds,t,(he.block b h.plain.lt).trans hp⟩,h.upd.trans (nN.lq _ he)⟩
theorem jJ.put {w0 w:World} {b o:Nat} {D:List β} (h:jJ row S w0 w b o D) (hS:∀x,(row x).length = S) {i:Nat} (hi:i < D.length) (y:β):jJ row S w0 (w.setCells b (o+i * S) (row y)) b o (D.set i y):=by
 refine ⟨h.tab.put hS hi y,EK b _ _ _ h.plain,?_⟩;have e:=F8 b (row y) (o+i * S) w;exact h.upd.trans ⟨e.1,e.2.1,e.2.2,by rw [setCells_size];exact Nat.le_refl _,fun k _ hk=>vV b (by simpa using hk) _ _ _⟩
theorem jJ.swap {w0 w:World} {b o:Nat} {D:List β} (h:jJ row S w0 w b o D) (hS:∀x,(row x).length = S) {i j:Nat} (hi:i < D.length) (hj:j < D.length) :
 jJ row S w0 ((w.setCells b (o+i * S) (row D[j])).setCells b (o+j * S) (row D[i])) b o (WQ D i j):=by
 rw [asA hi hj];exact (h.put hS hi D[j]).put hS (by rw [List.length_set];exact hj) D[i]
theorem set_mid (A B:List β) (x y:β) (n:Nat) (hn:A.length = n):(A++x :: B).set n y = A++y :: B:=by
 subst hn;rw [List.set_append_right _ _ (Nat.le_refl _),Nat.sub_self,List.set_cons_zero]
theorem am1 (p u m v q:List β) (k:Nat) (hk:k < u.length) (hl:u.length = v.length) :
 WQ (p++(v.take k++(u.drop k++(m++(u.take k++(v.drop k++q)))))) (p.length+k) (p.length+u.length+m.length+k) = p++(v.take (k+1)++(u.drop (k+1)++(m++(u.take (k+1)++(v.drop (k+1)++q))))):=by
 have hkv:k < v.length:=by omega
 have e1:(v.take k).length = k:=by rw [List.length_take];omega
 have e2:(u.take k).length = k:=by rw [List.length_take];omega
 obtain ⟨a,ha⟩:∃a,u[k] = a:=⟨_,rfl⟩;obtain ⟨c,hc⟩:∃c,v[k] = c:=⟨_,rfl⟩;have du:u.drop k = a :: u.drop (k+1):=by rw [← ha];exact (List.getElem_cons_drop ..).symm
 have dv:v.drop k = c :: v.drop (k+1):=by rw [← hc];exact (List.getElem_cons_drop ..).symm
 have tu:u.take (k+1) = u.take k++[a]:=by rw [← ha];exact List.take_succ_eq_append_getElem hk
 have tv:v.take (k+1) = v.take k++[c]:=by rw [← hc];exact List.take_succ_eq_append_getElem hkv
 have lu:(u.drop (k+1)).length = u.length - (k+1):=by rw [List.length_drop]
 rw [du,dv,tu,tv];have gi:(p++(v.take k++(a :: u.drop (k+1)++(m++(u.take k++(c :: v.drop (k+1)++q))))))[p.length+k]? = some a:=by rw [List.getElem?_append_right O',List.getElem?_append_right O'];simp [e1]
 have gj:(p++(v.take k++(a :: u.drop (k+1)++(m++(u.take k++(c :: v.drop (k+1)++q))))))[p.length+u.length+m.length+k]? = some c:=by rw [List.getElem?_append_right O',List.getElem?_append_right O',List.getElem?_append_right (by simp;omega),List.getElem?_append_right (by simp;omega),List.getElem?_append_right (by simp;omega),e1,e2];simp only [List.length_cons,lu,List.cons_append];rw [show p.length+u.length+m.length+k - p.length - k - (u.length - (k+1)+1) - m.length - k = 0 by omega];rfl
 unfold WQ;rw [gi,gj];dsimp only;have s1:(p++(v.take k++(a :: u.drop (k+1)++(m++(u.take k++(c :: v.drop (k+1)++q)))))).set (p.length+k) c = p++(v.take k++(c :: u.drop (k+1)++(m++(u.take k++(c :: v.drop (k+1)++q))))):=by
  have h:=set_mid (p++v.take k) (u.drop (k+1)++(m++(u.take k++(c :: v.drop (k+1)++q)))) a c (p.length+k) (by rw [List.length_append,e1]);simpa only [List.append_assoc,List.cons_append] using h
 have s2:(p++(v.take k++(c :: u.drop (k+1)++(m++(u.take k++(c :: v.drop (k+1)++q)))))).set (p.length+u.length+m.length+k) a = p++(v.take k++(c :: u.drop (k+1)++(m++(u.take k++(a :: v.drop (k+1)++q))))):=by have h:=set_mid (p++(v.take k++(c :: u.drop (k+1)++(m++u.take k)))) (v.drop (k+1)++q) c a (p.length+u.length+m.length+k) (by simp only [List.length_append,List.length_cons,e1,e2,lu];omega);simpa only [List.append_assoc,List.cons_append] using h
 rw [s1,s2];simp only [List.append_assoc,List.cons_append,List.nil_append]
theorem am2 (p u m v q:List β) (k:Nat) (hk:k < u.length) (hl:u.length = v.length):(p++(v.take k++(u.drop k++(m++(u.take k++(v.drop k++q))))))[p.length+k]? = some u[k]:=by
 have e1:(v.take k).length = k:=by rw [List.length_take];omega
 rw [List.getElem?_append_right O',List.getElem?_append_right O',e1,show p.length+k - p.length - k = 0 by omega,List.getElem?_append_left awz,List.getElem?_drop,Nat.add_zero];exact List.getElem?_eq_getElem hk
theorem ajg (p u m v q:List β) (k:Nat) (hk:k < v.length) (hl:u.length = v.length):(p++(v.take k++(u.drop k++(m++(u.take k++(v.drop k++q))))))[p.length+u.length+m.length+k]? = some v[k]:=by
 have e1:(v.take k).length = k:=by rw [List.length_take];omega
 have e2:(u.take k).length = k:=by rw [List.length_take];omega
 have e3:(u.drop k).length = u.length - k:=List.length_drop
 rw [List.getElem?_append_right O',List.getElem?_append_right O',List.getElem?_append_right O',List.getElem?_append_right O',List.getElem?_append_right O',e1,e2,e3,
   show p.length+u.length+m.length+k - p.length - k - (u.length - k) - m.length - k = 0 by omega,List.getElem?_append_left awz,List.getElem?_drop,Nat.add_zero]
 exact List.getElem?_eq_getElem hk
theorem jJ.swap_ {w0 w:World} {b o:Nat} {D:List β} (h:jJ row S w0 w b o D) (hS:∀x,(row x).length = S) {i j:Nat} {x y:β} (hi:D[i]? = some x) (hj:D[j]? = some y) :
 jJ row S w0 ((w.setCells b (o+i * S) (row y)).setCells b (o+j * S) (row x)) b o (WQ D i j):=by
 obtain ⟨hi1,rfl⟩:=List.getElem?_eq_some_iff.1 hi;obtain ⟨hj1,rfl⟩:=List.getElem?_eq_some_iff.1 hj;exact h.swap hS hi1 hj1
end
end Go.Proofs.YtkjeocdobidadaaGreat
namespace Go.Proofs.YtkjeocdobidadaaGreat
set_option linter.unusedVariables false
set_option linter.unusedSimpArgs false
def kS {β:Type} (cv:β→β→Int) (x y:β):Bool:=decide (cv x y < 0)
section
variable {β:Type} {lt:β→β→Bool}
theorem Sorted.at_ {l:List β} (h:Sorted lt l) {t u:Nat} (htu:t < u) (hu:u < l.length):lt l[u] (l[t]'O') = false :=
 List.pairwise_iff_getElem.1 h t u O' hu htu
theorem ad5 {l:List β} {k:Nat} {z:β} (h:z∈l.take k):∃t,∃ht:t < l.length,t < k∧l[t] = z:=by
 obtain ⟨t,ht,e⟩:=List.mem_iff_getElem.1 h;rw [List.length_take] at ht;exact ⟨t,O',O',by rw [← e,List.getElem_take]⟩
theorem ad6 {l:List β} {k:Nat} {z:β} (h:z∈l.drop k):∃t,∃ht:t < l.length,k≤t∧l[t] = z:=by
 obtain ⟨t,ht,e⟩:=List.mem_iff_getElem.1 h;rw [List.length_drop] at ht;exact ⟨k+t,O',O',by rw [← e,List.getElem_drop]⟩
theorem acA (W:Weak lt) {r:List β} (hr:Sorted lt r) {x:β} {k:Nat} (hk:k < r.length) (h:lt r[k] x = true):∀y∈r.take (k+1),lt y x = true:=by
 intro y hy;obtain ⟨t,ht,htk,rfl⟩:=ad5 hy;rcases Nat.lt_or_ge t k with h1 | h1
 ·exact W.right (hr.at_ h1 hk) h
 ·obtain rfl:t = k:=by omega
  exact h
theorem ad7 (W:Weak lt) {r:List β} (hr:Sorted lt r) {x:β} {k:Nat} (hk:k < r.length) (h:lt r[k] x = false):∀y∈r.drop k,lt y x = false:=by
 intro y hy;obtain ⟨t,ht,htk,rfl⟩:=ad6 hy;rcases Nat.lt_or_ge k t with h1 | h1
 ·exact W.neg _ _ _ (hr.at_ h1 ht) h
 ·obtain rfl:t = k:=by omega
  exact h
theorem acB (W:Weak lt) {l:List β} (hl:Sorted lt l) {y:β} {k:Nat} (hk:k < l.length) (h:lt y l[k] = false):∀x∈l.take (k+1),lt y x = false:=by
 intro x hx;obtain ⟨t,ht,htk,rfl⟩:=ad5 hx;rcases Nat.lt_or_ge t k with h1 | h1
 ·exact W.neg _ _ _ h (hl.at_ h1 hk)
 ·obtain rfl:t = k:=by omega
  exact h
theorem Z9 (W:Weak lt) {l:List β} (hl:Sorted lt l) {y:β} {k:Nat} (hk:k < l.length) (h:lt y l[k] = true):∀x∈l.drop k,lt y x = true:=by
 intro x hx;obtain ⟨t,ht,htk,rfl⟩:=ad6 hx;rcases Nat.lt_or_ge k t with h1 | h1
 ·exact W.left h (hl.at_ h1 ht)
 ·obtain rfl:t = k:=by omega
  exact h
theorem Yw {x:β} {r:List β} {k:Nat} (h1:∀y∈r.take k,lt y x = true) (h2:∀y∈r.drop k,lt y x = false):fO lt [x] r = r.take k++x :: r.drop k:=by
 have:=aeO h1 h2;rwa [List.take_append_drop] at this
theorem WR {y:β} {l:List β} {k:Nat} (h1:∀x∈l.take k,lt y x = false) (h2:∀x∈l.drop k,lt y x = true):fO lt l [y] = l.take k++y :: l.drop k:=by
 have:=UU h1 h2;rwa [List.take_append_drop] at this
theorem ali (W:Weak lt) {l r:List β} (hl:Sorted lt l) (hr:Sorted lt r) {d s lo hi:Nat} (hlo:lo = 0∨lo+r.length = d) (hhi:hi = l.length∨hi = d) (h1:lo≤s) (h2:s≤hi) (hd:s≤d) (hsl:s≤l.length)
 (p1:s = lo∨∃x y,l[s - 1]? = some x∧r[d - s]? = some y∧lt y x = false) (p2:s = hi∨∃x y,l[s]? = some x∧r[d - 1 - s]? = some y∧lt y x = true) :
 fO lt l r = fO lt (l.take s) (r.take (d - s))++fO lt (l.drop s) (r.drop (d - s)):=by
 rw [← aql W (l1:=l.take s) (l2:=l.drop s) (r1:=r.take (d - s)) (r2:=r.drop (d - s))]
 ·rw [List.take_append_drop,List.take_append_drop]
 ·rw [List.take_append_drop];exact hl
 ·rw [List.take_append_drop];exact hr
 ·by_cases e:s = hi
  ·rcases hhi with h | h
   ·right;left;rw [List.drop_eq_nil_iff];omega
   ·left;rw [show d - s = 0 by omega];rfl
  ·obtain ⟨x,y,hx,hy,hlt⟩:=p2.resolve_left e;obtain ⟨hx1,rfl⟩:=List.getElem?_eq_some_iff.1 hx;obtain ⟨hy1,rfl⟩:=List.getElem?_eq_some_iff.1 hy;by_cases e2:s = d
   ·left;rw [show d - s = 0 by omega];rfl
   ·right;right;refine ⟨r.take (d - 1 - s),_,_,l.drop (s+1),?_,(List.getElem_cons_drop hx1).symm,hlt⟩;rw [← List.take_succ_eq_append_getElem hy1];congr 1;omega
 ·by_cases e:s = lo
  ·rcases hlo with h | h
   ·left;rw [show s = 0 by omega];rfl
   ·right;left;rw [List.drop_eq_nil_iff];omega
  ·obtain ⟨x,y,hx,hy,hlt⟩:=p1.resolve_left e;obtain ⟨hx1,rfl⟩:=List.getElem?_eq_some_iff.1 hx;obtain ⟨hy1,rfl⟩:=List.getElem?_eq_some_iff.1 hy;right;right;refine ⟨l.take (s - 1),_,_,r.drop (d - s+1),?_,(List.getElem_cons_drop hy1).symm,hlt⟩;rw [← List.take_succ_eq_append_getElem hx1];congr 1;omega
theorem am3 {s:Nat} (hs:0 < s):∀(n:Nat) (xs:List β),xs.length≤n→(runs lt s xs).length = xs.length:=by
 intro n;induction n with
 | zero =>intro xs h;have:xs = []:=List.eq_nil_of_length_eq_zero O';subst this;rw [amZ]
 | succ n ih =>
   intro xs h;rcases Nat.lt_or_ge s xs.length with h1 | h1
   ·rw [Ky hs,List.length_append,rD,ih (xs.drop s) awz,List.length_take,List.length_drop,List.length_nil];omega
   ·rw [zo h1,rD,List.length_nil];omega
theorem wY (p s r:List β) (x y:β) {n:Nat} (hn:p.length+s.length = n):(p++(s++(x :: y :: r)))[n]? = some x:=by
 subst hn;rw [List.getElem?_append_right O',List.getElem?_append_right O',show p.length+s.length - p.length - s.length = 0 by omega];rfl
theorem wZ (p s r:List β) (x y:β) {n:Nat} (hn:p.length+s.length = n):(p++(s++(x :: y :: r)))[n+1]? = some y:=by
 subst hn;rw [List.getElem?_append_right O',List.getElem?_append_right O',show p.length+s.length+1 - p.length - s.length = 1 by omega];rfl
theorem asB (p s r:List β) (x z:β) {n:Nat} (hn:p.length+s.length = n):(p++(s++(x :: r))).set n z = p++(s++(z :: r)):=by
 have:=set_mid (p++s) r x z n (by rw [List.length_append,hn]);simpa only [List.append_assoc] using this
theorem apF (p s r:List β) (x y z:β) {n:Nat} (hn:p.length+s.length = n):(p++(s++(x :: y :: r))).set (n+1) z = p++(s++(x :: z :: r)):=by
 have:=set_mid (p++(s++[x])) r y z (n+1) (by simp only [List.length_append,List.length_cons,List.length_nil];omega);simpa only [List.append_assoc,List.cons_append,List.nil_append] using this
theorem ajh (p s r:List β) (x y:β) {n:Nat} (hn:p.length+s.length = n):WQ (p++(s++(x :: y :: r))) n (n+1) = p++(s++(y :: x :: r)):=by
 unfold WQ;rw [wY p s r x y hn,wZ p s r x y hn];dsimp only;rw [asB p s _ x y hn,apF p s r y y x hn]
theorem V7 (p s r:List β) (x y:β) {n:Nat} (hn:p.length+s.length = n):WQ (p++(s++(x :: y :: r))) (n+1) n = p++(s++(y :: x :: r)):=by
 unfold WQ;rw [wY p s r x y hn,wZ p s r x y hn];dsimp only;rw [apF p s r x y x hn,asB p s _ x y hn]
end
end Go.Proofs.YtkjeocdobidadaaGreat
namespace Go.Proofs.YtkjeocdobidadaaGreat
open Go.ChangeShapes Go.WideShapes Go.ChangeAt Go.RowKit
set_option linter.unusedVariables false
set_option linter.unusedSimpArgs false
abbrev ao9:=ByteArray × Int × Int
def wkI (a b:ao9):List Int:=[Lib.compareInt b.2.1 a.2.1,Lib.compareInt a.2.2 b.2.2]
def wkV (a b:ao9):Int:=Qa (wkI a b)
def wKeyOf (p:Placed):ao9:=(p.aS.name,p.aS.rank,p.seq)
def pend (ps:List Placed):List ao9:=(ps.filter fun p=>p.on.toList == []).map wKeyOf
def GI (ps:List Placed):List ByteArray:=(sortB (kS wkV) [] (pend ps)).map fun k=>k.1
theorem alD (a b:ao9):kS wkV a b = true↔b.2.1 < a.2.1∨(a.2.1 = b.2.1∧a.2.2 < b.2.2):=by
 unfold kS wkV wkI Qa Qa;rw [decide_eq_true_eq];unfold Lib.compareInt;by_cases h1:b.2.1 < a.2.1
 ·simp [h1]
 ·by_cases h2:a.2.1 < b.2.1
  ·simp [h1,h2];omega
  ·have h3:a.2.1 = b.2.1:=O';simp [h3,Qa];by_cases h4:a.2.2 < b.2.2
   ·simp [h4]
   ·by_cases h5:b.2.2 < a.2.2
    ·simp [h4,h5]
    ·simp [h4,h5]
theorem aqu:Weak (kS wkV):=by
 have no:∀a b,kS wkV a b = false↔¬(b.2.1 < a.2.1∨(a.2.1 = b.2.1∧a.2.2 < b.2.2)):=fun a b=>by
  rw [← alD];simp
 refine ⟨fun a=>?_,fun a b c h1 h2=>?_,fun a b c h1 h2=>?_⟩
 ·rw [no];omega
 ·rw [alD] at h1 h2 ⊢;omega
 ·rw [no] at h1 h2 ⊢;omega
theorem anE {α β:Type} (f:α→β) {lt:β→β→Bool} (y:α):∀xs:List α,(OM (fun a b=>lt (f a) (f b)) y xs).map f = OM lt (f y) (xs.map f)
 | []=>rfl
 | x :: xs=>by
   simp only [OM,List.map_cons];split
   ·rfl
   ·rw [List.map_cons,anE f y xs]
theorem ajm {α β:Type} (f:α→β) {lt:β→β→Bool} : ∀(ys acc:List α),(sortB (fun a b=>lt (f a) (f b)) acc ys).map f = sortB lt (acc.map f) (ys.map f)
 | [],_=>rfl
 | y :: ys,acc=>by
   simp only [sortB,List.map_cons];rw [ajm f ys,anE]
theorem anD {ps:List Placed} {k:Nat} (h:k < ps.length) (hp:(ps[k].on.toList == []) = true):pend (ps.take (k+1)) = pend (ps.take k)++[wKeyOf ps[k]]:=by
 have e:List.filter (fun p:Placed=>p.on.toList == []) [ps[k]] = [ps[k]]:=List.filter_eq_self.2 fun a ha=>by rw [List.mem_singleton.1 ha];exact hp
 unfold pend;rw [List.take_succ_eq_append_getElem h,List.filter_append,List.map_append,e];rfl
theorem apO {ps:List Placed} {k:Nat} (h:k < ps.length) (hp:(ps[k].on.toList == []) = false):pend (ps.take (k+1)) = pend (ps.take k):=by
 have e:List.filter (fun p:Placed=>p.on.toList == []) [ps[k]] = []:=List.filter_eq_nil_iff.2 fun a ha=>by rw [List.mem_singleton.1 ha,hp];simp
 unfold pend;rw [List.take_succ_eq_append_getElem h,List.filter_append,List.map_append,e];simp
theorem anF (ps:List Placed):(pend ps).length≤ps.length:=by unfold pend;rw [List.length_map];exact List.length_filter_le _ _
theorem ap3 (ps:List Placed):(GI ps).length≤ps.length:=by unfold GI;rw [List.length_map,rD];have:=anF ps;simp;omega
end Go.Proofs.YtkjeocdobidadaaGreat
