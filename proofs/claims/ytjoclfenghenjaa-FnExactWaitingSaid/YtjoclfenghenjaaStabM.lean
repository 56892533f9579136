/- A table of rows in one block: elements are swapped in place. No condition. -/
import Derived.Test.YtjoclfenghenjaaStabP
import Derived.Test.YtjoclfenghenjaaDelP
namespace Go.Proofs.Ytjoclfenghenjaa
open Go.ChangeShapes Go.WideShapes Go.ChangeAt Go.RowKit
set_option linter.unusedVariables false
set_option linter.unusedSimpArgs false
section
variable {β : Type} {row : β → List Value} {S : Nat}
/-- block b holds, from o on, the rows of D, each of S cells -/
def Tab (row : β → List Value) (S : Nat) (w : World) (b o : Nat) (D : List β) : Prop := ∀ k x, D[k]? = some x → ∀ j u, (row x)[j]? = some u → w.cell? ⟨b, o + k * S + j, none⟩ = some u
theorem Tab.put {w : World} {b o : Nat} {D : List β} (h : Tab row S w b o D) (hS : ∀ x, (row x).length = S) {i : Nat} (hi : i < D.length) (y : β) : Tab row S (w.setCells b (o + i * S) (row y)) b o (D.set i y) := by
  intro k x hk j u hj
  have hj2 : j < S := by rw [← hS x]; exact (List.getElem?_eq_some_iff.1 hj).1
  have hex : ∀ q, q < (row y).length → (w.cell? ⟨b, o + i * S + q, none⟩).isSome = true := fun q hq => by
    rw [hS] at hq
    have hx := h i D[i] (List.getElem?_eq_getElem hi) q ((row D[i])[q]'(by rw [hS]; exact hq)) (List.getElem?_eq_getElem _)
    rw [hx]; rfl
  by_cases hik : i = k
  · subst hik
    rw [List.getElem?_set_self hi] at hk
    obtain rfl := Option.some.inj hk
    have := World.cell?_setCells_in b (row y) (o + i * S) w hex j (by rw [hS]; exact hj2)
    rw [this, ← hj]
    exact (List.getElem?_eq_getElem _).symm
  · rw [List.getElem?_set_ne hik] at hk
    rw [World.cell?_setCells_out b _ _ _ _ (fun _ _ => ?_)]
    · exact h k x hk j u hj
    · dsimp only
      rw [hS]
      rcases Nat.lt_or_gt_of_ne hik with h1 | h1
      · right
        have : (i + 1) * S ≤ k * S := Nat.mul_le_mul_right _ h1
        rw [Nat.succ_mul] at this
        omega
      · left
        have : (k + 1) * S ≤ i * S := Nat.mul_le_mul_right _ h1
        rw [Nat.succ_mul] at this
        omega
theorem Tab.at_ {w : World} {b o : Nat} {D : List β} (h : Tab row S w b o D) {k : Nat} (hk : k < D.length) {j : Nat} {u : Value} (hj : (row D[k])[j]? = some u) : w.cell? ⟨b, o + k * S + j, none⟩ = some u := h k D[k] (List.getElem?_eq_getElem hk) j u hj
theorem Tab.keep {w w' : World} {b o : Nat} {D : List β} (h : Tab row S w b o D) (hk : w'.heap[b]? = w.heap[b]?) : Tab row S w' b o D := fun k x hx j u hj => (World.cell?_of_block hk).trans (h k x hx j u hj)
theorem Tab.ext {w w' : World} {b o : Nat} {D : List β} (h : Tab row S w b o D) (hb : b < w.heap.size) (he : Below w.heap.size w w') : Tab row S w' b o D := h.keep (he.block b hb)
/-- two elements change places -/
def swapL (D : List β) (i j : Nat) : List β := match D[i]?, D[j]? with | some x, some y => (D.set i y).set j x | _, _ => D
theorem swapL_at {D : List β} {i j : Nat} (hi : i < D.length) (hj : j < D.length) : swapL D i j = (D.set i D[j]).set j D[i] := by unfold swapL; rw [List.getElem?_eq_getElem hi, List.getElem?_eq_getElem hj]
theorem swapL_len (D : List β) (i j : Nat) : (swapL D i j).length = D.length := by unfold swapL; split <;> simp
/-- the state of a sort: the table, its block plain; all else as in w0, but for what is new -/
structure Stab (row : β → List Value) (S : Nat) (w0 w : World) (b o : Nat) (D : List β) : Prop where
  tab : Tab row S w b o D
  plain : Plain w b
  upd : Upd [b] w0 w
theorem Stab.ext {w0 w w' : World} {b o : Nat} {D : List β} (h : Stab row S w0 w b o D) (he : Below w.heap.size w w') : Stab row S w0 w' b o D :=
  ⟨h.tab.ext h.plain.lt he, by obtain ⟨ds, t, hp⟩ := h.plain; exact ⟨ds, t, (he.block b h.plain.lt).trans hp⟩, h.upd.trans (Upd.of_ext _ he)⟩
theorem Stab.put {w0 w : World} {b o : Nat} {D : List β} (h : Stab row S w0 w b o D) (hS : ∀ x, (row x).length = S) {i : Nat} (hi : i < D.length) (y : β) : Stab row S w0 (w.setCells b (o + i * S) (row y)) b o (D.set i y) := by
  refine ⟨h.tab.put hS hi y, setCells_plain b _ _ _ h.plain, ?_⟩
  have e := setCells_rest b (row y) (o + i * S) w
  exact h.upd.trans ⟨e.1, e.2.1, e.2.2, by rw [setCells_size]; exact Nat.le_refl _, fun k _ hk => setCells_block b (by simpa using hk) _ _ _⟩
theorem Stab.swap {w0 w : World} {b o : Nat} {D : List β} (h : Stab row S w0 w b o D) (hS : ∀ x, (row x).length = S) {i j : Nat} (hi : i < D.length) (hj : j < D.length) :
    Stab row S w0 ((w.setCells b (o + i * S) (row D[j])).setCells b (o + j * S) (row D[i])) b o (swapL D i j) := by
  rw [swapL_at hi hj]
  exact (h.put hS hi D[j]).put hS (by rw [List.length_set]; exact hj) D[i]
theorem set_mid (A B : List β) (x y : β) (n : Nat) (hn : A.length = n) : (A ++ x :: B).set n y = A ++ y :: B := by
  subst hn
  rw [List.set_append_right _ _ (Nat.le_refl _), Nat.sub_self, List.set_cons_zero]
/-- the segments u and v of one length, w between them: they change places, one element after the other -/
theorem swap_seg (p u m v q : List β) (k : Nat) (hk : k < u.length) (hl : u.length = v.length) :
    swapL (p ++ (v.take k ++ (u.drop k ++ (m ++ (u.take k ++ (v.drop k ++ q)))))) (p.length + k) (p.length + u.length + m.length + k) = p ++ (v.take (k + 1) ++ (u.drop (k + 1) ++ (m ++ (u.take (k + 1) ++ (v.drop (k + 1) ++ q))))) := by
  have hkv : k < v.length := by omega
  have e1 : (v.take k).length = k := by rw [List.length_take]; omega
  have e2 : (u.take k).length = k := by rw [List.length_take]; omega
  obtain ⟨a, ha⟩ : ∃ a, u[k] = a := ⟨_, rfl⟩
  obtain ⟨c, hc⟩ : ∃ c, v[k] = c := ⟨_, rfl⟩
  have du : u.drop k = a :: u.drop (k + 1) := by rw [← ha]; exact (List.getElem_cons_drop ..).symm
  have dv : v.drop k = c :: v.drop (k + 1) := by rw [← hc]; exact (List.getElem_cons_drop ..).symm
  have tu : u.take (k + 1) = u.take k ++ [a] := by rw [← ha]; exact List.take_succ_eq_append_getElem hk
  have tv : v.take (k + 1) = v.take k ++ [c] := by rw [← hc]; exact List.take_succ_eq_append_getElem hkv
  have lu : (u.drop (k + 1)).length = u.length - (k + 1) := by rw [List.length_drop]
  rw [du, dv, tu, tv]
  have gi : (p ++ (v.take k ++ (a :: u.drop (k + 1) ++ (m ++ (u.take k ++ (c :: v.drop (k + 1) ++ q))))))[p.length + k]? = some a := by
    rw [List.getElem?_append_right (by omega), List.getElem?_append_right (by omega)]
    simp [e1]
  have gj : (p ++ (v.take k ++ (a :: u.drop (k + 1) ++ (m ++ (u.take k ++ (c :: v.drop (k + 1) ++ q))))))[p.length + u.length + m.length + k]? = some c := by
    rw [List.getElem?_append_right (by omega), List.getElem?_append_right (by omega), List.getElem?_append_right (by simp; omega), List.getElem?_append_right (by simp; omega), List.getElem?_append_right (by simp; omega), e1, e2]
    simp only [List.length_cons, lu, List.cons_append]
    rw [show p.length + u.length + m.length + k - p.length - k - (u.length - (k + 1) + 1) - m.length - k = 0 by omega]
    rfl
  unfold swapL
  rw [gi, gj]
  dsimp only
  have s1 : (p ++ (v.take k ++ (a :: u.drop (k + 1) ++ (m ++ (u.take k ++ (c :: v.drop (k + 1) ++ q)))))).set (p.length + k) c = p ++ (v.take k ++ (c :: u.drop (k + 1) ++ (m ++ (u.take k ++ (c :: v.drop (k + 1) ++ q))))) := by
    have h := set_mid (p ++ v.take k) (u.drop (k + 1) ++ (m ++ (u.take k ++ (c :: v.drop (k + 1) ++ q)))) a c (p.length + k) (by rw [List.length_append, e1])
    simpa only [List.append_assoc, List.cons_append] using h
  have s2 : (p ++ (v.take k ++ (c :: u.drop (k + 1) ++ (m ++ (u.take k ++ (c :: v.drop (k + 1) ++ q)))))).set (p.length + u.length + m.length + k) a = p ++ (v.take k ++ (c :: u.drop (k + 1) ++ (m ++ (u.take k ++ (a :: v.drop (k + 1) ++ q))))) := by
    have h := set_mid (p ++ (v.take k ++ (c :: u.drop (k + 1) ++ (m ++ u.take k)))) (v.drop (k + 1) ++ q) c a (p.length + u.length + m.length + k) (by simp only [List.length_append, List.length_cons, e1, e2, lu]; omega)
    simpa only [List.append_assoc, List.cons_append] using h
  rw [s1, s2]
  simp only [List.append_assoc, List.cons_append, List.nil_append]
theorem seg_left (p u m v q : List β) (k : Nat) (hk : k < u.length) (hl : u.length = v.length) : (p ++ (v.take k ++ (u.drop k ++ (m ++ (u.take k ++ (v.drop k ++ q))))))[p.length + k]? = some u[k] := by
  have e1 : (v.take k).length = k := by rw [List.length_take]; omega
  rw [List.getElem?_append_right (by omega), List.getElem?_append_right (by omega), e1, show p.length + k - p.length - k = 0 by omega, List.getElem?_append_left (by rw [List.length_drop]; omega), List.getElem?_drop, Nat.add_zero]
  exact List.getElem?_eq_getElem hk
theorem seg_right (p u m v q : List β) (k : Nat) (hk : k < v.length) (hl : u.length = v.length) : (p ++ (v.take k ++ (u.drop k ++ (m ++ (u.take k ++ (v.drop k ++ q))))))[p.length + u.length + m.length + k]? = some v[k] := by
  have e1 : (v.take k).length = k := by rw [List.length_take]; omega
  have e2 : (u.take k).length = k := by rw [List.length_take]; omega
  have e3 : (u.drop k).length = u.length - k := List.length_drop
  rw [List.getElem?_append_right (by omega), List.getElem?_append_right (by omega), List.getElem?_append_right (by omega), List.getElem?_append_right (by omega), List.getElem?_append_right (by omega), e1, e2, e3,
    show p.length + u.length + m.length + k - p.length - k - (u.length - k) - m.length - k = 0 by omega, List.getElem?_append_left (by rw [List.length_drop]; omega), List.getElem?_drop, Nat.add_zero]
  exact List.getElem?_eq_getElem hk
theorem Stab.swap_ {w0 w : World} {b o : Nat} {D : List β} (h : Stab row S w0 w b o D) (hS : ∀ x, (row x).length = S) {i j : Nat} {x y : β} (hi : D[i]? = some x) (hj : D[j]? = some y) :
    Stab row S w0 ((w.setCells b (o + i * S) (row y)).setCells b (o + j * S) (row x)) b o (swapL D i j) := by
  obtain ⟨hi1, rfl⟩ := List.getElem?_eq_some_iff.1 hi
  obtain ⟨hj1, rfl⟩ := List.getElem?_eq_some_iff.1 hj
  exact h.swap hS hi1 hj1
end
end Go.Proofs.Ytjoclfenghenjaa
