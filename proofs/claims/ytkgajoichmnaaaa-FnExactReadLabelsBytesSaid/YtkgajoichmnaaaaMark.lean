/- Marking a value that is the call's own: what changes, what stays. No condition. -/
import Derived.Test.YtkgajoichmnaaaaMarkText
import Derived.Test.YtkgajoichmnaaaaRegion
import Derived.Test.YtkgajoichmnaaaaToBase
namespace Go.Proofs.Ytkgajoichmnaaaa
open Dat (rd)
open Go.ChangeShapes Go.WideShapes Go.ChangeAt Go.RowKit
set_option linter.unusedVariables false
set_option linter.unusedSimpArgs false
/-- w' is w but for the blocks F, and grown -/
structure Upd (F : List Nat) (w w' : World) : Prop where
  os : w'.os = w.os
  tape : w'.tape = w.tape
  output : w'.output = w.output
  size : w.heap.size ≤ w'.heap.size
  block : ∀ k, k < w.heap.size → k ∉ F → w'.heap[k]? = w.heap[k]?
section
variable {F G : List Nat} {w w1 w2 : World}
theorem Upd.refl (F : List Nat) (w : World) : Upd F w w := ⟨rfl, rfl, rfl, Nat.le_refl _, fun _ _ _ => rfl⟩
theorem Upd.trans (h : Upd F w w1) (k : Upd F w1 w2) : Upd F w w2 :=
  ⟨k.os.trans h.os, k.tape.trans h.tape, k.output.trans h.output, Nat.le_trans h.size k.size, fun i hi hn => (k.block i (Nat.lt_of_lt_of_le hi h.size) hn).trans (h.block i hi hn)⟩
theorem Upd.mono (h : Upd F w w1) (hs : ∀ b ∈ F, b ∈ G) : Upd G w w1 := ⟨h.os, h.tape, h.output, h.size, fun i hi hn => h.block i hi fun hb => hn (hs i hb)⟩
theorem Upd.of_ext (F : List Nat) (h : Below w.heap.size w w1) : Upd F w w1 := ⟨h.os, h.tape, h.output, h.size, fun i hi _ => h.block i hi⟩
theorem Upd.drew (h : Upd F w w1) : Upd F w w1.drew := ⟨h.os, h.tape, h.output, h.size, h.block⟩
theorem Upd.setCell (h : Upd F w w1) {p : Addr} (hp : p.block ∈ F) (u : Value) : Upd F w (w1.setCell p u) :=
  ⟨h.os, h.tape, h.output, by simpa [World.setCell] using h.size, fun i hi hn => (Below.heap_setCell _ _ _ _ (by rintro rfl; exact hn hp)).trans (h.block i hi hn)⟩
/-- blocks that are all made later: nothing below changes -/
theorem Upd.below {B : Nat} (h : Upd F w w1) (hF : ∀ b ∈ F, B ≤ b) (hB : B ≤ w.heap.size) : Below B w w1 :=
  ⟨h.os, h.tape, h.output, h.size, fun i hi => h.block i (by omega) fun hb => by have := hF i hb; omega⟩
theorem Upd.rd {α : Type} [Dat α] (h : Upd F w w1) {x : α} {cs : List Value} (hr : rd w x cs G) (hd : ∀ b ∈ G, b ∉ F) : rd w1 x cs G :=
  Dat.frame hr (fun b hb => h.block b (Dat.lt hr b hb) (hd b hb)) h.size
theorem Upd.own {α : Type} [Dat α] (h : Upd F w w1) {x : α} {cs : List Value} {B : Nat} (hr : Own w B x cs G) (hd : ∀ b ∈ G, b ∉ F) : Own w1 B x cs G :=
  hr.keep (fun b hb => h.block b (hr.lt b hb) (hd b hb)) h.size
end

/-- the cells ds stand in block b from o on -/
def Cells (w : World) (b o : Nat) (ds : List Value) : Prop := ∀ j u, ds[j]? = some u → w.cell? ⟨b, o + j, none⟩ = some u
def Plain (w : World) (b : Nat) : Prop := ∃ ds t, w.heap[b]? = some (.cells ds t (0, 0))
theorem Plain.lt {w : World} {b : Nat} (h : Plain w b) : b < w.heap.size := by
  obtain ⟨ds, t, h⟩ := h
  rcases Nat.lt_or_ge b w.heap.size with hlt | hge
  · exact hlt
  · rw [Array.getElem?_eq_none hge] at h; cases h
theorem Plain.frozen {w : World} {b : Nat} (h : Plain w b) (i : Nat) : w.frozen? ⟨b, i, none⟩ = false := by
  obtain ⟨ds, t, h⟩ := h
  simp [World.frozen?, h]
theorem Plain.setCell {w : World} {b : Nat} (h : Plain w b) (b' q : Nat) (u : Value) : Plain (w.setCell ⟨b', q, none⟩ u) b := by
  obtain ⟨ds, t, h⟩ := h
  by_cases hp : b' = b
  · subst hp
    exact ⟨ds.setIfInBounds q u, t, by simp [World.setCell, Array.getElem?_modify, h]⟩
  · exact ⟨ds, t, (Below.heap_setCell _ _ _ _ (by dsimp only; omega)).trans h⟩
theorem cell_setCell_same {w : World} {b i : Nat} (h : Plain w b) {v : Value} (hc : w.cell? ⟨b, i, none⟩ = some v) (u : Value) : (w.setCell ⟨b, i, none⟩ u).cell? ⟨b, i, none⟩ = some u := by
  obtain ⟨ds, t, h⟩ := h
  rw [cell_of_row w b i ds t (0, 0) h] at hc
  have hi := (Array.getElem?_eq_some_iff.1 hc).1
  rw [cell_of_row _ b i (ds.setIfInBounds i u) t (0, 0) (by simp [World.setCell, Array.getElem?_modify, h])]
  simp [hi]
theorem cell_setCell_other {w : World} {b i j : Nat} (h : Plain w b) (hij : i ≠ j) (u : Value) : (w.setCell ⟨b, i, none⟩ u).cell? ⟨b, j, none⟩ = w.cell? ⟨b, j, none⟩ := by
  obtain ⟨ds, t, h⟩ := h
  rw [cell_of_row w b j ds t (0, 0) h, cell_of_row _ b j (ds.setIfInBounds i u) t (0, 0) (by simp [World.setCell, Array.getElem?_modify, h])]
  rw [Array.getElem?_setIfInBounds_ne hij]

/-- an element that is being marked: its cells are ck by now; the rest of its block is as in w0 -/
structure Elt (w0 w : World) (b o : Nat) (ck : List Value) (Fk : List Nat) : Prop where
  upd : Upd (b :: Fk) w0 w
  cells : Cells w b o ck
  rest : ∀ q, (q < o ∨ o + ck.length ≤ q) → w.cell? ⟨b, q, none⟩ = w0.cell? ⟨b, q, none⟩
  plain : Plain w b
section
variable {w0 w w1 : World} {b o : Nat} {ck : List Value} {Fk G : List Nat}
theorem Elt.set (h : Elt w0 w b o ck Fk) {j q : Nat} (hj : j < ck.length) (hq : q = o + j) (u : Value) : Elt w0 (w.setCell ⟨b, q, none⟩ u) b o (ck.set j u) Fk := by
  subst hq
  refine ⟨h.upd.setCell (List.mem_cons_self ..) u, fun i v hi => ?_, fun q hq => ?_, h.plain.setCell _ _ _⟩
  · by_cases hij : j = i
    · subst hij
      rw [List.getElem?_set_self hj] at hi
      cases hi
      exact cell_setCell_same h.plain (h.cells j _ (List.getElem?_eq_getElem hj)) u
    · rw [List.getElem?_set_ne hij] at hi
      rw [cell_setCell_other h.plain (by omega)]
      exact h.cells i v hi
  · rw [List.length_set] at hq
    rw [cell_setCell_other h.plain (by omega)]
    exact h.rest q hq
theorem Elt.at_ (h : Elt w0 w b o ck Fk) {j q : Nat} (hq : q = o + j) {u : Value} (hj : ck[j]? = some u) : w.cell? ⟨b, q, none⟩ = some u := by
  subst hq; exact h.cells j u hj
theorem Elt.step (h : Elt w0 w b o ck Fk) (hu : Upd G w w1) (hs : ∀ x ∈ G, x ∈ Fk) (hb : b ∉ G) : Elt w0 w1 b o ck Fk := by
  have e := hu.block b h.plain.lt hb
  refine ⟨h.upd.trans (hu.mono fun x hx => List.mem_cons_of_mem _ (hs x hx)), fun j u hj => ?_, fun q hq => ?_, ?_⟩
  · rw [World.cell?_of_block e]; exact h.cells j u hj
  · rw [World.cell?_of_block e]; exact h.rest q hq
  · obtain ⟨ds, t, hp⟩ := h.plain
    exact ⟨ds, t, e.trans hp⟩
theorem Elt.ext (h : Elt w0 w b o ck Fk) (hb : Below w.heap.size w w1) : Elt w0 w1 b o ck Fk := h.step (.of_ext [] hb) (fun _ hx => by cases hx) (by simp)
end

theorem rdCells.split {α : Type} [Dat α] {w : World} {xs : List α} {ds : List Value} {G : List Nat} (h : rdCells w xs ds G) {k : Nat} (hk : k < xs.length) :
    ∃ d1 ck d2 G1 Fk G2, ds = d1 ++ (ck ++ d2) ∧ G = G1 ++ (Fk ++ G2) ∧ rdCells w (xs.take k) d1 G1 ∧ rd w xs[k] ck Fk ∧ rdCells w (xs.drop (k + 1)) d2 G2 ∧ d1.length = k * Dat.size α := by
  have e : xs = xs.take k ++ (xs[k] :: xs.drop (k + 1)) := by rw [List.getElem_cons_drop, List.take_append_drop]
  rw [e] at h
  obtain ⟨c1, c2, F1, F2, rfl, rfl, h1, ck, c3, Fk, F3, rfl, rfl, h2, h3⟩ := rdCells.of_append h
  refine ⟨c1, ck, c3, F1, Fk, F3, rfl, rfl, h1, h2, h3, ?_⟩
  rw [h1.len, List.length_take, Nat.min_eq_left (by omega)]
/-- element k of a list of the call's own: it may be marked in place -/
theorem Own.elt {α : Type} [Dat α] {w : World} {B n c : Nat} {xs : List α} {A : Option Addr} {F : List Nat} (h : Own w B xs [.slice A n c] F) {k : Nat} (hk : k < xs.length) :
    ∃ b o ck Fk, A = some ⟨b, o, none⟩ ∧ b ∈ F ∧ (∀ x ∈ Fk, x ∈ F) ∧ b ∉ Fk ∧ Own w B xs[k] ck Fk ∧ Elt w w b (o + k * Dat.size α) ck Fk ∧
      ∀ w' x' ck', Own w' B x' ck' Fk → Elt w w' b (o + k * Dat.size α) ck' Fk → Own w' B (xs.set k x') [.slice A n c] F := by
  obtain ⟨⟨A', c', G, ds, e, hc1, hc2, hc, h0⟩, hnd, hbase, hplain⟩ := h
  simp at e
  obtain ⟨rfl, rfl, rfl⟩ := e
  rcases h0 with h0 | ⟨b, o, rfl, rfl, hb, hcell⟩
  · rw [h0.1] at hk; cases hk
  obtain ⟨d1, ck, d2, G1, Fk, G2, rfl, rfl, r1, r2, r3, hd1⟩ := hc.split hk
  have hckl := Dat.len r2
  simp only [List.nodup_cons, List.nodup_append, List.mem_append, not_or] at hnd
  have hplainb : Plain w b := hplain b (List.mem_cons_self ..)
  refine ⟨b, o, ck, Fk, rfl, List.mem_cons_self .., fun x hx => List.mem_cons_of_mem _ (by simp [hx]), hnd.1.2.1, ⟨r2, hnd.2.2.1.1, fun x hx => hbase x (by simp [hx]), fun x hx => hplain x (by simp [hx])⟩, ⟨.refl _ _, fun j u hj => ?_, fun _ _ => rfl, hplainb⟩, ?_⟩
  · have := hcell (k * Dat.size α + j) u (by
      rw [List.getElem?_append_right (by omega), List.getElem?_append_left (by have := (List.getElem?_eq_some_iff.1 hj).1; omega)]
      rw [← hj]; congr 1; omega)
    rwa [Nat.add_assoc]
  · intro w' x' ck' hx hE
    have hkeep : ∀ y ∈ G1 ++ G2, w'.heap[y]? = w.heap[y]? := fun y hy => by
      refine hE.upd.block y ?_ ?_
      · rcases List.mem_append.1 hy with hy | hy
        · exact r1.lt y hy
        · exact r3.lt y hy
      · intro hm
        rcases List.mem_cons.1 hm with rfl | hm
        · rcases List.mem_append.1 hy with hy | hy
          · exact hnd.1.1 hy
          · exact hnd.1.2.2 hy
        · rcases List.mem_append.1 hy with hy | hy
          · exact hnd.2.2.2 y hy y (Or.inl hm) rfl
          · exact hnd.2.2.1.2.2 y hm y hy rfl
    have hx2 := Dat.len hx.rd
    refine ⟨⟨_, c, G1 ++ (Fk ++ G2), d1 ++ (ck' ++ d2), by simp, by simpa using hc1, hc2, ?_, .inr ⟨b, o, rfl, rfl, Nat.lt_of_lt_of_le hb hE.upd.size, ?_⟩⟩, ?_, ?_, ?_⟩
    · have es : xs.set k x' = xs.take k ++ (x' :: xs.drop (k + 1)) := List.set_eq_take_append_cons_drop.trans (if_pos hk)
      rw [es]
      exact (r1.frame (fun y hy => hkeep y (List.mem_append_left _ hy)) hE.upd.size).append ⟨ck', d2, Fk, G2, rfl, rfl, hx.rd, r3.frame (fun y hy => hkeep y (List.mem_append_right _ hy)) hE.upd.size⟩
    · intro j u hj
      by_cases hj1 : j < d1.length
      · rw [List.getElem?_append_left hj1] at hj
        rw [hE.rest (o + j) (by omega)]
        exact hcell j u (by rw [List.getElem?_append_left hj1]; exact hj)
      · rw [List.getElem?_append_right (by omega)] at hj
        by_cases hj2 : j - d1.length < ck'.length
        · rw [List.getElem?_append_left hj2] at hj
          have := hE.cells _ u hj
          rw [← this]; congr 2; omega
        · rw [List.getElem?_append_right (by omega)] at hj
          rw [hE.rest (o + j) (by omega)]
          refine hcell j u ?_
          rw [List.getElem?_append_right (by omega), List.getElem?_append_right (by omega)]
          rw [← hj]; congr 1; omega
    · simp only [List.nodup_cons, List.nodup_append, List.mem_append, not_or]
      exact hnd
    · exact hbase
    · intro y hy
      rcases List.mem_cons.1 hy with rfl | hy
      · exact hE.plain
      · rcases List.mem_append.1 hy with hy | hy
        · rw [hkeep y (List.mem_append_left _ hy)]; exact hplain y (by simp [hy])
        · rcases List.mem_append.1 hy with hy | hy
          · exact hx.plain y hy
          · rw [hkeep y (List.mem_append_right _ hy)]; exact hplain y (by simp [hy])

theorem mtext63 {k : Int} (hk : k ≤ 1073741824) : ((mtext k).size : Int) ≤ 9223372036854775807 := by have := mtext_size k hk; omega
theorem own_len {α : Type} [Dat α] {w : World} {B n c : Nat} {xs : List α} {A : Option Addr} {F : List Nat} (h : Own w B xs [.slice A n c] F) : (xs.length : Int) ≤ 9223372036854775807 := by
  obtain ⟨_, _, _, _, e, h1, h2, _⟩ := h.rd
  unfold maxLen at h2
  omega
theorem rd_len {α : Type} [Dat α] {w : World} {n c : Nat} {xs : List α} {A : Option Addr} {F : List Nat} (h : rd w xs [.slice A n c] F) : (xs.length : Int) ≤ 9223372036854775807 := by
  obtain ⟨_, _, _, _, e, h1, h2, _⟩ := h
  unfold maxLen at h2
  omega
theorem rd_pair {α β : Type} [Dat α] [Dat β] {w : World} {a : α} {b : β} {c1 c2 : List Value} {F1 F2 : List Nat} (h1 : rd w a c1 F1) (h2 : rd w b c2 F2) : rd w (a, b) (c1 ++ c2) (F1 ++ F2) := ⟨_, _, _, _, rfl, rfl, h1, h2⟩
theorem Own.setC {α : Type} [Dat α] {w : World} {B : Nat} {x : α} {cs : List Value} {F : List Nat} (h : Own w B x cs F) {p : Addr} (hp : p.block ∉ F) (u : Value) : Own (w.setCell p u) B x cs F :=
  h.keep (fun b hb => Below.heap_setCell _ _ _ _ (by rintro rfl; exact hp hb)) (by simp [World.setCell])
/-! what marking makes of a list -/
section
variable {α : Type} (mk : α → Int → α) (cnt : α → Nat)
def cntL : List α → Nat
  | [] => 0
  | x :: xs => cnt x + cntL xs
def mkL : List α → Int → List α
  | [], _ => []
  | x :: xs, k => mk x k :: mkL xs (k + cnt x)
theorem mkL_len : ∀ (xs : List α) (k : Int), (mkL mk cnt xs k).length = xs.length
  | [], _ => rfl
  | x :: xs, k => by simp [mkL, mkL_len xs]
theorem mkL_append : ∀ (xs ys : List α) (k : Int), mkL mk cnt (xs ++ ys) k = mkL mk cnt xs k ++ mkL mk cnt ys (k + cntL cnt xs)
  | [], ys, k => by simp [mkL, cntL]
  | x :: xs, ys, k => by simp [mkL, cntL, mkL_append xs, Int.add_assoc]
theorem cntL_append : ∀ (xs ys : List α), cntL cnt (xs ++ ys) = cntL cnt xs + cntL cnt ys
  | [], ys => by simp [cntL]
  | x :: xs, ys => by simp [cntL, cntL_append xs, Nat.add_assoc]
def mkUp (xs : List α) (k : Int) (i : Nat) : List α := mkL mk cnt (xs.take i) k ++ xs.drop i
variable {mk cnt} {xs : List α} {k : Int} {i : Nat}
theorem cntL_succ (hi : i < xs.length) : cntL cnt (xs.take (i + 1)) = cntL cnt (xs.take i) + cnt xs[i] := by
  rw [List.take_succ_eq_append_getElem hi, cntL_append]; simp [cntL]
theorem cntL_le (xs : List α) (i : Nat) : cntL cnt (xs.take i) ≤ cntL cnt xs := by
  have := cntL_append cnt (xs.take i) (xs.drop i)
  rw [List.take_append_drop] at this; omega
theorem mkUp_zero (xs : List α) (k : Int) : mkUp mk cnt xs k 0 = xs := by simp [mkUp, mkL]
theorem mkUp_full (xs : List α) (k : Int) : mkUp mk cnt xs k xs.length = mkL mk cnt xs k := by simp [mkUp]
theorem mkUp_len (hi : i ≤ xs.length) : (mkUp mk cnt xs k i).length = xs.length := by simp [mkUp, mkL_len]; omega
theorem mkUp_get (hi : i < xs.length) (h : i < (mkUp mk cnt xs k i).length) : (mkUp mk cnt xs k i)[i] = xs[i] := by
  have hl : (mkL mk cnt (xs.take i) k).length = i := by rw [mkL_len, List.length_take, Nat.min_eq_left (by omega)]
  have e : (mkUp mk cnt xs k i)[i]? = some xs[i] := by
    unfold mkUp
    rw [List.getElem?_append_right (by omega), hl, Nat.sub_self, List.getElem?_drop]
    exact List.getElem?_eq_getElem hi
  exact (List.getElem?_eq_some_iff.1 e).2
theorem mkUp_set (hi : i < xs.length) : (mkUp mk cnt xs k i).set i (mk xs[i] (k + cntL cnt (xs.take i))) = mkUp mk cnt xs k (i + 1) := by
  have hl : (mkL mk cnt (xs.take i) k).length = i := by rw [mkL_len, List.length_take, Nat.min_eq_left (by omega)]
  unfold mkUp
  rw [List.set_append_right _ _ (by omega), hl, Nat.sub_self, List.take_succ_eq_append_getElem hi, mkL_append]
  rw [show xs.drop i = xs[i] :: xs.drop (i + 1) from (List.getElem_cons_drop hi).symm]
  simp only [mkL, List.set_cons_zero, List.append_assoc, List.cons_append, List.nil_append]
theorem mkL_fix : ∀ {xs : List α} {k : Int}, mkL mk cnt xs k = xs → ∀ {i : Nat} (hi : i < xs.length), mk xs[i] (k + cntL cnt (xs.take i)) = xs[i]
  | [], _, _, i, hi => by cases hi
  | x :: xs, k, h, 0, _ => by simpa [mkL, cntL] using (List.cons.inj h).1
  | x :: xs, k, h, i + 1, hi => by
    have := mkL_fix (List.cons.inj h).2 (i := i) (by simpa using hi)
    simpa [mkL, cntL, Int.add_assoc] using this
theorem cntL_mkL (hc : ∀ x k, cnt (mk x k) = cnt x) : ∀ (xs : List α) (k : Int), cntL cnt (mkL mk cnt xs k) = cntL cnt xs
  | [], _ => rfl
  | x :: xs, k => by simp [mkL, cntL, hc, cntL_mkL hc xs]
theorem mkL_idem (hc : ∀ x k, cnt (mk x k) = cnt x) (hm : ∀ x k, mk (mk x k) k = mk x k) : ∀ (xs : List α) (k : Int), mkL mk cnt (mkL mk cnt xs k) k = mkL mk cnt xs k
  | [], _ => rfl
  | x :: xs, k => by simp [mkL, hm, hc, mkL_idem hc hm xs]
end
end Go.Proofs.Ytkgajoichmnaaaa
