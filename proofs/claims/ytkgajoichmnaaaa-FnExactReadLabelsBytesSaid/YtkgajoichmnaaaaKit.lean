/- How Go's data read in a world: 'rd w x cs F': the cells cs read as x, through the blocks F. No condition. -/
import Derived.Test.YtkgajoichmnaaaaFrame
namespace Go.Proofs.Ytkgajoichmnaaaa
open Go.ChangeShapes Go.WideShapes Go.ChangeAt Go.RowKit
set_option linter.unusedVariables false
set_option linter.unusedSimpArgs false

/-- an int's range -/
def I64 (n : Int) : Prop := -9223372036854775808 ≤ n ∧ n ≤ 9223372036854775807

class Dat (α : Type) where
  size : Nat
  pos : 0 < size
  rd : World → α → List Value → List Nat → Prop
  len : ∀ {w a cs F}, rd w a cs F → cs.length = size
  one : ∀ {w a cs F}, rd w a cs F → ∀ u ∈ cs, u.oneCell' = true
  lt : ∀ {w a cs F}, rd w a cs F → ∀ b ∈ F, b < w.heap.size
  frame : ∀ {w w' : World} {a cs F}, rd w a cs F → (∀ b ∈ F, w'.heap[b]? = w.heap[b]?) → w.heap.size ≤ w'.heap.size → rd w' a cs F
open Dat (rd)

instance : Dat Int where
  size := 1
  pos := by omega
  rd _ n cs F := cs = [.int .i64 n] ∧ F = [] ∧ I64 n
  len h := by rw [h.1]; rfl
  one h := by rw [h.1]; intro u hu; simp at hu; subst hu; rfl
  lt h := by rw [h.2.1]; intro b hb; cases hb
  frame h _ _ := h
instance : Dat Bool where
  size := 1
  pos := by omega
  rd _ n cs F := cs = [.bool n] ∧ F = []
  len h := by rw [h.1]; rfl
  one h := by rw [h.1]; intro u hu; simp at hu; subst hu; rfl
  lt h := by rw [h.2]; intro b hb; cases hb
  frame h _ _ := h
instance : Dat ByteArray where
  size := 1
  pos := by omega
  rd _ n cs F := cs = [.string n] ∧ F = [] ∧ n.size ≤ maxLen
  len h := by rw [h.1]; rfl
  one h := by rw [h.1]; intro u hu; simp at hu; subst hu; rfl
  lt h := by rw [h.2.1]; intro b hb; cases hb
  frame h _ _ := h
instance {α β : Type} [Dat α] [Dat β] : Dat (α × β) where
  size := Dat.size α + Dat.size β
  pos := by have := Dat.pos (α := α); omega
  rd w x cs F := ∃ c1 c2 F1 F2, cs = c1 ++ c2 ∧ F = F1 ++ F2 ∧ rd w x.1 c1 F1 ∧ rd w x.2 c2 F2
  len h := by obtain ⟨c1, c2, F1, F2, rfl, rfl, h1, h2⟩ := h; rw [List.length_append, Dat.len h1, Dat.len h2]
  one h := by
    obtain ⟨c1, c2, F1, F2, rfl, rfl, h1, h2⟩ := h
    intro u hu
    rcases List.mem_append.1 hu with hu | hu
    · exact Dat.one h1 u hu
    · exact Dat.one h2 u hu
  lt h := by
    obtain ⟨c1, c2, F1, F2, rfl, rfl, h1, h2⟩ := h
    intro b hb
    rcases List.mem_append.1 hb with hb | hb
    · exact Dat.lt h1 b hb
    · exact Dat.lt h2 b hb
  frame h hk hz := by
    obtain ⟨c1, c2, F1, F2, rfl, rfl, h1, h2⟩ := h
    exact ⟨c1, c2, F1, F2, rfl, rfl, Dat.frame h1 (fun b hb => hk b (List.mem_append_left _ hb)) hz, Dat.frame h2 (fun b hb => hk b (List.mem_append_right _ hb)) hz⟩

@[reducible] def Dat.iso {α β : Type} (f : α → β) [Dat β] : Dat α where
  size := Dat.size β
  pos := Dat.pos
  rd w x := rd w (f x)
  len h := Dat.len h
  one h := Dat.one h
  lt h := Dat.lt h
  frame h := Dat.frame h

/-- cells that stand one behind the other, each element's own -/
def rdCells {α : Type} [Dat α] (w : World) : List α → List Value → List Nat → Prop
  | [], cs, F => cs = [] ∧ F = []
  | x :: xs, cs, F => ∃ c1 c2 F1 F2, cs = c1 ++ c2 ∧ F = F1 ++ F2 ∧ rd w x c1 F1 ∧ rdCells w xs c2 F2

section
variable {α : Type} [Dat α]
theorem rdCells.len {w : World} : ∀ {xs : List α} {cs : List Value} {F : List Nat}, rdCells w xs cs F → cs.length = xs.length * Dat.size α
  | [], _, _, h => by rw [h.1]; simp
  | x :: xs, _, _, ⟨c1, c2, F1, F2, rfl, rfl, h1, h2⟩ => by
    rw [List.length_append, Dat.len h1, rdCells.len h2, List.length_cons, Nat.succ_mul]; omega
theorem rdCells.one {w : World} : ∀ {xs : List α} {cs : List Value} {F : List Nat}, rdCells w xs cs F → ∀ u ∈ cs, u.oneCell' = true
  | [], _, _, h => by rw [h.1]; intro u hu; cases hu
  | x :: xs, _, _, ⟨c1, c2, F1, F2, rfl, rfl, h1, h2⟩ => by
    intro u hu
    rcases List.mem_append.1 hu with hu | hu
    · exact Dat.one h1 u hu
    · exact rdCells.one h2 u hu
theorem rdCells.lt {w : World} : ∀ {xs : List α} {cs : List Value} {F : List Nat}, rdCells w xs cs F → ∀ b ∈ F, b < w.heap.size
  | [], _, _, h => by rw [h.2]; intro b hb; cases hb
  | x :: xs, _, _, ⟨c1, c2, F1, F2, rfl, rfl, h1, h2⟩ => by
    intro b hb
    rcases List.mem_append.1 hb with hb | hb
    · exact Dat.lt h1 b hb
    · exact rdCells.lt h2 b hb
theorem rdCells.frame {w w' : World} : ∀ {xs : List α} {cs : List Value} {F : List Nat}, rdCells w xs cs F → (∀ b ∈ F, w'.heap[b]? = w.heap[b]?) → w.heap.size ≤ w'.heap.size → rdCells w' xs cs F
  | [], _, _, h, _, _ => h
  | x :: xs, _, _, ⟨c1, c2, F1, F2, rfl, rfl, h1, h2⟩, hk, hz =>
    ⟨c1, c2, F1, F2, rfl, rfl, Dat.frame h1 (fun b hb => hk b (List.mem_append_left _ hb)) hz, rdCells.frame h2 (fun b hb => hk b (List.mem_append_right _ hb)) hz⟩
theorem rdCells.append {w : World} : ∀ {xs ys : List α} {c1 c2 : List Value} {F1 F2 : List Nat}, rdCells w xs c1 F1 → rdCells w ys c2 F2 → rdCells w (xs ++ ys) (c1 ++ c2) (F1 ++ F2)
  | [], _, _, _, _, _, ⟨rfl, rfl⟩, h2 => h2
  | x :: xs, ys, _, c2, _, F2, ⟨d1, d2, G1, G2, rfl, rfl, h1, h2⟩, h3 =>
    ⟨d1, d2 ++ c2, G1, G2 ++ F2, by simp, by simp, h1, rdCells.append h2 h3⟩
theorem rdCells.single {w : World} {x : α} {cs : List Value} {F : List Nat} (h : rd w x cs F) : rdCells w [x] cs F := ⟨cs, [], F, [], by simp, by simp, h, rfl, rfl⟩
theorem rdCells.of_append {w : World} : ∀ {xs ys : List α} {cs : List Value} {F : List Nat}, rdCells w (xs ++ ys) cs F → ∃ c1 c2 F1 F2, cs = c1 ++ c2 ∧ F = F1 ++ F2 ∧ rdCells w xs c1 F1 ∧ rdCells w ys c2 F2
  | [], _, cs, F, h => ⟨[], cs, [], F, rfl, rfl, ⟨rfl, rfl⟩, h⟩
  | x :: xs, ys, _, _, ⟨d1, d2, G1, G2, rfl, rfl, h1, h2⟩ => by
    obtain ⟨e1, e2, H1, H2, rfl, rfl, h3, h4⟩ := rdCells.of_append h2
    exact ⟨d1 ++ e1, e2, G1 ++ H1, H2, by simp, by simp, ⟨d1, e1, G1, H1, rfl, rfl, h1, h3⟩, h4⟩
/-- element k: its own cells, at its own place -/
theorem rdCells.get {w : World} {xs : List α} {cs : List Value} {F : List Nat} (h : rdCells w xs cs F) {k : Nat} (hk : k < xs.length) :
    ∃ ck Fk, rd w xs[k] ck Fk ∧ (∀ b ∈ Fk, b ∈ F) ∧ ∀ j, j < Dat.size α → cs[k * Dat.size α + j]? = ck[j]? := by
  have e : xs = xs.take k ++ (xs[k] :: xs.drop (k + 1)) := by rw [List.getElem_cons_drop, List.take_append_drop]
  rw [e] at h
  obtain ⟨c1, c2, F1, F2, rfl, rfl, h1, ck, c3, Fk, F3, rfl, rfl, h2, h3⟩ := rdCells.of_append h
  have hl := h1.len
  rw [List.length_take, Nat.min_eq_left (by omega)] at hl
  refine ⟨ck, Fk, h2, fun b hb => by simp [hb], fun j hj => ?_⟩
  rw [List.getElem?_append_right (by omega), List.getElem?_append_left (by have := Dat.len h2; omega)]
  congr 1; omega
end

theorem sz63 {s : ByteArray} (h : s.size ≤ maxLen) : (s.size : Int) ≤ 9223372036854775807 := by unfold maxLen at h; omega
theorem rdStr (w : World) (s : ByteArray) (h : (s.size : Int) ≤ 9223372036854775807) : rd w s [.string s] [] := ⟨rfl, rfl, by unfold maxLen; omega⟩
theorem rdInt (w : World) (n : Int) (h : I64 n) : rd w n [.int .i64 n] [] := ⟨rfl, rfl, h⟩
theorem rdBool (w : World) (b : Bool) : rd w b [.bool b] [] := ⟨rfl, rfl⟩
/-- a slice: its length is the list's; nil where A is none -/
instance {α : Type} [Dat α] : Dat (List α) where
  size := 1
  pos := by omega
  rd w xs cs F := ∃ A c G ds, cs = [.slice A xs.length c] ∧ xs.length ≤ c ∧ c ≤ maxLen ∧ rdCells w xs ds G ∧
    ((xs = [] ∧ F = []) ∨ ∃ b o, A = some ⟨b, o, none⟩ ∧ F = b :: G ∧ b < w.heap.size ∧ ∀ j u, ds[j]? = some u → w.cell? ⟨b, o + j, none⟩ = some u)
  len h := by obtain ⟨A, c, G, ds, rfl, _⟩ := h; rfl
  one h := by obtain ⟨A, c, G, ds, rfl, _⟩ := h; intro u hu; simp at hu; subst hu; rfl
  lt h := by
    obtain ⟨A, c, G, ds, rfl, _, _, hc, h | ⟨b, o, rfl, rfl, hb, _⟩⟩ := h
    · rw [h.2]; intro b hb; cases hb
    · intro x hx
      rcases List.mem_cons.1 hx with rfl | hx
      · exact hb
      · exact hc.lt x hx
  frame h hk hz := by
    obtain ⟨A, c, G, ds, rfl, h1, h2, hc, h | ⟨b, o, rfl, rfl, hb, hcell⟩⟩ := h
    · obtain ⟨rfl, rfl⟩ := h
      obtain ⟨rfl, rfl⟩ := hc
      exact ⟨A, c, [], [], rfl, h1, h2, ⟨rfl, rfl⟩, .inl ⟨rfl, rfl⟩⟩
    · refine ⟨_, c, G, ds, rfl, h1, h2, hc.frame (fun x hx => hk x (List.mem_cons_of_mem _ hx)) hz, .inr ⟨b, o, rfl, rfl, Nat.lt_of_lt_of_le hb hz, fun j u hu => ?_⟩⟩
      rw [← hcell j u hu]
      exact World.cell?_of_block (hk b (List.mem_cons_self ..))

/-- the slice value '.slice A n c' reads as xs -/
def Sl {α : Type} [Dat α] (w : World) (xs : List α) (A : Option Addr) (c : Nat) (F : List Nat) : Prop := rd w xs [.slice A xs.length c] F

section
variable {α : Type} [Dat α] {w w' : World} {xs : List α} {A : Option Addr} {c : Nat} {F : List Nat}
theorem rd_list {v : List Value} (h : rd w xs v F) : ∃ A c, v = [.slice A xs.length c] ∧ Sl w xs A c F := by
  have h0 := h
  obtain ⟨A, c, G, ds, rfl, _⟩ := h
  exact ⟨A, c, rfl, h0⟩
theorem Sl.lt (h : Sl w xs A c F) : ∀ b ∈ F, b < w.heap.size := Dat.lt h
theorem Sl.frame (h : Sl w xs A c F) (hk : ∀ b ∈ F, w'.heap[b]? = w.heap[b]?) (hz : w.heap.size ≤ w'.heap.size) : Sl w' xs A c F := Dat.frame h hk hz
theorem Sl.below {B : Nat} (h : Sl w xs A c F) (hb : Below B w w') (hB : ∀ b ∈ F, b < B) : Sl w' xs A c F := h.frame (fun b hb' => hb.block b (hB b hb')) hb.size
theorem Sl.ext (h : Sl w xs A c F) (hb : Below w.heap.size w w') : Sl w' xs A c F := h.below hb h.lt
theorem Sl.cap (h : Sl w xs A c F) : xs.length ≤ c ∧ c ≤ maxLen := by
  obtain ⟨A', c', G, ds, e, h1, h2, _⟩ := h
  simp at e
  obtain ⟨_, rfl⟩ := e
  exact ⟨h1, h2⟩
/-- element k of a slice: where its cells are -/
theorem Sl.get (h : Sl w xs A c F) {k : Nat} (hk : k < xs.length) :
    ∃ b o ck Fk, A = some ⟨b, o, none⟩ ∧ b ∈ F ∧ b < w.heap.size ∧ rd w xs[k] ck Fk ∧ (∀ x ∈ Fk, x ∈ F) ∧ ∀ j u, ck[j]? = some u → w.cell? ⟨b, o + (k * Dat.size α + j), none⟩ = some u := by
  obtain ⟨A', c', G, ds, e, _, _, hc, h | ⟨b, o, rfl, rfl, hb, hcell⟩⟩ := h
  · rw [h.1] at hk; cases hk
  · simp at e
    obtain ⟨rfl, rfl⟩ := e
    obtain ⟨ck, Fk, hr, hs, hj⟩ := hc.get hk
    refine ⟨b, o, ck, Fk, rfl, List.mem_cons_self .., hb, hr, fun x hx => List.mem_cons_of_mem _ (hs x hx), fun j u hu => hcell _ u ?_⟩
    rw [hj j (by rw [← Dat.len hr]; exact (List.getElem?_eq_some_iff.1 hu).1)]
    exact hu
theorem Sl.nil (w : World) (A : Option Addr) (c : Nat) (hc : c ≤ maxLen) : Sl w ([] : List α) A c [] := ⟨A, c, [], [], rfl, Nat.zero_le _, hc, ⟨rfl, rfl⟩, .inl ⟨rfl, rfl⟩⟩
end

/-! the program's data -/
structure Label where
  key : ByteArray
  value : ByteArray
instance : Dat Label := Dat.iso fun l => (l.key, l.value)
end Go.Proofs.Ytkgajoichmnaaaa
