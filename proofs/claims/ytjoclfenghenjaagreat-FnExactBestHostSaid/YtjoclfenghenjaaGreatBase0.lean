/- The frame of every law's proof: if the call returns true and leaves what was there as it was, the given post holds. No condition. -/
import Derived.Test.YtjoclfenghenjaaGreatRows
import Derived.WalkKit
import Derived.ProofKit
import Derived.OpenShut
import Derived.Lib.Hide
import Derived.BigQuiet
import Derived.Deep.QuietTactic
import Derived.WalkSpells
import Derived.Deep.DeepFit
import Derived.Deep.AppendLies
import Derived.OwnWalk
import Derived.Deep.Slices
import Derived.Handy
namespace Go.Proofs.YtjoclfenghenjaaGreat
open Go.ChangeShapes Go.WideShapes Go.ChangeAt Go.RowKit

/-! What a call may do to memory: 'Below w.heap.size w w'': all that was there is as it was. -/
theorem bcell {W w1 : World} (hb : Below W.heap.size W w1) : (∀ b o, b < W.heap.size → w1.cell? ⟨b, o, none⟩ = W.cell? ⟨b, o, none⟩) ∧ (∀ b o, b < W.heap.size → w1.frozen? ⟨b, o, none⟩ = W.frozen? ⟨b, o, none⟩) :=
  ⟨fun b o h => hb.cell (p := ⟨b, o, none⟩) h, fun b o h => hb.frozen (p := ⟨b, o, none⟩) h⟩
theorem ext_refl (w : World) : Below w.heap.size w w := Below.refl _ _
theorem ext_trans {w w1 w2 : World} (h : Below w.heap.size w w1) (k : Below w1.heap.size w1 w2) : Below w.heap.size w w2 := h.trans (k.mono h.size)
theorem ext_alloc {w w1 : World} (h : Below w.heap.size w w1) (o : Obj) : Below w.heap.size w (w1.alloc o) := h.alloc h.size o
theorem ext_drew {w w1 : World} (h : Below w.heap.size w w1) : Below w.heap.size w w1.drew := h.drew
theorem ext_drewN {w w1 : World} (h : Below w.heap.size w w1) (n : Nat) : Below w.heap.size w (w1.drewN n) := ⟨h.os, h.tape, h.output, h.size, h.block⟩
theorem ext_setCell {w w1 : World} (h : Below w.heap.size w w1) {p : Addr} (hp : w.heap.size ≤ p.block) (u : Value) : Below w.heap.size w (w1.setCell p u) := h.setCell hp u

section
variable {H : Type} {enc : TypeId × Value → H} {P : Program}
theorem trodAll_below {W W' : World} (hl : laidOutB P = true) (hb : Below W.heap.size W W') : ∀ (ts : List TypeId) (vs : List Value) (ds : List (DataW H)) (ps : List MemPlace) (sp : Nat → Bool),
    (∀ t ∈ ts, P.readableRec t = true ∧ t < P.types.size) → (∀ x ∈ ps, x.block < W.heap.size) → (∀ x ∈ ps, sp x.block = true) →
    DataW.TrodAll enc P W 0 (fun _ => true) true ts vs ds ps → DataW.TrodAll enc P W' 0 sp true ts vs ds ps
  | [], [], [], ps, sp, _, _, _, h => h
  | t :: ts, v :: vs, d :: ds, ps, sp, ht, hlt, hsp, h => by
    obtain ⟨p, q, h1, h2, rfl⟩ := h
    refine ⟨p, q, ?_, trodAll_below hl hb ts vs ds q sp (fun t' h' => ht t' (List.mem_cons_of_mem _ h')) (fun x hx => hlt x (List.mem_append_right _ hx)) (fun x hx => hsp x (List.mem_append_right _ hx)) h2, rfl⟩
    obtain ⟨hr, hs⟩ := ht t (List.mem_cons_self ..)
    exact WideElems.Trod_stays hl hr hs h1 (fun x hx => hb.same (hlt x (List.mem_append_left _ hx))) (fun x hx => hsp x (List.mem_append_left _ hx))
  | [], _ :: _, _, _, _, _, _, _, h => by simp [DataW.TrodAll] at h
  | [], [], _ :: _, _, _, _, _, _, h => by simp [DataW.TrodAll] at h
  | _ :: _, [], _, _, _, _, _, _, h => by simp [DataW.TrodAll] at h
  | _ :: _, _ :: _, [], _, _, _, _, _, h => by simp [DataW.TrodAll] at h

theorem law_post {f : Func} {s : ChangeSpec} {apart fresh handsOn : Bool} {W W' : World} {args : Array Value} {ds gs : List (DataW H)} {before : List MemPlace} {tb : TypeId}
    (hl : laidOutB P = true) (hr : ∀ t ∈ f.params.toList, P.readableRec t = true ∧ t < P.types.size) (htb : f.resultTypes = #[tb]) (hub : P.underlying tb = some .bool)
    (hvars : s.vars = []) (hfn : s.fn H ds = { results := [.lit (.bool true)], args := ds, vars := [] })
    (hW : DataW.Whole enc P f.params.toList s.vars apart W args.toList ds gs before) (hb : Below W.heap.size W W') :
    s.post enc P f apart fresh handsOn false W args (.bool true) W' := by
  have hlt : ∀ p ∈ before, p.block < W.heap.size := fun p hp => hW.lt p hp
  have hW0 := hW
  obtain ⟨p, q, hA, hV, rfl, hz, hn⟩ := hW0
  rw [hvars] at hV
  obtain ⟨rfl, rfl⟩ := trodVars_none hV
  simp only [List.append_nil] at *
  have hres : ∀ (b : Nat) (sp : Nat → Bool) (hd : Bool), DataW.TrodAll enc P W' b sp hd f.resultTypes.toList ((Value.bool true).resultList f.resultTypes.size) (s.fn H (ds ++ [])).results [] := by
    intro b sp hd
    rw [htb, List.append_nil, hfn]
    exact trodAll_cons_mk (shut_bool hub _) trodAll_mk0
  have hargs : ∀ sp : Nat → Bool, (∀ x ∈ p, sp x.block = true) → DataW.TrodAll enc P W' 0 sp true f.params.toList args.toList (s.fn H (ds ++ [])).args p := by
    intro sp hsp
    rw [List.append_nil, hfn]
    exact trodAll_below hl hb _ _ _ _ _ hr hlt hsp hA
  have hvs : ∀ sp : Nat → Bool, DataW.TrodVars enc P W' sp s.vars (s.fn H (ds ++ [])).vars [] := by
    intro sp
    rw [List.append_nil, hfn, hvars]
    rfl
  have hold : ∀ x ∈ p, (fun b => decide (b < W.heap.size)) x.block = true := fun x hx => by simpa using hlt x hx
  refine ⟨ds, [], p, [], p, [], hW, hres _ _ _, hargs _ hold, hvs _, World.keptBut_mono (fun x hx => ⟨hx, by simpa using hx⟩) (hb.frame (· ∈ p)), fun hag => by cases hag⟩
end
end Go.Proofs.YtjoclfenghenjaaGreat

namespace Go.Proofs.YtjoclfenghenjaaGreat
open Go.ChangeShapes Go.WideShapes Go.ChangeAt Go.RowKit
set_option linter.unusedVariables false
set_option linter.unusedSimpArgs false

/-- an int's range -/
def I64 (n : Int) : Prop := -9223372036854775808 ≤ n ∧ n ≤ 9223372036854775807

class Dat (α : Type) where
  size : Nat
  pos : 0 < size
  rd : World → α → List Value → List Nat → Prop
  len : ∀ {w a cs F}, rd w a cs F → cs.length = size
  one : ∀ {w a cs F}, rd w a cs F → ∀ u ∈ cs, u.oneCell' = true
  lt : ∀ {w a cs F}, rd w a cs F → ∀ b ∈ F, b < w.heap.size
  frame : ∀ {w w' : World} {a cs F}, rd w a cs F → (∀ b ∈ F, w'.heap[b]? = w.heap[b]?) → w.heap.size ≤ w'.heap.size → rd w' a cs F
export Dat (rd)

instance : Dat Int where
  size := 1
  pos := by omega
  rd _ n cs F := cs = [.int .i64 n] ∧ F = [] ∧ I64 n
  len h := by rw [h.1]; rfl
  one h := by rw [h.1]; intro u hu; simp at hu; subst hu; rfl
  lt h := by rw [h.2.1]; intro b hb; cases hb
  frame h _ _ := h
instance : Dat Bool where
  size := 1
  pos := by omega
  rd _ n cs F := cs = [.bool n] ∧ F = []
  len h := by rw [h.1]; rfl
  one h := by rw [h.1]; intro u hu; simp at hu; subst hu; rfl
  lt h := by rw [h.2]; intro b hb; cases hb
  frame h _ _ := h
instance : Dat ByteArray where
  size := 1
  pos := by omega
  rd _ n cs F := cs = [.string n] ∧ F = [] ∧ n.size ≤ maxLen
  len h := by rw [h.1]; rfl
  one h := by rw [h.1]; intro u hu; simp at hu; subst hu; rfl
  lt h := by rw [h.2.1]; intro b hb; cases hb
  frame h _ _ := h
instance {α β : Type} [Dat α] [Dat β] : Dat (α × β) where
  size := Dat.size α + Dat.size β
  pos := by have := Dat.pos (α := α); omega
  rd w x cs F := ∃ c1 c2 F1 F2, cs = c1 ++ c2 ∧ F = F1 ++ F2 ∧ rd w x.1 c1 F1 ∧ rd w x.2 c2 F2
  len h := by obtain ⟨c1, c2, F1, F2, rfl, rfl, h1, h2⟩ := h; rw [List.length_append, Dat.len h1, Dat.len h2]
  one h := by
    obtain ⟨c1, c2, F1, F2, rfl, rfl, h1, h2⟩ := h
    intro u hu
    rcases List.mem_append.1 hu with hu | hu
    · exact Dat.one h1 u hu
    · exact Dat.one h2 u hu
  lt h := by
    obtain ⟨c1, c2, F1, F2, rfl, rfl, h1, h2⟩ := h
    intro b hb
    rcases List.mem_append.1 hb with hb | hb
    · exact Dat.lt h1 b hb
    · exact Dat.lt h2 b hb
  frame h hk hz := by
    obtain ⟨c1, c2, F1, F2, rfl, rfl, h1, h2⟩ := h
    exact ⟨c1, c2, F1, F2, rfl, rfl, Dat.frame h1 (fun b hb => hk b (List.mem_append_left _ hb)) hz, Dat.frame h2 (fun b hb => hk b (List.mem_append_right _ hb)) hz⟩

@[reducible] def Dat.iso {α β : Type} (f : α → β) [Dat β] : Dat α where
  size := Dat.size β
  pos := Dat.pos
  rd w x := rd w (f x)
  len h := Dat.len h
  one h := Dat.one h
  lt h := Dat.lt h
  frame h := Dat.frame h

/-- cells that stand one behind the other, each element's own -/
def rdCells {α : Type} [Dat α] (w : World) : List α → List Value → List Nat → Prop
  | [], cs, F => cs = [] ∧ F = []
  | x :: xs, cs, F => ∃ c1 c2 F1 F2, cs = c1 ++ c2 ∧ F = F1 ++ F2 ∧ rd w x c1 F1 ∧ rdCells w xs c2 F2

section
variable {α : Type} [Dat α]
theorem rdCells.len {w : World} : ∀ {xs : List α} {cs : List Value} {F : List Nat}, rdCells w xs cs F → cs.length = xs.length * Dat.size α
  | [], _, _, h => by rw [h.1]; simp
  | x :: xs, _, _, ⟨c1, c2, F1, F2, rfl, rfl, h1, h2⟩ => by
    rw [List.length_append, Dat.len h1, rdCells.len h2, List.length_cons, Nat.succ_mul]; omega
theorem rdCells.one {w : World} : ∀ {xs : List α} {cs : List Value} {F : List Nat}, rdCells w xs cs F → ∀ u ∈ cs, u.oneCell' = true
  | [], _, _, h => by rw [h.1]; intro u hu; cases hu
  | x :: xs, _, _, ⟨c1, c2, F1, F2, rfl, rfl, h1, h2⟩ => by
    intro u hu
    rcases List.mem_append.1 hu with hu | hu
    · exact Dat.one h1 u hu
    · exact rdCells.one h2 u hu
theorem rdCells.lt {w : World} : ∀ {xs : List α} {cs : List Value} {F : List Nat}, rdCells w xs cs F → ∀ b ∈ F, b < w.heap.size
  | [], _, _, h => by rw [h.2]; intro b hb; cases hb
  | x :: xs, _, _, ⟨c1, c2, F1, F2, rfl, rfl, h1, h2⟩ => by
    intro b hb
    rcases List.mem_append.1 hb with hb | hb
    · exact Dat.lt h1 b hb
    · exact rdCells.lt h2 b hb
theorem rdCells.frame {w w' : World} : ∀ {xs : List α} {cs : List Value} {F : List Nat}, rdCells w xs cs F → (∀ b ∈ F, w'.heap[b]? = w.heap[b]?) → w.heap.size ≤ w'.heap.size → rdCells w' xs cs F
  | [], _, _, h, _, _ => h
  | x :: xs, _, _, ⟨c1, c2, F1, F2, rfl, rfl, h1, h2⟩, hk, hz =>
    ⟨c1, c2, F1, F2, rfl, rfl, Dat.frame h1 (fun b hb => hk b (List.mem_append_left _ hb)) hz, rdCells.frame h2 (fun b hb => hk b (List.mem_append_right _ hb)) hz⟩
theorem rdCells.append {w : World} : ∀ {xs ys : List α} {c1 c2 : List Value} {F1 F2 : List Nat}, rdCells w xs c1 F1 → rdCells w ys c2 F2 → rdCells w (xs ++ ys) (c1 ++ c2) (F1 ++ F2)
  | [], _, _, _, _, _, ⟨rfl, rfl⟩, h2 => h2
  | x :: xs, ys, _, c2, _, F2, ⟨d1, d2, G1, G2, rfl, rfl, h1, h2⟩, h3 =>
    ⟨d1, d2 ++ c2, G1, G2 ++ F2, by simp, by simp, h1, rdCells.append h2 h3⟩
theorem rdCells.single {w : World} {x : α} {cs : List Value} {F : List Nat} (h : rd w x cs F) : rdCells w [x] cs F := ⟨cs, [], F, [], by simp, by simp, h, rfl, rfl⟩
theorem rdCells.of_append {w : World} : ∀ {xs ys : List α} {cs : List Value} {F : List Nat}, rdCells w (xs ++ ys) cs F → ∃ c1 c2 F1 F2, cs = c1 ++ c2 ∧ F = F1 ++ F2 ∧ rdCells w xs c1 F1 ∧ rdCells w ys c2 F2
  | [], _, cs, F, h => ⟨[], cs, [], F, rfl, rfl, ⟨rfl, rfl⟩, h⟩
  | x :: xs, ys, _, _, ⟨d1, d2, G1, G2, rfl, rfl, h1, h2⟩ => by
    obtain ⟨e1, e2, H1, H2, rfl, rfl, h3, h4⟩ := rdCells.of_append h2
    exact ⟨d1 ++ e1, e2, G1 ++ H1, H2, by simp, by simp, ⟨d1, e1, G1, H1, rfl, rfl, h1, h3⟩, h4⟩
/-- element k: its own cells, at its own place -/
theorem rdCells.get {w : World} {xs : List α} {cs : List Value} {F : List Nat} (h : rdCells w xs cs F) {k : Nat} (hk : k < xs.length) :
    ∃ ck Fk, rd w xs[k] ck Fk ∧ (∀ b ∈ Fk, b ∈ F) ∧ ∀ j, j < Dat.size α → cs[k * Dat.size α + j]? = ck[j]? := by
  have e : xs = xs.take k ++ (xs[k] :: xs.drop (k + 1)) := by rw [List.getElem_cons_drop, List.take_append_drop]
  rw [e] at h
  obtain ⟨c1, c2, F1, F2, rfl, rfl, h1, ck, c3, Fk, F3, rfl, rfl, h2, h3⟩ := rdCells.of_append h
  have hl := h1.len
  rw [List.length_take, Nat.min_eq_left (by omega)] at hl
  refine ⟨ck, Fk, h2, fun b hb => by simp [hb], fun j hj => ?_⟩
  rw [List.getElem?_append_right (by omega), List.getElem?_append_left (by have := Dat.len h2; omega)]
  congr 1; omega
end

theorem sz63 {s : ByteArray} (h : s.size ≤ maxLen) : (s.size : Int) ≤ 9223372036854775807 := by unfold maxLen at h; omega
theorem rdStr (w : World) (s : ByteArray) (h : (s.size : Int) ≤ 9223372036854775807) : rd w s [.string s] [] := ⟨rfl, rfl, by unfold maxLen; omega⟩
theorem rdInt (w : World) (n : Int) (h : I64 n) : rd w n [.int .i64 n] [] := ⟨rfl, rfl, h⟩
theorem rdBool (w : World) (b : Bool) : rd w b [.bool b] [] := ⟨rfl, rfl⟩
/-- a slice: its length is the list's; nil where A is none -/
instance {α : Type} [Dat α] : Dat (List α) where
  size := 1
  pos := by omega
  rd w xs cs F := ∃ A c G ds, cs = [.slice A xs.length c] ∧ xs.length ≤ c ∧ c ≤ maxLen ∧ rdCells w xs ds G ∧
    ((xs = [] ∧ F = []) ∨ ∃ b o, A = some ⟨b, o, none⟩ ∧ F = b :: G ∧ b < w.heap.size ∧ ∀ j u, ds[j]? = some u → w.cell? ⟨b, o + j, none⟩ = some u)
  len h := by obtain ⟨A, c, G, ds, rfl, _⟩ := h; rfl
  one h := by obtain ⟨A, c, G, ds, rfl, _⟩ := h; intro u hu; simp at hu; subst hu; rfl
  lt h := by
    obtain ⟨A, c, G, ds, rfl, _, _, hc, h | ⟨b, o, rfl, rfl, hb, _⟩⟩ := h
    · rw [h.2]; intro b hb; cases hb
    · intro x hx
      rcases List.mem_cons.1 hx with rfl | hx
      · exact hb
      · exact hc.lt x hx
  frame h hk hz := by
    obtain ⟨A, c, G, ds, rfl, h1, h2, hc, h | ⟨b, o, rfl, rfl, hb, hcell⟩⟩ := h
    · obtain ⟨rfl, rfl⟩ := h
      obtain ⟨rfl, rfl⟩ := hc
      exact ⟨A, c, [], [], rfl, h1, h2, ⟨rfl, rfl⟩, .inl ⟨rfl, rfl⟩⟩
    · refine ⟨_, c, G, ds, rfl, h1, h2, hc.frame (fun x hx => hk x (List.mem_cons_of_mem _ hx)) hz, .inr ⟨b, o, rfl, rfl, Nat.lt_of_lt_of_le hb hz, fun j u hu => ?_⟩⟩
      rw [← hcell j u hu]
      exact World.cell?_of_block (hk b (List.mem_cons_self ..))

/-- the slice value '.slice A n c' reads as xs -/
def Sl {α : Type} [Dat α] (w : World) (xs : List α) (A : Option Addr) (c : Nat) (F : List Nat) : Prop := rd w xs [.slice A xs.length c] F

section
variable {α : Type} [Dat α] {w w' : World} {xs : List α} {A : Option Addr} {c : Nat} {F : List Nat}
theorem rd_list {v : List Value} (h : rd w xs v F) : ∃ A c, v = [.slice A xs.length c] ∧ Sl w xs A c F := by
  have h0 := h
  obtain ⟨A, c, G, ds, rfl, _⟩ := h
  exact ⟨A, c, rfl, h0⟩
theorem Sl.lt (h : Sl w xs A c F) : ∀ b ∈ F, b < w.heap.size := Dat.lt h
theorem Sl.frame (h : Sl w xs A c F) (hk : ∀ b ∈ F, w'.heap[b]? = w.heap[b]?) (hz : w.heap.size ≤ w'.heap.size) : Sl w' xs A c F := Dat.frame h hk hz
theorem Sl.below {B : Nat} (h : Sl w xs A c F) (hb : Below B w w') (hB : ∀ b ∈ F, b < B) : Sl w' xs A c F := h.frame (fun b hb' => hb.block b (hB b hb')) hb.size
theorem Sl.ext (h : Sl w xs A c F) (hb : Below w.heap.size w w') : Sl w' xs A c F := h.below hb h.lt
theorem Sl.cap (h : Sl w xs A c F) : xs.length ≤ c ∧ c ≤ maxLen := by
  obtain ⟨A', c', G, ds, e, h1, h2, _⟩ := h
  simp at e
  obtain ⟨_, rfl⟩ := e
  exact ⟨h1, h2⟩
/-- element k of a slice: where its cells are -/
theorem Sl.get (h : Sl w xs A c F) {k : Nat} (hk : k < xs.length) :
    ∃ b o ck Fk, A = some ⟨b, o, none⟩ ∧ b ∈ F ∧ b < w.heap.size ∧ rd w xs[k] ck Fk ∧ (∀ x ∈ Fk, x ∈ F) ∧ ∀ j u, ck[j]? = some u → w.cell? ⟨b, o + (k * Dat.size α + j), none⟩ = some u := by
  obtain ⟨A', c', G, ds, e, _, _, hc, h | ⟨b, o, rfl, rfl, hb, hcell⟩⟩ := h
  · rw [h.1] at hk; cases hk
  · simp at e
    obtain ⟨rfl, rfl⟩ := e
    obtain ⟨ck, Fk, hr, hs, hj⟩ := hc.get hk
    refine ⟨b, o, ck, Fk, rfl, List.mem_cons_self .., hb, hr, fun x hx => List.mem_cons_of_mem _ (hs x hx), fun j u hu => hcell _ u ?_⟩
    rw [hj j (by rw [← Dat.len hr]; exact (List.getElem?_eq_some_iff.1 hu).1)]
    exact hu
theorem Sl.nil (w : World) (A : Option Addr) (c : Nat) (hc : c ≤ maxLen) : Sl w ([] : List α) A c [] := ⟨A, c, [], [], rfl, Nat.zero_le _, hc, ⟨rfl, rfl⟩, .inl ⟨rfl, rfl⟩⟩
end

/-! the program's data -/
structure Label where
  key : ByteArray
  value : ByteArray
instance : Dat Label := Dat.iso fun l => (l.key, l.value)
end Go.Proofs.YtjoclfenghenjaaGreat

namespace Go.Proofs.YtjoclfenghenjaaGreat
open Go.ChangeShapes Go.WideShapes Go.ChangeAt Go.RowKit
set_option linter.unusedVariables false
set_option linter.unusedSimpArgs false

theorem rd_Label {w : World} {x : Label} {cs : List Value} {F : List Nat} (h : rd w x cs F) : cs = [.string x.key, .string x.value] ∧ F = [] ∧ x.key.size ≤ maxLen ∧ x.value.size ≤ maxLen := by
  obtain ⟨_, _, _, _, rfl, rfl, ⟨rfl, rfl, hkey⟩, ⟨rfl, rfl, hvalue⟩⟩ := h
  exact ⟨rfl, by simp, hkey, hvalue⟩
theorem rd_Label_mk (w : World) (x : Label) (hkey : x.key.size ≤ maxLen) (hvalue : x.value.size ≤ maxLen) : rd w x [.string x.key, .string x.value] [] := ⟨_, _, _, _, rfl, rfl, ⟨rfl, rfl, hkey⟩, ⟨rfl, rfl, hvalue⟩⟩
structure Need where
  key : ByteArray
  op : Int
  values : List ByteArray
instance : Dat Need := Dat.iso fun x => (x.key, x.op, x.values)
theorem rd_Need {w : World} {x : Need} {cs : List Value} {F : List Nat} (h : rd w x cs F) : ∃ (Avalues : Option Addr) (cvalues : Nat) (Fvalues : List Nat), cs = [.string x.key, .int .i64 x.op, .slice Avalues x.values.length cvalues] ∧ F = Fvalues ∧ x.key.size ≤ maxLen ∧ I64 x.op ∧ Sl w x.values Avalues cvalues Fvalues := by
  obtain ⟨_, _, _, _, rfl, rfl, ⟨rfl, rfl, hkey⟩, _, _, _, _, rfl, rfl, ⟨rfl, rfl, hop⟩, hvalues⟩ := h
  obtain ⟨Avalues, cvalues, rfl, hvalues⟩ := rd_list hvalues
  exact ⟨Avalues, cvalues, _, rfl, by simp, hkey, hop, hvalues⟩
structure Taint where
  key : ByteArray
  value : ByteArray
  effect : Int
instance : Dat Taint := Dat.iso fun x => (x.key, x.value, x.effect)
theorem rd_Taint {w : World} {x : Taint} {cs : List Value} {F : List Nat} (h : rd w x cs F) : cs = [.string x.key, .string x.value, .int .i64 x.effect] ∧ F = [] ∧ x.key.size ≤ maxLen ∧ x.value.size ≤ maxLen ∧ I64 x.effect := by
  obtain ⟨_, _, _, _, rfl, rfl, ⟨rfl, rfl, hkey⟩, _, _, _, _, rfl, rfl, ⟨rfl, rfl, hvalue⟩, ⟨rfl, rfl, heffect⟩⟩ := h
  exact ⟨rfl, by simp, hkey, hvalue, heffect⟩
theorem rd_Taint_mk (w : World) (x : Taint) (hkey : x.key.size ≤ maxLen) (hvalue : x.value.size ≤ maxLen) (heffect : I64 x.effect) : rd w x [.string x.key, .string x.value, .int .i64 x.effect] [] := ⟨_, _, _, _, rfl, rfl, ⟨rfl, rfl, hkey⟩, _, _, _, _, rfl, rfl, ⟨rfl, rfl, hvalue⟩, ⟨rfl, rfl, heffect⟩⟩
structure Tolerance where
  key : ByteArray
  equal : Bool
  value : ByteArray
  effect : Int
instance : Dat Tolerance := Dat.iso fun x => (x.key, x.equal, x.value, x.effect)
theorem rd_Tolerance {w : World} {x : Tolerance} {cs : List Value} {F : List Nat} (h : rd w x cs F) : cs = [.string x.key, .bool x.equal, .string x.value, .int .i64 x.effect] ∧ F = [] ∧ x.key.size ≤ maxLen ∧ x.value.size ≤ maxLen ∧ I64 x.effect := by
  obtain ⟨_, _, _, _, rfl, rfl, ⟨rfl, rfl, hkey⟩, _, _, _, _, rfl, rfl, ⟨rfl, rfl⟩, _, _, _, _, rfl, rfl, ⟨rfl, rfl, hvalue⟩, ⟨rfl, rfl, heffect⟩⟩ := h
  exact ⟨rfl, by simp, hkey, hvalue, heffect⟩
theorem rd_Tolerance_mk (w : World) (x : Tolerance) (hkey : x.key.size ≤ maxLen) (hvalue : x.value.size ≤ maxLen) (heffect : I64 x.effect) : rd w x [.string x.key, .bool x.equal, .string x.value, .int .i64 x.effect] [] := ⟨_, _, _, _, rfl, rfl, ⟨rfl, rfl, hkey⟩, _, _, _, _, rfl, rfl, ⟨rfl, rfl⟩, _, _, _, _, rfl, rfl, ⟨rfl, rfl, hvalue⟩, ⟨rfl, rfl, heffect⟩⟩
structure Pod where
  name : ByteArray
  labels : List Label
  cpu : Int
  mem : Int
  rank : Int
  needs : List Need
  tolerances : List Tolerance
instance : Dat Pod := Dat.iso fun x => (x.name, x.labels, x.cpu, x.mem, x.rank, x.needs, x.tolerances)
theorem rd_Pod {w : World} {x : Pod} {cs : List Value} {F : List Nat} (h : rd w x cs F) : ∃ (Alabels : Option Addr) (clabels : Nat) (Flabels : List Nat) (Aneeds : Option Addr) (cneeds : Nat) (Fneeds : List Nat) (Atolerances : Option Addr) (ctolerances : Nat) (Ftolerances : List Nat), cs = [.string x.name, .slice Alabels x.labels.length clabels, .int .i64 x.cpu, .int .i64 x.mem, .int .i64 x.rank, .slice Aneeds x.needs.length cneeds, .slice Atolerances x.tolerances.length ctolerances] ∧ F = Flabels ++ (Fneeds ++ (Ftolerances)) ∧ x.name.size ≤ maxLen ∧ Sl w x.labels Alabels clabels Flabels ∧ I64 x.cpu ∧ I64 x.mem ∧ I64 x.rank ∧ Sl w x.needs Aneeds cneeds Fneeds ∧ Sl w x.tolerances Atolerances ctolerances Ftolerances := by
  obtain ⟨_, _, _, _, rfl, rfl, ⟨rfl, rfl, hname⟩, _, _, _, _, rfl, rfl, hlabels, _, _, _, _, rfl, rfl, ⟨rfl, rfl, hcpu⟩, _, _, _, _, rfl, rfl, ⟨rfl, rfl, hmem⟩, _, _, _, _, rfl, rfl, ⟨rfl, rfl, hrank⟩, _, _, _, _, rfl, rfl, hneeds, htolerances⟩ := h
  obtain ⟨Alabels, clabels, rfl, hlabels⟩ := rd_list hlabels
  obtain ⟨Aneeds, cneeds, rfl, hneeds⟩ := rd_list hneeds
  obtain ⟨Atolerances, ctolerances, rfl, htolerances⟩ := rd_list htolerances
  exact ⟨Alabels, clabels, _, Aneeds, cneeds, _, Atolerances, ctolerances, _, rfl, by simp, hname, hlabels, hcpu, hmem, hrank, hneeds, htolerances⟩
structure Host where
  name : ByteArray
  labels : List Label
  cpu : Int
  mem : Int
  slots : Int
  taints : List Taint
instance : Dat Host := Dat.iso fun x => (x.name, x.labels, x.cpu, x.mem, x.slots, x.taints)
theorem rd_Host {w : World} {x : Host} {cs : List Value} {F : List Nat} (h : rd w x cs F) : ∃ (Alabels : Option Addr) (clabels : Nat) (Flabels : List Nat) (Ataints : Option Addr) (ctaints : Nat) (Ftaints : List Nat), cs = [.string x.name, .slice Alabels x.labels.length clabels, .int .i64 x.cpu, .int .i64 x.mem, .int .i64 x.slots, .slice Ataints x.taints.length ctaints] ∧ F = Flabels ++ (Ftaints) ∧ x.name.size ≤ maxLen ∧ Sl w x.labels Alabels clabels Flabels ∧ I64 x.cpu ∧ I64 x.mem ∧ I64 x.slots ∧ Sl w x.taints Ataints ctaints Ftaints := by
  obtain ⟨_, _, _, _, rfl, rfl, ⟨rfl, rfl, hname⟩, _, _, _, _, rfl, rfl, hlabels, _, _, _, _, rfl, rfl, ⟨rfl, rfl, hcpu⟩, _, _, _, _, rfl, rfl, ⟨rfl, rfl, hmem⟩, _, _, _, _, rfl, rfl, ⟨rfl, rfl, hslots⟩, htaints⟩ := h
  obtain ⟨Alabels, clabels, rfl, hlabels⟩ := rd_list hlabels
  obtain ⟨Ataints, ctaints, rfl, htaints⟩ := rd_list htaints
  exact ⟨Alabels, clabels, _, Ataints, ctaints, _, rfl, by simp, hname, hlabels, hcpu, hmem, hslots, htaints⟩
structure Weights where
  pack : Int
  spread : Int
  soft : Int
instance : Dat Weights := Dat.iso fun x => (x.pack, x.spread, x.soft)
theorem rd_Weights {w : World} {x : Weights} {cs : List Value} {F : List Nat} (h : rd w x cs F) : cs = [.int .i64 x.pack, .int .i64 x.spread, .int .i64 x.soft] ∧ F = [] ∧ I64 x.pack ∧ I64 x.spread ∧ I64 x.soft := by
  obtain ⟨_, _, _, _, rfl, rfl, ⟨rfl, rfl, hpack⟩, _, _, _, _, rfl, rfl, ⟨rfl, rfl, hspread⟩, ⟨rfl, rfl, hsoft⟩⟩ := h
  exact ⟨rfl, by simp, hpack, hspread, hsoft⟩
theorem rd_Weights_mk (w : World) (x : Weights) (hpack : I64 x.pack) (hspread : I64 x.spread) (hsoft : I64 x.soft) : rd w x [.int .i64 x.pack, .int .i64 x.spread, .int .i64 x.soft] [] := ⟨_, _, _, _, rfl, rfl, ⟨rfl, rfl, hpack⟩, _, _, _, _, rfl, rfl, ⟨rfl, rfl, hspread⟩, ⟨rfl, rfl, hsoft⟩⟩
structure Placed where
  pod : Pod
  on : ByteArray
  seq : Int
instance : Dat Placed := Dat.iso fun x => (x.pod, x.on, x.seq)
theorem rd_Placed {w : World} {x : Placed} {cs : List Value} {F : List Nat} (h : rd w x cs F) : ∃ (Apodlabels : Option Addr) (cpodlabels : Nat) (Fpodlabels : List Nat) (Apodneeds : Option Addr) (cpodneeds : Nat) (Fpodneeds : List Nat) (Apodtolerances : Option Addr) (cpodtolerances : Nat) (Fpodtolerances : List Nat), cs = [.string x.pod.name, .slice Apodlabels x.pod.labels.length cpodlabels, .int .i64 x.pod.cpu, .int .i64 x.pod.mem, .int .i64 x.pod.rank, .slice Apodneeds x.pod.needs.length cpodneeds, .slice Apodtolerances x.pod.tolerances.length cpodtolerances, .string x.on, .int .i64 x.seq] ∧ F = Fpodlabels ++ (Fpodneeds ++ (Fpodtolerances)) ∧ x.pod.name.size ≤ maxLen ∧ Sl w x.pod.labels Apodlabels cpodlabels Fpodlabels ∧ I64 x.pod.cpu ∧ I64 x.pod.mem ∧ I64 x.pod.rank ∧ Sl w x.pod.needs Apodneeds cpodneeds Fpodneeds ∧ Sl w x.pod.tolerances Apodtolerances cpodtolerances Fpodtolerances ∧ x.on.size ≤ maxLen ∧ I64 x.seq := by
  obtain ⟨_, _, _, _, rfl, rfl, hpod, _, _, _, _, rfl, rfl, ⟨rfl, rfl, hon⟩, ⟨rfl, rfl, hseq⟩⟩ := h
  obtain ⟨Apodlabels, cpodlabels, Fpodlabels, Apodneeds, cpodneeds, Fpodneeds, Apodtolerances, cpodtolerances, Fpodtolerances, rfl, rfl, hpodname, hpodlabels, hpodcpu, hpodmem, hpodrank, hpodneeds, hpodtolerances⟩ := rd_Pod hpod
  exact ⟨Apodlabels, cpodlabels, _, Apodneeds, cpodneeds, _, Apodtolerances, cpodtolerances, _, rfl, by simp, hpodname, hpodlabels, hpodcpu, hpodmem, hpodrank, hpodneeds, hpodtolerances, hon, hseq⟩
structure Cluster where
  hosts : List Host
  pods : List Placed
  next : Int
  weights : Weights
instance : Dat Cluster := Dat.iso fun x => (x.hosts, x.pods, x.next, x.weights)
theorem rd_Cluster {w : World} {x : Cluster} {cs : List Value} {F : List Nat} (h : rd w x cs F) : ∃ (Ahosts : Option Addr) (chosts : Nat) (Fhosts : List Nat) (Apods : Option Addr) (cpods : Nat) (Fpods : List Nat), cs = [.slice Ahosts x.hosts.length chosts, .slice Apods x.pods.length cpods, .int .i64 x.next, .int .i64 x.weights.pack, .int .i64 x.weights.spread, .int .i64 x.weights.soft] ∧ F = Fhosts ++ (Fpods) ∧ Sl w x.hosts Ahosts chosts Fhosts ∧ Sl w x.pods Apods cpods Fpods ∧ I64 x.next ∧ I64 x.weights.pack ∧ I64 x.weights.spread ∧ I64 x.weights.soft := by
  obtain ⟨_, _, _, _, rfl, rfl, hhosts, _, _, _, _, rfl, rfl, hpods, _, _, _, _, rfl, rfl, ⟨rfl, rfl, hnext⟩, hweights⟩ := h
  obtain ⟨Ahosts, chosts, rfl, hhosts⟩ := rd_list hhosts
  obtain ⟨Apods, cpods, rfl, hpods⟩ := rd_list hpods
  obtain ⟨rfl, rfl, hweightspack, hweightsspread, hweightssoft⟩ := rd_Weights hweights
  exact ⟨Ahosts, chosts, _, Apods, cpods, _, rfl, by simp, hhosts, hpods, hnext, hweightspack, hweightsspread, hweightssoft⟩
structure Manifest where
  kind : Int
  pod : Pod
  host : Host
instance : Dat Manifest := Dat.iso fun x => (x.kind, x.pod, x.host)
theorem rd_Manifest {w : World} {x : Manifest} {cs : List Value} {F : List Nat} (h : rd w x cs F) : ∃ (Apodlabels : Option Addr) (cpodlabels : Nat) (Fpodlabels : List Nat) (Apodneeds : Option Addr) (cpodneeds : Nat) (Fpodneeds : List Nat) (Apodtolerances : Option Addr) (cpodtolerances : Nat) (Fpodtolerances : List Nat) (Ahostlabels : Option Addr) (chostlabels : Nat) (Fhostlabels : List Nat) (Ahosttaints : Option Addr) (chosttaints : Nat) (Fhosttaints : List Nat), cs = [.int .i64 x.kind, .string x.pod.name, .slice Apodlabels x.pod.labels.length cpodlabels, .int .i64 x.pod.cpu, .int .i64 x.pod.mem, .int .i64 x.pod.rank, .slice Apodneeds x.pod.needs.length cpodneeds, .slice Apodtolerances x.pod.tolerances.length cpodtolerances, .string x.host.name, .slice Ahostlabels x.host.labels.length chostlabels, .int .i64 x.host.cpu, .int .i64 x.host.mem, .int .i64 x.host.slots, .slice Ahosttaints x.host.taints.length chosttaints] ∧ F = Fpodlabels ++ (Fpodneeds ++ (Fpodtolerances ++ (Fhostlabels ++ (Fhosttaints)))) ∧ I64 x.kind ∧ x.pod.name.size ≤ maxLen ∧ Sl w x.pod.labels Apodlabels cpodlabels Fpodlabels ∧ I64 x.pod.cpu ∧ I64 x.pod.mem ∧ I64 x.pod.rank ∧ Sl w x.pod.needs Apodneeds cpodneeds Fpodneeds ∧ Sl w x.pod.tolerances Apodtolerances cpodtolerances Fpodtolerances ∧ x.host.name.size ≤ maxLen ∧ Sl w x.host.labels Ahostlabels chostlabels Fhostlabels ∧ I64 x.host.cpu ∧ I64 x.host.mem ∧ I64 x.host.slots ∧ Sl w x.host.taints Ahosttaints chosttaints Fhosttaints := by
  obtain ⟨_, _, _, _, rfl, rfl, ⟨rfl, rfl, hkind⟩, _, _, _, _, rfl, rfl, hpod, hhost⟩ := h
  obtain ⟨Apodlabels, cpodlabels, Fpodlabels, Apodneeds, cpodneeds, Fpodneeds, Apodtolerances, cpodtolerances, Fpodtolerances, rfl, rfl, hpodname, hpodlabels, hpodcpu, hpodmem, hpodrank, hpodneeds, hpodtolerances⟩ := rd_Pod hpod
  obtain ⟨Ahostlabels, chostlabels, Fhostlabels, Ahosttaints, chosttaints, Fhosttaints, rfl, rfl, hhostname, hhostlabels, hhostcpu, hhostmem, hhostslots, hhosttaints⟩ := rd_Host hhost
  exact ⟨Apodlabels, cpodlabels, _, Apodneeds, cpodneeds, _, Apodtolerances, cpodtolerances, _, Ahostlabels, chostlabels, _, Ahosttaints, chosttaints, _, rfl, by simp, hkind, hpodname, hpodlabels, hpodcpu, hpodmem, hpodrank, hpodneeds, hpodtolerances, hhostname, hhostlabels, hhostcpu, hhostmem, hhostslots, hhosttaints⟩
structure Fault where
  code : Int
  at_ : Int
  path : ByteArray
instance : Dat Fault := Dat.iso fun x => (x.code, x.at_, x.path)
theorem rd_Fault {w : World} {x : Fault} {cs : List Value} {F : List Nat} (h : rd w x cs F) : cs = [.int .i64 x.code, .int .i64 x.at_, .string x.path] ∧ F = [] ∧ I64 x.code ∧ I64 x.at_ ∧ x.path.size ≤ maxLen := by
  obtain ⟨_, _, _, _, rfl, rfl, ⟨rfl, rfl, hcode⟩, _, _, _, _, rfl, rfl, ⟨rfl, rfl, hat_⟩, ⟨rfl, rfl, hpath⟩⟩ := h
  exact ⟨rfl, by simp, hcode, hat_, hpath⟩
theorem rd_Fault_mk (w : World) (x : Fault) (hcode : I64 x.code) (hat_ : I64 x.at_) (hpath : x.path.size ≤ maxLen) : rd w x [.int .i64 x.code, .int .i64 x.at_, .string x.path] [] := ⟨_, _, _, _, rfl, rfl, ⟨rfl, rfl, hcode⟩, _, _, _, _, rfl, rfl, ⟨rfl, rfl, hat_⟩, ⟨rfl, rfl, hpath⟩⟩
end Go.Proofs.YtjoclfenghenjaaGreat
