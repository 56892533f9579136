/- Trees: data that holds lists of its own kind; how they read in a world. No condition. -/
import Derived.Test.YtegekccoincicaaGreatDoorData
namespace Go.Proofs.YtegekccoincicaaGreatDoor
open Dat (rd)
open Go.ChangeShapes Go.WideShapes Go.ChangeAt Go.RowKit
set_option linter.unusedVariables false
set_option linter.unusedSimpArgs false
inductive Tree where
  | mk (kind : Int) (flag : Bool) (num : Int) (text : ByteArray) (keys : List ByteArray) (kids : List Tree)
namespace Tree
def kind : Tree → Int | mk k _ _ _ _ _ => k
def flag : Tree → Bool | mk _ f _ _ _ _ => f
def num : Tree → Int | mk _ _ n _ _ _ => n
def text : Tree → ByteArray | mk _ _ _ t _ _ => t
def keys : Tree → List ByteArray | mk _ _ _ _ ks _ => ks
def kids : Tree → List Tree | mk _ _ _ _ _ ks => ks
theorem eta : ∀ x : Tree, mk x.kind x.flag x.num x.text x.keys x.kids = x | mk _ _ _ _ _ _ => rfl
theorem kid_lt (x : Tree) (k : Tree) (h : k ∈ x.kids) : SizeOf.sizeOf k < SizeOf.sizeOf x := by
  cases x with
  | mk a b c d e ks =>
    have h1 : k ∈ ks := h
    have := List.sizeOf_lt_of_mem h1
    simp only [mk.sizeOf_spec]
    omega
/-- a tree's fields, one behind the other -/
abbrev Fields := Int × Bool × Int × ByteArray × List ByteArray × List Tree
def fields (x : Tree) : Fields := (x.kind, x.flag, x.num, x.text, x.keys, x.kids)
end Tree
/-- how a tree of at most n levels reads -/
@[reducible] def datT : Nat → Dat Tree
  | 0 => { size := 6, pos := by omega, rd := fun _ _ _ _ => False, len := fun h => h.elim, one := fun h => h.elim, lt := fun h => h.elim, frame := fun h _ _ => h.elim }
  | n + 1 => letI := datT n; Dat.iso (α := Tree) (β := Int × Bool × Int × ByteArray × List ByteArray × List Tree) Tree.fields
theorem datT_size (n : Nat) : (datT n).size = 6 := by cases n <;> rfl
theorem rdCells_by {α : Type} (d e : Dat α) (h : ∀ {w : World} {x : α} {cs : List Value} {F : List Nat}, d.rd w x cs F → e.rd w x cs F) {w : World} : ∀ {xs : List α} {cs : List Value} {F : List Nat}, @rdCells α d w xs cs F → @rdCells α e w xs cs F
  | [], _, _, h0 => h0
  | x :: xs, _, _, ⟨c1, c2, F1, F2, e1, e2, h1, h2⟩ => ⟨c1, c2, F1, F2, e1, e2, h h1, rdCells_by d e h h2⟩
theorem rdList_by {α : Type} (d e : Dat α) (h : ∀ {w : World} {x : α} {cs : List Value} {F : List Nat}, d.rd w x cs F → e.rd w x cs F) {w : World} {xs : List α} {cs : List Value} {F : List Nat}
    (hr : (@instDatList α d).rd w xs cs F) : (@instDatList α e).rd w xs cs F := by
  obtain ⟨A, c, G, ds, h1, h2, h3, h4, h5⟩ := hr
  exact ⟨A, c, G, ds, h1, h2, h3, rdCells_by d e h h4, h5⟩
theorem rdFields_by (d e : Dat Tree) (h : ∀ {w : World} {x : Tree} {cs : List Value} {F : List Nat}, d.rd w x cs F → e.rd w x cs F) {w : World} {x : Tree.Fields} {cs : List Value} {F : List Nat}
    (hr : (letI := d; Dat.rd (α := Int × Bool × Int × ByteArray × List ByteArray × List Tree) w x cs F)) : (letI := e; Dat.rd (α := Int × Bool × Int × ByteArray × List ByteArray × List Tree) w x cs F) := by
  obtain ⟨a1, b1, A1, B1, e1, f1, h1, a2, b2, A2, B2, e2, f2, h2, a3, b3, A3, B3, e3, f3, h3, a4, b4, A4, B4, e4, f4, h4, a5, b5, A5, B5, e5, f5, h5, h6⟩ := hr
  exact ⟨a1, b1, A1, B1, e1, f1, h1, a2, b2, A2, B2, e2, f2, h2, a3, b3, A3, B3, e3, f3, h3, a4, b4, A4, B4, e4, f4, h4, a5, b5, A5, B5, e5, f5, h5, rdList_by d e h h6⟩
theorem datT_up : ∀ (n : Nat) {w : World} {x : Tree} {cs : List Value} {F : List Nat}, (datT n).rd w x cs F → (datT (n + 1)).rd w x cs F
  | 0, _, _, _, _, h => h.elim
  | n + 1, _, _, _, _, h => rdFields_by (datT n) (datT (n + 1)) (fun h => datT_up n h) h
theorem datT_le {n m : Nat} (hnm : n ≤ m) {w : World} {x : Tree} {cs : List Value} {F : List Nat} (h : (datT n).rd w x cs F) : (datT m).rd w x cs F := by
  induction hnm with
  | refl => exact h
  | step _ ih => exact datT_up _ ih
instance : Dat Tree where
  size := 6
  pos := by omega
  rd w x cs F := ∃ n, (datT n).rd w x cs F
  len h := by obtain ⟨n, h⟩ := h; rw [(datT n).len h, datT_size]
  one h := by obtain ⟨n, h⟩ := h; exact (datT n).one h
  lt h := by obtain ⟨n, h⟩ := h; exact (datT n).lt h
  frame h hk hz := by obtain ⟨n, h⟩ := h; exact ⟨n, (datT n).frame h hk hz⟩
theorem rdTrees_of {w : World} : ∀ {xs : List Tree} {cs : List Value} {F : List Nat}, rdCells w xs cs F → ∃ n, @rdCells Tree (datT n) w xs cs F
  | [], _, _, h => ⟨0, h⟩
  | x :: xs, _, _, ⟨c1, c2, F1, F2, e1, e2, ⟨n, h1⟩, h2⟩ => by
    obtain ⟨m, h3⟩ := rdTrees_of h2
    exact ⟨max n m, c1, c2, F1, F2, e1, e2, datT_le (Nat.le_max_left ..) h1, rdCells_by (datT m) (datT (max n m)) (datT_le (Nat.le_max_right ..)) h3⟩
/-- a tree reads as its fields do -/
theorem rd_tree {w : World} {x : Tree} {cs : List Value} {F : List Nat} (h : rd w x cs F) : rd w x.fields cs F := by
  obtain ⟨n, h⟩ := h
  cases n with
  | zero => exact h.elim
  | succ n => exact rdFields_by (datT n) inferInstance (fun h => ⟨n, h⟩) h
theorem rd_tree_mk {w : World} {x : Tree} {cs : List Value} {F : List Nat} (h : rd w x.fields cs F) : rd w x cs F := by
  obtain ⟨a1, b1, A1, B1, e1, f1, h1, a2, b2, A2, B2, e2, f2, h2, a3, b3, A3, B3, e3, f3, h3, a4, b4, A4, B4, e4, f4, h4, a5, b5, A5, B5, e5, f5, h5, A, c, G, ds, g1, g2, g3, g4, g5⟩ := h
  obtain ⟨n, g4⟩ := rdTrees_of g4
  exact ⟨n + 1, a1, b1, A1, B1, e1, f1, h1, a2, b2, A2, B2, e2, f2, h2, a3, b3, A3, B3, e3, f3, h3, a4, b4, A4, B4, e4, f4, h4, a5, b5, A5, B5, e5, f5, h5, A, c, G, ds, g1, g2, g3, g4, g5⟩
end Go.Proofs.YtegekccoincicaaGreatDoor
