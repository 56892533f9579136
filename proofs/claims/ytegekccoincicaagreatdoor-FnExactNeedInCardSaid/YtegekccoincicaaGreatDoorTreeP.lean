/- What is read out of trees, in plain Lean. No condition. -/
import Derived.Test.YtegekccoincicaaGreatDoorTreeSz
import Derived.Test.YtegekccoincicaaGreatDoorByteLt
namespace Go.Proofs.YtegekccoincicaaGreatDoor
open Dat (rd)
open Go.ChangeShapes Go.WideShapes Go.ChangeAt Go.RowKit
set_option linter.unusedVariables false
set_option linter.unusedSimpArgs false

/-- the place of a key in a map -/
def keyAtR (t : Tree) (k : ByteArray) : Int := if t.kind = 6 then idxI (fun v : ByteArray => v.toList == k.toList) t.keys else -1
theorem keyAtR_lt (t : Tree) (k : ByteArray) : -1 ≤ keyAtR t k ∧ keyAtR t k < t.keys.length := by
  unfold keyAtR
  split
  · exact idxI_lt _
  · omega
/-- the kid of a key -/
def kidR (t : Tree) (k : ByteArray) : Option Tree := if keyAtR t k < 0 then none else if t.keys.length = t.kids.length then t.kids[(keyAtR t k).toNat]? else none
def Tree.zero : Tree := .mk 0 false 0 ⟨#[]⟩ [] []
theorem kidR_neg {t : Tree} {k : ByteArray} (h : keyAtR t k < 0) : kidR t k = none := by unfold kidR; rw [if_pos h]
theorem kidR_ne {t : Tree} {k : ByteArray} (h : t.keys.length ≠ t.kids.length) : kidR t k = none := by unfold kidR; rw [if_neg h]; split <;> rfl
theorem kidR_at {t : Tree} {k : ByteArray} {i : Nat} (h : keyAtR t k = i) (hl : t.keys.length = t.kids.length) (hi : i < t.kids.length) : kidR t k = some t.kids[i] := by
  unfold kidR
  rw [if_neg (by omega), if_pos hl, h, Int.toNat_natCast]
  exact List.getElem?_eq_getElem hi
theorem kidR_wt {t x : Tree} {k : ByteArray} (h : kidR t k = some x) : x.wt ≤ t.wt := by
  unfold kidR at h
  split at h
  · cases h
  · split at h
    · have h1 := wtL_mem (f := Tree.wt) (List.mem_of_getElem? h)
      have h2 := Tree.wt_eq t
      omega
    · cases h
def pathR (p k : ByteArray) : ByteArray := if p.size = 0 then k else p ++ ⟨#[46]⟩ ++ k
theorem pathR_size (p k : ByteArray) : (pathR p k).size ≤ p.size + 1 + k.size := by
  unfold pathR
  split
  · omega
  · rw [ByteArray.size_append, ByteArray.size_append]
    have : (⟨#[46]⟩ : ByteArray).size = 1 := rfl
    omega
/-- a fault; none -/
def fl (c : Int) (p : ByteArray) : Fault := ⟨c, 0, p⟩
def noF : Fault := ⟨0, 0, ⟨#[]⟩⟩
/-- the first of some keys that is not among others -/
def strayR (ks : List ByteArray) : List ByteArray → Option ByteArray
  | [] => none
  | k :: l => if hasR k ks = true then strayR ks l else some k
theorem strayR_all {ks : List ByteArray} : ∀ {l : List ByteArray}, (∀ k ∈ l, hasR k ks = true) → strayR ks l = none
  | [], _ => rfl
  | k :: l, h => by
    unfold strayR
    rw [if_pos (h k (List.mem_cons_self ..))]
    exact strayR_all fun x hx => h x (List.mem_cons_of_mem _ hx)
theorem strayR_at {ks : List ByteArray} : ∀ {l : List ByteArray} {i : Nat} (hi : i < l.length), (∀ k ∈ l.take i, hasR k ks = true) → hasR l[i] ks = false → strayR ks l = some l[i]
  | k :: l, 0, _, _, h => by
    have h : hasR k ks = false := h
    unfold strayR
    rw [h, if_neg (by simp)]
    rfl
  | k :: l, i + 1, hi, hb, h => by
    unfold strayR
    rw [if_pos (hb k (by simp))]
    exact strayR_at (l := l) (i := i) (by simpa using hi) (fun x hx => hb x (by simp [hx])) (by simpa using h)
def knownR (t : Tree) (p : ByteArray) (ks : List ByteArray) : Fault :=
  if t.kind = 6 then (match strayR ks t.keys with | some k => fl 13 (pathR p k) | none => noF) else fl 11 p
theorem knownR_some {t : Tree} {p : ByteArray} {ks : List ByteArray} {k : ByteArray} (h6 : t.kind = 6) (hs : strayR ks t.keys = some k) : knownR t p ks = fl 13 (pathR p k) := by unfold knownR; rw [if_pos h6, hs]
theorem knownR_none {t : Tree} {p : ByteArray} {ks : List ByteArray} (h6 : t.kind = 6) (hs : strayR ks t.keys = none) : knownR t p ks = noF := by unfold knownR; rw [if_pos h6, hs]
def textR (t : Tree) (p k : ByteArray) : ByteArray × Fault :=
  match kidR t k with
  | none => (⟨#[]⟩, fl 12 (pathR p k))
  | some x => if x.kind = 4 then (x.text, noF) else (⟨#[]⟩, fl 11 (pathR p k))
/-- a fault that may be handed on -/
def FOk (f : Fault) (n : Nat) : Prop := 0 ≤ f.code ∧ f.code ≤ 100 ∧ f.at_ = 0 ∧ f.path.size ≤ n
theorem fl_ok {c : Int} {p : ByteArray} {n : Nat} (h0 : 0 ≤ c) (h1 : c ≤ 100) (hp : p.size ≤ n) : FOk (fl c p) n := ⟨h0, h1, rfl, hp⟩
theorem noF_ok (n : Nat) : FOk noF n := ⟨by decide, by decide, rfl, Nat.zero_le _⟩
theorem strayR_mem {ks : List ByteArray} : ∀ {l : List ByteArray} {k : ByteArray}, strayR ks l = some k → k ∈ l
  | [], _, h => by cases h
  | x :: l, k, h => by
    unfold strayR at h
    split at h
    · exact List.mem_cons_of_mem _ (strayR_mem h)
    · cases h; exact List.mem_cons_self ..
theorem key_size {t : Tree} {k : ByteArray} (h : k ∈ t.keys) : k.size ≤ t.wt := by
  have h1 := wtL_mem (f := ByteArray.size) h
  have h2 := Tree.wt_eq t
  omega
theorem knownR_ok (t : Tree) (p : ByteArray) (ks : List ByteArray) : FOk (knownR t p ks) (p.size + 1 + t.wt) := by
  unfold knownR
  split
  · split
    · rename_i k hk
      have h1 := key_size (strayR_mem hk)
      have h2 := pathR_size p k
      exact fl_ok (by omega) (by omega) (by omega)
    · exact noF_ok _
  · exact fl_ok (by omega) (by omega) (by omega)
theorem textR_ok (t : Tree) (p k : ByteArray) : FOk (textR t p k).2 (p.size + 1 + k.size) ∧ (textR t p k).1.size ≤ t.wt := by
  have hp := pathR_size p k
  have h0 : (⟨#[]⟩ : ByteArray).size = 0 := rfl
  unfold textR
  split
  · exact ⟨fl_ok (by omega) (by omega) hp, by show (⟨#[]⟩ : ByteArray).size ≤ _; omega⟩
  · rename_i x hx
    have h1 := kidR_wt hx
    have h2 := Tree.wt_eq x
    split
    · exact ⟨noF_ok _, by show x.text.size ≤ _; omega⟩
    · exact ⟨fl_ok (by omega) (by omega) hp, by show (⟨#[]⟩ : ByteArray).size ≤ _; omega⟩
end Go.Proofs.YtegekccoincicaaGreatDoor
