/- slices.Sort then slices.Compact of texts is the insertion without doubles (plain Lean: NeedIn). No condition. -/
import Derived.Test.YtegekccoincicaaGreatDoorFrame
import Derived.Lib.SlicesCompact
namespace Go.Proofs.YtegekccoincicaaGreatDoor
open Go.Proofs
abbrev S8 := List UInt8
theorem compact_memL (d : Array S8) : ∀ (m : Nat), ∀ j, j < m → d[j]! ∈ Lib.compactUpTo d m
  | 0, j, h => absurd h (Nat.not_lt_zero _)
  | m + 1, j, h => by
    rw [Lib.compactUpTo_succ, List.mem_append]
    by_cases hj : j < m
    · exact Or.inl (compact_memL d m j hj)
    · obtain rfl : j = m := by omega
      by_cases hk : j = 0 ∨ d[j]! ≠ d[j - 1]!
      · exact Or.inr (by rw [show Lib.keeps d j = true from decide_eq_true hk]; simp)
      · have h1 : ¬ j = 0 := fun e => hk (Or.inl e)
        have h2 : d[j]! = d[j - 1]! := Classical.byContradiction fun e => hk (Or.inr e)
        exact Or.inl (by rw [h2]; exact compact_memL d j (j - 1) (by omega))
theorem arr_get (zs : List S8) {j : Nat} (h : j < zs.length) : zs.toArray[j]! = zs[j] := by simp [getElem!_pos, h]
theorem mem_compact_iff (zs : List S8) (x : S8) : x ∈ Lib.compact zs ↔ x ∈ zs := by
  constructor
  · intro h
    unfold Lib.compact Lib.compactUpTo at h
    rw [List.mem_map] at h
    obtain ⟨j, hj, rfl⟩ := h
    have hl := List.mem_range.1 (List.mem_filter.1 hj).1
    rw [arr_get zs hl]
    exact List.getElem_mem hl
  · intro h
    obtain ⟨j, hj, rfl⟩ := List.getElem_of_mem h
    have := compact_memL zs.toArray zs.length j hj
    rwa [arr_get zs hj] at this
theorem compact_strict (zs : List S8) (h : zs.Pairwise (· ≤ ·)) : (Lib.compact zs).Pairwise (· < ·) := by
  unfold Lib.compact Lib.compactUpTo
  rw [List.pairwise_map]
  have hp := (List.pairwise_lt_range (n := zs.length)).filter (Lib.keeps zs.toArray)
  refine List.Pairwise.imp_of_mem ?_ hp
  intro i j hi hj hij
  have hjl := List.mem_range.1 (List.mem_filter.1 hj).1
  have hk := of_decide_eq_true (List.mem_filter.1 hj).2
  rw [arr_get zs (by omega), arr_get zs hjl]
  have hne : zs[j] ≠ zs[j - 1] := by
    rcases hk with hk | hk
    · omega
    · rwa [arr_get zs hjl, arr_get zs (by omega)] at hk
  have hget := List.pairwise_iff_getElem.1 h
  have h1 : zs[j - 1] ≤ zs[j] := hget (j - 1) j (by omega) hjl (by omega)
  have h2 : zs[i] ≤ zs[j - 1] := by
    by_cases e : i = j - 1
    · subst e; exact List.le_refl _
    · exact hget i (j - 1) (by omega) (by omega) (by omega)
  have h3 : zs[j - 1] < zs[j] := by
    apply Classical.byContradiction
    intro hh
    exact hne (List.le_antisymm (List.not_lt.1 hh) h1)
  exact List.lt_of_le_of_lt h2 h3
theorem strict_eq : ∀ {a b : List S8}, a.Pairwise (· < ·) → b.Pairwise (· < ·) → (∀ x, x ∈ a ↔ x ∈ b) → a = b
  | [], [], _, _, _ => rfl
  | [], y :: b, _, _, h => absurd ((h y).2 (List.mem_cons_self ..)) (List.not_mem_nil)
  | x :: a, [], _, _, h => absurd ((h x).1 (List.mem_cons_self ..)) (List.not_mem_nil)
  | x :: a, y :: b, ha, hb, h => by
    rw [List.pairwise_cons] at ha hb
    have hxy : x = y := by
      rcases List.mem_cons.1 ((h x).1 (List.mem_cons_self ..)) with e | e
      · exact e
      · rcases List.mem_cons.1 ((h y).2 (List.mem_cons_self ..)) with e2 | e2
        · exact e2.symm
        · exact absurd (List.lt_trans (hb.1 x e) (ha.1 y e2)) (List.lt_irrefl _)
    subst hxy
    congr 1
    refine strict_eq ha.2 hb.2 fun z => ⟨fun hz => ?_, fun hz => ?_⟩
    · rcases List.mem_cons.1 ((h z).1 (List.mem_cons_of_mem _ hz)) with e | e
      · subst e; exact absurd (ha.1 z hz) (List.lt_irrefl _)
      · exact e
    · rcases List.mem_cons.1 ((h z).2 (List.mem_cons_of_mem _ hz)) with e | e
      · subst e; exact absurd (hb.1 z hz) (List.lt_irrefl _)
      · exact e
/-- a text into a row without doubles -/
def insUS (x : S8) : List S8 → List S8
  | [] => [x]
  | y :: r => if y < x then y :: insUS x r else if y = x then y :: r else x :: y :: r
theorem insUS_mem (x : S8) : ∀ (r : List S8) (z : S8), z ∈ insUS x r ↔ z = x ∨ z ∈ r
  | [], z => by simp [insUS]
  | y :: r, z => by
    unfold insUS
    split
    · rw [List.mem_cons, insUS_mem x r z, List.mem_cons]
      exact ⟨fun h => by rcases h with h | h | h <;> simp [h], fun h => by rcases h with h | h | h <;> simp [h]⟩
    · split
      · rename_i e; subst e; simp
      · simp
theorem insUS_strict (x : S8) : ∀ (r : List S8), r.Pairwise (· < ·) → (insUS x r).Pairwise (· < ·)
  | [], _ => by simp [insUS]
  | y :: r, h => by
    unfold insUS
    rw [List.pairwise_cons] at h
    split
    · rename_i hlt
      rw [List.pairwise_cons]
      refine ⟨fun z hz => ?_, insUS_strict x r h.2⟩
      rcases (insUS_mem x r z).1 hz with e | e
      · subst e; exact hlt
      · exact h.1 z e
    · split
      · rw [List.pairwise_cons]; exact h
      · rename_i h1 h2
        have h3 : x < y := by
          apply Classical.byContradiction
          intro hh
          exact h2 (List.le_antisymm (List.not_lt.1 hh) (List.not_lt.1 h1))
        rw [List.pairwise_cons, List.pairwise_cons]
        refine ⟨fun z hz => ?_, h⟩
        rcases List.mem_cons.1 hz with e | e
        · subst e; exact h3
        · exact List.lt_trans h3 (h.1 z e)
def valuesU (l : List S8) : List S8 := l.foldl (fun r x => insUS x r) []
theorem foldU (l : List S8) : ∀ (r : List S8), r.Pairwise (· < ·) → (l.foldl (fun r x => insUS x r) r).Pairwise (· < ·) ∧ ∀ z, z ∈ l.foldl (fun r x => insUS x r) r ↔ z ∈ l ∨ z ∈ r := by
  induction l with
  | nil => exact fun r h => ⟨h, fun z => by simp⟩
  | cons x l ih =>
    intro r h
    obtain ⟨h1, h2⟩ := ih (insUS x r) (insUS_strict x r h)
    refine ⟨h1, fun z => ?_⟩
    rw [List.foldl_cons, h2, insUS_mem, List.mem_cons]
    exact ⟨fun h => by rcases h with h | h | h <;> simp [h], fun h => by rcases h with (h | h) | h <;> simp [h]⟩
theorem sortU (l : List S8) : Lib.compact (l.mergeSort fun x y => decide (x ≤ y)) = valuesU l := by
  have hs : (l.mergeSort fun x y => decide (x ≤ y)).Pairwise (· ≤ ·) := by
    have := List.pairwise_mergeSort (le := fun x y : S8 => decide (x ≤ y)) (fun a b c h1 h2 => by simp only [decide_eq_true_eq] at *; exact List.le_trans h1 h2) (fun a b => by simp only [Bool.or_eq_true, decide_eq_true_eq]; exact List.le_total a b) l
    exact this.imp (fun h => of_decide_eq_true h)
  obtain ⟨h1, h2⟩ := foldU l [] List.Pairwise.nil
  refine strict_eq (compact_strict _ hs) h1 fun z => ?_
  rw [mem_compact_iff, List.mem_mergeSort]
  exact ((h2 z).trans (by simp)).symm
end Go.Proofs.YtegekccoincicaaGreatDoor
namespace Go.Proofs.YtegekccoincicaaGreatDoor
set_option linter.unusedVariables false
variable {β : Type}
/-- a total order -/
structure Tot (lt : β → β → Bool) : Prop where
  irr : ∀ x, lt x x = false
  trans : ∀ x y z, lt x y = true → lt y z = true → lt x z = true
  tri : ∀ x y, lt x y = false → lt y x = false → x = y
def Strict (lt : β → β → Bool) (l : List β) : Prop := l.Pairwise fun x y => lt x y = true
theorem Strict.eq {lt : β → β → Bool} (T : Tot lt) : ∀ {a b : List β}, Strict lt a → Strict lt b → (∀ x, x ∈ a ↔ x ∈ b) → a = b
  | [], [], _, _, _ => rfl
  | [], y :: b, _, _, h => absurd ((h y).2 (List.mem_cons_self ..)) (List.not_mem_nil)
  | x :: a, [], _, _, h => absurd ((h x).1 (List.mem_cons_self ..)) (List.not_mem_nil)
  | x :: a, y :: b, ha, hb, h => by
    unfold Strict at ha hb
    rw [List.pairwise_cons] at ha hb
    have no : ∀ {u : β} {l : List β}, (∀ z ∈ l, lt u z = true) → u ∉ l := fun hl hu => by have := hl _ hu; rw [T.irr] at this; cases this
    have hxy : x = y := by
      rcases List.mem_cons.1 ((h x).1 (List.mem_cons_self ..)) with e | e
      · exact e
      · rcases List.mem_cons.1 ((h y).2 (List.mem_cons_self ..)) with e2 | e2
        · exact e2.symm
        · have := T.trans _ _ _ (hb.1 x e) (ha.1 y e2); rw [T.irr] at this; cases this
    subst hxy
    congr 1
    refine Strict.eq T ha.2 hb.2 fun z => ⟨fun hz => ?_, fun hz => ?_⟩
    · rcases List.mem_cons.1 ((h z).1 (List.mem_cons_of_mem _ hz)) with e | e
      · subst e; exact absurd hz (no ha.1)
      · exact e
    · rcases List.mem_cons.1 ((h z).2 (List.mem_cons_of_mem _ hz)) with e | e
      · subst e; exact absurd hz (no hb.1)
      · exact e
/-- one into a row without doubles -/
def insU (lt : β → β → Bool) (x : β) : List β → List β
  | [] => [x]
  | y :: r => if lt y x then y :: insU lt x r else if lt x y then x :: y :: r else y :: r
theorem insU_mem {lt : β → β → Bool} (T : Tot lt) (x : β) : ∀ (r : List β) (z : β), z ∈ insU lt x r ↔ z = x ∨ z ∈ r
  | [], z => by simp [insU]
  | y :: r, z => by
    unfold insU
    split
    · rw [List.mem_cons, insU_mem T x r z, List.mem_cons]
      exact ⟨fun h => by rcases h with h | h | h <;> simp [h], fun h => by rcases h with h | h | h <;> simp [h]⟩
    · split
      · simp
      · rename_i h1 h2
        have e := T.tri x y (by simpa using h2) (by simpa using h1)
        subst e; simp
theorem insU_go {lt : β → β → Bool} {y : β} : ∀ (s1 s2 : List β), (∀ z ∈ s1, lt z y = true) → insU lt y (s1 ++ s2) = s1 ++ insU lt y s2
  | [], _, _ => rfl
  | z :: s1, s2, h => by
    rw [List.cons_append, insU, if_pos (h z (List.mem_cons_self ..)), insU_go s1 s2 fun z' hz => h z' (List.mem_cons_of_mem _ hz)]
    rfl
theorem insU_nil {lt : β → β → Bool} {y : β} (s1 : List β) (h : ∀ z ∈ s1, lt z y = true) : insU lt y (s1 ++ []) = s1 ++ y :: [] := by rw [insU_go s1 [] h]; rfl
theorem insU_cons {lt : β → β → Bool} {y z : β} (s1 s2 : List β) (h : ∀ z ∈ s1, lt z y = true) (h1 : lt z y = false) (h2 : lt y z = true) : insU lt y (s1 ++ z :: s2) = s1 ++ y :: z :: s2 := by
  rw [insU_go s1 _ h, insU, if_neg (by rw [h1]; simp), if_pos h2]
theorem insU_same {lt : β → β → Bool} {y z : β} (s1 s2 : List β) (h : ∀ z ∈ s1, lt z y = true) (h1 : lt z y = false) (h2 : lt y z = false) : insU lt y (s1 ++ z :: s2) = s1 ++ z :: s2 := by
  rw [insU_go s1 _ h, insU, if_neg (by rw [h1]; simp), if_neg (by rw [h2]; simp)]
/-- a row without doubles -/
def uniqL (lt : β → β → Bool) (acc : List β) : List β → List β
  | [] => acc
  | y :: r => uniqL lt (insU lt y acc) r
theorem uniqL_snoc (lt : β → β → Bool) (y : β) : ∀ (xs acc : List β), uniqL lt acc (xs ++ [y]) = insU lt y (uniqL lt acc xs)
  | [], _ => rfl
  | x :: xs, acc => uniqL_snoc lt y xs (insU lt x acc)
theorem uniqL_mem {lt : β → β → Bool} (T : Tot lt) (z : β) : ∀ (xs acc : List β), z ∈ uniqL lt acc xs ↔ z ∈ acc ∨ z ∈ xs
  | [], acc => by simp [uniqL]
  | x :: xs, acc => by
    unfold uniqL
    rw [uniqL_mem T z xs, insU_mem T, List.mem_cons]
    exact ⟨fun h => by rcases h with (h | h) | h <;> simp [h], fun h => by rcases h with h | h | h <;> simp [h]⟩
theorem insU_len (lt : β → β → Bool) (x : β) : ∀ (r : List β), (insU lt x r).length ≤ r.length + 1
  | [] => Nat.le_refl _
  | y :: r => by unfold insU; split; · simp [insU_len lt x r]
                 · split <;> simp
theorem uniqL_len (lt : β → β → Bool) : ∀ (xs acc : List β), (uniqL lt acc xs).length ≤ acc.length + xs.length
  | [], _ => by simp [uniqL]
  | x :: xs, acc => by have h1 := uniqL_len lt xs (insU lt x acc); have h2 := insU_len lt x acc; unfold uniqL; simp only [List.length_cons]; omega
/-- place p of a row is kept: it is the first, or another one than its neighbour ahead -/
def keepAt (ne : β → β → Bool) (D : List β) : Nat → Bool
  | 0 => true
  | q + 1 => match D[q]?, D[q + 1]? with | some x, some y => ne x y | _, _ => false
/-- of the first p: those that are kept -/
def kept (ne : β → β → Bool) (D : List β) : Nat → List β
  | 0 => []
  | p + 1 => if keepAt ne D p then kept ne D p ++ D[p]?.toList else kept ne D p
theorem kept_yes {ne : β → β → Bool} {D : List β} {p : Nat} {y : β} (hy : D[p]? = some y) (h : keepAt ne D p = true) : kept ne D (p + 1) = kept ne D p ++ [y] := by rw [kept, if_pos h, hy]; rfl
theorem kept_no {ne : β → β → Bool} {D : List β} {p : Nat} (h : keepAt ne D p = false) : kept ne D (p + 1) = kept ne D p := by rw [kept, if_neg (by rw [h]; simp)]
/-- a table that is being pressed together: p of its places are read, k are laid -/
structure Press (ne : β → β → Bool) (D : List β) (p k : Nat) (L : List β) : Prop where
  size : L.length = D.length
  at_ : k = (kept ne D p).length
  lt : k < p
  low : L.take k = kept ne D p
  high : ∀ j, p - 1 ≤ j → L[j]? = D[j]?
theorem Press.skip {ne : β → β → Bool} {D L : List β} {p k : Nat} (h : Press ne D p k L) (hn : keepAt ne D p = false) : Press ne D (p + 1) k L :=
  ⟨h.size, by rw [kept_no hn]; exact h.at_, Nat.lt_succ_of_lt h.lt, by rw [kept_no hn]; exact h.low, fun j hj => h.high j (by omega)⟩
theorem Press.keep {ne : β → β → Bool} {D L : List β} {p k : Nat} {y : β} (h : Press ne D p k L) (hy : D[p]? = some y) (hn : keepAt ne D p = true) : Press ne D (p + 1) (k + 1) (L.set k y) := by
  have hp := (List.getElem?_eq_some_iff.1 hy).1
  have h1 := h.lt
  have h2 := h.size
  refine ⟨by rw [List.length_set]; exact h.size, by rw [kept_yes hy hn, List.length_append, ← h.at_]; rfl, Nat.succ_lt_succ h.lt, ?_, fun j hj => ?_⟩
  · rw [kept_yes hy hn, ← h.low, List.take_add_one, List.take_set_of_le (Nat.le_refl k), List.getElem?_set_self (by omega)]
    rfl
  · rw [List.getElem?_set_ne (by omega)]
    exact h.high j (by omega)
end Go.Proofs.YtegekccoincicaaGreatDoor
