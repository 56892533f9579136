/- A stable sort in plain Lean: insertion, merging of two runs, runs of a size; what the library's stable sort computes. No condition. -/
import Derived.Test.YtjoclfenghenjaaGreatBase0
import Derived.Test.YtjoclfenghenjaaGreatDelP
import Derived.Deep.RegionLaw
import Derived.Deep.RegionWith
namespace Go.Proofs.YtjoclfenghenjaaGreat
set_option linter.unusedVariables false
set_option linter.unusedSimpArgs false
section
variable {β : Type} (lt : β → β → Bool)
/-- y goes ahead of what is greater, behind what is alike -/
def insB (y : β) : List β → List β
  | [] => [y]
  | x :: xs => if lt y x then y :: x :: xs else x :: insB y xs
def sortB : List β → List β → List β
  | acc, [] => acc
  | acc, y :: ys => sortB (insB lt y acc) ys
/-- the stable merge: what comes from the right goes ahead only of what is greater -/
def mergeB : List β → List β → List β
  | [], r => r
  | l, [] => l
  | x :: l, y :: r => if lt y x then y :: mergeB (x :: l) r else x :: mergeB l (y :: r)
termination_by l r => l.length + r.length
/-- lt is a strict weak order -/
structure Weak : Prop where
  irr : ∀ x, lt x x = false
  tr : ∀ x y z, lt x y = true → lt y z = true → lt x z = true
  neg : ∀ x y z, lt x y = false → lt y z = false → lt x z = false
def Sorted (l : List β) : Prop := l.Pairwise fun x y => lt y x = false
variable {lt}
theorem Weak.asym (W : Weak lt) {x y : β} (h : lt x y = true) : lt y x = false := by
  cases h2 : lt y x
  · rfl
  · have := W.tr x y x h h2; rw [W.irr] at this; cases this
/-- x before y, y not behind z: x before z -/
theorem Weak.left (W : Weak lt) {x y z : β} (h : lt x y = true) (h2 : lt z y = false) : lt x z = true := by
  cases h3 : lt x z
  · have := W.neg x z y h3 h2; rw [this] at h; cases h
  · rfl
theorem Weak.right (W : Weak lt) {x y z : β} (h : lt y x = false) (h2 : lt y z = true) : lt x z = true := by
  cases h3 : lt x z
  · have := W.neg y x z h h3; rw [this] at h2; cases h2
  · rfl
theorem mergeB_nil_left (r : List β) : mergeB lt [] r = r := by unfold mergeB; rfl
theorem mergeB_nil_right (l : List β) : mergeB lt l [] = l := by
  cases l with
  | nil => exact mergeB_nil_left []
  | cons x l => unfold mergeB; rfl
theorem mergeB_cons (x y : β) (l r : List β) : mergeB lt (x :: l) (y :: r) = if lt y x then y :: mergeB lt (x :: l) r else x :: mergeB lt l (y :: r) := by
  conv => lhs; unfold mergeB
theorem mergeB_len : ∀ (l r : List β), (mergeB lt l r).length = l.length + r.length
  | [], r => by rw [mergeB_nil_left]; simp
  | x :: l, [] => by rw [mergeB_nil_right]; simp
  | x :: l, y :: r => by
    rw [mergeB_cons]
    split
    · rw [List.length_cons, mergeB_len (x :: l) r]; simp only [List.length_cons]; omega
    · rw [List.length_cons, mergeB_len l (y :: r)]; simp only [List.length_cons]; omega
termination_by l r => l.length + r.length
/-- all of r1 goes ahead of l2, none of r2 ahead of l1: the merge falls apart -/
theorem mergeB_split : ∀ (l1 r1 : List β) (l2 r2 : List β), (∀ y ∈ r1, ∀ x ∈ l2, lt y x = true) → (∀ y ∈ r2, ∀ x ∈ l1, lt y x = false) → mergeB lt (l1 ++ l2) (r1 ++ r2) = mergeB lt l1 r1 ++ mergeB lt l2 r2
  | [], [], l2, r2, _, _ => by simp [mergeB_nil_left]
  | [], y :: r1, l2, r2, h1, h2 => by
    have ih := mergeB_split [] r1 l2 r2 (fun z hz => h1 z (List.mem_cons_of_mem _ hz)) (fun _ _ _ hx => by cases hx)
    rw [mergeB_nil_left] at ih ⊢
    cases l2 with
    | nil => simp only [List.append_nil, mergeB_nil_left]
    | cons x l2 =>
      simp only [List.nil_append, List.cons_append] at ih ⊢
      rw [mergeB_cons, if_pos (h1 y (List.mem_cons_self ..) x (List.mem_cons_self ..)), ih]
  | x :: l1, [], l2, r2, h1, h2 => by
    have ih := mergeB_split l1 [] l2 r2 (fun _ hz => by cases hz) (fun y hy z hz => h2 y hy z (List.mem_cons_of_mem _ hz))
    rw [mergeB_nil_right] at ih ⊢
    cases r2 with
    | nil => simp only [List.append_nil, mergeB_nil_right]
    | cons y r2 =>
      simp only [List.nil_append, List.cons_append] at ih ⊢
      rw [mergeB_cons, if_neg (by rw [h2 y (List.mem_cons_self ..) x (List.mem_cons_self ..)]; simp), ih]
  | x :: l1, y :: r1, l2, r2, h1, h2 => by
    simp only [List.cons_append]
    rw [mergeB_cons, mergeB_cons]
    split
    · have ih := mergeB_split (x :: l1) r1 l2 r2 (fun z hz => h1 z (List.mem_cons_of_mem _ hz)) h2
      simp only [List.cons_append] at ih
      rw [ih, List.cons_append]
    · have ih := mergeB_split l1 (y :: r1) l2 r2 h1 (fun z hz w hw => h2 z hz w (List.mem_cons_of_mem _ hw))
      simp only [List.cons_append] at ih
      rw [ih, List.cons_append]
termination_by l1 r1 => l1.length + r1.length
/-- one element on the left -/
theorem mergeB_one_left {x : β} {r1 r2 : List β} (h1 : ∀ y ∈ r1, lt y x = true) (h2 : ∀ y ∈ r2, lt y x = false) : mergeB lt [x] (r1 ++ r2) = r1 ++ x :: r2 := by
  have h := mergeB_split (lt := lt) [] r1 [x] r2 (fun y hy z hz => by rw [List.mem_singleton.1 hz]; exact h1 y hy) (fun _ _ _ hz => by cases hz)
  rw [List.nil_append, mergeB_nil_left] at h
  rw [h]
  congr 1
  cases r2 with
  | nil => exact mergeB_nil_right _
  | cons y r2 => rw [mergeB_cons, if_neg (by rw [h2 y (List.mem_cons_self ..)]; simp), mergeB_nil_left]
/-- one element on the right -/
theorem mergeB_one_right {y : β} {l1 l2 : List β} (h1 : ∀ x ∈ l1, lt y x = false) (h2 : ∀ x ∈ l2, lt y x = true) : mergeB lt (l1 ++ l2) [y] = l1 ++ y :: l2 := by
  have h := mergeB_split (lt := lt) l1 [] l2 [y] (fun _ hz => by cases hz) (fun z hz x hx => by rw [List.mem_singleton.1 hz]; exact h1 x hx)
  rw [List.nil_append, mergeB_nil_right] at h
  rw [h]
  congr 1
  cases l2 with
  | nil => exact mergeB_nil_left _
  | cons x l2 => rw [mergeB_cons, if_pos (h2 x (List.mem_cons_self ..)), mergeB_nil_right]
/-- insertion is a merge with one element on the right, where the list is sorted -/
theorem insB_eq_merge (y : β) : ∀ l : List β, insB lt y l = mergeB lt l [y]
  | [] => by rw [mergeB_nil_left]; rfl
  | x :: l => by
    rw [insB, mergeB_cons]
    split
    · rw [mergeB_nil_right]
    · rw [insB_eq_merge y l]
theorem mem_mergeB {z : β} : ∀ {l r : List β}, z ∈ mergeB lt l r → z ∈ l ∨ z ∈ r
  | [], r, h => by rw [mergeB_nil_left] at h; exact .inr h
  | x :: l, [], h => by rw [mergeB_nil_right] at h; exact .inl h
  | x :: l, y :: r, h => by
    rw [mergeB_cons] at h
    split at h
    · rcases List.mem_cons.1 h with rfl | h
      · exact .inr (List.mem_cons_self ..)
      · rcases mem_mergeB h with h | h
        · exact .inl h
        · exact .inr (List.mem_cons_of_mem _ h)
    · rcases List.mem_cons.1 h with rfl | h
      · exact .inl (List.mem_cons_self ..)
      · rcases mem_mergeB h with h | h
        · exact .inl (List.mem_cons_of_mem _ h)
        · exact .inr h
termination_by l r => l.length + r.length
theorem mergeB_sorted (W : Weak lt) : ∀ {l r : List β}, Sorted lt l → Sorted lt r → Sorted lt (mergeB lt l r)
  | [], r, _, h => by rw [mergeB_nil_left]; exact h
  | x :: l, [], h, _ => by rw [mergeB_nil_right]; exact h
  | x :: l, y :: r, hl, hr => by
    have hl' := List.pairwise_cons.1 hl
    have hr' := List.pairwise_cons.1 hr
    rw [mergeB_cons]
    split
    · rename_i h
      refine List.pairwise_cons.2 ⟨fun z hz => ?_, mergeB_sorted W hl hr'.2⟩
      rcases mem_mergeB hz with hz | hz
      · rcases List.mem_cons.1 hz with rfl | hz
        · exact W.asym h
        · exact W.neg z x y (hl'.1 z hz) (W.asym h)
      · exact hr'.1 z hz
    · rename_i h
      have h : lt y x = false := by simpa using h
      refine List.pairwise_cons.2 ⟨fun z hz => ?_, mergeB_sorted W hl'.2 hr⟩
      rcases mem_mergeB hz with hz | hz
      · exact hl'.1 z hz
      · rcases List.mem_cons.1 hz with rfl | hz
        · exact h
        · exact W.neg z y x (hr'.1 z hz) h
termination_by l r => l.length + r.length
/-- merging is associative -/
theorem mergeB_assoc (W : Weak lt) : ∀ (a b c : List β), mergeB lt (mergeB lt a b) c = mergeB lt a (mergeB lt b c)
  | [], b, c => by simp only [mergeB_nil_left]
  | a, [], c => by simp only [mergeB_nil_left, mergeB_nil_right]
  | a, b, [] => by simp only [mergeB_nil_right]
  | x :: a, y :: b, z :: c => by
    rw [mergeB_cons x y, mergeB_cons y z]
    by_cases h1 : lt y x = true
    · rw [if_pos h1]
      by_cases h2 : lt z y = true
      · rw [if_pos h2, mergeB_cons y z, if_pos h2, mergeB_cons x z, if_pos (W.tr z y x h2 h1), ← mergeB_assoc W (x :: a) (y :: b) c, mergeB_cons x y, if_pos h1]
      · rw [if_neg h2, mergeB_cons y z, if_neg h2, mergeB_cons x y, if_pos h1, mergeB_assoc W (x :: a) b (z :: c)]
    · rw [if_neg h1]
      by_cases h2 : lt z y = true
      · rw [if_pos h2]
        by_cases h3 : lt z x = true
        · rw [mergeB_cons x z, if_pos h3, mergeB_cons x z, if_pos h3, ← mergeB_assoc W (x :: a) (y :: b) c, mergeB_cons x y, if_neg h1]
        · rw [mergeB_cons x z, if_neg h3, mergeB_cons x z, if_neg h3, mergeB_assoc W a (y :: b) (z :: c), mergeB_cons y z, if_pos h2]
      · have h3 : ¬ lt z x = true := by
          have e1 : lt z y = false := by simpa using h2
          have e2 : lt y x = false := by simpa using h1
          rw [W.neg z y x e1 e2]; simp
        rw [if_neg h2, mergeB_cons x z, if_neg h3, mergeB_cons x y, if_neg h1, mergeB_assoc W a (y :: b) (z :: c), mergeB_cons y z, if_neg h2]
termination_by a b c => a.length + b.length + c.length
theorem sortB_eq : ∀ (ys acc : List β), sortB lt acc ys = ys.foldl (fun l y => mergeB lt l [y]) acc
  | [], _ => rfl
  | y :: ys, acc => by rw [sortB, insB_eq_merge, sortB_eq ys]; rfl
theorem sortB_merge (W : Weak lt) : ∀ (ys acc : List β), sortB lt acc ys = mergeB lt acc (sortB lt [] ys)
  | [], acc => by rw [sortB, sortB, mergeB_nil_right]
  | y :: ys, acc => by
    rw [sortB, sortB, sortB_merge W ys (insB lt y acc), sortB_merge W ys (insB lt y []), insB_eq_merge, insB_eq_merge, mergeB_nil_left, mergeB_assoc W]
/-- sorting what stands one behind the other: sort both, merge -/
theorem sortB_append (W : Weak lt) (xs ys : List β) : sortB lt [] (xs ++ ys) = mergeB lt (sortB lt [] xs) (sortB lt [] ys) := by
  rw [← sortB_merge W, sortB_eq, sortB_eq, sortB_eq, List.foldl_append]
theorem sortB_sorted (W : Weak lt) : ∀ (ys acc : List β), Sorted lt acc → Sorted lt (sortB lt acc ys)
  | [], _, h => h
  | y :: ys, acc, h => by
    rw [sortB]
    refine sortB_sorted W ys _ ?_
    rw [insB_eq_merge]
    exact mergeB_sorted W h (List.pairwise_singleton _ _)
theorem sortB_len : ∀ (ys acc : List β), (sortB lt acc ys).length = acc.length + ys.length
  | [], _ => rfl
  | y :: ys, acc => by rw [sortB, sortB_len ys, insB_eq_merge, mergeB_len]; simp only [List.length_cons, List.length_nil]; omega
/-- the first of each run and the last of the other decide -/
theorem sym_split (W : Weak lt) {l1 l2 r1 r2 : List β} (hl : Sorted lt (l1 ++ l2)) (hr : Sorted lt (r1 ++ r2)) (h1 : r1 = [] ∨ l2 = [] ∨ ∃ r1' y x l2', r1 = r1' ++ [y] ∧ l2 = x :: l2' ∧ lt y x = true)
    (h2 : l1 = [] ∨ r2 = [] ∨ ∃ l1' x y r2', l1 = l1' ++ [x] ∧ r2 = y :: r2' ∧ lt y x = false) : mergeB lt (l1 ++ l2) (r1 ++ r2) = mergeB lt l1 r1 ++ mergeB lt l2 r2 := by
  refine mergeB_split l1 r1 l2 r2 (fun y hy x hx => ?_) (fun y hy x hx => ?_)
  · rcases h1 with rfl | rfl | ⟨r1', y0, x0, l2', rfl, rfl, h⟩
    · cases hy
    · cases hx
    · have a : lt y0 y = false := by
        rcases List.mem_append.1 hy with hy | hy
        · have := (List.pairwise_append.1 (List.pairwise_append.1 hr).1).2.2 y hy y0 (List.mem_singleton.2 rfl); exact this
        · rw [List.mem_singleton.1 hy, W.irr]
      have b : lt x x0 = false := by
        rcases List.mem_cons.1 hx with rfl | hx
        · exact W.irr x
        · exact (List.pairwise_cons.1 (List.pairwise_append.1 hl).2.1).1 x hx
      exact W.left (W.right a h) b
  · rcases h2 with rfl | rfl | ⟨l1', x0, y0, r2', rfl, rfl, h⟩
    · cases hx
    · cases hy
    · have a : lt x0 x = false := by
        rcases List.mem_append.1 hx with hx | hx
        · exact (List.pairwise_append.1 (List.pairwise_append.1 hl).1).2.2 x hx x0 (List.mem_singleton.2 rfl)
        · rw [List.mem_singleton.1 hx, W.irr]
      have b : lt y y0 = false := by
        rcases List.mem_cons.1 hy with rfl | hy
        · exact W.irr y
        · exact (List.pairwise_cons.1 (List.pairwise_append.1 hr).2.1).1 y hy
      exact W.neg y x0 x (W.neg y y0 x0 b h) a
/-- sorted runs of s elements each, one behind the other -/
def runs (lt : β → β → Bool) (s : Nat) (xs : List β) : List β := if h : xs.length ≤ s ∨ s = 0 then sortB lt [] xs else sortB lt [] (xs.take s) ++ runs lt s (xs.drop s)
termination_by xs.length
decreasing_by rw [List.length_drop]; omega
theorem runs_short {s : Nat} {xs : List β} (h : xs.length ≤ s) : runs lt s xs = sortB lt [] xs := by unfold runs; rw [dif_pos (.inl h)]
theorem runs_nil (s : Nat) : runs lt s ([] : List β) = [] := by rw [runs_short (Nat.zero_le _)]; rfl
theorem runs_step {s : Nat} (hs : 0 < s) (xs : List β) : runs lt s xs = sortB lt [] (xs.take s) ++ runs lt s (xs.drop s) := by
  by_cases h : xs.length ≤ s
  · rw [List.take_of_length_le h, List.drop_of_length_le h, runs_nil, List.append_nil, runs_short h]
  · conv => lhs; unfold runs
    rw [dif_neg (by omega)]
/-- two runs and what follows, merged: one run of twice the size -/
theorem runs_two (W : Weak lt) {s : Nat} (hs : 0 < s) (ys : List β) : runs lt s ys = sortB lt [] (ys.take s) ++ (sortB lt [] ((ys.drop s).take s) ++ runs lt s (ys.drop (2 * s))) ∧
    mergeB lt (sortB lt [] (ys.take s)) (sortB lt [] ((ys.drop s).take s)) = sortB lt [] (ys.take (2 * s)) := by
  constructor
  · rw [runs_step hs ys, runs_step hs (ys.drop s), List.drop_drop, show s + s = 2 * s by omega]
  · rw [← sortB_append W]
    congr 1
    rw [show 2 * s = s + s by omega, List.take_add]
theorem runs_tail (W : Weak lt) {s : Nat} (hs : 0 < s) {ys : List β} (h1 : s < ys.length) (h2 : ys.length ≤ 2 * s) : runs lt s ys = sortB lt [] (ys.take s) ++ sortB lt [] (ys.drop s) ∧
    mergeB lt (sortB lt [] (ys.take s)) (sortB lt [] (ys.drop s)) = runs lt (2 * s) ys := by
  constructor
  · rw [runs_step hs ys, runs_short (xs := ys.drop s) (by rw [List.length_drop]; omega)]
  · rw [← sortB_append W, List.take_append_drop, runs_short (s := 2 * s) h2]
/-- where the element that moves left stops, it is inserted -/
theorem ins_at (W : Weak lt) {y : β} {s1 s2 : List β} (hs : Sorted lt (s1 ++ s2)) (h2 : ∀ x ∈ s2, lt y x = true) (h1 : s1 = [] ∨ ∃ s' x, s1 = s' ++ [x] ∧ lt y x = false) : insB lt y (s1 ++ s2) = s1 ++ y :: s2 := by
  rw [insB_eq_merge]
  refine mergeB_one_right (fun x hx => ?_) h2
  rcases h1 with rfl | ⟨s', x0, rfl, h⟩
  · cases hx
  · rcases List.mem_append.1 hx with hx | hx
    · exact W.neg y x0 x h ((List.pairwise_append.1 (List.pairwise_append.1 hs).1).2.2 x hx x0 (List.mem_singleton.2 rfl))
    · rw [List.mem_singleton.1 hx]; exact h
theorem sortB_snoc (xs : List β) (y : β) : sortB lt [] (xs ++ [y]) = insB lt y (sortB lt [] xs) := by
  rw [sortB_eq, sortB_eq, List.foldl_append, insB_eq_merge]
  rfl
end
end Go.Proofs.YtjoclfenghenjaaGreat

namespace Go.Proofs.YtjoclfenghenjaaGreat
open Go.ChangeShapes Go.WideShapes Go.ChangeAt Go.RowKit
set_option linter.unusedVariables false
set_option linter.unusedSimpArgs false
section
variable {β : Type} {row : β → List Value} {S : Nat}
/-- block b holds, from o on, the rows of D, each of S cells -/
def Tab (row : β → List Value) (S : Nat) (w : World) (b o : Nat) (D : List β) : Prop := ∀ k x, D[k]? = some x → ∀ j u, (row x)[j]? = some u → w.cell? ⟨b, o + k * S + j, none⟩ = some u
theorem Tab.put {w : World} {b o : Nat} {D : List β} (h : Tab row S w b o D) (hS : ∀ x, (row x).length = S) {i : Nat} (hi : i < D.length) (y : β) : Tab row S (w.setCells b (o + i * S) (row y)) b o (D.set i y) := by
  intro k x hk j u hj
  have hj2 : j < S := by rw [← hS x]; exact (List.getElem?_eq_some_iff.1 hj).1
  have hex : ∀ q, q < (row y).length → (w.cell? ⟨b, o + i * S + q, none⟩).isSome = true := fun q hq => by
    rw [hS] at hq
    have hx := h i D[i] (List.getElem?_eq_getElem hi) q ((row D[i])[q]'(by rw [hS]; exact hq)) (List.getElem?_eq_getElem _)
    rw [hx]; rfl
  by_cases hik : i = k
  · subst hik
    rw [List.getElem?_set_self hi] at hk
    obtain rfl := Option.some.inj hk
    have := World.cell?_setCells_in b (row y) (o + i * S) w hex j (by rw [hS]; exact hj2)
    rw [this, ← hj]
    exact (List.getElem?_eq_getElem _).symm
  · rw [List.getElem?_set_ne hik] at hk
    rw [World.cell?_setCells_out b _ _ _ _ (fun _ _ => ?_)]
    · exact h k x hk j u hj
    · dsimp only
      rw [hS]
      rcases Nat.lt_or_gt_of_ne hik with h1 | h1
      · right
        have : (i + 1) * S ≤ k * S := Nat.mul_le_mul_right _ h1
        rw [Nat.succ_mul] at this
        omega
      · left
        have : (k + 1) * S ≤ i * S := Nat.mul_le_mul_right _ h1
        rw [Nat.succ_mul] at this
        omega
theorem Tab.at_ {w : World} {b o : Nat} {D : List β} (h : Tab row S w b o D) {k : Nat} (hk : k < D.length) {j : Nat} {u : Value} (hj : (row D[k])[j]? = some u) : w.cell? ⟨b, o + k * S + j, none⟩ = some u := h k D[k] (List.getElem?_eq_getElem hk) j u hj
theorem Tab.keep {w w' : World} {b o : Nat} {D : List β} (h : Tab row S w b o D) (hk : w'.heap[b]? = w.heap[b]?) : Tab row S w' b o D := fun k x hx j u hj => (World.cell?_of_block hk).trans (h k x hx j u hj)
theorem Tab.ext {w w' : World} {b o : Nat} {D : List β} (h : Tab row S w b o D) (hb : b < w.heap.size) (he : Below w.heap.size w w') : Tab row S w' b o D := h.keep (he.block b hb)
/-- two elements change places -/
def swapL (D : List β) (i j : Nat) : List β := match D[i]?, D[j]? with | some x, some y => (D.set i y).set j x | _, _ => D
theorem swapL_at {D : List β} {i j : Nat} (hi : i < D.length) (hj : j < D.length) : swapL D i j = (D.set i D[j]).set j D[i] := by unfold swapL; rw [List.getElem?_eq_getElem hi, List.getElem?_eq_getElem hj]
theorem swapL_len (D : List β) (i j : Nat) : (swapL D i j).length = D.length := by unfold swapL; split <;> simp
/-- the state of a sort: the table, its block plain; all else as in w0, but for what is new -/
structure Stab (row : β → List Value) (S : Nat) (w0 w : World) (b o : Nat) (D : List β) : Prop where
  tab : Tab row S w b o D
  plain : Plain w b
  upd : Upd [b] w0 w
theorem Stab.ext {w0 w w' : World} {b o : Nat} {D : List β} (h : Stab row S w0 w b o D) (he : Below w.heap.size w w') : Stab row S w0 w' b o D :=
  ⟨h.tab.ext h.plain.lt he, by obtain ⟨ds, t, hp⟩ := h.plain; exact ⟨ds, t, (he.block b h.plain.lt).trans hp⟩, h.upd.trans (Upd.of_ext _ he)⟩
theorem Stab.put {w0 w : World} {b o : Nat} {D : List β} (h : Stab row S w0 w b o D) (hS : ∀ x, (row x).length = S) {i : Nat} (hi : i < D.length) (y : β) : Stab row S w0 (w.setCells b (o + i * S) (row y)) b o (D.set i y) := by
  refine ⟨h.tab.put hS hi y, setCells_plain b _ _ _ h.plain, ?_⟩
  have e := setCells_rest b (row y) (o + i * S) w
  exact h.upd.trans ⟨e.1, e.2.1, e.2.2, by rw [setCells_size]; exact Nat.le_refl _, fun k _ hk => setCells_block b (by simpa using hk) _ _ _⟩
theorem Stab.swap {w0 w : World} {b o : Nat} {D : List β} (h : Stab row S w0 w b o D) (hS : ∀ x, (row x).length = S) {i j : Nat} (hi : i < D.length) (hj : j < D.length) :
    Stab row S w0 ((w.setCells b (o + i * S) (row D[j])).setCells b (o + j * S) (row D[i])) b o (swapL D i j) := by
  rw [swapL_at hi hj]
  exact (h.put hS hi D[j]).put hS (by rw [List.length_set]; exact hj) D[i]
theorem set_mid (A B : List β) (x y : β) (n : Nat) (hn : A.length = n) : (A ++ x :: B).set n y = A ++ y :: B := by
  subst hn
  rw [List.set_append_right _ _ (Nat.le_refl _), Nat.sub_self, List.set_cons_zero]
/-- the segments u and v of one length, w between them: they change places, one element after the other -/
theorem swap_seg (p u m v q : List β) (k : Nat) (hk : k < u.length) (hl : u.length = v.length) :
    swapL (p ++ (v.take k ++ (u.drop k ++ (m ++ (u.take k ++ (v.drop k ++ q)))))) (p.length + k) (p.length + u.length + m.length + k) = p ++ (v.take (k + 1) ++ (u.drop (k + 1) ++ (m ++ (u.take (k + 1) ++ (v.drop (k + 1) ++ q))))) := by
  have hkv : k < v.length := by omega
  have e1 : (v.take k).length = k := by rw [List.length_take]; omega
  have e2 : (u.take k).length = k := by rw [List.length_take]; omega
  obtain ⟨a, ha⟩ : ∃ a, u[k] = a := ⟨_, rfl⟩
  obtain ⟨c, hc⟩ : ∃ c, v[k] = c := ⟨_, rfl⟩
  have du : u.drop k = a :: u.drop (k + 1) := by rw [← ha]; exact (List.getElem_cons_drop ..).symm
  have dv : v.drop k = c :: v.drop (k + 1) := by rw [← hc]; exact (List.getElem_cons_drop ..).symm
  have tu : u.take (k + 1) = u.take k ++ [a] := by rw [← ha]; exact List.take_succ_eq_append_getElem hk
  have tv : v.take (k + 1) = v.take k ++ [c] := by rw [← hc]; exact List.take_succ_eq_append_getElem hkv
  have lu : (u.drop (k + 1)).length = u.length - (k + 1) := by rw [List.length_drop]
  rw [du, dv, tu, tv]
  have gi : (p ++ (v.take k ++ (a :: u.drop (k + 1) ++ (m ++ (u.take k ++ (c :: v.drop (k + 1) ++ q))))))[p.length + k]? = some a := by
    rw [List.getElem?_append_right (by omega), List.getElem?_append_right (by omega)]
    simp [e1]
  have gj : (p ++ (v.take k ++ (a :: u.drop (k + 1) ++ (m ++ (u.take k ++ (c :: v.drop (k + 1) ++ q))))))[p.length + u.length + m.length + k]? = some c := by
    rw [List.getElem?_append_right (by omega), List.getElem?_append_right (by omega), List.getElem?_append_right (by simp; omega), List.getElem?_append_right (by simp; omega), List.getElem?_append_right (by simp; omega), e1, e2]
    simp only [List.length_cons, lu, List.cons_append]
    rw [show p.length + u.length + m.length + k - p.length - k - (u.length - (k + 1) + 1) - m.length - k = 0 by omega]
    rfl
  unfold swapL
  rw [gi, gj]
  dsimp only
  have s1 : (p ++ (v.take k ++ (a :: u.drop (k + 1) ++ (m ++ (u.take k ++ (c :: v.drop (k + 1) ++ q)))))).set (p.length + k) c = p ++ (v.take k ++ (c :: u.drop (k + 1) ++ (m ++ (u.take k ++ (c :: v.drop (k + 1) ++ q))))) := by
    have h := set_mid (p ++ v.take k) (u.drop (k + 1) ++ (m ++ (u.take k ++ (c :: v.drop (k + 1) ++ q)))) a c (p.length + k) (by rw [List.length_append, e1])
    simpa only [List.append_assoc, List.cons_append] using h
  have s2 : (p ++ (v.take k ++ (c :: u.drop (k + 1) ++ (m ++ (u.take k ++ (c :: v.drop (k + 1) ++ q)))))).set (p.length + u.length + m.length + k) a = p ++ (v.take k ++ (c :: u.drop (k + 1) ++ (m ++ (u.take k ++ (a :: v.drop (k + 1) ++ q))))) := by
    have h := set_mid (p ++ (v.take k ++ (c :: u.drop (k + 1) ++ (m ++ u.take k)))) (v.drop (k + 1) ++ q) c a (p.length + u.length + m.length + k) (by simp only [List.length_append, List.length_cons, e1, e2, lu]; omega)
    simpa only [List.append_assoc, List.cons_append] using h
  rw [s1, s2]
  simp only [List.append_assoc, List.cons_append, List.nil_append]
theorem seg_left (p u m v q : List β) (k : Nat) (hk : k < u.length) (hl : u.length = v.length) : (p ++ (v.take k ++ (u.drop k ++ (m ++ (u.take k ++ (v.drop k ++ q))))))[p.length + k]? = some u[k] := by
  have e1 : (v.take k).length = k := by rw [List.length_take]; omega
  rw [List.getElem?_append_right (by omega), List.getElem?_append_right (by omega), e1, show p.length + k - p.length - k = 0 by omega, List.getElem?_append_left (by rw [List.length_drop]; omega), List.getElem?_drop, Nat.add_zero]
  exact List.getElem?_eq_getElem hk
theorem seg_right (p u m v q : List β) (k : Nat) (hk : k < v.length) (hl : u.length = v.length) : (p ++ (v.take k ++ (u.drop k ++ (m ++ (u.take k ++ (v.drop k ++ q))))))[p.length + u.length + m.length + k]? = some v[k] := by
  have e1 : (v.take k).length = k := by rw [List.length_take]; omega
  have e2 : (u.take k).length = k := by rw [List.length_take]; omega
  have e3 : (u.drop k).length = u.length - k := List.length_drop
  rw [List.getElem?_append_right (by omega), List.getElem?_append_right (by omega), List.getElem?_append_right (by omega), List.getElem?_append_right (by omega), List.getElem?_append_right (by omega), e1, e2, e3,
    show p.length + u.length + m.length + k - p.length - k - (u.length - k) - m.length - k = 0 by omega, List.getElem?_append_left (by rw [List.length_drop]; omega), List.getElem?_drop, Nat.add_zero]
  exact List.getElem?_eq_getElem hk
theorem Stab.swap_ {w0 w : World} {b o : Nat} {D : List β} (h : Stab row S w0 w b o D) (hS : ∀ x, (row x).length = S) {i j : Nat} {x y : β} (hi : D[i]? = some x) (hj : D[j]? = some y) :
    Stab row S w0 ((w.setCells b (o + i * S) (row y)).setCells b (o + j * S) (row x)) b o (swapL D i j) := by
  obtain ⟨hi1, rfl⟩ := List.getElem?_eq_some_iff.1 hi
  obtain ⟨hj1, rfl⟩ := List.getElem?_eq_some_iff.1 hj
  exact h.swap hS hi1 hj1
end
end Go.Proofs.YtjoclfenghenjaaGreat

namespace Go.Proofs.YtjoclfenghenjaaGreat
set_option linter.unusedVariables false
set_option linter.unusedSimpArgs false
section
variable {β : Type} {lt : β → β → Bool}
theorem Sorted.at_ {l : List β} (h : Sorted lt l) {t u : Nat} (htu : t < u) (hu : u < l.length) : lt l[u] (l[t]'(by omega)) = false :=
  List.pairwise_iff_getElem.1 h t u (by omega) hu htu
theorem mem_take_at {l : List β} {k : Nat} {z : β} (h : z ∈ l.take k) : ∃ t, ∃ ht : t < l.length, t < k ∧ l[t] = z := by
  obtain ⟨t, ht, e⟩ := List.mem_iff_getElem.1 h
  rw [List.length_take] at ht
  exact ⟨t, by omega, by omega, by rw [← e, List.getElem_take]⟩
theorem mem_drop_at {l : List β} {k : Nat} {z : β} (h : z ∈ l.drop k) : ∃ t, ∃ ht : t < l.length, k ≤ t ∧ l[t] = z := by
  obtain ⟨t, ht, e⟩ := List.mem_iff_getElem.1 h
  rw [List.length_drop] at ht
  exact ⟨k + t, by omega, by omega, by rw [← e, List.getElem_drop]⟩
/-- the search for the first that is not ahead of x -/
theorem one_left_yes (W : Weak lt) {r : List β} (hr : Sorted lt r) {x : β} {k : Nat} (hk : k < r.length) (h : lt r[k] x = true) : ∀ y ∈ r.take (k + 1), lt y x = true := by
  intro y hy
  obtain ⟨t, ht, htk, rfl⟩ := mem_take_at hy
  rcases Nat.lt_or_ge t k with h1 | h1
  · exact W.right (hr.at_ h1 hk) h
  · obtain rfl : t = k := by omega
    exact h
theorem one_left_no (W : Weak lt) {r : List β} (hr : Sorted lt r) {x : β} {k : Nat} (hk : k < r.length) (h : lt r[k] x = false) : ∀ y ∈ r.drop k, lt y x = false := by
  intro y hy
  obtain ⟨t, ht, htk, rfl⟩ := mem_drop_at hy
  rcases Nat.lt_or_ge k t with h1 | h1
  · exact W.neg _ _ _ (hr.at_ h1 ht) h
  · obtain rfl : t = k := by omega
    exact h
/-- the search for the first that y is ahead of -/
theorem one_right_no (W : Weak lt) {l : List β} (hl : Sorted lt l) {y : β} {k : Nat} (hk : k < l.length) (h : lt y l[k] = false) : ∀ x ∈ l.take (k + 1), lt y x = false := by
  intro x hx
  obtain ⟨t, ht, htk, rfl⟩ := mem_take_at hx
  rcases Nat.lt_or_ge t k with h1 | h1
  · exact W.neg _ _ _ h (hl.at_ h1 hk)
  · obtain rfl : t = k := by omega
    exact h
theorem one_right_yes (W : Weak lt) {l : List β} (hl : Sorted lt l) {y : β} {k : Nat} (hk : k < l.length) (h : lt y l[k] = true) : ∀ x ∈ l.drop k, lt y x = true := by
  intro x hx
  obtain ⟨t, ht, htk, rfl⟩ := mem_drop_at hx
  rcases Nat.lt_or_ge k t with h1 | h1
  · exact W.left h (hl.at_ h1 ht)
  · obtain rfl : t = k := by omega
    exact h
theorem mergeB_at_left {x : β} {r : List β} {k : Nat} (h1 : ∀ y ∈ r.take k, lt y x = true) (h2 : ∀ y ∈ r.drop k, lt y x = false) : mergeB lt [x] r = r.take k ++ x :: r.drop k := by
  have := mergeB_one_left h1 h2
  rwa [List.take_append_drop] at this
theorem mergeB_at_right {y : β} {l : List β} {k : Nat} (h1 : ∀ x ∈ l.take k, lt y x = false) (h2 : ∀ x ∈ l.drop k, lt y x = true) : mergeB lt l [y] = l.take k ++ y :: l.drop k := by
  have := mergeB_one_right h1 h2
  rwa [List.take_append_drop] at this
/-- where the search over both runs ends, the merge falls apart: d elements ahead, s of them from the left run -/
theorem sym_at (W : Weak lt) {l r : List β} (hl : Sorted lt l) (hr : Sorted lt r) {d s lo hi : Nat} (hlo : lo = 0 ∨ lo + r.length = d) (hhi : hi = l.length ∨ hi = d) (h1 : lo ≤ s) (h2 : s ≤ hi) (hd : s ≤ d) (hsl : s ≤ l.length)
    (p1 : s = lo ∨ ∃ x y, l[s - 1]? = some x ∧ r[d - s]? = some y ∧ lt y x = false) (p2 : s = hi ∨ ∃ x y, l[s]? = some x ∧ r[d - 1 - s]? = some y ∧ lt y x = true) :
    mergeB lt l r = mergeB lt (l.take s) (r.take (d - s)) ++ mergeB lt (l.drop s) (r.drop (d - s)) := by
  rw [← sym_split W (l1 := l.take s) (l2 := l.drop s) (r1 := r.take (d - s)) (r2 := r.drop (d - s))]
  · rw [List.take_append_drop, List.take_append_drop]
  · rw [List.take_append_drop]; exact hl
  · rw [List.take_append_drop]; exact hr
  · by_cases e : s = hi
    · rcases hhi with h | h
      · right; left; rw [List.drop_eq_nil_iff]; omega
      · left; rw [show d - s = 0 by omega]; rfl
    · obtain ⟨x, y, hx, hy, hlt⟩ := p2.resolve_left e
      obtain ⟨hx1, rfl⟩ := List.getElem?_eq_some_iff.1 hx
      obtain ⟨hy1, rfl⟩ := List.getElem?_eq_some_iff.1 hy
      by_cases e2 : s = d
      · left; rw [show d - s = 0 by omega]; rfl
      · right; right
        refine ⟨r.take (d - 1 - s), _, _, l.drop (s + 1), ?_, (List.getElem_cons_drop hx1).symm, hlt⟩
        rw [← List.take_succ_eq_append_getElem hy1]
        congr 1; omega
  · by_cases e : s = lo
    · rcases hlo with h | h
      · left; rw [show s = 0 by omega]; rfl
      · right; left; rw [List.drop_eq_nil_iff]; omega
    · obtain ⟨x, y, hx, hy, hlt⟩ := p1.resolve_left e
      obtain ⟨hx1, rfl⟩ := List.getElem?_eq_some_iff.1 hx
      obtain ⟨hy1, rfl⟩ := List.getElem?_eq_some_iff.1 hy
      right; right
      refine ⟨l.take (s - 1), _, _, r.drop (d - s + 1), ?_, (List.getElem_cons_drop hy1).symm, hlt⟩
      rw [← List.take_succ_eq_append_getElem hx1]
      congr 1; omega
theorem runs_len {s : Nat} (hs : 0 < s) : ∀ (n : Nat) (xs : List β), xs.length ≤ n → (runs lt s xs).length = xs.length := by
  intro n
  induction n with
  | zero =>
    intro xs h
    have : xs = [] := List.eq_nil_of_length_eq_zero (by omega)
    subst this
    rw [runs_nil]
  | succ n ih =>
    intro xs h
    rcases Nat.lt_or_ge s xs.length with h1 | h1
    · rw [runs_step hs, List.length_append, sortB_len, ih (xs.drop s) (by rw [List.length_drop]; omega), List.length_take, List.length_drop, List.length_nil]; omega
    · rw [runs_short h1, sortB_len, List.length_nil]; omega
/-! neighbours -/
theorem near_fst (p s r : List β) (x y : β) {n : Nat} (hn : p.length + s.length = n) : (p ++ (s ++ (x :: y :: r)))[n]? = some x := by
  subst hn
  rw [List.getElem?_append_right (by omega), List.getElem?_append_right (by omega), show p.length + s.length - p.length - s.length = 0 by omega]
  rfl
theorem near_snd (p s r : List β) (x y : β) {n : Nat} (hn : p.length + s.length = n) : (p ++ (s ++ (x :: y :: r)))[n + 1]? = some y := by
  subst hn
  rw [List.getElem?_append_right (by omega), List.getElem?_append_right (by omega), show p.length + s.length + 1 - p.length - s.length = 1 by omega]
  rfl
theorem set_at (p s r : List β) (x z : β) {n : Nat} (hn : p.length + s.length = n) : (p ++ (s ++ (x :: r))).set n z = p ++ (s ++ (z :: r)) := by
  have := set_mid (p ++ s) r x z n (by rw [List.length_append, hn])
  simpa only [List.append_assoc] using this
theorem set_at1 (p s r : List β) (x y z : β) {n : Nat} (hn : p.length + s.length = n) : (p ++ (s ++ (x :: y :: r))).set (n + 1) z = p ++ (s ++ (x :: z :: r)) := by
  have := set_mid (p ++ (s ++ [x])) r y z (n + 1) (by simp only [List.length_append, List.length_cons, List.length_nil]; omega)
  simpa only [List.append_assoc, List.cons_append, List.nil_append] using this
theorem near_swap (p s r : List β) (x y : β) {n : Nat} (hn : p.length + s.length = n) : swapL (p ++ (s ++ (x :: y :: r))) n (n + 1) = p ++ (s ++ (y :: x :: r)) := by
  unfold swapL
  rw [near_fst p s r x y hn, near_snd p s r x y hn]
  dsimp only
  rw [set_at p s _ x y hn, set_at1 p s r y y x hn]
theorem near_swap2 (p s r : List β) (x y : β) {n : Nat} (hn : p.length + s.length = n) : swapL (p ++ (s ++ (x :: y :: r))) (n + 1) n = p ++ (s ++ (y :: x :: r)) := by
  unfold swapL
  rw [near_fst p s r x y hn, near_snd p s r x y hn]
  dsimp only
  rw [set_at1 p s r x y x hn, set_at p s _ x y hn]
end
end Go.Proofs.YtjoclfenghenjaaGreat

namespace Go.Proofs.YtjoclfenghenjaaGreat
open Go.ChangeShapes Go.WideShapes Go.ChangeAt Go.RowKit
set_option linter.unusedVariables false
set_option linter.unusedSimpArgs false
section
variable {β : Type} (nm : β → ByteArray)
set_option maxRecDepth 100000 in
set_option maxHeartbeats 2000000 in
theorem swapRange_any (W0 w : World) (b o c N : Nat) (p u m v q : List β) (a bb n : Nat) (f : Value) (h : Stab (fun x => [Value.string (nm x)]) 1 W0 w b o (p ++ (u ++ (m ++ (v ++ q))))) (hN : (p ++ (u ++ (m ++ (v ++ q)))).length ≤ N) (hN2 : N ≤ 1048576) (ha : Hid (p.length = a)) (hu : Hid (u.length = n)) (hv : Hid (v.length = n)) (hm : Hid (p.length + u.length + m.length = bb)) :
    Calls Tryz.prog 200 #[.slice (some ⟨b, o, none⟩) N c, .int .i64 a, .int .i64 bb, .int .i64 n, f] w fun e w' => e = .returned (.tuple #[]) ∧ Stab (fun x => [Value.string (nm x)]) 1 W0 w' b o (p ++ (v ++ (m ++ (u ++ q)))) := by
  have hlen : a + n + m.length + n ≤ N := by have e1 := ha.out; have e2 := hu.out; have e3 := hv.out; simp only [List.length_append] at hN; omega
  have hbb : bb = a + n + m.length := by have e1 := ha.out; have e2 := hu.out; have e3 := hm.out; omega
  have HBB := Lib.hid hbb
  have hb1 : a + n ≤ bb := by omega
  have hb2 : bb + n ≤ N := by omega
  clear hbb
  go_enter Tryz.func200, Tryz.ntmps200
  go_wp2_with fail
  go_loopw [10] (fun i wr => ∃ k : Nat, k ≤ n ∧ i = .int .i64 k ∧ Stab (fun x => [Value.string (nm x)]) 1 W0 wr b o (p ++ (v.take k ++ (u.drop k ++ (m ++ (u.take k ++ (v.drop k ++ q))))))) (fun i _ => n - (intOf i).toNat)
  case atStart => exact ⟨0, Nat.zero_le _, rfl, by simpa using h⟩
  case round =>
    obtain ⟨k, hk, rfl, hS⟩ := hrel
    by_cases hlt : k < n
    · have hku : k < u.length := by have := hu.out; omega
      have hkv : k < v.length := by have := hv.out; omega
      have hluv : u.length = v.length := by rw [hu.out, hv.out]
      have gl := seg_left p u m v q k hku hluv
      have gr := seg_right p u m v q k hkv hluv
      have sg := swap_seg p u m v q k hku hluv
      rw [hm.out] at gr sg
      rw [ha.out] at gl sg
      generalize u[k] = x at gl
      generalize v[k] = y at gr
      have HS := Lib.hid hS
      have qx : wr.cell? ⟨b, o + (a + k), none⟩ = some (.string (nm x)) := by have := hS.tab _ x gl 0 _ rfl; simpa using this
      have qy : wr.cell? ⟨b, o + (bb + k), none⟩ = some (.string (nm y)) := by have := hS.tab _ y gr 0 _ rfl; simpa using this
      have qf := hS.plain.frozen
      have ql := hS.plain.lt
      have HGL := Lib.hid gl
      have HGR := Lib.hid gr
      have HSG := Lib.hid sg
      clear hS gl gr sg hluv
      go_wp2_with fail
      go_region
      go_wp2
      have h2 := HS.out.swap_ (fun _ => rfl) HGL.out HGR.out
      rw [HSG.out, Nat.mul_one, Nat.mul_one] at h2
      exact ⟨⟨k + 1, by omega, by go_num, Stab.ext h2 (ext_drew (ext_refl _))⟩, by simp [intOf]; omega⟩
    · have hkl : k = n := by omega
      subst hkl
      rw [← hu.out, List.take_of_length_le (by rw [hu.out, hv.out]; exact Nat.le_refl _), List.drop_length, List.take_length, List.drop_of_length_le (by rw [hu.out, hv.out]; exact Nat.le_refl _), List.nil_append, List.nil_append] at hS
      go_wp2
      go_end0
      exact ⟨rfl, hS⟩
set_option maxRecDepth 100000 in
set_option maxHeartbeats 2000000 in
theorem rotate_any (W0 w : World) (b o c N : Nat) (p u v q : List β) (a mm bb : Nat) (f : Value) (h : Stab (fun x => [Value.string (nm x)]) 1 W0 w b o (p ++ (u ++ (v ++ q)))) (hN : (p ++ (u ++ (v ++ q))).length ≤ N) (hN2 : N ≤ 1048576) (ha : Hid (p.length = a)) (hm : Hid (a + u.length = mm)) (hb : Hid (mm + v.length = bb)) (hu0 : 0 < u.length) (hv0 : 0 < v.length) :
    Calls Tryz.prog 186 #[.slice (some ⟨b, o, none⟩) N c, .int .i64 a, .int .i64 mm, .int .i64 bb, f] w fun e w' => e = .returned (.tuple #[]) ∧ Stab (fun x => [Value.string (nm x)]) 1 W0 w' b o (p ++ (v ++ (u ++ q))) := by
  have hlen : a + u.length + v.length ≤ N := by have e1 := ha.out; simp only [List.length_append] at hN; omega
  have hmm : a + u.length = mm := hm.out
  have hbb : mm + v.length = bb := hb.out
  have HM := Lib.hid hmm
  have HB := Lib.hid hbb
  have h1 : a ≤ mm := by omega
  have h2 : mm ≤ bb := by omega
  have h3 : bb ≤ N := by omega
  have HNN := Lib.hid hN
  clear hmm hbb hN
  go_enter Tryz.func186, Tryz.ntmps186
  go_wp2_with fail
  go_loopw [10, 11] (fun i j wr => ∃ A U V B : List β, i = .int .i64 U.length ∧ j = .int .i64 V.length ∧ 0 < U.length ∧ 0 < V.length ∧ Hid (v ++ u = A ++ (V ++ (U ++ B))) ∧ Hid (p.length + A.length + U.length = mm) ∧ Stab (fun x => [Value.string (nm x)]) 1 W0 wr b o (p ++ (A ++ (U ++ (V ++ (B ++ q)))))) (fun i j _ => (intOf i).toNat + (intOf j).toNat)
  case atStart =>
    have e1 := ha.out; have e2 := HM.out; have e3 := HB.out
    exact ⟨[], u, v, [], by simp; omega, by simp; omega, hu0, hv0, Lib.hid (by simp), Lib.hid (by simp; omega), by simpa using h⟩
  case round =>
    obtain ⟨A, U, V, B, rfl, rfl, hU, hV, hE, hP, hS⟩ := hrel
    have hle : A.length + U.length + V.length + B.length = u.length + v.length := by have := congrArg List.length hE.out; simp only [List.length_append] at this; omega
    have hpa : p.length + A.length + U.length = mm := hP.out
    have hUm : U.length ≤ mm := by omega
    have hbn : mm + V.length ≤ N := by have e1 := ha.out; have e2 := HM.out; omega
    have HLE := Lib.hid hle
    have HPA := Lib.hid hpa
    have HS := Lib.hid hS
    clear hle hpa hS
    have hlq : (p ++ (u ++ (v ++ q))).length = p.length + u.length + v.length + q.length := by simp only [List.length_append]; omega
    have HLQ := Lib.hid hlq
    clear hlq
    rcases Nat.lt_trichotomy U.length V.length with hlt | heq | hgt
    · have hne : ((U.length : Int) != V.length) = true := by simp; omega
      go_wp2_with fail
      obtain ⟨V1, V2, rfl, hV2⟩ : ∃ V1 V2, V = V1 ++ V2 ∧ V2.length = U.length := ⟨V.take (V.length - U.length), V.drop (V.length - U.length), (List.take_append_drop ..).symm, by rw [List.length_drop]; omega⟩
      have hpa := HPA.out
      have hle := HLE.out
      have hl : (V1 ++ V2).length = V1.length + V2.length := List.length_append ..
      rw [show (mm : Int) - U.length = ((p.length + A.length : Nat) : Int) by omega, show (mm : Int) + (V1 ++ V2).length - U.length = ((mm + V1.length : Nat) : Int) by omega]
      refine (swapRange_any nm W0 wr b o c N (p ++ A) U V1 V2 (B ++ q) (p.length + A.length) (mm + V1.length) U.length f (by have := HS.out; simpa [List.append_assoc] using this) ?_ hN2 (Lib.hid (by simp)) (Lib.hid rfl) (Lib.hid hV2) (Lib.hid ?_)).mono ?_
      · have := HNN.out; have := HLQ.out; simp only [List.length_append] at *; omega
      · simp only [List.length_append]; omega
      rintro e w2 ⟨rfl, hS2⟩
      clear hpa hle
      go_wp2
      refine ⟨⟨A, V2, V1, U ++ B, by rw [hV2], by first | rfl | (congr 1; omega), by omega, by omega, Lib.hid (by have := hE.out; simpa [List.append_assoc] using this), Lib.hid (by have := HPA.out; omega), by simpa [List.append_assoc] using hS2⟩, by simp only [intOf]; omega⟩
    · have hne : ((U.length : Int) != V.length) = false := by simp; omega
      go_wp2_with fail
      have hpa := HPA.out
      have hle := HLE.out
      rw [show (mm : Int) - V.length = ((p.length + A.length : Nat) : Int) by omega]
      refine (swapRange_any nm W0 wr b o c N (p ++ A) U [] V (B ++ q) (p.length + A.length) mm V.length f (by have := HS.out; simpa [List.append_assoc] using this) ?_ hN2 (Lib.hid (by simp)) (Lib.hid heq) (Lib.hid rfl) (Lib.hid ?_)).mono ?_
      · have := HNN.out; have := HLQ.out; simp only [List.length_append, List.length_nil] at *; omega
      · simp only [List.length_append, List.length_nil]; omega
      rintro e w2 ⟨rfl, hS2⟩
      clear hpa hle heq
      go_wp2
      go_end0
      refine ⟨rfl, ?_⟩
      have e9 : p ++ (v ++ (u ++ q)) = (p ++ A) ++ (V ++ ([] ++ (U ++ (B ++ q)))) := by rw [← List.append_assoc v u q, hE.out]; simp [List.append_assoc]
      rw [e9]
      exact hS2
    · have hne : ((U.length : Int) != V.length) = true := by simp; omega
      go_wp2_with fail
      obtain ⟨U1, U2, rfl, hU1⟩ : ∃ U1 U2, U = U1 ++ U2 ∧ U1.length = V.length := ⟨U.take V.length, U.drop V.length, (List.take_append_drop ..).symm, by rw [List.length_take]; omega⟩
      have hpa := HPA.out
      have hle := HLE.out
      have hl : (U1 ++ U2).length = U1.length + U2.length := List.length_append ..
      rw [show (mm : Int) - (U1 ++ U2).length = ((p.length + A.length : Nat) : Int) by omega]
      refine (swapRange_any nm W0 wr b o c N (p ++ A) U1 U2 V (B ++ q) (p.length + A.length) mm V.length f (by have := HS.out; simpa [List.append_assoc] using this) ?_ hN2 (Lib.hid (by simp)) (Lib.hid hU1) (Lib.hid rfl) (Lib.hid ?_)).mono ?_
      · have := HNN.out; have := HLQ.out; simp only [List.length_append] at *; omega
      · simp only [List.length_append]; omega
      rintro e w2 ⟨rfl, hS2⟩
      clear hpa hle
      go_wp2
      refine ⟨⟨A ++ V, U2, U1, B, by first | rfl | (congr 1; omega), by rw [hU1], by omega, by omega, Lib.hid (by have := hE.out; simpa [List.append_assoc] using this), Lib.hid (by have := HPA.out; simp only [List.length_append] at *; omega), by simpa [List.append_assoc] using hS2⟩, by simp only [intOf]; omega⟩
end
end Go.Proofs.YtjoclfenghenjaaGreat
