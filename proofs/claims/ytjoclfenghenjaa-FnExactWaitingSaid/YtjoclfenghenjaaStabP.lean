/- A stable sort in plain Lean: insertion, merging of two runs, runs of a size; what the library's stable sort computes. No condition. -/
import Derived.Test.YtjoclfenghenjaaFrame
namespace Go.Proofs.Ytjoclfenghenjaa
set_option linter.unusedVariables false
set_option linter.unusedSimpArgs false
section
variable {β : Type} (lt : β → β → Bool)
/-- y goes ahead of what is greater, behind what is alike -/
def insB (y : β) : List β → List β
  | [] => [y]
  | x :: xs => if lt y x then y :: x :: xs else x :: insB y xs
def sortB : List β → List β → List β
  | acc, [] => acc
  | acc, y :: ys => sortB (insB lt y acc) ys
/-- the stable merge: what comes from the right goes ahead only of what is greater -/
def mergeB : List β → List β → List β
  | [], r => r
  | l, [] => l
  | x :: l, y :: r => if lt y x then y :: mergeB (x :: l) r else x :: mergeB l (y :: r)
termination_by l r => l.length + r.length
/-- lt is a strict weak order -/
structure Weak : Prop where
  irr : ∀ x, lt x x = false
  tr : ∀ x y z, lt x y = true → lt y z = true → lt x z = true
  neg : ∀ x y z, lt x y = false → lt y z = false → lt x z = false
def Sorted (l : List β) : Prop := l.Pairwise fun x y => lt y x = false
variable {lt}
theorem Weak.asym (W : Weak lt) {x y : β} (h : lt x y = true) : lt y x = false := by
  cases h2 : lt y x
  · rfl
  · have := W.tr x y x h h2; rw [W.irr] at this; cases this
/-- x before y, y not behind z: x before z -/
theorem Weak.left (W : Weak lt) {x y z : β} (h : lt x y = true) (h2 : lt z y = false) : lt x z = true := by
  cases h3 : lt x z
  · have := W.neg x z y h3 h2; rw [this] at h; cases h
  · rfl
theorem Weak.right (W : Weak lt) {x y z : β} (h : lt y x = false) (h2 : lt y z = true) : lt x z = true := by
  cases h3 : lt x z
  · have := W.neg y x z h h3; rw [this] at h2; cases h2
  · rfl
theorem mergeB_nil_left (r : List β) : mergeB lt [] r = r := by unfold mergeB; rfl
theorem mergeB_nil_right (l : List β) : mergeB lt l [] = l := by
  cases l with
  | nil => exact mergeB_nil_left []
  | cons x l => unfold mergeB; rfl
theorem mergeB_cons (x y : β) (l r : List β) : mergeB lt (x :: l) (y :: r) = if lt y x then y :: mergeB lt (x :: l) r else x :: mergeB lt l (y :: r) := by
  conv => lhs; unfold mergeB
theorem mergeB_len : ∀ (l r : List β), (mergeB lt l r).length = l.length + r.length
  | [], r => by rw [mergeB_nil_left]; simp
  | x :: l, [] => by rw [mergeB_nil_right]; simp
  | x :: l, y :: r => by
    rw [mergeB_cons]
    split
    · rw [List.length_cons, mergeB_len (x :: l) r]; simp only [List.length_cons]; omega
    · rw [List.length_cons, mergeB_len l (y :: r)]; simp only [List.length_cons]; omega
termination_by l r => l.length + r.length
/-- all of r1 goes ahead of l2, none of r2 ahead of l1: the merge falls apart -/
theorem mergeB_split : ∀ (l1 r1 : List β) (l2 r2 : List β), (∀ y ∈ r1, ∀ x ∈ l2, lt y x = true) → (∀ y ∈ r2, ∀ x ∈ l1, lt y x = false) → mergeB lt (l1 ++ l2) (r1 ++ r2) = mergeB lt l1 r1 ++ mergeB lt l2 r2
  | [], [], l2, r2, _, _ => by simp [mergeB_nil_left]
  | [], y :: r1, l2, r2, h1, h2 => by
    have ih := mergeB_split [] r1 l2 r2 (fun z hz => h1 z (List.mem_cons_of_mem _ hz)) (fun _ _ _ hx => by cases hx)
    rw [mergeB_nil_left] at ih ⊢
    cases l2 with
    | nil => simp only [List.append_nil, mergeB_nil_left]
    | cons x l2 =>
      simp only [List.nil_append, List.cons_append] at ih ⊢
      rw [mergeB_cons, if_pos (h1 y (List.mem_cons_self ..) x (List.mem_cons_self ..)), ih]
  | x :: l1, [], l2, r2, h1, h2 => by
    have ih := mergeB_split l1 [] l2 r2 (fun _ hz => by cases hz) (fun y hy z hz => h2 y hy z (List.mem_cons_of_mem _ hz))
    rw [mergeB_nil_right] at ih ⊢
    cases r2 with
    | nil => simp only [List.append_nil, mergeB_nil_right]
    | cons y r2 =>
      simp only [List.nil_append, List.cons_append] at ih ⊢
      rw [mergeB_cons, if_neg (by rw [h2 y (List.mem_cons_self ..) x (List.mem_cons_self ..)]; simp), ih]
  | x :: l1, y :: r1, l2, r2, h1, h2 => by
    simp only [List.cons_append]
    rw [mergeB_cons, mergeB_cons]
    split
    · have ih := mergeB_split (x :: l1) r1 l2 r2 (fun z hz => h1 z (List.mem_cons_of_mem _ hz)) h2
      simp only [List.cons_append] at ih
      rw [ih, List.cons_append]
    · have ih := mergeB_split l1 (y :: r1) l2 r2 h1 (fun z hz w hw => h2 z hz w (List.mem_cons_of_mem _ hw))
      simp only [List.cons_append] at ih
      rw [ih, List.cons_append]
termination_by l1 r1 => l1.length + r1.length
/-- one element on the left -/
theorem mergeB_one_left {x : β} {r1 r2 : List β} (h1 : ∀ y ∈ r1, lt y x = true) (h2 : ∀ y ∈ r2, lt y x = false) : mergeB lt [x] (r1 ++ r2) = r1 ++ x :: r2 := by
  have h := mergeB_split (lt := lt) [] r1 [x] r2 (fun y hy z hz => by rw [List.mem_singleton.1 hz]; exact h1 y hy) (fun _ _ _ hz => by cases hz)
  rw [List.nil_append, mergeB_nil_left] at h
  rw [h]
  congr 1
  cases r2 with
  | nil => exact mergeB_nil_right _
  | cons y r2 => rw [mergeB_cons, if_neg (by rw [h2 y (List.mem_cons_self ..)]; simp), mergeB_nil_left]
/-- one element on the right -/
theorem mergeB_one_right {y : β} {l1 l2 : List β} (h1 : ∀ x ∈ l1, lt y x = false) (h2 : ∀ x ∈ l2, lt y x = true) : mergeB lt (l1 ++ l2) [y] = l1 ++ y :: l2 := by
  have h := mergeB_split (lt := lt) l1 [] l2 [y] (fun _ hz => by cases hz) (fun z hz x hx => by rw [List.mem_singleton.1 hz]; exact h1 x hx)
  rw [List.nil_append, mergeB_nil_right] at h
  rw [h]
  congr 1
  cases l2 with
  | nil => exact mergeB_nil_left _
  | cons x l2 => rw [mergeB_cons, if_pos (h2 x (List.mem_cons_self ..)), mergeB_nil_right]
/-- insertion is a merge with one element on the right, where the list is sorted -/
theorem insB_eq_merge (y : β) : ∀ l : List β, insB lt y l = mergeB lt l [y]
  | [] => by rw [mergeB_nil_left]; rfl
  | x :: l => by
    rw [insB, mergeB_cons]
    split
    · rw [mergeB_nil_right]
    · rw [insB_eq_merge y l]
theorem mem_mergeB {z : β} : ∀ {l r : List β}, z ∈ mergeB lt l r → z ∈ l ∨ z ∈ r
  | [], r, h => by rw [mergeB_nil_left] at h; exact .inr h
  | x :: l, [], h => by rw [mergeB_nil_right] at h; exact .inl h
  | x :: l, y :: r, h => by
    rw [mergeB_cons] at h
    split at h
    · rcases List.mem_cons.1 h with rfl | h
      · exact .inr (List.mem_cons_self ..)
      · rcases mem_mergeB h with h | h
        · exact .inl h
        · exact .inr (List.mem_cons_of_mem _ h)
    · rcases List.mem_cons.1 h with rfl | h
      · exact .inl (List.mem_cons_self ..)
      · rcases mem_mergeB h with h | h
        · exact .inl (List.mem_cons_of_mem _ h)
        · exact .inr h
termination_by l r => l.length + r.length
theorem mergeB_sorted (W : Weak lt) : ∀ {l r : List β}, Sorted lt l → Sorted lt r → Sorted lt (mergeB lt l r)
  | [], r, _, h => by rw [mergeB_nil_left]; exact h
  | x :: l, [], h, _ => by rw [mergeB_nil_right]; exact h
  | x :: l, y :: r, hl, hr => by
    have hl' := List.pairwise_cons.1 hl
    have hr' := List.pairwise_cons.1 hr
    rw [mergeB_cons]
    split
    · rename_i h
      refine List.pairwise_cons.2 ⟨fun z hz => ?_, mergeB_sorted W hl hr'.2⟩
      rcases mem_mergeB hz with hz | hz
      · rcases List.mem_cons.1 hz with rfl | hz
        · exact W.asym h
        · exact W.neg z x y (hl'.1 z hz) (W.asym h)
      · exact hr'.1 z hz
    · rename_i h
      have h : lt y x = false := by simpa using h
      refine List.pairwise_cons.2 ⟨fun z hz => ?_, mergeB_sorted W hl'.2 hr⟩
      rcases mem_mergeB hz with hz | hz
      · exact hl'.1 z hz
      · rcases List.mem_cons.1 hz with rfl | hz
        · exact h
        · exact W.neg z y x (hr'.1 z hz) h
termination_by l r => l.length + r.length
/-- merging is associative -/
theorem mergeB_assoc (W : Weak lt) : ∀ (a b c : List β), mergeB lt (mergeB lt a b) c = mergeB lt a (mergeB lt b c)
  | [], b, c => by simp only [mergeB_nil_left]
  | a, [], c => by simp only [mergeB_nil_left, mergeB_nil_right]
  | a, b, [] => by simp only [mergeB_nil_right]
  | x :: a, y :: b, z :: c => by
    rw [mergeB_cons x y, mergeB_cons y z]
    by_cases h1 : lt y x = true
    · rw [if_pos h1]
      by_cases h2 : lt z y = true
      · rw [if_pos h2, mergeB_cons y z, if_pos h2, mergeB_cons x z, if_pos (W.tr z y x h2 h1), ← mergeB_assoc W (x :: a) (y :: b) c, mergeB_cons x y, if_pos h1]
      · rw [if_neg h2, mergeB_cons y z, if_neg h2, mergeB_cons x y, if_pos h1, mergeB_assoc W (x :: a) b (z :: c)]
    · rw [if_neg h1]
      by_cases h2 : lt z y = true
      · rw [if_pos h2]
        by_cases h3 : lt z x = true
        · rw [mergeB_cons x z, if_pos h3, mergeB_cons x z, if_pos h3, ← mergeB_assoc W (x :: a) (y :: b) c, mergeB_cons x y, if_neg h1]
        · rw [mergeB_cons x z, if_neg h3, mergeB_cons x z, if_neg h3, mergeB_assoc W a (y :: b) (z :: c), mergeB_cons y z, if_pos h2]
      · have h3 : ¬ lt z x = true := by
          have e1 : lt z y = false := by simpa using h2
          have e2 : lt y x = false := by simpa using h1
          rw [W.neg z y x e1 e2]; simp
        rw [if_neg h2, mergeB_cons x z, if_neg h3, mergeB_cons x y, if_neg h1, mergeB_assoc W a (y :: b) (z :: c), mergeB_cons y z, if_neg h2]
termination_by a b c => a.length + b.length + c.length
theorem sortB_eq : ∀ (ys acc : List β), sortB lt acc ys = ys.foldl (fun l y => mergeB lt l [y]) acc
  | [], _ => rfl
  | y :: ys, acc => by rw [sortB, insB_eq_merge, sortB_eq ys]; rfl
theorem sortB_merge (W : Weak lt) : ∀ (ys acc : List β), sortB lt acc ys = mergeB lt acc (sortB lt [] ys)
  | [], acc => by rw [sortB, sortB, mergeB_nil_right]
  | y :: ys, acc => by
    rw [sortB, sortB, sortB_merge W ys (insB lt y acc), sortB_merge W ys (insB lt y []), insB_eq_merge, insB_eq_merge, mergeB_nil_left, mergeB_assoc W]
/-- sorting what stands one behind the other: sort both, merge -/
theorem sortB_append (W : Weak lt) (xs ys : List β) : sortB lt [] (xs ++ ys) = mergeB lt (sortB lt [] xs) (sortB lt [] ys) := by
  rw [← sortB_merge W, sortB_eq, sortB_eq, sortB_eq, List.foldl_append]
theorem sortB_sorted (W : Weak lt) : ∀ (ys acc : List β), Sorted lt acc → Sorted lt (sortB lt acc ys)
  | [], _, h => h
  | y :: ys, acc, h => by
    rw [sortB]
    refine sortB_sorted W ys _ ?_
    rw [insB_eq_merge]
    exact mergeB_sorted W h (List.pairwise_singleton _ _)
theorem sortB_len : ∀ (ys acc : List β), (sortB lt acc ys).length = acc.length + ys.length
  | [], _ => rfl
  | y :: ys, acc => by rw [sortB, sortB_len ys, insB_eq_merge, mergeB_len]; simp only [List.length_cons, List.length_nil]; omega
/-- the first of each run and the last of the other decide -/
theorem sym_split (W : Weak lt) {l1 l2 r1 r2 : List β} (hl : Sorted lt (l1 ++ l2)) (hr : Sorted lt (r1 ++ r2)) (h1 : r1 = [] ∨ l2 = [] ∨ ∃ r1' y x l2', r1 = r1' ++ [y] ∧ l2 = x :: l2' ∧ lt y x = true)
    (h2 : l1 = [] ∨ r2 = [] ∨ ∃ l1' x y r2', l1 = l1' ++ [x] ∧ r2 = y :: r2' ∧ lt y x = false) : mergeB lt (l1 ++ l2) (r1 ++ r2) = mergeB lt l1 r1 ++ mergeB lt l2 r2 := by
  refine mergeB_split l1 r1 l2 r2 (fun y hy x hx => ?_) (fun y hy x hx => ?_)
  · rcases h1 with rfl | rfl | ⟨r1', y0, x0, l2', rfl, rfl, h⟩
    · cases hy
    · cases hx
    · have a : lt y0 y = false := by
        rcases List.mem_append.1 hy with hy | hy
        · have := (List.pairwise_append.1 (List.pairwise_append.1 hr).1).2.2 y hy y0 (List.mem_singleton.2 rfl); exact this
        · rw [List.mem_singleton.1 hy, W.irr]
      have b : lt x x0 = false := by
        rcases List.mem_cons.1 hx with rfl | hx
        · exact W.irr x
        · exact (List.pairwise_cons.1 (List.pairwise_append.1 hl).2.1).1 x hx
      exact W.left (W.right a h) b
  · rcases h2 with rfl | rfl | ⟨l1', x0, y0, r2', rfl, rfl, h⟩
    · cases hx
    · cases hy
    · have a : lt x0 x = false := by
        rcases List.mem_append.1 hx with hx | hx
        · exact (List.pairwise_append.1 (List.pairwise_append.1 hl).1).2.2 x hx x0 (List.mem_singleton.2 rfl)
        · rw [List.mem_singleton.1 hx, W.irr]
      have b : lt y y0 = false := by
        rcases List.mem_cons.1 hy with rfl | hy
        · exact W.irr y
        · exact (List.pairwise_cons.1 (List.pairwise_append.1 hr).2.1).1 y hy
      exact W.neg y x0 x (W.neg y y0 x0 b h) a
/-- sorted runs of s elements each, one behind the other -/
def runs (lt : β → β → Bool) (s : Nat) (xs : List β) : List β := if h : xs.length ≤ s ∨ s = 0 then sortB lt [] xs else sortB lt [] (xs.take s) ++ runs lt s (xs.drop s)
termination_by xs.length
decreasing_by rw [List.length_drop]; omega
theorem runs_short {s : Nat} {xs : List β} (h : xs.length ≤ s) : runs lt s xs = sortB lt [] xs := by unfold runs; rw [dif_pos (.inl h)]
theorem runs_nil (s : Nat) : runs lt s ([] : List β) = [] := by rw [runs_short (Nat.zero_le _)]; rfl
theorem runs_step {s : Nat} (hs : 0 < s) (xs : List β) : runs lt s xs = sortB lt [] (xs.take s) ++ runs lt s (xs.drop s) := by
  by_cases h : xs.length ≤ s
  · rw [List.take_of_length_le h, List.drop_of_length_le h, runs_nil, List.append_nil, runs_short h]
  · conv => lhs; unfold runs
    rw [dif_neg (by omega)]
/-- two runs and what follows, merged: one run of twice the size -/
theorem runs_two (W : Weak lt) {s : Nat} (hs : 0 < s) (ys : List β) : runs lt s ys = sortB lt [] (ys.take s) ++ (sortB lt [] ((ys.drop s).take s) ++ runs lt s (ys.drop (2 * s))) ∧
    mergeB lt (sortB lt [] (ys.take s)) (sortB lt [] ((ys.drop s).take s)) = sortB lt [] (ys.take (2 * s)) := by
  constructor
  · rw [runs_step hs ys, runs_step hs (ys.drop s), List.drop_drop, show s + s = 2 * s by omega]
  · rw [← sortB_append W]
    congr 1
    rw [show 2 * s = s + s by omega, List.take_add]
theorem runs_tail (W : Weak lt) {s : Nat} (hs : 0 < s) {ys : List β} (h1 : s < ys.length) (h2 : ys.length ≤ 2 * s) : runs lt s ys = sortB lt [] (ys.take s) ++ sortB lt [] (ys.drop s) ∧
    mergeB lt (sortB lt [] (ys.take s)) (sortB lt [] (ys.drop s)) = runs lt (2 * s) ys := by
  constructor
  · rw [runs_step hs ys, runs_short (xs := ys.drop s) (by rw [List.length_drop]; omega)]
  · rw [← sortB_append W, List.take_append_drop, runs_short (s := 2 * s) h2]
/-- where the element that moves left stops, it is inserted -/
theorem ins_at (W : Weak lt) {y : β} {s1 s2 : List β} (hs : Sorted lt (s1 ++ s2)) (h2 : ∀ x ∈ s2, lt y x = true) (h1 : s1 = [] ∨ ∃ s' x, s1 = s' ++ [x] ∧ lt y x = false) : insB lt y (s1 ++ s2) = s1 ++ y :: s2 := by
  rw [insB_eq_merge]
  refine mergeB_one_right (fun x hx => ?_) h2
  rcases h1 with rfl | ⟨s', x0, rfl, h⟩
  · cases hx
  · rcases List.mem_append.1 hx with hx | hx
    · exact W.neg y x0 x h ((List.pairwise_append.1 (List.pairwise_append.1 hs).1).2.2 x hx x0 (List.mem_singleton.2 rfl))
    · rw [List.mem_singleton.1 hx]; exact h
theorem sortB_snoc (xs : List β) (y : β) : sortB lt [] (xs ++ [y]) = insB lt y (sortB lt [] xs) := by
  rw [sortB_eq, sortB_eq, List.foldl_append, insB_eq_merge]
  rfl
end
end Go.Proofs.Ytjoclfenghenjaa
