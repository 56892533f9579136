/- What the library's merging of two runs asks of plain Lean: where a search ends, and how a merge falls apart there. No condition. -/
import Derived.Test.YtjoclfenghenjaaStabM
namespace Go.Proofs.Ytjoclfenghenjaa
set_option linter.unusedVariables false
set_option linter.unusedSimpArgs false
/-- what the order's number tells -/
def ltV {β : Type} (cv : β → β → Int) (x y : β) : Bool := decide (cv x y < 0)
section
variable {β : Type} {lt : β → β → Bool}
theorem Sorted.at_ {l : List β} (h : Sorted lt l) {t u : Nat} (htu : t < u) (hu : u < l.length) : lt l[u] (l[t]'(by omega)) = false :=
  List.pairwise_iff_getElem.1 h t u (by omega) hu htu
theorem mem_take_at {l : List β} {k : Nat} {z : β} (h : z ∈ l.take k) : ∃ t, ∃ ht : t < l.length, t < k ∧ l[t] = z := by
  obtain ⟨t, ht, e⟩ := List.mem_iff_getElem.1 h
  rw [List.length_take] at ht
  exact ⟨t, by omega, by omega, by rw [← e, List.getElem_take]⟩
theorem mem_drop_at {l : List β} {k : Nat} {z : β} (h : z ∈ l.drop k) : ∃ t, ∃ ht : t < l.length, k ≤ t ∧ l[t] = z := by
  obtain ⟨t, ht, e⟩ := List.mem_iff_getElem.1 h
  rw [List.length_drop] at ht
  exact ⟨k + t, by omega, by omega, by rw [← e, List.getElem_drop]⟩
/-- the search for the first that is not ahead of x -/
theorem one_left_yes (W : Weak lt) {r : List β} (hr : Sorted lt r) {x : β} {k : Nat} (hk : k < r.length) (h : lt r[k] x = true) : ∀ y ∈ r.take (k + 1), lt y x = true := by
  intro y hy
  obtain ⟨t, ht, htk, rfl⟩ := mem_take_at hy
  rcases Nat.lt_or_ge t k with h1 | h1
  · exact W.right (hr.at_ h1 hk) h
  · obtain rfl : t = k := by omega
    exact h
theorem one_left_no (W : Weak lt) {r : List β} (hr : Sorted lt r) {x : β} {k : Nat} (hk : k < r.length) (h : lt r[k] x = false) : ∀ y ∈ r.drop k, lt y x = false := by
  intro y hy
  obtain ⟨t, ht, htk, rfl⟩ := mem_drop_at hy
  rcases Nat.lt_or_ge k t with h1 | h1
  · exact W.neg _ _ _ (hr.at_ h1 ht) h
  · obtain rfl : t = k := by omega
    exact h
/-- the search for the first that y is ahead of -/
theorem one_right_no (W : Weak lt) {l : List β} (hl : Sorted lt l) {y : β} {k : Nat} (hk : k < l.length) (h : lt y l[k] = false) : ∀ x ∈ l.take (k + 1), lt y x = false := by
  intro x hx
  obtain ⟨t, ht, htk, rfl⟩ := mem_take_at hx
  rcases Nat.lt_or_ge t k with h1 | h1
  · exact W.neg _ _ _ h (hl.at_ h1 hk)
  · obtain rfl : t = k := by omega
    exact h
theorem one_right_yes (W : Weak lt) {l : List β} (hl : Sorted lt l) {y : β} {k : Nat} (hk : k < l.length) (h : lt y l[k] = true) : ∀ x ∈ l.drop k, lt y x = true := by
  intro x hx
  obtain ⟨t, ht, htk, rfl⟩ := mem_drop_at hx
  rcases Nat.lt_or_ge k t with h1 | h1
  · exact W.left h (hl.at_ h1 ht)
  · obtain rfl : t = k := by omega
    exact h
theorem mergeB_at_left {x : β} {r : List β} {k : Nat} (h1 : ∀ y ∈ r.take k, lt y x = true) (h2 : ∀ y ∈ r.drop k, lt y x = false) : mergeB lt [x] r = r.take k ++ x :: r.drop k := by
  have := mergeB_one_left h1 h2
  rwa [List.take_append_drop] at this
theorem mergeB_at_right {y : β} {l : List β} {k : Nat} (h1 : ∀ x ∈ l.take k, lt y x = false) (h2 : ∀ x ∈ l.drop k, lt y x = true) : mergeB lt l [y] = l.take k ++ y :: l.drop k := by
  have := mergeB_one_right h1 h2
  rwa [List.take_append_drop] at this
/-- where the search over both runs ends, the merge falls apart: d elements ahead, s of them from the left run -/
theorem sym_at (W : Weak lt) {l r : List β} (hl : Sorted lt l) (hr : Sorted lt r) {d s lo hi : Nat} (hlo : lo = 0 ∨ lo + r.length = d) (hhi : hi = l.length ∨ hi = d) (h1 : lo ≤ s) (h2 : s ≤ hi) (hd : s ≤ d) (hsl : s ≤ l.length)
    (p1 : s = lo ∨ ∃ x y, l[s - 1]? = some x ∧ r[d - s]? = some y ∧ lt y x = false) (p2 : s = hi ∨ ∃ x y, l[s]? = some x ∧ r[d - 1 - s]? = some y ∧ lt y x = true) :
    mergeB lt l r = mergeB lt (l.take s) (r.take (d - s)) ++ mergeB lt (l.drop s) (r.drop (d - s)) := by
  rw [← sym_split W (l1 := l.take s) (l2 := l.drop s) (r1 := r.take (d - s)) (r2 := r.drop (d - s))]
  · rw [List.take_append_drop, List.take_append_drop]
  · rw [List.take_append_drop]; exact hl
  · rw [List.take_append_drop]; exact hr
  · by_cases e : s = hi
    · rcases hhi with h | h
      · right; left; rw [List.drop_eq_nil_iff]; omega
      · left; rw [show d - s = 0 by omega]; rfl
    · obtain ⟨x, y, hx, hy, hlt⟩ := p2.resolve_left e
      obtain ⟨hx1, rfl⟩ := List.getElem?_eq_some_iff.1 hx
      obtain ⟨hy1, rfl⟩ := List.getElem?_eq_some_iff.1 hy
      by_cases e2 : s = d
      · left; rw [show d - s = 0 by omega]; rfl
      · right; right
        refine ⟨r.take (d - 1 - s), _, _, l.drop (s + 1), ?_, (List.getElem_cons_drop hx1).symm, hlt⟩
        rw [← List.take_succ_eq_append_getElem hy1]
        congr 1; omega
  · by_cases e : s = lo
    · rcases hlo with h | h
      · left; rw [show s = 0 by omega]; rfl
      · right; left; rw [List.drop_eq_nil_iff]; omega
    · obtain ⟨x, y, hx, hy, hlt⟩ := p1.resolve_left e
      obtain ⟨hx1, rfl⟩ := List.getElem?_eq_some_iff.1 hx
      obtain ⟨hy1, rfl⟩ := List.getElem?_eq_some_iff.1 hy
      right; right
      refine ⟨l.take (s - 1), _, _, r.drop (d - s + 1), ?_, (List.getElem_cons_drop hy1).symm, hlt⟩
      rw [← List.take_succ_eq_append_getElem hx1]
      congr 1; omega
theorem runs_len {s : Nat} (hs : 0 < s) : ∀ (n : Nat) (xs : List β), xs.length ≤ n → (runs lt s xs).length = xs.length := by
  intro n
  induction n with
  | zero =>
    intro xs h
    have : xs = [] := List.eq_nil_of_length_eq_zero (by omega)
    subst this
    rw [runs_nil]
  | succ n ih =>
    intro xs h
    rcases Nat.lt_or_ge s xs.length with h1 | h1
    · rw [runs_step hs, List.length_append, sortB_len, ih (xs.drop s) (by rw [List.length_drop]; omega), List.length_take, List.length_drop, List.length_nil]; omega
    · rw [runs_short h1, sortB_len, List.length_nil]; omega
/-! neighbours -/
theorem near_fst (p s r : List β) (x y : β) {n : Nat} (hn : p.length + s.length = n) : (p ++ (s ++ (x :: y :: r)))[n]? = some x := by
  subst hn
  rw [List.getElem?_append_right (by omega), List.getElem?_append_right (by omega), show p.length + s.length - p.length - s.length = 0 by omega]
  rfl
theorem near_snd (p s r : List β) (x y : β) {n : Nat} (hn : p.length + s.length = n) : (p ++ (s ++ (x :: y :: r)))[n + 1]? = some y := by
  subst hn
  rw [List.getElem?_append_right (by omega), List.getElem?_append_right (by omega), show p.length + s.length + 1 - p.length - s.length = 1 by omega]
  rfl
theorem set_at (p s r : List β) (x z : β) {n : Nat} (hn : p.length + s.length = n) : (p ++ (s ++ (x :: r))).set n z = p ++ (s ++ (z :: r)) := by
  have := set_mid (p ++ s) r x z n (by rw [List.length_append, hn])
  simpa only [List.append_assoc] using this
theorem set_at1 (p s r : List β) (x y z : β) {n : Nat} (hn : p.length + s.length = n) : (p ++ (s ++ (x :: y :: r))).set (n + 1) z = p ++ (s ++ (x :: z :: r)) := by
  have := set_mid (p ++ (s ++ [x])) r y z (n + 1) (by simp only [List.length_append, List.length_cons, List.length_nil]; omega)
  simpa only [List.append_assoc, List.cons_append, List.nil_append] using this
theorem near_swap (p s r : List β) (x y : β) {n : Nat} (hn : p.length + s.length = n) : swapL (p ++ (s ++ (x :: y :: r))) n (n + 1) = p ++ (s ++ (y :: x :: r)) := by
  unfold swapL
  rw [near_fst p s r x y hn, near_snd p s r x y hn]
  dsimp only
  rw [set_at p s _ x y hn, set_at1 p s r y y x hn]
theorem near_swap2 (p s r : List β) (x y : β) {n : Nat} (hn : p.length + s.length = n) : swapL (p ++ (s ++ (x :: y :: r))) (n + 1) n = p ++ (s ++ (y :: x :: r)) := by
  unfold swapL
  rw [near_fst p s r x y hn, near_snd p s r x y hn]
  dsimp only
  rw [set_at1 p s r x y x hn, set_at p s _ x y hn]
end
end Go.Proofs.Ytjoclfenghenjaa
