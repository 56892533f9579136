/- A region whose reads may be taken first, whose calls come one behind the other, and whose last operations wait for all of these: the reads' cells need hold only till then. No condition. -/
import Derived.Test.YtegekccoincicaaGreatDoorRegionIx
namespace Go.Proofs.YtegekccoincicaaGreatDoor
open Go.RowKit
set_option linter.unusedVariables false
section
variable {P : Program} {ops : Array Oper} {md : Region.Mode} {C : World → Prop} {Q : Exit → Act → World → Prop}
/-- operations one behind the other, with an end of its own -/
def wpListK (P : Program) (ops : Array Oper) (C : World → Prop) (Q : Exit → Act → World → Prop) (E : Act → World → Prop) : List Oper → Act → World → Prop
  | [], a, w => E a w
  | o :: rest, a, w => if Region.wanted o (yielded ops a.tmps) then o.wp P a w (fun a' w' => C w' ∧ wpListK P ops C Q E rest a' w') Q else C w ∧ wpListK P ops C Q E rest (a.put o.dst undef) w
theorem wpListK_nil {E : Act → World → Prop} {a : Act} {w : World} (h : E a w) : wpListK P ops C Q E [] a w := h
theorem wpListK_step {E : Act → World → Prop} {a : Act} {w : World} {o : Oper} {rest : List Oper} (hw : Region.wanted o (yielded ops a.tmps) = true)
    (h : ∀ K : Act → World → Prop, (∀ a' w', C w' → wpListK P ops C Q E rest a' w' → K a' w') → o.wp P a w K Q) : wpListK P ops C Q E (o :: rest) a w := by
  unfold wpListK
  rw [if_pos hw]
  exact h _ fun a' w' h1 h2 => ⟨h1, h2⟩
/-- whatever order is picked for the next n operations; behind each the world is of the class; then E -/
def wpAnyT (P : Program) (md : Region.Mode) (ops : Array Oper) (Q : Exit → Act → World → Prop) (C : World → Prop) (E : Array Bool → Act → World → Prop) : Nat → Array Bool → Act → World → Prop
  | 0, listed, a, w => E listed a w
  | n + 1, listed, a, w => Region.ready md ops listed ≠ [] ∧ ∀ i ∈ Region.ready md ops listed, wpOp P ops Q i (fun a' w' => C w' ∧ wpAnyT P md ops Q C E n (listed.setIfInBounds i true) a' w') a w
theorem wpAny_of_T {m : Nat} {E : Array Bool → Act → World → Prop} (hE : ∀ l a w, E l a w → wpAny P md ops Q m l a w) : ∀ (n : Nat) (listed : Array Bool) (a : Act) (w : World), wpAnyT P md ops Q C E n listed a w → wpAny P md ops Q (m + n) listed a w
  | 0, _, _, _, h => hE _ _ _ h
  | n + 1, listed, a, w, h => ⟨fun h0 => absurd h0 h.1, fun i hi => wpOp_mono (fun a' w' h' => wpAny_of_T hE n _ a' w' h'.2) (h.2 i hi)⟩
theorem wpAny_seqIx : ∀ (l : List Oper) (ks : List Nat) (listed : Array Bool) (a : Act) (w : World), l.toArray = ops → seqIxB md ops ks listed = true → wpList P ops Q (pick l ks) a w → wpAny P md ops Q ks.length listed a w
  | l, [], listed, a, w, hl, hB, h => by
    simp only [seqIxB, List.isEmpty_iff] at hB
    exact ⟨hB, h⟩
  | l, k :: ks, listed, a, w, hl, hB, h => by
    simp only [seqIxB, Bool.and_eq_true, decide_eq_true_eq] at hB
    obtain ⟨_, o, ho, _⟩ := mem_ready.1 (show k ∈ Region.ready md ops listed by rw [hB.1]; simp)
    have hlo : l[k]? = some o := by rw [← hl] at ho; simpa using ho
    simp only [pick, hlo] at h
    refine ⟨fun h0 => absurd h0 (by rw [hB.1]; simp), fun i hi => ?_⟩
    obtain rfl : i = k := by rw [hB.1] at hi; simpa using hi
    unfold wpOp
    simp only [ho]
    unfold wpList at h
    split
    · rename_i hw
      rw [if_pos hw] at h
      rcases h with h | h
      · exact .inl (Oper.wp_mono (fun a' w' h' => wpAny_seqIx l ks _ a' w' hl hB.2 h') h)
      · exact .inr h
    · rename_i hw
      rw [if_neg hw] at h
      exact wpAny_seqIx l ks _ _ _ hl hB.2 h
/-- an operation that yields its value in every world of the class may be taken first -/
theorem wpAnyT_first {E : Array Bool → Act → World → Prop} {i : Nat} {oi : Oper} {v : Value} (hi : ops[i]? = some oi) (hsel : ∀ (j : Nat) (o : Oper) cs b, ops[j]? = some o → o.op ≠ .select cs b)
    (hQ : ∀ c a w, Q (.panic c) (a.put oi.dst v) w → Q (.panic c) a w)
    (hg : ∀ l a w, E l a w → ∀ j ∈ Region.ready md ops l, ∃ oj, ops[j]? = some oj ∧ ∃ e ∈ oj.after, Region.binds md e = true ∧ e.on = i) :
    ∀ (n : Nat) (listed : Array Bool) (a : Act) (w : World),
      (∀ j oj, ops[j]? = some oj → j ≠ i → listed.getD j true = false → (∀ e ∈ oj.after, Region.binds md e = true → e.on ≠ i) → oi.apart ops oj = true) →
      i ∈ Region.ready md ops listed → YieldsIf P ops C oi v a → C w →
      wpAnyT P md ops Q C E n (listed.setIfInBounds i true) (a.put oi.dst v) w → wpAnyT P md ops Q C E (n + 1) listed a w := by
  intro n
  have waits : ∀ {listed : Array Bool} {j : Nat} {oj : Oper}, i ∈ Region.ready md ops listed → j ∈ Region.ready md ops listed → ops[j]? = some oj → ∀ e ∈ oj.after, Region.binds md e = true → e.on ≠ i := by
    intro listed j oj hr hj hoj e he hb heq
    obtain ⟨_, ok, hok, hall⟩ := mem_ready.1 hj
    rw [hoj] at hok
    obtain rfl := Option.some.inj hok
    have h1 := hall e he hb
    have h0 := (mem_ready.1 hr).1
    rw [heq] at h1
    rcases Nat.lt_or_ge i listed.size with h' | h'
    · simp [h'] at h0 h1; rw [h0] at h1; cases h1
    · simp [Array.getElem?_eq_none h'] at h1
  induction n with
  | zero =>
    intro listed a w _ hr hy hC H
    refine ⟨fun h => (by rw [h] at hr; cases hr), fun j hj => ?_⟩
    by_cases hji : j = i
    · subst hji; exact hy.wpOp hi hC ⟨hC, H⟩
    · obtain ⟨oj, hoj, e, he, hb, heq⟩ := hg _ _ _ H j (ready_mono hj hji)
      exact absurd heq (waits hr hj hoj e he hb)
  | succ n ih =>
    intro listed a w hfree hr hy hC H
    refine ⟨fun h => (by rw [h] at hr; cases hr), fun j hj => ?_⟩
    by_cases hji : j = i
    · subst hji; exact hy.wpOp hi hC ⟨hC, H⟩
    · have h1 := H.2 j (ready_mono hj hji)
      obtain ⟨hjun, oj, hoj, hall⟩ := mem_ready.1 hj
      have hnot := waits hr hj hoj
      have h2 := wpOp_putIf hoj (hfree j oj hoj hji hjun hnot) (fun cs b => hsel i oi cs b hi) (fun cs b => hsel j oj cs b hoj) hQ hy h1
      have hfree' : ∀ k ok, ops[k]? = some ok → k ≠ i → (listed.setIfInBounds j true).getD k true = false →
          (∀ e ∈ ok.after, Region.binds md e = true → e.on ≠ i) → oi.apart ops ok = true := fun k ok hk hki hun hno => by
        refine hfree k ok hk hki ?_ hno
        by_cases hjk : j = k
        · subst hjk; exact hjun
        · rw [getD_set_ne true hjk] at hun; exact hun
      refine wpOp_mono (fun a' w' h3 => ⟨h3.2.1, ih (listed.setIfInBounds j true) a' w' hfree' (ready_mono hr (Ne.symm hji)) h3.1 h3.2.1 ?_⟩) h2
      rw [Array.setIfInBounds_comm _ _ hji]
      exact h3.2.2
def gateB (md : Region.Mode) (ops : Array Oper) (listed : Array Bool) (i : Nat) : Bool := (Region.ready md ops listed).all fun j => match ops[j]? with | some o => o.after.any fun e => Region.binds md e && e.on == i | none => false
theorem gateB_spec {listed : Array Bool} {i : Nat} (h : gateB md ops listed i = true) : ∀ j ∈ Region.ready md ops listed, ∃ oj, ops[j]? = some oj ∧ ∃ e ∈ oj.after, Region.binds md e = true ∧ e.on = i := by
  intro j hj
  have h1 := List.all_eq_true.1 h j hj
  obtain ⟨_, oj, hoj, _⟩ := mem_ready.1 hj
  simp only [hoj] at h1
  obtain ⟨k, hk, h2⟩ := Array.any_eq_true.1 h1
  simp only [Bool.and_eq_true, beq_iff_eq] at h2
  exact ⟨oj, hoj, _, Array.getElem_mem hk, h2.1, h2.2⟩
def seqKB (md : Region.Mode) (ops : Array Oper) : List Nat → Array Bool → Bool
  | [], _ => true
  | k :: ks, listed => decide (Region.ready md ops listed = [k]) && seqKB md ops ks (listed.setIfInBounds k true)
theorem wpAnyT_seqIx {E : Array Bool → Act → World → Prop} : ∀ (l : List Oper) (ks : List Nat) (listed : Array Bool) (a : Act) (w : World), l.toArray = ops → seqKB md ops ks listed = true → wpListK P ops C Q (E (listedIx ks listed)) (pick l ks) a w → wpAnyT P md ops Q C E ks.length listed a w
  | l, [], listed, a, w, hl, hB, h => h
  | l, k :: ks, listed, a, w, hl, hB, h => by
    simp only [seqKB, Bool.and_eq_true, decide_eq_true_eq] at hB
    obtain ⟨_, o, ho, _⟩ := mem_ready.1 (show k ∈ Region.ready md ops listed by rw [hB.1]; simp)
    have hlo : l[k]? = some o := by rw [← hl] at ho; simpa using ho
    simp only [pick, hlo] at h
    refine ⟨by rw [hB.1]; simp, fun i hi => ?_⟩
    obtain rfl : i = k := by rw [hB.1] at hi; simpa using hi
    unfold wpOp
    simp only [ho]
    unfold wpListK at h
    have next : ∀ a' w', C w' ∧ wpListK P ops C Q (E (listedIx (i :: ks) listed)) (pick l ks) a' w' → C w' ∧ wpAnyT P md ops Q C E ks.length (listed.setIfInBounds i true) a' w' := fun a' w' hh =>
      ⟨hh.1, wpAnyT_seqIx l ks _ a' w' hl hB.2 hh.2⟩
    split
    · rename_i hw
      rw [if_pos hw] at h
      exact .inl (Oper.wp_mono next h)
    · rename_i hw
      rw [if_neg hw] at h
      exact next _ _ h
theorem wpAnyT_headIx {E : Array Bool → Act → World → Prop} (hs : Region.noSelect ops = true) (hQ : ∀ c a d v w, Q (.panic c) (Act.put a d v) w → Q (.panic c) a w) {w : World} (hC : C w) (L : Array Bool) (hL : ∀ l a w, E l a w → l = L) : ∀ (l : List Oper) (js : List Nat) (g : Nat) (listed : Array Bool) (a : Act), l.toArray = ops →
    headIxB md ops js listed = true → (js.all fun i => gateB md ops L i) = true → headC P ops C (fun a' => wpAnyT P md ops Q C E g (listedIx js listed) a' w) (pick l js) a → wpAnyT P md ops Q C E (g + js.length) listed a w
  | l, [], g, listed, a, hl, hB, hG, h => h
  | l, k :: js, g, listed, a, hl, hB, hG, h => by
    simp only [headIxB, Bool.and_eq_true] at hB
    simp only [List.all_cons, Bool.and_eq_true] at hG
    have hr : k ∈ Region.ready md ops listed := by simpa using hB.1.2
    obtain ⟨_, o, ho, _⟩ := mem_ready.1 hr
    have hlo : l[k]? = some o := by rw [← hl] at ho; simpa using ho
    simp only [pick, hlo] at h
    obtain ⟨v, hy, hn⟩ := h
    refine wpAnyT_first ho (Region.noSelect_spec hs) (fun c a' w' => hQ c a' _ v w') (fun l a w he => by rw [hL l a w he]; exact gateB_spec hG.1) (g + js.length) listed a w (Region.free_spec ho hB.1.1) hr hy hC ?_
    exact wpAnyT_headIx hs hQ hC L hL l js g _ _ hl hB.2 hG.2 hn
def cutB (ops : Array Oper) (js ks ts : List Nat) : Bool :=
  Region.noSelect ops && decide (ts.length + (ks.length + js.length) = ops.size) && headIxB .any ops js (Array.replicate ops.size false) && seqKB .any ops ks (listedIx js (Array.replicate ops.size false)) && seqIxB .any ops ts (listedIx ks (listedIx js (Array.replicate ops.size false))) && js.all (fun i => gateB .any ops (listedIx ks (listedIx js (Array.replicate ops.size false))) i)
theorem wp_region_cut {id : Nat} {a : Act} {w : World} {l : List Oper} (C : World → Prop) (js ks ts : List Nat) (hm : P.follows .mixedOrders = true) (hB : cutB l.toArray js ks ts = true) (hQ : ∀ c a d v w, Q (.panic c) (Act.put a d v) w → Q (.panic c) a w)
    (hC : C w.drew) (h : headC P l.toArray C (fun a' => wpListK P l.toArray C Q (wpList P l.toArray Q (pick l ts)) (pick l ks) a' w.drew) (pick l js) a) : (Code.region id l.toArray true).wp P Q a w := by
  simp only [cutB, Bool.and_eq_true] at hB
  obtain ⟨⟨⟨⟨⟨hs, hn⟩, hh⟩, hk⟩, ht⟩, hg⟩ := hB
  rw [decide_eq_true_eq] at hn
  let L := listedIx ks (listedIx js (Array.replicate l.toArray.size false))
  let E : Array Bool → Act → World → Prop := fun m b w' => m = L ∧ wpList P l.toArray Q (pick l ts) b w'
  have mono : ∀ (m : List Oper) (b : Act), headC P l.toArray C (fun a' => wpListK P l.toArray C Q (wpList P l.toArray Q (pick l ts)) (pick l ks) a' w.drew) m b →
      headC P l.toArray C (fun a' => wpAnyT P .any l.toArray Q C E ks.length (listedIx js (Array.replicate l.toArray.size false)) a' w.drew) m b := by
    intro m
    induction m with
    | nil =>
      intro b hb
      refine wpAnyT_seqIx (md := .any) l ks _ b w.drew rfl hk ?_
      have e : E (listedIx ks (listedIx js (Array.replicate l.toArray.size false))) = wpList P l.toArray Q (pick l ts) := by
        funext b w'
        exact propext ⟨fun h => h.2, fun h => ⟨rfl, h⟩⟩
      rw [e]
      exact hb
    | cons o m ih =>
      intro b ⟨v, hy, hb⟩
      exact ⟨v, hy, ih _ hb⟩
  have h1 := wpAnyT_headIx (md := .any) (P := P) (C := C) (E := E) hs hQ hC L (fun l a w he => he.1) l js ks.length (Array.replicate l.toArray.size false) a rfl hh hg (mono _ _ h)
  have h2 := wpAny_of_T (md := .any) (P := P) (C := C) (E := E) (m := ts.length) (fun m b w' he => by
    obtain ⟨rfl, hl⟩ := he
    exact wpAny_seqIx (md := .any) l ts _ b w' rfl ht hl) _ _ _ _ h1
  rw [hn] at h2
  exact wp_region_any hm h2
end
end Go.Proofs.YtegekccoincicaaGreatDoor
