/- A statement whose operations Go may carry out in any order, where each only reads, makes memory of its own, or calls a function that does no more: one walk in the order of the text serves every order. No condition. -/
import Derived.Test.YtegekccoincicaaGreatDoorFrame
import Derived.StillTail
import Derived.Deep.RegionHeld
namespace Go.Proofs.YtegekccoincicaaGreatDoor
open Go.RowKit
set_option linter.unusedVariables false

section
variable {P : Program} {ops : Array Oper} {md : Region.Mode} {C : World → Prop}

/-- one operation's outcome is the value v, in a world of the class -/
def outcome (P : Program) (C : World → Prop) (v : Value) : Result Next → Prop
  | .ok (.value u) w' => C w' ∧ u = v
  | .ok .skip w' => C w' ∧ v = undef
  | .ok (.enter f args) w' => Calls P f args w' (fun e w'' => e = .returned v ∧ C w'')
  | _ => False
/-- operation o, in state a, yields v from every world of the class (or is passed over) -/
def Gives (P : Program) (ops : Array Oper) (C : World → Prop) (o : Oper) (v : Value) (a : Act) : Prop :=
  if Region.wanted o (yielded ops a.tmps) then ∀ w, C w → outcome P C v ((execOp a.eval o).run P w) else v = undef

theorem wp_of_outcome {o : Oper} {a : Act} {v : Value} {K : Act → World → Prop} {Q : Exit → Act → World → Prop} {w : World}
    (h : outcome P C v ((execOp a.eval o).run P w)) (hK : ∀ w', C w' → K (a.put o.dst v) w') : o.wp P a w K Q := by
  unfold Oper.wp
  revert h
  generalize (execOp a.eval o).run P w = r
  intro h
  match r, h with
  | .ok (.value u) w', h => obtain ⟨h1, rfl⟩ := h; exact hK _ h1
  | .ok .skip w', h => obtain ⟨h1, rfl⟩ := h; exact hK _ h1
  | .ok (.enter f args) w', h =>
    refine Calls.mono (R := fun e w'' => e = .returned v ∧ C w'') h (fun e w'' hh => ?_)
    obtain ⟨rfl, hw⟩ := hh
    exact hK _ hw
theorem Gives.wpOp {i : Nat} {o : Oper} {v : Value} {a : Act} {K : Act → World → Prop} {Q : Exit → Act → World → Prop} {w : World} (hi : ops[i]? = some o) (hg : Gives P ops C o v a) (hw : C w)
    (hK : ∀ w', C w' → K (a.put o.dst v) w') : wpOp P ops Q i K a w := by
  unfold Go.wpOp
  simp only [hi]
  unfold Gives at hg
  split
  · rename_i hwant
    rw [if_pos hwant] at hg
    exact .inl (wp_of_outcome (hg w hw) hK)
  · rename_i hwant
    rw [if_neg hwant] at hg
    subst hg
    exact hK _ hw
theorem Gives.put {oi oj : Oper} {u v : Value} {a : Act} (hap : oi.apart ops oj = true) (hsi : ∀ cs b, oi.op ≠ .select cs b) (hg : Gives P ops C oi v a) : Gives P ops C oi v (a.put oj.dst u) := by
  obtain ⟨_, _, h3⟩ := Oper.apart_spec hap
  unfold Gives at *
  rw [execOp_put oi hsi a oj.dst u h3, wanted_put oi a oj.dst u h3]
  exact hg
theorem Gives.unput {oi oj : Oper} {u v : Value} {a : Act} (hap : oi.apart ops oj = true) (hsj : ∀ cs b, oj.op ≠ .select cs b) (hg : Gives P ops C oj v (a.put oi.dst u)) : Gives P ops C oj v a := by
  obtain ⟨h1, _, _⟩ := Oper.apart_spec hap
  unfold Gives at *
  rw [execOp_put oj hsj a oi.dst u h1, wanted_put oj a oi.dst u h1] at hg
  exact hg

/-- whatever order is picked from here on, each operation gives one value -/
def anyOrder (P : Program) (md : Region.Mode) (ops : Array Oper) (C : World → Prop) (Q : Act → Prop) : Nat → Array Bool → Act → Prop
  | 0, listed, a => Region.ready md ops listed = [] ∧ Q a
  | fuel + 1, listed, a => (Region.ready md ops listed = [] → Q a) ∧
    ∀ i ∈ Region.ready md ops listed, ∀ o, ops[i]? = some o → ∃ v, Gives P ops C o v a ∧ anyOrder P md ops C Q fuel (listed.setIfInBounds i true) (a.put o.dst v)

theorem wpAny_of_anyOrder {Q : Act → Prop} {Q' : Exit → Act → World → Prop} (hQ : ∀ a w, C w → Q a → Q' .normal a w) : ∀ (fuel : Nat) (listed : Array Bool) (a : Act) (w : World), C w →
    anyOrder P md ops C Q fuel listed a → wpAny P md ops Q' fuel listed a w
  | 0, _, _, _, hw, h => ⟨h.1, hQ _ _ hw h.2⟩
  | fuel + 1, listed, a, w, hw, h => by
    refine ⟨fun h0 => hQ _ _ hw (h.1 h0), fun i hi => ?_⟩
    obtain ⟨_, o, ho, _⟩ := mem_ready.1 hi
    obtain ⟨v, hg, hn⟩ := h.2 i hi o ho
    exact hg.wpOp ho hw fun w' hw' => wpAny_of_anyOrder hQ fuel _ _ w' hw' hn

/-- an operation that may come up, and that no other one still to come depends on unless it waits for it, may be taken first -/
theorem anyOrder_first {Q : Act → Prop} {i : Nat} {oi : Oper} {v : Value} (hi : ops[i]? = some oi) (hsel : ∀ (j : Nat) (o : Oper) cs b, ops[j]? = some o → o.op ≠ .select cs b) :
    ∀ (fuel : Nat) (listed : Array Bool) (a : Act),
      (∀ j oj, ops[j]? = some oj → j ≠ i → listed.getD j true = false → (∀ e ∈ oj.after, Region.binds md e = true → e.on ≠ i) → oi.apart ops oj = true) →
      i ∈ Region.ready md ops listed → Gives P ops C oi v a →
      anyOrder P md ops C Q fuel (listed.setIfInBounds i true) (a.put oi.dst v) → anyOrder P md ops C Q (fuel + 1) listed a := by
  intro fuel
  induction fuel with
  | zero =>
    intro listed a _ hr hy H
    refine ⟨fun h => (by rw [h] at hr; cases hr), fun j hj o ho => ?_⟩
    by_cases hji : j = i
    · subst hji
      rw [hi] at ho; cases ho
      exact ⟨v, hy, H⟩
    · have := ready_mono hj hji
      rw [H.1] at this
      cases this
  | succ fuel ih =>
    intro listed a hfree hr hy H
    refine ⟨fun h => (by rw [h] at hr; cases hr), fun j hj oj hoj => ?_⟩
    by_cases hji : j = i
    · subst hji
      rw [hi] at hoj; cases hoj
      exact ⟨v, hy, H⟩
    · obtain ⟨u, hu, hn⟩ := H.2 j (ready_mono hj hji) oj hoj
      obtain ⟨hjun, oj', hoj', hall⟩ := mem_ready.1 hj
      rw [hoj] at hoj'; cases hoj'
      have hnot : ∀ e ∈ oj.after, Region.binds md e = true → e.on ≠ i := fun e he hb heq => by
        have h1 := hall e he hb
        have h0 := (mem_ready.1 hr).1
        rw [heq] at h1
        rcases Nat.lt_or_ge i listed.size with h' | h'
        · simp [h'] at h0 h1; rw [h0] at h1; cases h1
        · simp [Array.getElem?_eq_none h'] at h1
      have hap := hfree j oj hoj hji hjun hnot
      have hsi := fun cs b => hsel i oi cs b hi
      have hsj := fun cs b => hsel j oj cs b hoj
      refine ⟨u, hu.unput hap hsj, ih _ _ (fun k ok hk hki hun hno => hfree k ok hk hki ?_ hno) (ready_mono hr (Ne.symm hji)) (hy.put hap hsi) ?_⟩
      · by_cases hjk : j = k
        · subst hjk; exact hjun
        · rw [getD_set_ne true hjk] at hun; exact hun
      · rw [Array.setIfInBounds_comm _ _ hji, Act.put_comm a u v (fun d hd => by
          have := (Oper.apart_spec hap).2.1
          intro hx
          exact this d hx hd)]
        exact hn

/-- THE WALK: the operations in the order of the text -/
def inText (P : Program) (ops : Array Oper) (C : World → Prop) (Q : Act → Prop) : List Oper → Act → Prop
  | [], a => Q a
  | o :: rest, a => ∃ v, Gives P ops C o v a ∧ inText P ops C Q rest (a.put o.dst v)
theorem anyOrder_of_inText {Q : Act → Prop} (hs : Region.noSelect ops = true) : ∀ (l : List Oper) (k : Nat) (listed : Array Bool) (a : Act), (∀ j, l[j]? = ops[k + j]?) →
    Region.lexFrom md ops l.length k listed = true → inText P ops C Q l a → anyOrder P md ops C Q l.length listed a
  | [], _, _, _, _, hB, h => ⟨by simpa [Region.lexFrom] using hB, h⟩
  | o :: l, k, listed, a, hl, hB, h => by
    have h0 : ops[k]? = some o := by simpa using (hl 0).symm
    simp only [List.length_cons, Region.lexFrom, Bool.and_eq_true] at hB
    obtain ⟨⟨hr, hf⟩, hB'⟩ := hB
    obtain ⟨v, hy, hK⟩ := h
    exact anyOrder_first h0 (Region.noSelect_spec hs) l.length listed a (Region.free_spec h0 hf) (by simpa using hr) hy
      (anyOrder_of_inText hs l (k + 1) _ _ (fun j => by have := hl (j + 1); simpa [Nat.add_assoc, Nat.add_comm 1 j] using this) hB' hK)

/-- the class of worlds: all that was in w0 is as it was -/
def Cls (w0 w : World) : Prop := Below w0.heap.size w0 w
theorem Cls.out {w0 w : World} (h : Cls w0 w) : Below w0.heap.size w0 w := h
theorem cls_trans {w0 w w' : World} (h : Cls w0 w) (k : Below w.heap.size w w') : Cls w0 w' := ext_trans h k
theorem cls_alloc {w0 w : World} (h : Cls w0 w) (o : Obj) : Cls w0 (w.alloc o) := ext_alloc h o
theorem cls_cell {w0 w : World} (h : Cls w0 w) : (∀ b o, b < w0.heap.size → w.cell? ⟨b, o, none⟩ = w0.cell? ⟨b, o, none⟩) ∧ (∀ b o, b < w0.heap.size → w.frozen? ⟨b, o, none⟩ = w0.frozen? ⟨b, o, none⟩) := bcell h
theorem wp_region_grow {id : Nat} {Q : Exit → Act → World → Prop} {a : Act} {w : World} {l : List Oper} (w0 : World) (hm : P.follows .mixedOrders = true) (hB : Region.lexB .any l.toArray = true)
    (hw : Below w0.heap.size w0 w) (h : inText P l.toArray (Cls w0) (fun a' => ∀ w', Cls w0 w' → Q .normal a' w') l a) : (Code.region id l.toArray true).wp P Q a w := by
  simp only [Region.lexB, Bool.and_eq_true] at hB
  refine wp_region_any hm (wpAny_of_anyOrder (Q := fun a' => ∀ w', Cls w0 w' → Q .normal a' w') (fun _ w' hw' h => h w' hw') _ _ _ _ (C := Cls w0) (by exact ⟨hw.os, hw.tape, hw.output, hw.size, hw.block⟩) ?_)
  have := anyOrder_of_inText (C := Cls w0) (md := .any) (P := P) hB.1 l 0 (Array.replicate l.toArray.size false) a (by simp) (by simpa using hB.2) h
  simpa using this

/-- a step of the walk: not passed over -/
theorem inText_step {Q : Act → Prop} {a : Act} {o : Oper} {rest : List Oper} (v : Value) (hw : Region.wanted o (yielded ops a.tmps) = true)
    (h : ∀ w, C w → outcome P C v ((execOp a.eval o).run P w)) (hn : inText P ops C Q rest (a.put o.dst v)) : inText P ops C Q (o :: rest) a :=
  ⟨v, by unfold Gives; rw [if_pos hw]; exact h, hn⟩
theorem inText_skip {Q : Act → Prop} {a : Act} {o : Oper} {rest : List Oper} (hw : Region.wanted o (yielded ops a.tmps) = false)
    (hn : inText P ops C Q rest (a.put o.dst undef)) : inText P ops C Q (o :: rest) a :=
  ⟨undef, by unfold Gives; rw [hw]; rfl, hn⟩
theorem inText_nil {Q : Act → Prop} {a : Act} (h : Q a) : inText P ops C Q [] a := h
end
/-! XHEAD: a region whose first operations only read, and whose others come one behind the other -/
section
variable {P : Program} {ops : Array Oper} {md : Region.Mode} {C : World → Prop} {Q : Exit → Act → World → Prop}
/-- operations one behind the other; behind each the world is of the class -/
def wpListC (P : Program) (ops : Array Oper) (C : World → Prop) (Q : Exit → Act → World → Prop) : List Oper → Act → World → Prop
  | [], a, w => Q .normal a w
  | o :: rest, a, w => if Region.wanted o (yielded ops a.tmps) then o.wp P a w (fun a' w' => C w' ∧ wpListC P ops C Q rest a' w') Q else C w ∧ wpListC P ops C Q rest (a.put o.dst undef) w
theorem wpListC_nil {a : Act} {w : World} (h : Q .normal a w) : wpListC P ops C Q [] a w := h
theorem wpListC_step {a : Act} {w : World} {o : Oper} {rest : List Oper} (hw : Region.wanted o (yielded ops a.tmps) = true)
    (h : ∀ K : Act → World → Prop, (∀ a' w', C w' → (C w' → wpListC P ops C Q rest a' w') → K a' w') → o.wp P a w K Q) : wpListC P ops C Q (o :: rest) a w := by
  unfold wpListC
  rw [if_pos hw]
  exact h _ fun a' w' h1 h2 => ⟨h1, h2 h1⟩
theorem wpAnyH_seqC : ∀ (l : List Oper) (k : Nat) (listed : Array Bool) (a : Act) (w : World), (∀ j, l[j]? = ops[k + j]?) → Region.seqB md ops l.length k listed = true → wpListC P ops C Q l a w → wpAnyH P md ops Q C l.length listed a w
  | [], k, listed, a, w, hl, hB, h => by
    simp only [List.length_nil, Region.seqB, List.isEmpty_iff] at hB
    exact ⟨hB, h⟩
  | o :: l, k, listed, a, w, hl, hB, h => by
    simp only [List.length_cons, Region.seqB, Bool.and_eq_true, decide_eq_true_eq] at hB
    have h0 : ops[k]? = some o := by simpa using (hl 0).symm
    refine wpAnyH_all hB.1 (by simp) fun i hi => ?_
    obtain rfl : i = k := by simpa using hi
    unfold wpOp
    simp only [h0]
    unfold wpListC at h
    have next : ∀ a' w', C w' ∧ wpListC P ops C Q l a' w' → C w' ∧ wpAnyH P md ops Q C l.length (listed.setIfInBounds i true) a' w' := fun a' w' hh =>
      ⟨hh.1, wpAnyH_seqC l (i + 1) _ a' w' (fun j => by have := hl (j + 1); simpa [Nat.add_assoc, Nat.add_comm 1 j] using this) hB.2 hh.2⟩
    split
    · rename_i hw
      rw [if_pos hw] at h
      exact .inl (Oper.wp_mono next h)
    · rename_i hw
      rw [if_neg hw] at h
      exact next _ _ h
/-- the first operations, each taken first -/
def headC (P : Program) (ops : Array Oper) (C : World → Prop) (Q : Act → Prop) : List Oper → Act → Prop
  | [], a => Q a
  | o :: rest, a => ∃ v, YieldsIf P ops C o v a ∧ headC P ops C Q rest (a.put o.dst v)
theorem headC_nil {Q : Act → Prop} {a : Act} (h : Q a) : headC P ops C Q [] a := h
theorem headC_step {Q : Act → Prop} {a : Act} {o : Oper} {rest : List Oper} (v : Value) (hy : YieldsIf P ops C o v a) (h : headC P ops C Q rest (a.put o.dst v)) : headC P ops C Q (o :: rest) a := ⟨v, hy, h⟩
/-- the listing behind the first n -/
def listedBy : Nat → Nat → Array Bool → Array Bool
  | 0, _, l => l
  | n + 1, k, l => listedBy n (k + 1) (l.setIfInBounds k true)
def headB (md : Region.Mode) (ops : Array Oper) : Nat → Nat → Array Bool → Bool
  | 0, _, _ => true
  | n + 1, k, listed => Region.free md ops listed k && (Region.ready md ops listed).contains k && headB md ops n (k + 1) (listed.setIfInBounds k true)
theorem wpAnyH_head (hs : Region.noSelect ops = true) (hQ : ∀ c a d v w, Q (.panic c) (Act.put a d v) w → Q (.panic c) a w) {w : World} (hC : C w) : ∀ (l : List Oper) (k g : Nat) (listed : Array Bool) (a : Act), (∀ j, j < l.length → l[j]? = ops[k + j]?) →
    headB md ops l.length k listed = true → headC P ops C (fun a' => wpAnyH P md ops Q C g (listedBy l.length k listed) a' w) l a → wpAnyH P md ops Q C (g + l.length) listed a w
  | [], k, g, listed, a, hl, hB, h => h
  | o :: l, k, g, listed, a, hl, hB, h => by
    have h0 : ops[k]? = some o := by simpa using (hl 0 (by simp)).symm
    simp only [List.length_cons, headB, Bool.and_eq_true] at hB
    obtain ⟨v, hy, hn⟩ := h
    refine wpAnyH_take h0 hs hB.1.1 hB.1.2 (fun c a' w' => hQ c a' _ v w') hy hC ?_
    exact wpAnyH_head hs hQ hC l (k + 1) g _ _ (fun j hj => by have := hl (j + 1) (by simp; omega); simpa [Nat.add_assoc, Nat.add_comm 1 j] using this) hB.2 hn
def headTailB (ops : Array Oper) (n : Nat) : Bool := Region.noSelect ops && decide (n ≤ ops.size) && headB .any ops n 0 (Array.replicate ops.size false) && Region.seqB .any ops (ops.size - n) n (listedBy n 0 (Array.replicate ops.size false))
theorem wp_region_head {id : Nat} {a : Act} {w : World} {l : List Oper} (w0 : World) (n : Nat) (hm : P.follows .mixedOrders = true) (hB : headTailB l.toArray n = true) (hQ : ∀ c a d v w, Q (.panic c) (Act.put a d v) w → Q (.panic c) a w)
    (hw : Below w0.heap.size w0 w) (h : headC P l.toArray (Cls w0) (fun a' => wpListC P l.toArray (Cls w0) Q (l.drop n) a' w.drew) (l.take n) a) : (Code.region id l.toArray true).wp P Q a w := by
  simp only [headTailB, Bool.and_eq_true, decide_eq_true_eq] at hB
  obtain ⟨⟨⟨hs, hn⟩, hh⟩, hq⟩ := hB
  have hn' : n ≤ l.length := by simpa using hn
  have hC : Cls w0 w.drew := ext_drew hw
  refine wp_region_held_drew (S := Cls w0) hm hC fun _ => ?_
  have htl : (l.take n).length = n := by simp; omega
  have hdl : (l.drop n).length = l.toArray.size - n := by simp
  have mono : ∀ (m : List Oper) (b : Act), headC P l.toArray (Cls w0) (fun a' => wpListC P l.toArray (Cls w0) Q (l.drop n) a' w.drew) m b →
      headC P l.toArray (Cls w0) (fun a' => wpAnyH P .any l.toArray Q (Cls w0) (l.toArray.size - n) (listedBy n 0 (Array.replicate l.toArray.size false)) a' w.drew) m b := by
    intro m
    induction m with
    | nil =>
      intro b hb
      have := wpAnyH_seqC (md := .any) (l.drop n) n (listedBy n 0 (Array.replicate l.toArray.size false)) b w.drew (fun j => by simp [List.getElem?_drop]) (by rw [hdl]; exact hq) hb
      rw [hdl] at this
      exact this
    | cons o m ih =>
      intro b ⟨v, hy, hb⟩
      exact ⟨v, hy, ih _ hb⟩
  have := wpAnyH_head (md := .any) (P := P) (C := Cls w0) hs hQ hC (l.take n) 0 (l.toArray.size - n) (Array.replicate l.toArray.size false) a (fun j hj => by
    rw [htl] at hj
    rw [List.getElem?_take, if_pos hj]
    simp) (by rw [htl]; exact hh) (by rw [htl]; exact mono _ _ h)
  rw [htl] at this
  have e : l.toArray.size - n + n = l.toArray.size := by simp; omega
  rw [e] at this
  exact this
end
end Go.Proofs.YtegekccoincicaaGreatDoor
