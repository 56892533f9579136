/- The order of strings is a strict total order. No condition. -/
import Derived.Test.YtjoclfenghenjaaGreatCmp2
import Derived.Test.YtjoclfenghenjaaGreatStabZ
import Derived.Test.YtjoclfenghenjaaGreatMarkOn
import Derived.Test.YtjoclfenghenjaaGreatFeas
namespace Go.Proofs.YtjoclfenghenjaaGreat
set_option linter.unusedVariables false
set_option linter.unusedSimpArgs false
theorem bl_irr : ∀ a : List UInt8, Op.bytesLess a a = false
  | [] => rfl
  | x :: a => by
    unfold Op.bytesLess
    have ih := bl_irr a
    have h : decide (x < x) = false := by simp
    simp [ih]
theorem bl_cons (x y : UInt8) (a b : List UInt8) : Op.bytesLess (x :: a) (y :: b) = true ↔ x < y ∨ (x = y ∧ Op.bytesLess a b = true) := by
  conv => lhs; unfold Op.bytesLess
  simp
theorem bl_tr : ∀ a b c : List UInt8, Op.bytesLess a b = true → Op.bytesLess b c = true → Op.bytesLess a c = true
  | [], [], _, h, _ => by simp [Op.bytesLess] at h
  | [], _ :: _, [], _, h => by simp [Op.bytesLess] at h
  | [], _ :: _, _ :: _, _, _ => by simp [Op.bytesLess]
  | _ :: _, [], _, h, _ => by simp [Op.bytesLess] at h
  | _ :: _, _ :: _, [], _, h => by simp [Op.bytesLess] at h
  | x :: a, y :: b, z :: c, h1, h2 => by
    rw [bl_cons] at h1 h2 ⊢
    rcases h1 with h1 | ⟨rfl, h1⟩
    · rcases h2 with h2 | ⟨rfl, h2⟩
      · exact .inl (UInt8.lt_trans h1 h2)
      · exact .inl h1
    · rcases h2 with h2 | ⟨rfl, h2⟩
      · exact .inl h2
      · exact .inr ⟨rfl, bl_tr a b c h1 h2⟩
theorem bl_tot : ∀ a b : List UInt8, Op.bytesLess a b = false → Op.bytesLess b a = false → a = b
  | [], [], _, _ => rfl
  | [], _ :: _, h, _ => by simp [Op.bytesLess] at h
  | _ :: _, [], _, h => by simp [Op.bytesLess] at h
  | x :: a, y :: b, h1, h2 => by
    have e1 : ¬ (x < y ∨ (x = y ∧ Op.bytesLess a b = true)) := by rw [← bl_cons, h1]; simp
    have e2 : ¬ (y < x ∨ (y = x ∧ Op.bytesLess b a = true)) := by rw [← bl_cons, h2]; simp
    have hxy : x = y := UInt8.le_antisymm (UInt8.not_lt.1 fun h => e2 (.inl h)) (UInt8.not_lt.1 fun h => e1 (.inl h))
    subst hxy
    rw [bl_tot a b (by cases h : Op.bytesLess a b; rfl; exact absurd (.inr ⟨rfl, h⟩) e1) (by cases h : Op.bytesLess b a; rfl; exact absurd (.inr ⟨rfl, h⟩) e2)]
theorem bl_asym {a b : List UInt8} (h : Op.bytesLess a b = true) : Op.bytesLess b a = false := by
  cases h2 : Op.bytesLess b a
  · rfl
  · have := bl_tr a b a h h2; rw [bl_irr] at this; cases this
theorem bl_neg (a b c : List UInt8) (h1 : Op.bytesLess a b = false) (h2 : Op.bytesLess b c = false) : Op.bytesLess a c = false := by
  cases h : Op.bytesLess a c
  · rfl
  · cases h3 : Op.bytesLess b a
    · have := bl_tot a b h1 h3; subst this; rw [h] at h2; cases h2
    · have := bl_tr b a c h3 h; rw [this] at h2; cases h2
/-- what '<=' of strings says -/
theorem bl_le (y z : ByteArray) : Op.bytesLess y.data.toList z.data.toList = !(Op.bytesLess z.toList y.toList || z.toList == y.toList) := by
  rw [ByteArray.toList_eq, ByteArray.toList_eq]
  cases h1 : Op.bytesLess z.data.toList y.data.toList with
  | true => rw [bl_asym h1]; rfl
  | false =>
    cases h2 : (z.data.toList == y.data.toList) with
    | true =>
      rw [beq_iff_eq] at h2
      rw [h2, bl_irr]; rfl
    | false =>
      cases h3 : Op.bytesLess y.data.toList z.data.toList with
      | true => rfl
      | false =>
        have := bl_tot _ _ h1 h3
        rw [this] at h2
        simp at h2
end Go.Proofs.YtjoclfenghenjaaGreat

namespace Go.Proofs.YtjoclfenghenjaaGreat
open Go.ChangeShapes Go.WideShapes Go.ChangeAt Go.RowKit
set_option linter.unusedVariables false
set_option linter.unusedSimpArgs false

def rankI (x : Cluster) (p : Pod) (a b : ByteArray) : List Int := [Lib.compareInt (markR b x p) (markR a x p), Lib.compareBytes a.data.toList b.data.toList]
def rankV (x : Cluster) (p : Pod) (a b : ByteArray) : Int := orI (rankI x p a b)
/-- the hosts in order: the greatest mark ahead; of one mark the least name -/
def rankL (x : Cluster) (p : Pod) : List ByteArray := sortB (ltV (rankV x p)) [] (feasL x p x.hosts)
theorem rank_lt (x : Cluster) (p : Pod) (a b : ByteArray) : ltV (rankV x p) a b = true ↔ markR b x p < markR a x p ∨ (markR a x p = markR b x p ∧ Op.bytesLess a.data.toList b.data.toList = true) := by
  have e := cb_lt a.data.toList b.data.toList
  unfold ltV rankV rankI orI orI
  rw [decide_eq_true_eq, ← e]
  unfold Lib.compareInt
  by_cases h1 : markR b x p < markR a x p
  · simp [h1]
  · by_cases h2 : markR a x p < markR b x p
    · simp [h1, h2]
      omega
    · have h3 : markR a x p = markR b x p := by omega
      simp [h3, orI]
      by_cases h4 : Lib.compareBytes a.data.toList b.data.toList = 0
      · simp [h4]
      · simp [h4]
theorem rank_weak (x : Cluster) (p : Pod) : Weak (ltV (rankV x p)) := by
  have no : ∀ a b, ltV (rankV x p) a b = false ↔ ¬ (markR b x p < markR a x p ∨ (markR a x p = markR b x p ∧ Op.bytesLess a.data.toList b.data.toList = true)) := fun a b => by
    rw [← rank_lt]; simp
  refine ⟨fun a => ?_, fun a b c h1 h2 => ?_, fun a b c h1 h2 => ?_⟩
  · rw [no]
    rintro (h | ⟨_, h⟩)
    · omega
    · rw [bl_irr] at h; cases h
  · rw [rank_lt] at h1 h2 ⊢
    rcases h1 with h1 | ⟨e1, h1⟩
    · rcases h2 with h2 | ⟨e2, h2⟩
      · left; omega
      · left; omega
    · rcases h2 with h2 | ⟨e2, h2⟩
      · left; omega
      · right; exact ⟨by omega, bl_tr _ _ _ h1 h2⟩
  · rw [no] at h1 h2 ⊢
    rintro (h | ⟨e, h⟩)
    · have a1 : ¬ markR b x p < markR a x p := fun h => h1 (.inl h)
      have a2 : ¬ markR c x p < markR b x p := fun h => h2 (.inl h)
      omega
    · have a1 : ¬ markR b x p < markR a x p := fun h => h1 (.inl h)
      have a2 : ¬ markR c x p < markR b x p := fun h => h2 (.inl h)
      have e1 : markR a x p = markR b x p := by omega
      have e2 : markR b x p = markR c x p := by omega
      have n1 : Op.bytesLess a.data.toList b.data.toList = false := by
        cases hx : Op.bytesLess a.data.toList b.data.toList
        · rfl
        · exact absurd (.inr ⟨e1, hx⟩) h1
      have n2 : Op.bytesLess b.data.toList c.data.toList = false := by
        cases hx : Op.bytesLess b.data.toList c.data.toList
        · rfl
        · exact absurd (.inr ⟨e2, hx⟩) h2
      rw [bl_neg _ _ _ n1 n2] at h
      cases h
theorem mem_sortB {β : Type} {lt : β → β → Bool} {z : β} : ∀ (ys acc : List β), z ∈ sortB lt acc ys → z ∈ acc ∨ z ∈ ys
  | [], acc, h => .inl h
  | y :: ys, acc, h => by
    rw [sortB] at h
    rcases mem_sortB ys _ h with h | h
    · rw [insB_eq_merge] at h
      rcases mem_mergeB h with h | h
      · exact .inl h
      · rw [List.mem_singleton.1 h]; exact .inr (List.mem_cons_self ..)
    · exact .inr (List.mem_cons_of_mem _ h)
theorem rdCells_strs (w : World) : ∀ ys : List ByteArray, (∀ y ∈ ys, y.size ≤ maxLen) → rdCells w ys (ys.map Value.string) []
  | [], _ => ⟨rfl, rfl⟩
  | y :: ys, h => ⟨[.string y], ys.map Value.string, [], [], rfl, rfl, ⟨rfl, rfl, h y (List.mem_cons_self ..)⟩, rdCells_strs w ys fun z hz => h z (List.mem_cons_of_mem _ hz)⟩
theorem rdCells_strs_inv {w : World} : ∀ (ys : List ByteArray) (ds : List Value) (G : List Nat), rdCells w ys ds G → ds = ys.map Value.string ∧ G = [] ∧ ∀ y ∈ ys, y.size ≤ maxLen
  | [], ds, G, h => ⟨h.1, h.2, fun _ h => by cases h⟩
  | y :: ys, ds, G, h => by
    obtain ⟨c1, c2, F1, F2, rfl, rfl, h1, h2⟩ := h
    obtain ⟨e1, e2, h1⟩ := h1
    subst e1 e2
    obtain ⟨e3, e4, h3⟩ := rdCells_strs_inv ys c2 F2 h2
    subst e3 e4
    refine ⟨rfl, rfl, fun z hz => ?_⟩
    rcases List.mem_cons.1 hz with rfl | hz
    · exact h1
    · exact h3 z hz
theorem rankL_len (x : Cluster) (p : Pod) : (rankL x p).length = (feasL x p x.hosts).length := by unfold rankL; rw [sortB_len]; simp
end Go.Proofs.YtjoclfenghenjaaGreat
