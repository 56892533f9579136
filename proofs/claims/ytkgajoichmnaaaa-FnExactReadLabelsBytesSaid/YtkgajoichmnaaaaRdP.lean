/- Readers of bytes, in plain Lean: the program's and the reference's end alike. No condition. -/
import Derived.Test.YtkgajoichmnaaaaReadVarP
import Derived.Test.YtkgajoichmnaaaaLabelsOk
namespace Go.Proofs.Ytkgajoichmnaaaa
open Dat (rd)
open Go.ChangeShapes Go.WideShapes Go.ChangeAt Go.RowKit
set_option linter.unusedVariables false
set_option linter.unusedSimpArgs false

theorem rvAt_spec (s : ByteArray) (a : Nat) : ∀ (j k n : Nat) (q : Nat × Nat), j = 9 - k → n < 2 ^ (7 * k) → rvAt s a k n = some q → q.1 < 2 ^ 63 ∧ q.2 ≤ s.size
  | j, k, n, q, hj, hn, h => by
    by_cases hk : k < 9 ∧ a + k < s.size
    · have e : s[a + k].toNat % 128 < 128 := Nat.mod_lt _ (by decide)
      have hp : (2:Nat) ^ (7 * (k + 1)) = 2 ^ (7 * k) * 128 := by rw [Nat.mul_add, Nat.pow_add]
      have hm : s[a + k].toNat % 128 * 2 ^ (7 * k) ≤ 127 * 2 ^ (7 * k) := Nat.mul_le_mul_right _ (by omega)
      have hnn : n + s[a + k].toNat % 128 * 2 ^ (7 * k) < 2 ^ (7 * (k + 1)) := by omega
      by_cases hc : s[a + k].toNat < 128
      · by_cases hz : s[a + k].toNat = 0 ∧ 0 < k
        · rw [rvAt_zero hk.1 hk.2 hz.1 hz.2] at h; cases h
        · rw [rvAt_end hk.1 hk.2 hc hz] at h
          cases h
          have h63 : (2:Nat) ^ (7 * (k + 1)) ≤ 2 ^ 63 := Nat.pow_le_pow_right (by decide) (by omega)
          exact ⟨by show _ < _; omega, by show _ ≤ _; omega⟩
      · rw [rvAt_more hk.1 hk.2 (by omega)] at h
        match j, hj with
        | 0, hj => omega
        | j + 1, hj => exact rvAt_spec s a j (k + 1) _ q (by omega) hnn h
    · rw [rvAt_out hk] at h; cases h
theorem readVarR_spec {s : ByteArray} {a : Int} {q : Nat × Nat} (h : readVarR s a = some q) : q.1 < 2 ^ 63 ∧ q.2 ≤ s.size := by
  unfold readVarR at h
  split at h
  · cases h
  · exact rvAt_spec s _ 9 0 0 q rfl (by decide) h
/-- ReadVar's answer: the number and the place, or 0 and -1 -/
def varI (s : ByteArray) (a : Int) : Int × Int := match readVarR s a with | some (n, p) => ((n : Int), (p : Int)) | none => (0, -1)
theorem rvV_eq (s : ByteArray) (a : Int) : rvV (readVarR s a) = .tuple #[.int .i64 (varI s a).1, .int .i64 (varI s a).2] := by
  unfold varI
  cases h : readVarR s a <;> rfl
theorem varI_ways (s : ByteArray) (a : Int) : (varI s a = (0, -1)) ∨ ∃ n p : Nat, varI s a = ((n : Int), (p : Int)) ∧ n < 2 ^ 63 ∧ p ≤ s.size := by
  unfold varI
  cases h : readVarR s a with
  | none => exact .inl rfl
  | some q => obtain ⟨n, p⟩ := q; exact .inr ⟨n, p, rfl, readVarR_spec h⟩
theorem varI_neg {s : ByteArray} {a : Int} (h : a < 0) : varI s a = (0, -1) := by unfold varI readVarR; rw [if_pos h]
/-- ReadShort's answer -/
def shortI (s : ByteArray) (a : Int) : ByteArray × Int :=
  if (varI s a).2 < 0 ∨ (s.size : Int) - (varI s a).2 < (varI s a).1 then (⟨#[]⟩, -1)
  else (s.extract (varI s a).2.toNat ((varI s a).2.toNat + (varI s a).1.toNat), (varI s a).2 + (varI s a).1)
theorem shortI_neg {s : ByteArray} {a : Int} (h : a < 0) : shortI s a = (⟨#[]⟩, -1) := by
  unfold shortI; rw [varI_neg h, if_pos (.inl (by decide))]
theorem shortI_spec (s : ByteArray) (a : Int) (hs : (s.size : Int) ≤ 1048576) : ((shortI s a).1.size : Int) ≤ 1048576 ∧ -1 ≤ (shortI s a).2 ∧ (shortI s a).2 ≤ s.size := by
  unfold shortI
  rcases varI_ways s a with h | ⟨n, p, h, hn, hp⟩
  · rw [h, if_pos (.inl (by decide))]
    refine ⟨?_, ?_, ?_⟩
    · show (0 : Int) ≤ _; omega
    · show (-1 : Int) ≤ -1; omega
    · show (-1 : Int) ≤ _; omega
  · rw [h]
    simp only []
    split
    · refine ⟨?_, ?_, ?_⟩
      · show (0 : Int) ≤ _; omega
      · show (-1 : Int) ≤ -1; omega
      · show (-1 : Int) ≤ _; omega
    · rename_i hc
      refine ⟨?_, by show (-1 : Int) ≤ (p : Int) + (n : Int); omega, by show (p : Int) + (n : Int) ≤ _; omega⟩
      show ((s.extract _ _).size : Int) ≤ _
      rw [ByteArray.size_extract]
      omega
theorem varI_I64 (s : ByteArray) (a : Int) (hs : (s.size : Int) ≤ 1048576) : I64 (varI s a).1 ∧ (-1 ≤ (varI s a).2 ∧ (varI s a).2 ≤ 1048576) ∧ 0 ≤ (varI s a).1 := by
  rcases varI_ways s a with h | ⟨n, p, h, hn, hp⟩
  · rw [h]; exact ⟨⟨by show _ ≤ (0:Int); omega, by show (0:Int) ≤ _; omega⟩, ⟨by show (-1:Int) ≤ -1; omega, by show (-1:Int) ≤ _; omega⟩, by show (0:Int) ≤ 0; omega⟩
  · rw [h]; exact ⟨⟨by show _ ≤ (n:Int); omega, by show (n:Int) ≤ _; omega⟩, ⟨by show (-1:Int) ≤ (p:Int); omega, by show (p:Int) ≤ _; omega⟩, by show (0:Int) ≤ (n:Int); omega⟩
/-! the program's reader: its state is its place, below 0 behind a fault -/
def countI (s : ByteArray) (most : Int) (a : Int) : Int × Int :=
  if (varI s a).1 ≤ most then (if (varI s a).2 < 0 then (0, (varI s a).2) else varI s a) else (0, -1)
def textI (s : ByteArray) (a : Int) : ByteArray × Int := if a < 0 then (⟨#[]⟩, a) else shortI s a
/-! the reference's reader: its place, and whether there was a fault -/
def numS (s : ByteArray) (st : Int × Bool) : Int × (Int × Bool) :=
  if (varI s st.1).2 < 0 ∨ st.2 = true then (0, (st.1, true)) else ((varI s st.1).1, ((varI s st.1).2, false))
def textS (s : ByteArray) (st : Int × Bool) : ByteArray × (Int × Bool) :=
  if (shortI s st.1).2 < 0 ∨ st.2 = true then (⟨#[]⟩, (st.1, true)) else ((shortI s st.1).1, ((shortI s st.1).2, false))
def manyS (s : ByteArray) (most : Int) (st : Int × Bool) : Int × (Int × Bool) :=
  if most < (numS s st).1 then (0, ((numS s st).2.1, true)) else numS s st
/-! the two states that belong together -/
def Weak (a : Int) (st : Int × Bool) : Prop := (0 ≤ a → st = (a, false)) ∧ (a < 0 → st.2 = true ∨ st.1 < 0)
def Same (a : Int) (st : Int × Bool) : Prop := (0 ≤ a → st = (a, false)) ∧ (a < 0 → st.2 = true)
theorem Same.weak {a : Int} {st : Int × Bool} (h : Same a st) : Weak a st := ⟨h.1, fun hn => .inl (h.2 hn)⟩
theorem weak_first (a : Int) : Weak a (a, false) := ⟨fun _ => rfl, fun h => .inr h⟩
theorem num_same {s : ByteArray} {a : Int} {st : Int × Bool} (h : Weak a st) : Same (varI s a).2 (numS s st).2 ∧ (varI s a).1 = (numS s st).1 := by
  by_cases ha : a < 0
  · have e : numS s st = (0, (st.1, true)) := by
      unfold numS
      rcases h.2 ha with hb | hb
      · rw [if_pos (.inr hb)]
      · rw [varI_neg hb, if_pos (.inl (by decide))]
    rw [varI_neg ha, e]
    exact ⟨⟨fun h => absurd h (by decide), fun _ => rfl⟩, rfl⟩
  · have e := h.1 (by omega)
    subst e
    unfold numS
    simp only [Bool.false_eq_true, or_false]
    rcases varI_ways s a with e | ⟨n, p, e, hn, hp⟩
    · rw [e]
      simp only [if_pos (show (-1 : Int) < 0 by decide)]
      exact ⟨⟨fun h => absurd h (by decide), fun _ => rfl⟩, trivial⟩
    · rw [e]
      simp only [if_neg (show ¬ (p : Int) < 0 by omega)]
      exact ⟨⟨fun _ => rfl, fun h => absurd h (by omega)⟩, trivial⟩
theorem text_same {s : ByteArray} {a : Int} {st : Int × Bool} (h : Weak a st) : Same (textI s a).2 (textS s st).2 ∧ (textI s a).1 = (textS s st).1 := by
  by_cases ha : a < 0
  · have e : textS s st = (⟨#[]⟩, (st.1, true)) := by
      unfold textS
      rcases h.2 ha with hb | hb
      · rw [if_pos (.inr hb)]
      · rw [shortI_neg hb, if_pos (.inl (by decide))]
    unfold textI
    rw [if_pos ha, e]
    exact ⟨⟨fun h => absurd ha (by omega), fun _ => rfl⟩, rfl⟩
  · have e := h.1 (by omega)
    subst e
    unfold textS textI
    rw [if_neg ha]
    simp only [Bool.false_eq_true, or_false]
    by_cases hs : (shortI s a).2 < 0
    · rw [if_pos hs]
      have e1 : (shortI s a).1 = ⟨#[]⟩ := by
        unfold shortI at hs ⊢
        rcases varI_ways s a with e | ⟨n, p, e, hn, hp⟩
        · rw [e, if_pos (.inl (by decide))]
        · rw [e] at hs ⊢
          simp only [] at hs ⊢
          split
          · rfl
          · rename_i hc
            rw [if_neg hc] at hs
            exact absurd hs (by show ¬ ((p : Int) + (n : Int) < 0); omega)
      exact ⟨⟨fun h => absurd hs (by omega), fun _ => rfl⟩, e1⟩
    · rw [if_neg hs]
      exact ⟨⟨fun _ => rfl, fun h => absurd h hs⟩, rfl⟩
theorem many_same {s : ByteArray} {most a : Int} {st : Int × Bool} (hm : 0 ≤ most) (h : Weak a st) : Same (countI s most a).2 (manyS s most st).2 ∧ (countI s most a).1 = (manyS s most st).1 := by
  obtain ⟨h1, h2⟩ := num_same (s := s) h
  unfold countI manyS
  rw [← h2]
  by_cases hle : (varI s a).1 ≤ most
  · rw [if_pos hle, if_neg (show ¬ most < (varI s a).1 by omega)]
    split
    · rename_i hn
      refine ⟨h1, ?_⟩
      rw [← h2]
      rcases varI_ways s a with e | ⟨n, p, e, _, _⟩
      · rw [e]
      · rw [e] at hn; exact absurd hn (by show ¬ ((p : Int) < 0); omega)
    · exact ⟨h1, h2⟩
  · rw [if_neg hle, if_pos (show most < (varI s a).1 by omega)]
    exact ⟨⟨fun h => absurd h (by decide), fun _ => rfl⟩, rfl⟩
theorem countI_ways (s : ByteArray) (most a : Int) (hm : 0 ≤ most) : (0 ≤ (countI s most a).1 ∧ (countI s most a).1 ≤ most) := by
  unfold countI
  have h0 : 0 ≤ (varI s a).1 := by
    rcases varI_ways s a with e | ⟨n, p, e, _, _⟩
    · rw [e]; exact Int.le_refl 0
    · rw [e]; exact Int.natCast_nonneg n
  split
  · split
    · exact ⟨Int.le_refl 0, hm⟩
    · exact ⟨h0, by assumption⟩
  · exact ⟨Int.le_refl 0, hm⟩
theorem manyS_ways (s : ByteArray) (most : Int) (st : Int × Bool) (hm : 0 ≤ most) : 0 ≤ (manyS s most st).1 ∧ (manyS s most st).1 ≤ most := by
  have h0 : 0 ≤ (numS s st).1 := by
    unfold numS
    split
    · exact Int.le_refl 0
    · rcases varI_ways s st.1 with e | ⟨n, p, e, _, _⟩
      · rw [e]; exact Int.le_refl 0
      · rw [e]; exact Int.natCast_nonneg n
  unfold manyS
  split
  · exact ⟨Int.le_refl 0, hm⟩
  · exact ⟨h0, by omega⟩
theorem textI_neg {s : ByteArray} {a : Int} (h : a < 0) : (textI s a).2 < 0 := by unfold textI; rw [if_pos h]; exact h
/-! loops of readings -/
def loopI {α : Type} (r : Int → α × Int) : Nat → List α → Int → List α × Int
  | 0, xs, a => (xs, a)
  | k + 1, xs, a => loopI r k (xs ++ [(r a).1]) (r a).2
def loopS {α : Type} (r : Int × Bool → α × (Int × Bool)) : Nat → List α → Int × Bool → List α × (Int × Bool)
  | 0, xs, st => (xs, st)
  | k + 1, xs, st => if st.2 = true then (xs, st) else loopS r k (xs ++ [(r st).1]) (r st).2
theorem loopI_len {α : Type} (r : Int → α × Int) : ∀ (k : Nat) (xs : List α) (a : Int), (loopI r k xs a).1.length = xs.length + k
  | 0, _, _ => rfl
  | k + 1, xs, a => by rw [loopI, loopI_len r k]; simp; omega
theorem loopI_neg {α : Type} {r : Int → α × Int} (hr : ∀ a, a < 0 → (r a).2 < 0) : ∀ (k : Nat) (xs : List α) (a : Int), a < 0 → (loopI r k xs a).2 < 0
  | 0, _, _, h => h
  | k + 1, xs, a, h => loopI_neg hr k _ _ (hr a h)
theorem loop_same {α : Type} {r : Int → α × Int} {q : Int × Bool → α × (Int × Bool)} (hr : ∀ a, a < 0 → (r a).2 < 0) (h : ∀ a st, Same a st → Same (r a).2 (q st).2 ∧ (0 ≤ (r a).2 → (r a).1 = (q st).1)) :
    ∀ (k : Nat) (xs ys : List α) (a : Int) (st : Int × Bool), Same a st → (0 ≤ a → xs = ys) → Same (loopI r k xs a).2 (loopS q k ys st).2 ∧ (0 ≤ (loopI r k xs a).2 → (loopI r k xs a).1 = (loopS q k ys st).1)
  | 0, xs, ys, a, st, hs, he => ⟨hs, he⟩
  | k + 1, xs, ys, a, st, hs, he => by
    rw [loopI, loopS]
    by_cases ha : a < 0
    · rw [if_pos (hs.2 ha)]
      have hn := loopI_neg hr k (xs ++ [(r a).1]) _ (hr a ha)
      exact ⟨⟨fun h0 => absurd hn (by omega), fun _ => hs.2 ha⟩, fun h0 => absurd hn (by omega)⟩
    · have e := hs.1 (by omega)
      rw [if_neg (show ¬ st.2 = true by rw [e]; simp)]
      obtain ⟨h1, h2⟩ := h a st hs
      refine loop_same hr h k _ _ _ _ h1 (fun h0 => ?_)
      rw [he (by omega), h2 h0]
/-! labels -/
def labI (s : ByteArray) (a : Int) : Label × Int := (⟨(textI s a).1, (textI s (textI s a).2).1⟩, (textI s (textI s a).2).2)
def labS (s : ByteArray) (st : Int × Bool) : Label × (Int × Bool) := (⟨(textS s st).1, (textS s (textS s st).2).1⟩, (textS s (textS s st).2).2)
theorem labI_neg {s : ByteArray} {a : Int} (h : a < 0) : (labI s a).2 < 0 := textI_neg (textI_neg h)
theorem lab_same {s : ByteArray} {a : Int} {st : Int × Bool} (h : Same a st) : Same (labI s a).2 (labS s st).2 ∧ (0 ≤ (labI s a).2 → (labI s a).1 = (labS s st).1) := by
  obtain ⟨h1, h2⟩ := text_same (s := s) h.weak
  obtain ⟨h3, h4⟩ := text_same (s := s) h1.weak
  exact ⟨h3, fun _ => by unfold labI labS; rw [h2, h4]⟩
def labelsRaw (s : ByteArray) (a : Int) : List Label × Int := loopI (labI s) (countI s 6 a).1.toNat [] (countI s 6 a).2
def labelsS (s : ByteArray) (st : Int × Bool) : List Label × (Int × Bool) := loopS (labS s) (manyS s 6 st).1.toNat [] (manyS s 6 st).2
def labelsI (s : ByteArray) (a : Int) : List Label × Int := ((labelsRaw s a).1, if labelsR (labelsRaw s a).1 = true then (labelsRaw s a).2 else -1)
theorem labels_same {s : ByteArray} {a : Int} {st : Int × Bool} (h : Weak a st) : Same (labelsRaw s a).2 (labelsS s st).2 ∧ (0 ≤ (labelsRaw s a).2 → (labelsRaw s a).1 = (labelsS s st).1) := by
  obtain ⟨h1, h2⟩ := many_same (s := s) (most := 6) (by decide) h
  unfold labelsRaw labelsS
  rw [← h2]
  exact loop_same (fun a ha => labI_neg ha) (fun a st hs => lab_same hs) _ _ _ _ _ h1 (fun _ => rfl)
/-- what ReadLabelsBytes answers -/
def readLabelsI (s : ByteArray) (a : Int) : List Label × Int := if (labelsI s a).2 < 0 then ([], -1) else labelsI s a
def readLabelsS (s : ByteArray) (a : Int) : List Label × Int :=
  if (labelsS s (a, false)).2.2 = true ∨ labelsR (labelsS s (a, false)).1 = false then ([], -1) else ((labelsS s (a, false)).1, (labelsS s (a, false)).2.1)
theorem readLabels_same (s : ByteArray) (a : Int) : readLabelsI s a = readLabelsS s a := by
  obtain ⟨h1, h2⟩ := labels_same (s := s) (weak_first a)
  unfold readLabelsI readLabelsS labelsI
  by_cases hn : (labelsRaw s a).2 < 0
  · rw [if_pos (show ((labelsRaw s a).1, if labelsR (labelsRaw s a).1 = true then (labelsRaw s a).2 else -1).2 < 0 by show (if _ then _ else _ : Int) < 0; split <;> omega), if_pos (.inl (h1.2 hn))]
  · have e := h1.1 (by omega)
    have e2 := h2 (by omega)
    rw [← e2]
    cases hl : labelsR (labelsRaw s a).1
    · simp
    · rw [e]; simp [hn]

end Go.Proofs.Ytkgajoichmnaaaa
