/- A snapshot's reading, in plain Lean: the program's and the reference's end alike. No condition. -/
import Derived.Test.YtpgdgcjgompokaaGreatRdHost0
import Derived.Test.YtpgdgcjgompokaaGreatRdPod0
import Derived.Test.YtpgdgcjgompokaaGreatClusterP
import Derived.Test.YtpgdgcjgompokaaGreatLabOk
namespace Go.Proofs.YtpgdgcjgompokaaGreat
open Go.ChangeShapes Go.WideShapes Go.ChangeAt Go.RowKit
set_option linter.unusedVariables false
set_option linter.unusedSimpArgs false

def hostName (hs : List Host) (k : Int) : ByteArray := if 0 < k then (match hs[(k - 1).toNat]? with | some h => h.name | none => ⟨#[]⟩) else ⟨#[]⟩
theorem hostName_zero {hs : List Host} {k : Int} (h : ¬ 0 < k) : hostName hs k = ⟨#[]⟩ := by unfold hostName; rw [if_neg h]
theorem hostName_at {hs : List Host} {k : Int} {j : Nat} (hj : j < hs.length) (h : k = (j : Int) + 1) : hostName hs k = hs[j].name := by
  unfold hostName
  rw [if_pos (by omega), show (k - 1).toNat = j by omega, List.getElem?_eq_getElem hj]
def placedI (s : ByteArray) (hs : List Host) (a : Int) : Placed × Int :=
  (⟨(podI s a).1, hostName hs (countI s hs.length (podI s a).2).1, (varI s (countI s hs.length (podI s a).2).2).1⟩, (varI s (countI s hs.length (podI s a).2).2).2)
def placedS (s : ByteArray) (hs : List Host) (st : Int × Bool) : Placed × (Int × Bool) :=
  (⟨(podS s st).1, hostName hs (manyS s hs.length (podS s st).2).1, (numS s (manyS s hs.length (podS s st).2).2).1⟩, (numS s (manyS s hs.length (podS s st).2).2).2)
/-- a cluster behind its four numbers -/
def bodyI (s : ByteArray) (p q f n : Int) (a : Int) : Cluster × Int :=
  (⟨(manyI (hostI s) s 8 a).1, (manyI (placedI s (manyI (hostI s) s 8 a).1) s 12 (manyI (hostI s) s 8 a).2).1, n, ⟨p, q, f⟩⟩, (manyI (placedI s (manyI (hostI s) s 8 a).1) s 12 (manyI (hostI s) s 8 a).2).2)
def bodyS (s : ByteArray) (p q f n : Int) (st : Int × Bool) : Cluster × (Int × Bool) :=
  (⟨(manyL (hostS s) s 8 st).1, (manyL (placedS s (manyL (hostS s) s 8 st).1) s 12 (manyL (hostS s) s 8 st).2).1, n, ⟨p, q, f⟩⟩, (manyL (placedS s (manyL (hostS s) s 8 st).1) s 12 (manyL (hostS s) s 8 st).2).2)
def snapI (s : ByteArray) : Cluster × Int :=
  bodyI s (varI s 0).1 (varI s (varI s 0).2).1 (varI s (varI s (varI s 0).2).2).1 (varI s (varI s (varI s (varI s 0).2).2).2).1 (varI s (varI s (varI s (varI s 0).2).2).2).2
def snapS (s : ByteArray) : Cluster × (Int × Bool) :=
  bodyS s (numS s (0, false)).1 (numS s (numS s (0, false)).2).1 (numS s (numS s (numS s (0, false)).2).2).1 (numS s (numS s (numS s (numS s (0, false)).2).2).2).1 (numS s (numS s (numS s (numS s (0, false)).2).2).2).2
def zeroCluster : Cluster := ⟨[], [], 0, ⟨0, 0, 0⟩⟩
def readSnapI (s : ByteArray) : Cluster × Bool := if (snapI s).2 = (s.size : Int) ∧ clusterR (snapI s).1 = true then ((snapI s).1, true) else (zeroCluster, false)
def readSnapS (s : ByteArray) : Cluster × Bool := if (snapS s).2 = ((s.size : Int), false) ∧ clusterR (snapS s).1 = true then ((snapS s).1, true) else (zeroCluster, false)
/-- one step of both readers: alike, or the program's faults and the reference's faults or has read what is not right -/
def StepOk {α : Type} (r : Int → α × Int) (q : Int × Bool → α × (Int × Bool)) (ok : α → Bool) : Prop :=
  ∀ a st, Same a st → (0 ≤ (r a).2 ∧ (q st).2 = ((r a).2, false) ∧ (r a).1 = (q st).1) ∨ ((r a).2 < 0 ∧ ((q st).2.2 = true ∨ ok (q st).1 = false))
theorem same_of_eq {a : Int} {st : Int × Bool} (h0 : 0 ≤ a) (h : st = (a, false)) : Same a st := ⟨fun _ => h, fun hn => by omega⟩
theorem loop_step {α : Type} {r : Int → α × Int} {q : Int × Bool → α × (Int × Bool)} {ok : α → Bool} (hr : ∀ a, a < 0 → (r a).2 < 0) (h : StepOk r q ok) :
    ∀ (k : Nat) (xs ys : List α) (a : Int) (st : Int × Bool), ((Same a st ∧ (0 ≤ a → xs = ys)) ∨ (a < 0 ∧ (st.2 = true ∨ ∃ y ∈ ys, ok y = false))) →
      (0 ≤ (loopI r k xs a).2 ∧ (loopS q k ys st).2 = ((loopI r k xs a).2, false) ∧ (loopI r k xs a).1 = (loopS q k ys st).1) ∨ ((loopI r k xs a).2 < 0 ∧ ((loopS q k ys st).2.2 = true ∨ ∃ y ∈ (loopS q k ys st).1, ok y = false))
  | 0, xs, ys, a, st, hh => by
    rcases hh with ⟨hs, he⟩ | hb
    · rcases Int.lt_or_le a 0 with ha | ha
      · exact .inr ⟨ha, .inl (hs.2 ha)⟩
      · exact .inl ⟨ha, hs.1 ha, he ha⟩
    · exact .inr hb
  | k + 1, xs, ys, a, st, hh => by
    rw [loopI, loopS]
    by_cases hf : st.2 = true
    · rw [if_pos hf]
      have ha : a < 0 := by
        rcases hh with ⟨hs, _⟩ | ⟨ha, _⟩
        · rcases Int.lt_or_le a 0 with ha | ha
          · exact ha
          · rw [hs.1 ha] at hf; cases hf
        · exact ha
      exact .inr ⟨loopI_neg hr k _ _ (hr a ha), .inl hf⟩
    · rw [if_neg hf]
      refine loop_step hr h k _ _ _ _ ?_
      rcases hh with ⟨hs, he⟩ | ⟨ha, hb⟩
      · have ha : 0 ≤ a := by
          rcases Int.lt_or_le a 0 with ha | ha
          · exact absurd (hs.2 ha) hf
          · exact ha
        rcases h a st hs with ⟨h1, h2, h3⟩ | ⟨h1, h2⟩
        · exact .inl ⟨same_of_eq h1 h2, fun _ => by rw [he ha, h3]⟩
        · refine .inr ⟨h1, ?_⟩
          rcases h2 with h2 | h2
          · exact .inl h2
          · exact .inr ⟨_, List.mem_append_right _ (List.mem_singleton.2 rfl), h2⟩
      · refine .inr ⟨hr a ha, ?_⟩
        rcases hb with hb | ⟨y, hy, hb⟩
        · exact absurd hb hf
        · exact .inr ⟨y, List.mem_append_left _ hy, hb⟩
theorem many_step {α : Type} {r : Int → α × Int} {q : Int × Bool → α × (Int × Bool)} {ok : α → Bool} (hr : ∀ a, a < 0 → (r a).2 < 0) (h : StepOk r q ok) {s : ByteArray} {most a : Int} {st : Int × Bool} (hm : 0 ≤ most) (hs : Same a st) :
    (0 ≤ (manyI r s most a).2 ∧ (manyL q s most st).2 = ((manyI r s most a).2, false) ∧ (manyI r s most a).1 = (manyL q s most st).1) ∨ ((manyI r s most a).2 < 0 ∧ ((manyL q s most st).2.2 = true ∨ ∃ y ∈ (manyL q s most st).1, ok y = false)) := by
  obtain ⟨h1, e1⟩ := many_same (s := s) hm hs.weak
  unfold manyI manyL
  rw [← e1]
  exact loop_step hr h _ _ _ _ _ (.inl ⟨h1, fun _ => rfl⟩)
theorem host_step (s : ByteArray) : StepOk (hostI s) (hostS s) hostR := by
  intro a st h
  obtain ⟨h1, e1⟩ := text_same (s := s) h.weak
  obtain ⟨h2, e2⟩ := labels_same (s := s) h1.weak
  obtain ⟨h3, e3⟩ := rest_same (s := s) (nm := (textI s a).1) (nm' := (textS s st).1) h2 e1 e2
  cases hl : labelsR (labelsRaw s (textI s a).2).1 with
  | false =>
    have hneg : (labelsI s (textI s a).2).2 < 0 := by unfold labelsI; rw [hl]; simp
    have hn2 : (hostRaw s a).2 < 0 := restI_neg hneg
    refine .inr ⟨by show (if _ then _ else _ : Int) < 0; split; exact hn2; decide, ?_⟩
    rcases Int.lt_or_le (labelsRaw s (textI s a).2).2 0 with hb | hb
    · exact .inl (h3.2 (restI_neg hb))
    · right
      refine hostR_labels ?_
      show labelsR (labelsS s (textS s st).2).1 = false
      rw [← e2 hb]; exact hl
  | true =>
    have hle : labelsI s (textI s a).2 = labelsRaw s (textI s a).2 := by unfold labelsI; rw [hl, if_pos rfl]
    have hre : hostRaw s a = restI s (textI s a).1 (labelsRaw s (textI s a).2).1 (labelsRaw s (textI s a).2).2 := by unfold hostRaw; rw [hle]
    rcases Int.lt_or_le (restI s (textI s a).1 (labelsRaw s (textI s a).2).1 (labelsRaw s (textI s a).2).2).2 0 with hb | hb
    · exact .inr ⟨by show (if _ then _ else _ : Int) < 0; rw [hre]; split; exact hb; decide, .inl (h3.2 hb)⟩
    · have e4 := e3 hb
      have s4 := h3.1 hb
      have hh : (hostRaw s a).1 = (hostS s st).1 := by rw [hre, e4]; rfl
      have hs4 : (hostS s st).2 = ((hostRaw s a).2, false) := by rw [hre]; exact s4
      cases hr : hostR (hostS s st).1 with
      | false => exact .inr ⟨by show (if _ then _ else _ : Int) < 0; rw [hh, hr]; simp, .inr rfl⟩
      | true =>
        have e5 : hostI s a = ((hostRaw s a).1, (hostRaw s a).2) := by unfold hostI; rw [hh, hr, if_pos rfl]
        exact .inl ⟨by rw [e5, hre]; exact hb, by rw [e5]; exact hs4, by rw [e5]; exact hh⟩
theorem pod_step (s : ByteArray) : StepOk (podI s) (podS s) podR := by
  intro a st h
  obtain ⟨h1, e1⟩ := text_same (s := s) h.weak
  obtain ⟨h2, e2⟩ := labels_same (s := s) h1.weak
  obtain ⟨h3, e3⟩ := restP_same (s := s) (nm := (textI s a).1) (nm' := (textS s st).1) h2 e1 e2
  cases hl : labelsR (labelsRaw s (textI s a).2).1 with
  | false =>
    have hneg : (labelsI s (textI s a).2).2 < 0 := by unfold labelsI; rw [hl]; simp
    have hn2 : (podRaw s a).2 < 0 := restPI_neg hneg
    refine .inr ⟨by show (if _ then _ else _ : Int) < 0; split; exact hn2; decide, ?_⟩
    rcases Int.lt_or_le (labelsRaw s (textI s a).2).2 0 with hb | hb
    · exact .inl (h3.2 (restPI_neg hb))
    · right
      refine podR_labels ?_
      show labelsR (labelsS s (textS s st).2).1 = false
      rw [← e2 hb]; exact hl
  | true =>
    have hle : labelsI s (textI s a).2 = labelsRaw s (textI s a).2 := by unfold labelsI; rw [hl, if_pos rfl]
    have hre : podRaw s a = restPI s (textI s a).1 (labelsRaw s (textI s a).2).1 (labelsRaw s (textI s a).2).2 := by unfold podRaw; rw [hle]
    rcases Int.lt_or_le (restPI s (textI s a).1 (labelsRaw s (textI s a).2).1 (labelsRaw s (textI s a).2).2).2 0 with hb | hb
    · exact .inr ⟨by show (if _ then _ else _ : Int) < 0; rw [hre]; split; exact hb; decide, .inl (h3.2 hb)⟩
    · have e4 := e3 hb
      have s4 := h3.1 hb
      have hh : (podRaw s a).1 = (podS s st).1 := by rw [hre, e4]; rfl
      have hs4 : (podS s st).2 = ((podRaw s a).2, false) := by rw [hre]; exact s4
      cases hr : podR (podS s st).1 with
      | false => exact .inr ⟨by show (if _ then _ else _ : Int) < 0; rw [hh, hr]; simp, .inr rfl⟩
      | true =>
        have e5 : podI s a = ((podRaw s a).1, (podRaw s a).2) := by unfold podI; rw [hh, hr, if_pos rfl]
        exact .inl ⟨by rw [e5, hre]; exact hb, by rw [e5]; exact hs4, by rw [e5]; exact hh⟩
theorem hostI_neg {s : ByteArray} {a : Int} (h : a < 0) : (hostI s a).2 < 0 := by
  have hn : (labelsI s (textI s a).2).2 < 0 := by
    have h1 : (labelsRaw s (textI s a).2).2 < 0 := by
      unfold labelsRaw
      refine loopI_neg (fun a ha => labI_neg ha) _ _ _ ?_
      rw [countI_neg (by decide) (textI_neg h)]
      decide
    unfold labelsI
    split
    · exact h1
    · show (-1 : Int) < 0
      decide
  have hn2 : (hostRaw s a).2 < 0 := restI_neg hn
  show (if _ then _ else _ : Int) < 0
  split
  · exact hn2
  · decide
theorem podI_neg {s : ByteArray} {a : Int} (h : a < 0) : (podI s a).2 < 0 := by
  have hn : (labelsI s (textI s a).2).2 < 0 := by
    have h1 : (labelsRaw s (textI s a).2).2 < 0 := by
      unfold labelsRaw
      refine loopI_neg (fun a ha => labI_neg ha) _ _ _ ?_
      rw [countI_neg (by decide) (textI_neg h)]
      decide
    unfold labelsI
    split
    · exact h1
    · show (-1 : Int) < 0
      decide
  have hn2 : (podRaw s a).2 < 0 := restPI_neg hn
  show (if _ then _ else _ : Int) < 0
  split
  · exact hn2
  · decide
theorem placedI_neg {s : ByteArray} {hs : List Host} {a : Int} (h : a < 0) : (placedI s hs a).2 < 0 := by
  refine varI_negP ?_
  rw [countI_negP (by omega) (podI_neg h)]
  decide
theorem numS_flag {s : ByteArray} {st : Int × Bool} (h : st.2 = true) : (numS s st).2.2 = true := by unfold numS; rw [if_pos (.inr h)]
theorem manyS_flag {s : ByteArray} {most : Int} {st : Int × Bool} (h : st.2 = true) : (manyS s most st).2.2 = true := by
  unfold manyS
  split
  · rfl
  · exact numS_flag h
theorem manyL_flag {α : Type} {q : Int × Bool → α × (Int × Bool)} {s : ByteArray} {most : Int} {st : Int × Bool} (h : st.2 = true) : (manyL q s most st).2.2 = true := by
  unfold manyL
  have h1 := manyS_flag (s := s) (most := most) h
  cases (manyS s most st).1.toNat with
  | zero => exact h1
  | succ k => rw [loopS, if_pos h1]; exact h1
theorem placed_step (s : ByteArray) (hs : List Host) : StepOk (placedI s hs) (placedS s hs) (fun p => podR p.pod) := by
  intro a st h
  unfold placedI placedS
  dsimp only
  generalize hl : (hs.length : Int) = l
  have hl0 : 0 ≤ l := by omega
  rcases pod_step s a st h with ⟨h1, h2, h3⟩ | ⟨h1, h2⟩
  · obtain ⟨h4, e4⟩ := many_same (s := s) (most := l) hl0 (same_of_eq h1 h2).weak
    obtain ⟨h5, e5⟩ := num_same (s := s) h4.weak
    rcases Int.lt_or_le (varI s (countI s l (podI s a).2).2).2 0 with hb | hb
    · exact .inr ⟨hb, .inl (h5.2 hb)⟩
    · exact .inl ⟨hb, h5.1 hb, by rw [h3, e4, e5]⟩
  · refine .inr ⟨?_, ?_⟩
    · refine varI_negP ?_
      rw [countI_negP hl0 h1]
      decide
    · rcases h2 with h2 | h2
      · exact .inl (numS_flag (manyS_flag h2))
      · exact .inr h2
theorem rowAt_notok {α : Type} {ok : α → Bool} {less : α → α → Bool} {xs : List α} {k : Nat} (hk : k < xs.length) (h : ok xs[k] = false) : rowAt ok less xs k = false := by
  cases k with
  | zero => rw [rowAt_zero hk, h]
  | succ j => rw [rowAt_succ hk, h]; rfl
theorem clusterR_badhost {x : Cluster} {y : Host} (hy : y ∈ x.hosts) (h : hostR y = false) : clusterR x = false := by
  obtain ⟨k, hk, rfl⟩ := List.getElem_of_mem hy
  exact clusterR_host hk (rowAt_notok hk (by unfold hostX; rw [h]; rfl))
theorem clusterR_badpod {x : Cluster} {y : Placed} (hy : y ∈ x.pods) (h : podR y.pod = false) : clusterR x = false := by
  obtain ⟨k, hk, rfl⟩ := List.getElem_of_mem hy
  exact clusterR_pod hk (rowAt_notok hk (by unfold podX; rw [h]; rfl))
/-- the program's and the reference's end alike -/
theorem readSnap_same (s : ByteArray) : readSnapI s = readSnapS s := by
  obtain ⟨g1, e1⟩ := num_same (s := s) (weak_first 0)
  obtain ⟨g2, e2⟩ := num_same (s := s) g1.weak
  obtain ⟨g3, e3⟩ := num_same (s := s) g2.weak
  obtain ⟨g4, e4⟩ := num_same (s := s) g3.weak
  have hI : (snapI s).2 < 0 → readSnapI s = (zeroCluster, false) := fun h => by unfold readSnapI; rw [if_neg (fun hh => by omega)]
  have hS : ((snapS s).2.2 = true ∨ clusterR (snapS s).1 = false) → readSnapS s = (zeroCluster, false) := fun h => by
    unfold readSnapS
    rw [if_neg ?_]
    rintro ⟨h1, h2⟩
    rcases h with h | h
    · rw [h1] at h; cases h
    · rw [h] at h2; cases h2
  rcases many_step (fun a ha => hostI_neg ha) (host_step s) (s := s) (most := 8) (by decide) g4 with ⟨k1, k2, k3⟩ | ⟨k1, k2⟩
  · have hh := same_of_eq k1 k2
    rcases many_step (fun a ha => placedI_neg ha) (placed_step s (manyI (hostI s) s 8 (varI s (varI s (varI s (varI s 0).2).2).2).2).1) (s := s) (most := 12) (by decide) hh with ⟨m1, m2, m3⟩ | ⟨m1, m2⟩
    · have hp : (snapS s).2 = ((snapI s).2, false) := by unfold snapS snapI bodyS bodyI; dsimp only; rw [← k3]; exact m2
      have hc : (snapS s).1 = (snapI s).1 := by unfold snapS snapI bodyS bodyI; dsimp only; rw [← k3, ← m3, ← e1, ← e2, ← e3, ← e4]
      unfold readSnapI readSnapS
      rw [hp, hc]
      by_cases h : (snapI s).2 = (s.size : Int) ∧ clusterR (snapI s).1 = true
      · rw [if_pos h, if_pos ⟨by rw [h.1], h.2⟩]
      · rw [if_neg h, if_neg (fun hh => h ⟨(Prod.mk.inj hh.1).1, hh.2⟩)]
    · rw [hI m1, hS ?_]
      rcases m2 with m2 | ⟨y, hy, m2⟩
      · left
        unfold snapS bodyS
        dsimp only
        rw [← k3]
        exact m2
      · right
        refine clusterR_badpod (y := y) ?_ m2
        unfold snapS bodyS
        dsimp only
        rw [← k3]
        exact hy
  · have hn : (snapI s).2 < 0 := manyI_neg (fun a ha => placedI_neg ha) (by decide) k1
    rw [hI hn, hS ?_]
    rcases k2 with k2 | ⟨y, hy, k2⟩
    · exact .inl (manyL_flag k2)
    · exact .inr (clusterR_badhost (x := (snapS s).1) hy k2)

end Go.Proofs.YtpgdgcjgompokaaGreat
