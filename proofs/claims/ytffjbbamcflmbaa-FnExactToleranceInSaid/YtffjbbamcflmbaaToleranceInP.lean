/- ToleranceIn: what the program reads and what the reference reads are the same. No condition. -/
import Derived.Test.YtffjbbamcflmbaaTolInS
import Derived.Test.YtffjbbamcflmbaaTaintInP
namespace Go.Proofs.Ytffjbbamcflmbaa
open Go.ChangeShapes Go.WideShapes Go.ChangeAt Go.RowKit
set_option linter.unusedVariables false
set_option linter.unusedSimpArgs false

theorem effR_nil : effR ⟨#[]⟩ = 0 := by
  unfold effR
  rw [never_l, soft_l, show (⟨#[]⟩ : ByteArray).toList = [] by rw [ByteArray.toList_eq]]
  rfl
theorem tlV_eq (x : Tree) (p : ByteArray) (k1 : (tlK x p).1 = (tsK x p).1) (hk : (tlK x p).2.code = 0) : ((tsV x p).2.2.code = 0 → (tlV x p).1 = (tsV x p).1 ∧ (tsV x p).2.1 = (kidR x sValue).isSome ∧ (tlV x p).2.code = 0) ∧ ((tsV x p).2.2.code ≠ 0 → (tlV x p).2 = (tsV x p).2.2) := by
  by_cases hkid : (kidR x sValue).isSome = true
  · have e1 : tlV x p = readT x p noF sValue (valE (tsK x p).1) := by unfold tlV; rw [if_pos hkid, k1]; exact readT_zero hk
    have e2 : valueF x p = ((readT x p noF sValue valR).1, true, (readT x p noF sValue valR).2) := by unfold valueF; exact if_pos hkid
    by_cases hs : (tsK x p).1.size = 0
    · have hE : valE (tsK x p).1 = fun _ => false := by funext s; unfold valE; simp [hs]
      rw [e1, hE]
      unfold tsV
      rw [e2]
      unfold readT
      rw [if_pos (show noF.code = 0 from rfl), if_pos (show noF.code = 0 from rfl)]
      by_cases ht : (textR x p sValue).2.code = 0
      · by_cases hv : valR (textR x p sValue).1 = false
        · simp [ht, hv, hs, fl]
        · simp [ht, hv, hs, fl]
      · simp [ht]
    · have hE : valE (tsK x p).1 = valR := by funext s; unfold valE; simp [hs]
      have e3 : tsV x p = valueF x p := by unfold tsV; exact if_neg (fun hh => hs hh.2.2)
      rw [e1, hE, e3, e2]
      exact ⟨fun hh => ⟨rfl, hkid.symm, hh⟩, fun _ => rfl⟩
  · have e1 : tlV x p = (⟨#[]⟩, (tlK x p).2) := by unfold tlV; exact if_neg hkid
    have e2 : valueF x p = (⟨#[]⟩, false, noF) := by unfold valueF; exact if_neg hkid
    have e3 : tsV x p = (⟨#[]⟩, false, noF) := by unfold tsV; rw [e2]; exact if_neg (fun hh => by cases hh.2.1)
    rw [e1, e3]
    exact ⟨fun _ => ⟨rfl, by simpa using hkid, hk⟩, fun hh => absurd rfl hh⟩
theorem tolIn_eq (x : Tree) (p : ByteArray) : tolInS x p = tolInR x p := by
  unfold tolInS tolInR
  by_cases h0 : (knownR x p [sEffect, sKey, sValue]).code = 0
  · rw [if_pos h0]
    have eK : (tlK x p).1 = (tsK x p).1 ∧ ((tlK x p).2.code = 0 ↔ (tsK x p).2.code = 0) ∧ ((tsK x p).2.code ≠ 0 → (tlK x p).2 = (tsK x p).2) := by
      unfold tlK tsK
      split
      · rw [readT_zero h0]; exact ⟨rfl, Iff.rfl, fun _ => rfl⟩
      · exact ⟨rfl, ⟨fun _ => rfl, fun _ => h0⟩, fun hh => absurd rfl hh⟩
    obtain ⟨k1, k2, k3⟩ := eK
    by_cases h1 : (tsK x p).2.code = 0
    · rw [if_pos h1]
      obtain ⟨v1, v2⟩ := tlV_eq x p k1 (k2.2 h1)
      by_cases h2 : (tsV x p).2.2.code = 0
      · rw [if_pos h2]
        obtain ⟨va, vb, vc⟩ := v1 h2
        by_cases hkid : (kidR x sEffect).isSome = true
        · have eE : tlE x p = readT x p noF sEffect effB := by unfold tlE; rw [if_pos hkid]; exact readT_zero vc
          have eS : tsE x p = oneF x p sEffect effWs := by unfold tsE; exact if_pos hkid
          obtain ⟨e1, e2⟩ := tiE_eff x p
          rw [eE, e1, eS]
          by_cases h3 : (oneF x p sEffect effWs).2.code = 0
          · rw [if_pos h3, if_pos h3, k1, e2 h3, va, vb]
          · rw [if_neg h3, if_neg h3]
        · have eE : tlE x p = (⟨#[]⟩, (tlV x p).2) := by unfold tlE; exact if_neg hkid
          have eS : tsE x p = (0, noF) := by unfold tsE; exact if_neg hkid
          rw [eE, eS, if_pos (show noF.code = 0 from rfl), if_pos vc, k1, va, vb, effR_nil]
      · rw [if_neg h2]
        have e := v2 h2
        have eE : (tlE x p).2 = (tsV x p).2.2 := by
          unfold tlE
          split
          · rw [readT_bad (by rw [e]; exact h2)]; exact e
          · exact e
        rw [eE, if_neg h2]
    · rw [if_neg h1]
      have hk := k3 h1
      have eV : (tlV x p).2 = (tsK x p).2 := by
        unfold tlV
        split
        · rw [readT_bad (by rw [hk]; exact h1)]; exact hk
        · exact hk
      have eE : (tlE x p).2 = (tsK x p).2 := by
        unfold tlE
        split
        · rw [readT_bad (by rw [eV]; exact h1)]; exact eV
        · exact eV
      rw [eE, if_neg h1]
  · rw [if_neg h0]
    have hk : (tlK x p).2 = knownR x p [sEffect, sKey, sValue] := by
      unfold tlK
      split
      · rw [readT_bad h0]
      · rfl
    have eV : (tlV x p).2 = knownR x p [sEffect, sKey, sValue] := by
      unfold tlV
      split
      · rw [readT_bad (by rw [hk]; exact h0)]; exact hk
      · exact hk
    have eE : (tlE x p).2 = knownR x p [sEffect, sKey, sValue] := by
      unfold tlE
      split
      · rw [readT_bad (by rw [eV]; exact h0)]; exact eV
      · exact eV
    rw [eE, if_neg h0]
theorem tolInR_ok (x : Tree) (p : ByteArray) (hw : (x.wt : Int) ≤ 1048576) (hp : (p.size : Int) ≤ 1048576) : ((tolInR x p).1.key.size ≤ x.wt ∧ (tolInR x p).1.value.size ≤ x.wt ∧ I64 (tolInR x p).1.effect) ∧ FOk (tolInR x p).2 4194304 := by
  have k1 : sKey.size = 3 := rfl
  have k2 : sValue.size = 5 := rfl
  have k3 : sEffect.size = 6 := rfl
  have f0 : FOk (knownR x p [sEffect, sKey, sValue]) 4194304 := by obtain ⟨a1, a2, a3, a4⟩ := knownR_ok x p [sEffect, sKey, sValue]; exact ⟨a1, a2, a3, by omega⟩
  have f1 : FOk (tlK x p).2 4194304 := by unfold tlK; split; exact readT_ok x p _ sKey keyE f0 (by omega); exact f0
  have f2 : FOk (tlV x p).2 4194304 := by unfold tlV; split; exact readT_ok x p _ sValue _ f1 (by omega); exact f1
  have f3 : FOk (tlE x p).2 4194304 := by unfold tlE; split; exact readT_ok x p _ sEffect effB f2 (by omega); exact f2
  have s1 : (tlK x p).1.size ≤ x.wt := by unfold tlK; split; exact readT_size ..; exact Nat.zero_le _
  have s2 : (tlV x p).1.size ≤ x.wt := by unfold tlV; split; exact readT_size ..; exact Nat.zero_le _
  have hr := effR_range (tlE x p).1
  unfold tolInR
  split
  · exact ⟨⟨s1, s2, ⟨by show _ ≤ effR _; omega, by show effR _ ≤ _; omega⟩⟩, noF_ok _⟩
  · exact ⟨⟨Nat.zero_le _, Nat.zero_le _, ⟨by show _ ≤ (0:Int); omega, by show (0:Int) ≤ _; omega⟩⟩, f3⟩
theorem tolInR_rd {v : Tolerance} {w : World} {n : Nat} (h : v.key.size ≤ n ∧ v.value.size ≤ n ∧ I64 v.effect) (hn : (n : Int) ≤ 1048576) : rd w v [.string v.key, .bool v.equal, .string v.value, .int .i64 v.effect] [] := rd_Tolerance_mk w v (by unfold maxLen; omega) (by unfold maxLen; omega) h.2.2
end Go.Proofs.Ytffjbbamcflmbaa
