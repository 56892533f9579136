/- TaintIn: what the program reads and what the reference reads are the same. No condition. -/
import Derived.Test.YtffjbbamcflmbaaTaintInS
namespace Go.Proofs.Ytffjbbamcflmbaa
open Go.ChangeShapes Go.WideShapes Go.ChangeAt Go.RowKit
set_option linter.unusedVariables false
set_option linter.unusedSimpArgs false

theorem readT_zero {x : Tree} {p : ByteArray} {f : Fault} {k : ByteArray} {fine : ByteArray → Bool} (h : f.code = 0) : readT x p f k fine = readT x p noF k fine := by
  unfold readT
  rw [if_pos h, if_pos (show noF.code = 0 from rfl)]
theorem readT_size (x : Tree) (p : ByteArray) (f : Fault) (k : ByteArray) (fine : ByteArray → Bool) : (readT x p f k fine).1.size ≤ x.wt := by
  have h1 := (textR_ok x p k).2
  unfold readT
  split
  · split
    · exact h1
    · exact h1
  · exact Nat.zero_le _
theorem readT_ok (x : Tree) (p : ByteArray) (f : Fault) (k : ByteArray) (fine : ByteArray → Bool) {n : Nat} (hf : FOk f n) (hn : p.size + 1 + k.size ≤ n) : FOk (readT x p f k fine).2 n := by
  have h1 := (textR_ok x p k).1
  have h2 := pathR_size p k
  unfold readT
  split
  · split
    · exact fl_ok (by omega) (by omega) (by omega)
    · exact ⟨h1.1, h1.2.1, h1.2.2.1, by have := h1.2.2.2; omega⟩
  · exact hf
theorem effR_one (s : ByteArray) : effR s = oneR effWs s := by
  have e1 : sNever.toList = (⟨#[110, 101, 118, 101, 114]⟩ : ByteArray).toList := rfl
  have e2 : sSoft.toList = (⟨#[115, 111, 102, 116]⟩ : ByteArray).toList := rfl
  unfold effR oneR effWs
  rw [e1, e2]
  simp only [List.drop_succ_cons, List.drop_zero, idxI]
  rw [BEq.comm (a := s.toList), BEq.comm (a := s.toList)]
  split
  · rfl
  · split
    · rfl
    · rfl
theorem tiE_eff (x : Tree) (p : ByteArray) : (readT x p noF sEffect effB).2 = (oneF x p sEffect effWs).2 ∧ ((oneF x p sEffect effWs).2.code = 0 → effR (readT x p noF sEffect effB).1 = (oneF x p sEffect effWs).1) := by
  unfold readT oneF
  rw [if_pos (show noF.code = 0 from rfl)]
  by_cases h : (textR x p sEffect).2.code = 0
  · rw [if_pos h]
    by_cases h2 : oneR effWs (textR x p sEffect).1 = 0
    · rw [if_pos h2, if_pos ⟨h, by unfold effB; rw [effR_one, h2]; rfl⟩]
      exact ⟨rfl, fun hh => by cases hh⟩
    · rw [if_neg h2, if_neg (fun hh => h2 (by have := hh.2; unfold effB at this; rw [effR_one] at this; simpa using this))]
      exact ⟨rfl, fun _ => effR_one _⟩
  · rw [if_neg h, if_neg (fun hh => h hh.1)]
    exact ⟨rfl, fun hh => absurd hh h⟩
theorem taintIn_eq (x : Tree) (p : ByteArray) : taintInS x p = taintInR x p := by
  unfold taintInS taintInR
  by_cases h0 : (knownR x p [sEffect, sKey, sValue]).code = 0
  · rw [if_pos h0]
    have eK : tiK x p = readT x p noF sKey keyR := by unfold tiK; exact readT_zero h0
    by_cases h1 : (readT x p noF sKey keyR).2.code = 0
    · rw [if_pos h1]
      have eV : tiV x p = ((valueF x p).1, (tiV x p).2) ∧ ((tiV x p).2.code = 0 ↔ (valueF x p).2.2.code = 0) ∧ ((valueF x p).2.2.code ≠ 0 → (tiV x p).2 = (valueF x p).2.2) := by
        unfold tiV valueF
        rw [eK]
        split
        · rw [readT_zero h1]; exact ⟨rfl, Iff.rfl, fun _ => rfl⟩
        · exact ⟨rfl, ⟨fun _ => rfl, fun _ => h1⟩, fun hh => absurd rfl hh⟩
      obtain ⟨v1, v2, v3⟩ := eV
      by_cases h2 : (valueF x p).2.2.code = 0
      · rw [if_pos h2]
        have eE : tiE x p = readT x p noF sEffect effB := by unfold tiE; exact readT_zero (v2.2 h2)
        obtain ⟨e1, e2⟩ := tiE_eff x p
        rw [eE, e1]
        by_cases h3 : (oneF x p sEffect effWs).2.code = 0
        · rw [if_pos h3, if_pos h3, eK, e2 h3, v1]
        · rw [if_neg h3, if_neg h3]
      · rw [if_neg h2]
        have hv : (tiV x p).2.code ≠ 0 := fun hh => h2 (v2.1 hh)
        have eE : tiE x p = (⟨#[]⟩, (tiV x p).2) := by unfold tiE; exact readT_bad hv
        rw [eE, v3 h2, if_neg h2]
    · rw [if_neg h1]
      have hk : (tiK x p).2.code ≠ 0 := by rw [eK]; exact h1
      have eV : (tiV x p).2 = (tiK x p).2 := by unfold tiV; split; rw [readT_bad hk]; rfl
      have eE : tiE x p = (⟨#[]⟩, (tiV x p).2) := by unfold tiE; exact readT_bad (by rw [eV]; exact hk)
      rw [eE, eV, if_neg hk, eK]
  · rw [if_neg h0]
    have eK : tiK x p = (⟨#[]⟩, knownR x p [sEffect, sKey, sValue]) := by unfold tiK; exact readT_bad h0
    have hk : (tiK x p).2.code ≠ 0 := by rw [eK]; exact h0
    have eV : (tiV x p).2 = (tiK x p).2 := by unfold tiV; split; rw [readT_bad hk]; rfl
    have eE : tiE x p = (⟨#[]⟩, (tiV x p).2) := by unfold tiE; exact readT_bad (by rw [eV]; exact hk)
    rw [eE, eV, if_neg hk, eK]
theorem taintInR_ok (x : Tree) (p : ByteArray) (hw : (x.wt : Int) ≤ 1048576) (hp : (p.size : Int) ≤ 1048576) : ((taintInR x p).1.key.size ≤ x.wt ∧ (taintInR x p).1.value.size ≤ x.wt ∧ I64 (taintInR x p).1.effect) ∧ FOk (taintInR x p).2 4194304 := by
  have k1 : sKey.size = 3 := rfl
  have k2 : sValue.size = 5 := rfl
  have k3 : sEffect.size = 6 := rfl
  have f0 : FOk (knownR x p [sEffect, sKey, sValue]) 4194304 := by obtain ⟨a1, a2, a3, a4⟩ := knownR_ok x p [sEffect, sKey, sValue]; exact ⟨a1, a2, a3, by omega⟩
  have f1 : FOk (tiK x p).2 4194304 := readT_ok x p _ sKey keyR f0 (by omega)
  have f2 : FOk (tiV x p).2 4194304 := by unfold tiV; split; exact readT_ok x p _ sValue valR f1 (by omega); exact f1
  have f3 : FOk (tiE x p).2 4194304 := readT_ok x p _ sEffect effB f2 (by omega)
  have s1 : (tiK x p).1.size ≤ x.wt := readT_size ..
  have s2 : (tiV x p).1.size ≤ x.wt := by unfold tiV; split; exact readT_size ..; exact Nat.zero_le _
  have hr := effR_range (tiE x p).1
  unfold taintInR
  split
  · exact ⟨⟨s1, s2, ⟨by show _ ≤ effR _; omega, by show effR _ ≤ _; omega⟩⟩, noF_ok _⟩
  · exact ⟨⟨Nat.zero_le _, Nat.zero_le _, ⟨by show _ ≤ (0:Int); omega, by show (0:Int) ≤ _; omega⟩⟩, f3⟩
theorem taintInR_rd {v : Taint} {w : World} {n : Nat} (h : v.key.size ≤ n ∧ v.value.size ≤ n ∧ I64 v.effect) (hn : (n : Int) ≤ 1048576) : rd w v [.string v.key, .string v.value, .int .i64 v.effect] [] := rd_Taint_mk w v (by unfold maxLen; omega) (by unfold maxLen; omega) h.2.2
end Go.Proofs.Ytffjbbamcflmbaa
