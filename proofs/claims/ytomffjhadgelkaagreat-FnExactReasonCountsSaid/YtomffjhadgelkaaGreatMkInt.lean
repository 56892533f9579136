/- markIntS, heldIntS. No condition. -/
import Derived.Test.YtomffjhadgelkaaGreatMarks0
namespace Go.Proofs.YtomffjhadgelkaaGreat
open Go.ChangeShapes Go.WideShapes Go.ChangeAt Go.RowKit
set_option linter.unusedVariables false
set_option linter.unusedSimpArgs false
def mkInt (_ : Int) (k : Int) : Int := k
def cntInt (_ : Int) : Nat := 1
set_option maxRecDepth 100000 in
set_option maxHeartbeats 1000000 in
theorem markIntS_any (xs : List Int) (A : Option Addr) (n c : Nat) (F : List Nat) (B : Nat) (k : Int) (w : World) (h : Own w B xs [.slice A n c] F) (hn : n = xs.length) (hk0 : 0 ≤ k) (hk : k + cntL cntInt xs ≤ 1073741823) :
    Calls Tryz.prog 16 #[.slice A n c, .int .i64 k] w fun e w' => e = .returned (.int .i64 (k + cntL cntInt xs)) ∧ Own w' B (mkL mkInt cntInt xs k) [.slice A n c] F ∧ Upd F w w' := by
  subst hn
  have hlen : (xs.length : Int) ≤ 9223372036854775807 := by
    have := h.rd
    obtain ⟨_, _, _, _, e, h1, h2, _⟩ := this
    unfold maxLen at h2
    simp at e
    omega
  go_enter Tryz.func16, Tryz.ntmps16
  go_wp2_with fail
  go_loopw [1, 5] (fun x y wr => ∃ (i : Nat), i ≤ xs.length ∧ y = .int .i64 i ∧ x = .int .i64 (k + cntL cntInt (xs.take i)) ∧ Own wr B (mkUp mkInt cntInt xs k i) [.slice A xs.length c] F ∧ Upd F w wr) (fun _ y _ => xs.length - (intOf y).toNat)
  case atStart => exact ⟨0, Nat.zero_le _, rfl, by simp [cntL], by rw [mkUp_zero]; exact h, .refl _ _⟩
  case round =>
    obtain ⟨i, hi, rfl, rfl, hO, hu⟩ := hrel
    by_cases hlt : i < xs.length
    · have hle : (cntL cntInt (xs.take i) : Int) + cntInt xs[i] ≤ cntL cntInt xs := by have := cntL_succ (cnt := cntInt) hlt; have := cntL_le (cnt := cntInt) xs (i + 1); omega
      have hsuc := cntL_succ (cnt := cntInt) hlt
      obtain ⟨b, o, ck, Fk, rfl, hbF, hsub, hbk, hOe, hE, hcl⟩ := hO.elt (k := i) (by rw [mkUp_len hi]; exact hlt)
      rw [mkUp_get hlt] at hOe
      have hRe := hOe.rd
      obtain ⟨hck, hFk, hsz⟩ := hRe
      subst hck hFk
      generalize hkk : k + (cntL cntInt (xs.take i) : Int) = kk
      have hkk0 : 0 ≤ kk := by omega
      have hkk1 : kk + cntInt xs[i] ≤ 1073741823 := by omega
      simp only [cntInt] at hkk1 
      have hq := hE.at_ (q := o + i) (j := 0) (by show _ = o + i * 1 + 0; omega) rfl
      have hfz := hE.plain.frozen (o + i)
      go_wp2
      have hE2 := hE.set (q := o + i) (j := 0) (by simp) (by show _ = o + i * 1 + 0; omega) (.int .i64 kk)
      have hP := hcl _ (mkInt xs[i] kk) _ (Own.flat (rdInt _ _ ⟨by show _ ≤ kk; omega, by show kk ≤ _; omega⟩)) hE2
      rw [← hkk, mkUp_set hlt] at hP
      have hU := hu.trans (hE2.upd.mono (G := F) (fun y hy => by rcases List.mem_cons.1 hy with rfl | hy; exact hbF; exact hsub y hy))
      rw [← hkk] at hU
      refine ⟨⟨i + 1, by omega, by go_num, ?_, ?_, ?_⟩, by simp [intOf]; omega⟩
      · rw [hsuc, ← hkk]; simp only [cntInt]; congr 1; push_cast; omega
      · rw [← hkk]; exact hP
      · rw [← hkk]; exact hU
    · have hkl : i = xs.length := by omega
      subst hkl
      go_wp2
      go_ret
      rw [mkUp_full] at hO
      simp only [List.take_length]
      exact ⟨rfl, hO, hu⟩
set_option maxRecDepth 100000 in
set_option maxHeartbeats 1000000 in
theorem heldIntS_any (xs : List Int) (A : Option Addr) (n c : Nat) (F : List Nat) (k : Int) (w : World) (h : rd w xs [.slice A n c] F) (hn : n = xs.length) (hm : mkL mkInt cntInt xs k = xs) (hk0 : 0 ≤ k) (hk : k + cntL cntInt xs ≤ 1073741823) :
    Calls Tryz.prog 17 #[.slice A n c, .int .i64 k] w fun e w' => e = .returned (.int .i64 (k + cntL cntInt xs)) ∧ Below w.heap.size w w' := by
  subst hn
  have hlen : (xs.length : Int) ≤ 9223372036854775807 := by
    have := h
    obtain ⟨_, _, _, _, e, h1, h2, _⟩ := this
    unfold maxLen at h2
    simp at e
    omega
  have HM := Lib.hid hm
  clear hm
  go_enter Tryz.func17, Tryz.ntmps17
  go_wp2_with fail
  go_loopw [1, 5] (fun x y wr => ∃ (i : Nat), i ≤ xs.length ∧ y = .int .i64 i ∧ x = .int .i64 (k + cntL cntInt (xs.take i)) ∧ Below w.heap.size w wr) (fun _ y _ => xs.length - (intOf y).toNat)
  case atStart => exact ⟨0, Nat.zero_le _, rfl, by simp [cntL], ext_refl _⟩
  case round =>
    obtain ⟨i, hi, rfl, rfl, hbl⟩ := hrel
    by_cases hlt : i < xs.length
    · have hle : (cntL cntInt (xs.take i) : Int) + cntInt xs[i] ≤ cntL cntInt xs := by have := cntL_succ (cnt := cntInt) hlt; have := cntL_le (cnt := cntInt) xs (i + 1); omega
      have hsuc := cntL_succ (cnt := cntInt) hlt
      have hfix := mkL_fix HM.out hlt
      obtain ⟨b, o, ck, Fk, rfl, hbF, hbs, hr, hsub, hc⟩ := (Sl.ext (w' := wr) (A := A) (c := c) h hbl).get hlt
      obtain ⟨hck, hFk, hsz⟩ := hr
      subst hck hFk
      generalize hkk : k + (cntL cntInt (xs.take i) : Int) = kk at hfix ⊢
      have hkk0 : 0 ≤ kk := by omega
      have hkk1 : kk + cntInt xs[i] ≤ 1073741823 := by omega
      simp only [cntInt] at hkk1 
      have q0 : wr.cell? ⟨b, o + i, none⟩ = some (.int .i64 xs[i]) := by have := hc 0 _ rfl; rwa [show o + (i * Dat.size Int + 0) = o + i from by show o + (i * 1 + 0) = _; omega] at this
      rw [← hfix] at q0
      simp only [mkInt] at q0
      go_wp2
      exact ⟨⟨i + 1, by omega, by go_num, (by rw [hsuc, ← hkk]; simp only [cntInt]; congr 1; push_cast; omega), hbl⟩, by simp [intOf]; omega⟩
    · have hkl : i = xs.length := by omega
      subst hkl
      go_wp2
      go_ret
      simp only [List.take_length]
      exact ⟨rfl, hbl⟩

theorem cntInt_mk (x : Int) (k : Int) : cntInt (mkInt x k) = cntInt x := rfl
theorem mkInt_idem (x : Int) (k : Int) : mkInt (mkInt x k) k = mkInt x k := rfl
theorem cntL_int : ∀ xs : List Int, cntL cntInt xs = xs.length
  | [] => rfl
  | x :: xs => by have := cntL_int xs; simp only [cntL, List.map_cons, List.sum_cons, List.length_cons] at this ⊢; rw [this]; simp only [cntInt]; omega

end Go.Proofs.YtomffjhadgelkaaGreat
