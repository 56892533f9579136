/- slices.Index and slices.Contains over strings; l15Has. No condition. -/
import Derived.Test.YtffjbbamcflmbaaAt
namespace Go.Proofs.Ytffjbbamcflmbaa
open Go.ChangeShapes Go.WideShapes Go.ChangeAt Go.RowKit
set_option linter.unusedVariables false
set_option linter.unusedSimpArgs false

/-- whether a string is among some -/
def hasR (s : ByteArray) (xs : List ByteArray) : Bool := xs.any fun v => v.toList == s.toList
theorem hasR_yes {s : ByteArray} {xs : List ByteArray} {k : Nat} (hk : k < xs.length) (hp : (xs[k].toList == s.toList) = true) : hasR s xs = true := by
  unfold hasR; rw [List.any_eq_true]; exact ⟨xs[k], List.getElem_mem .., hp⟩
theorem hasR_no {s : ByteArray} {xs : List ByteArray} (hn : ∀ v ∈ xs, (v.toList == s.toList) = false) : hasR s xs = false := by
  unfold hasR; rw [List.any_eq_false]; intro v hv; simp [hn v hv]
theorem idxI_has (s : ByteArray) (xs : List ByteArray) : hasR s xs = decide (0 ≤ idxI (fun v => v.toList == s.toList) xs) := by
  unfold hasR
  induction xs with
  | nil => rfl
  | cons x xs ih =>
    simp only [List.any_cons, idxI, ih]
    by_cases hp : (x.toList == s.toList) = true
    · simp [hp]
    · simp only [Bool.not_eq_true] at hp
      simp only [hp, Bool.false_or, if_neg (show ¬ false = true by simp)]
      rw [Bool.eq_iff_iff, decide_eq_true_eq, decide_eq_true_eq]
      split <;> omega
set_option maxHeartbeats 1000000 in
theorem Index_any (xs : List ByteArray) (s : ByteArray) (A : Option Addr) (n c : Nat) (F : List Nat) (w : World) (h : Sl w xs A c F) (hn : n = xs.length) (hl : (xs.length : Int) ≤ 1048576) :
    Calls Try.prog 60 #[.slice A n c, .string s] w fun e w' => e = .returned (.int .i64 (idxI (fun v : ByteArray => v.toList == s.toList) xs)) ∧ Below w.heap.size w w' := by
  subst hn
  go_enter Try.func60, Try.ntmps60
  go_wp2_with fail
  go_loopw [8] (fun i wr => ∃ k : Nat, k ≤ xs.length ∧ i = .int .i64 k ∧ Hid (∀ v ∈ xs.take k, (v.toList == s.toList) = false) ∧ Below w.heap.size w wr) (fun i _ => xs.length - (intOf i).toNat)
  case atStart => exact ⟨0, Nat.zero_le _, rfl, by show ∀ _, _; simp, (by repeat (first | with_reducible exact ext_refl _ | with_reducible assumption | with_reducible refine ext_alloc ?_ _ | with_reducible refine ext_trans ?_ (by assumption)))⟩
  case round =>
    obtain ⟨k, hk, rfl, HN, hbl⟩ := hrel
    by_cases hlt : k < xs.length
    · obtain ⟨b, o, ck, Fk, rfl, hbF, hbs, hr, hsub, hc⟩ := (Sl.ext (w' := wr) (A := A) (c := c) h hbl).get hlt
      obtain ⟨hck, hFk, hsz⟩ := hr
      subst hck hFk
      have q0 : wr.cell? ⟨b, o + k, none⟩ = some (.string xs[k]) := by have := hc 0 _ rfl; rwa [show o + (k * Dat.size ByteArray + 0) = o + k from by show o + (k * 1 + 0) = _; omega] at this
      clear hc
      cases hp : (xs[k].toList == s.toList) with
      | true =>
        have hp2 : (s.toList == xs[k].toList) = true := by rw [BEq.comm]; exact hp
        have HF := Lib.hid (idxI_found (p := fun v : ByteArray => v.toList == s.toList) hlt HN.out hp)
        go_wp2
        go_ret
        exact ⟨by rw [HF.out]; rfl, (by repeat (first | with_reducible exact ext_refl _ | with_reducible assumption | with_reducible refine ext_alloc ?_ _ | with_reducible refine ext_trans ?_ (by assumption)))⟩
      | false =>
        have hp2 : (s.toList == xs[k].toList) = false := by rw [BEq.comm]; exact hp
        have HN2 := Lib.hid (take_none (p := fun v : ByteArray => v.toList == s.toList) hlt HN.out hp)
        go_wp2
        exact ⟨⟨k + 1, by omega, by go_num, HN2.out, (by repeat (first | with_reducible exact ext_refl _ | with_reducible assumption | with_reducible refine ext_alloc ?_ _ | with_reducible refine ext_trans ?_ (by assumption)))⟩, by simp [intOf]; omega⟩
    · have hkl : k = xs.length := by omega
      subst hkl
      have hn := HN.out
      rw [List.take_length] at hn
      have HF := Lib.hid (idxI_none (p := fun v : ByteArray => v.toList == s.toList) hn)
      clear hn
      go_wp2
      go_ret
      exact ⟨by rw [HF.out]; rfl, (by repeat (first | with_reducible exact ext_refl _ | with_reducible assumption | with_reducible refine ext_alloc ?_ _ | with_reducible refine ext_trans ?_ (by assumption)))⟩
set_option maxRecDepth 100000 in
set_option maxHeartbeats 1000000 in
theorem Contains_any (xs : List ByteArray) (s : ByteArray) (A : Option Addr) (n c : Nat) (F : List Nat) (w : World) (h : Sl w xs A c F) (hn : n = xs.length) (hl : (xs.length : Int) ≤ 1048576) :
    Calls Try.prog 52 #[.slice A n c, .string s] w fun e w' => e = .returned (.bool (hasR s xs)) ∧ Below w.heap.size w w' := by
  subst hn
  have hab := idxI_has s xs
  have hix := Index_any xs s A _ c F w h rfl hl
  generalize idxI (fun v : ByteArray => v.toList == s.toList) xs = z at hab hix
  rw [hab]
  clear hab
  go_enter Try.func52, Try.ntmps52
  go_wp2_with fail
  refine hix.mono ?_
  rintro e w2 ⟨rfl, hb2⟩
  go_wp2
  go_ret
  exact ⟨rfl, hb2⟩
set_option maxHeartbeats 1000000 in
theorem l15Has_any (xs : List ByteArray) (s : ByteArray) (A : Option Addr) (n c : Nat) (F : List Nat) (w : World) (h : Sl w xs A c F) (hn : n = xs.length) (hl : (xs.length : Int) ≤ 1048576) :
    Calls Try.prog 40 #[.slice A n c, .string s] w fun e w' => e = .returned (.bool (hasR s xs)) ∧ Below w.heap.size w w' := by
  subst hn
  go_enter Try.func40, Try.ntmps40
  go_wp2_with fail
  go_loopw [5] (fun i wr => ∃ k : Nat, k ≤ xs.length ∧ i = .int .i64 k ∧ Hid (∀ v ∈ xs.take k, (v.toList == s.toList) = false) ∧ Below w.heap.size w wr) (fun i _ => xs.length - (intOf i).toNat)
  case atStart => exact ⟨0, Nat.zero_le _, rfl, by show ∀ _, _; simp, (by repeat (first | with_reducible exact ext_refl _ | with_reducible assumption | with_reducible refine ext_alloc ?_ _ | with_reducible refine ext_trans ?_ (by assumption)))⟩
  case round =>
    obtain ⟨k, hk, rfl, HN, hbl⟩ := hrel
    by_cases hlt : k < xs.length
    · obtain ⟨b, o, ck, Fk, rfl, hbF, hbs, hr, hsub, hc⟩ := (Sl.ext (w' := wr) (A := A) (c := c) h hbl).get hlt
      obtain ⟨hck, hFk, hsz⟩ := hr
      subst hck hFk
      have q0 : wr.cell? ⟨b, o + k, none⟩ = some (.string xs[k]) := by have := hc 0 _ rfl; rwa [show o + (k * Dat.size ByteArray + 0) = o + k from by show o + (k * 1 + 0) = _; omega] at this
      clear hc
      cases hp : (xs[k].toList == s.toList) with
      | true =>
        have hp2 : (s.toList == xs[k].toList) = true := by rw [BEq.comm]; exact hp
        have HF := Lib.hid (hasR_yes hlt hp)
        go_wp2
        go_ret
        exact ⟨by rw [HF.out]; rfl, (by repeat (first | with_reducible exact ext_refl _ | with_reducible assumption | with_reducible refine ext_alloc ?_ _ | with_reducible refine ext_trans ?_ (by assumption)))⟩
      | false =>
        have hp2 : (s.toList == xs[k].toList) = false := by rw [BEq.comm]; exact hp
        have HN2 := Lib.hid (take_none (p := fun v : ByteArray => v.toList == s.toList) hlt HN.out hp)
        go_wp2
        exact ⟨⟨k + 1, by omega, by go_num, HN2.out, (by repeat (first | with_reducible exact ext_refl _ | with_reducible assumption | with_reducible refine ext_alloc ?_ _ | with_reducible refine ext_trans ?_ (by assumption)))⟩, by simp [intOf]; omega⟩
    · have hkl : k = xs.length := by omega
      subst hkl
      have hn := HN.out
      rw [List.take_length] at hn
      have HF := Lib.hid (hasR_no hn)
      clear hn
      go_wp2
      go_ret
      exact ⟨by rw [HF.out]; rfl, (by repeat (first | with_reducible exact ext_refl _ | with_reducible assumption | with_reducible refine ext_alloc ?_ _ | with_reducible refine ext_trans ?_ (by assumption)))⟩

end Go.Proofs.Ytffjbbamcflmbaa
