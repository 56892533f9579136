/- Selects, of the program and of the reference. No condition. -/
import Derived.Test.YtjoclfenghenjaaGreatMet
namespace Go.Proofs.YtjoclfenghenjaaGreat
open Go.ChangeShapes Go.WideShapes Go.ChangeAt Go.RowKit
set_option linter.unusedVariables false
set_option linter.unusedSimpArgs false

def selectsR (labels : List Label) (xs : List Need) : Bool := xs.all (metR labels)
theorem selectsR_not {labels : List Label} {xs : List Need} {k : Nat} (hk : k < xs.length) (h : metR labels xs[k] = false) : selectsR labels xs = false := by
  unfold selectsR; rw [List.all_eq_false]; exact ⟨xs[k], List.getElem_mem .., by simp [h]⟩
theorem take_all {α : Type} {p : α → Bool} {xs : List α} {k : Nat} (hk : k < xs.length) (h : ∀ x ∈ xs.take k, p x = true) (hx : p xs[k] = true) : ∀ x ∈ xs.take (k + 1), p x = true := by
  rw [List.take_succ_eq_append_getElem hk]
  intro x hm
  rcases List.mem_append.1 hm with hm | hm
  · exact h x hm
  · simp only [List.mem_singleton] at hm; rw [hm]; exact hx
theorem selectsR_all {labels : List Label} {xs : List Need} (h : ∀ x ∈ xs, metR labels x = true) : selectsR labels xs = true := by
  unfold selectsR; rw [List.all_eq_true]; exact h
set_option maxRecDepth 100000 in
set_option maxHeartbeats 1000000 in
theorem Selects_impl (xs : List Need) (labels : List Label) (A B : Option Addr) (n m c d : Nat) (F G : List Nat) (w : World) (h : Sl w xs A c F) (h' : Sl w labels B d G) (hn : n = xs.length) (hm : m = labels.length) (hl : (xs.length : Int) ≤ 1048576) (hll : (labels.length : Int) ≤ 1048576)
    (hsm : (∀ l ∈ xs, (l.key.size : Int) ≤ 1048576 ∧ (l.values.length : Int) ≤ 1048576 ∧ ∀ v ∈ l.values, (v.size : Int) ≤ 1048576)) :
    Calls Tryz.prog 184 #[.slice A n c, .slice B m d] w fun e w' => e = .returned (.bool (selectsR labels xs)) ∧ Below w.heap.size w w' := by
  subst hn hm
  have HSM := Lib.hid hsm
  clear hsm
  go_enter Tryz.func184, Tryz.ntmps184
  go_wp2_with fail
  go_loopw [9] (fun i wr => ∃ k : Nat, k ≤ xs.length ∧ i = .int .i64 k ∧ Hid (∀ x ∈ xs.take k, metR labels x = true) ∧ Below w.heap.size w wr) (fun i _ => xs.length - (intOf i).toNat)
  case atStart => exact ⟨0, Nat.zero_le _, rfl, by show ∀ _, _; simp, (by repeat (first | with_reducible exact ext_refl _ | with_reducible assumption | with_reducible refine ext_alloc ?_ _ | with_reducible refine ext_trans ?_ (by assumption)))⟩
  case round =>
    obtain ⟨k, hk, rfl, HN, hbl⟩ := hrel
    by_cases hlt : k < xs.length
    · obtain ⟨b, o, ck, Fk, rfl, hbF, hbs, hr, hsub, hc⟩ := (Sl.ext (w' := wr) (A := A) (c := c) h hbl).get hlt
      obtain ⟨Avalues, cvalues, Fvalues, hck, hFk, hkey, hop, hvalues⟩ := rd_Need hr
      subst hck
      have q0 : wr.cell? ⟨b, o + k * 3, none⟩ = some (.string xs[k].key) := by exact hc 0 _ rfl
      have q1 : wr.cell? ⟨b, o + k * 3 + 1, none⟩ = some (.int .i64 xs[k].op) := by rw [Nat.add_assoc]; exact hc 1 _ rfl
      have q2 : wr.cell? ⟨b, o + k * 3 + 2, none⟩ = some (.slice Avalues xs[k].values.length cvalues) := by rw [Nat.add_assoc]; exact hc 2 _ rfl
      clear hc
      obtain ⟨hs1, hs2, hs3⟩ := HSM.out xs[k] (List.getElem_mem ..)
      cases hp : metR labels xs[k] with
      | true =>
        have HN2 := Lib.hid (take_all hlt HN.out hp)
        have HP := Lib.hid hp
        clear hp
        go_wp2_with fail
        refine (NeedMet_impl labels xs[k] _ _ _ _ _ _ _ (h'.ext (by repeat (first | with_reducible exact ext_refl _ | with_reducible assumption | with_reducible refine ext_alloc ?_ _ | with_reducible refine ext_trans ?_ (by assumption)))) rfl (rd_extT hr (by repeat (first | with_reducible exact ext_refl _ | with_reducible assumption | with_reducible refine ext_alloc ?_ _ | with_reducible refine ext_trans ?_ (by assumption)))) hll hs1 hs2 hs3).mono ?_
        rw [HP.out]
        rintro e wn ⟨rfl, hn⟩
        go_wp2
        exact ⟨⟨k + 1, by omega, by go_num, HN2.out, (by repeat (first | with_reducible exact ext_refl _ | with_reducible assumption | with_reducible refine ext_alloc ?_ _ | with_reducible refine ext_trans ?_ (by assumption)))⟩, by simp [intOf]; omega⟩
      | false =>
        have HF := Lib.hid (selectsR_not hlt hp)
        have HP := Lib.hid hp
        clear hp
        go_wp2_with fail
        refine (NeedMet_impl labels xs[k] _ _ _ _ _ _ _ (h'.ext (by repeat (first | with_reducible exact ext_refl _ | with_reducible assumption | with_reducible refine ext_alloc ?_ _ | with_reducible refine ext_trans ?_ (by assumption)))) rfl (rd_extT hr (by repeat (first | with_reducible exact ext_refl _ | with_reducible assumption | with_reducible refine ext_alloc ?_ _ | with_reducible refine ext_trans ?_ (by assumption)))) hll hs1 hs2 hs3).mono ?_
        rw [HP.out]
        rintro e wn ⟨rfl, hn⟩
        go_wp2
        go_ret
        exact ⟨by rw [HF.out]; rfl, (by repeat (first | with_reducible exact ext_refl _ | with_reducible assumption | with_reducible refine ext_alloc ?_ _ | with_reducible refine ext_trans ?_ (by assumption)))⟩
    · have hkl : k = xs.length := by omega
      subst hkl
      have hn := HN.out
      rw [List.take_length] at hn
      have HF := Lib.hid (selectsR_all hn)
      clear hn
      go_wp2
      go_ret
      exact ⟨by rw [HF.out]; rfl, (by repeat (first | with_reducible exact ext_refl _ | with_reducible assumption | with_reducible refine ext_alloc ?_ _ | with_reducible refine ext_trans ?_ (by assumption)))⟩
set_option maxRecDepth 100000 in
set_option maxHeartbeats 1000000 in
theorem Selects_spec (xs : List Need) (labels : List Label) (A B : Option Addr) (n m c d : Nat) (F G : List Nat) (w : World) (h : Sl w xs A c F) (h' : Sl w labels B d G) (hn : n = xs.length) (hm : m = labels.length) (hl : (xs.length : Int) ≤ 1048576) (hll : (labels.length : Int) ≤ 1048576)
    (hsm : (∀ l ∈ xs, (l.key.size : Int) ≤ 1048576 ∧ (l.values.length : Int) ≤ 1048576 ∧ ∀ v ∈ l.values, (v.size : Int) ≤ 1048576)) :
    Calls Tryz.prog 182 #[.slice A n c, .slice B m d] w fun e w' => e = .returned (.bool (selectsR labels xs)) ∧ Below w.heap.size w w' := by
  subst hn hm
  have HSM := Lib.hid hsm
  clear hsm
  go_enter Tryz.func182, Tryz.ntmps182
  go_wp2_with fail
  go_loopw [5] (fun i wr => ∃ k : Nat, k ≤ xs.length ∧ i = .int .i64 k ∧ Hid (∀ x ∈ xs.take k, metR labels x = true) ∧ Below w.heap.size w wr) (fun i _ => xs.length - (intOf i).toNat)
  case atStart => exact ⟨0, Nat.zero_le _, rfl, by show ∀ _, _; simp, (by repeat (first | with_reducible exact ext_refl _ | with_reducible assumption | with_reducible refine ext_alloc ?_ _ | with_reducible refine ext_trans ?_ (by assumption)))⟩
  case round =>
    obtain ⟨k, hk, rfl, HN, hbl⟩ := hrel
    by_cases hlt : k < xs.length
    · obtain ⟨b, o, ck, Fk, rfl, hbF, hbs, hr, hsub, hc⟩ := (Sl.ext (w' := wr) (A := A) (c := c) h hbl).get hlt
      obtain ⟨Avalues, cvalues, Fvalues, hck, hFk, hkey, hop, hvalues⟩ := rd_Need hr
      subst hck
      have q0 : wr.cell? ⟨b, o + k * 3, none⟩ = some (.string xs[k].key) := by exact hc 0 _ rfl
      have q1 : wr.cell? ⟨b, o + k * 3 + 1, none⟩ = some (.int .i64 xs[k].op) := by rw [Nat.add_assoc]; exact hc 1 _ rfl
      have q2 : wr.cell? ⟨b, o + k * 3 + 2, none⟩ = some (.slice Avalues xs[k].values.length cvalues) := by rw [Nat.add_assoc]; exact hc 2 _ rfl
      clear hc
      obtain ⟨hs1, hs2, hs3⟩ := HSM.out xs[k] (List.getElem_mem ..)
      cases hp : metR labels xs[k] with
      | true =>
        have HN2 := Lib.hid (take_all hlt HN.out hp)
        have HP := Lib.hid hp
        clear hp
        go_wp2_with fail
        refine (NeedMet_spec labels xs[k] _ _ _ _ _ _ _ (h'.ext (by repeat (first | with_reducible exact ext_refl _ | with_reducible assumption | with_reducible refine ext_alloc ?_ _ | with_reducible refine ext_trans ?_ (by assumption)))) rfl (rd_extT hr (by repeat (first | with_reducible exact ext_refl _ | with_reducible assumption | with_reducible refine ext_alloc ?_ _ | with_reducible refine ext_trans ?_ (by assumption)))) hll hs1 hs2 hs3).mono ?_
        rw [HP.out]
        rintro e wn ⟨rfl, hn⟩
        go_wp2
        exact ⟨⟨k + 1, by omega, by go_num, HN2.out, (by repeat (first | with_reducible exact ext_refl _ | with_reducible assumption | with_reducible refine ext_alloc ?_ _ | with_reducible refine ext_trans ?_ (by assumption)))⟩, by simp [intOf]; omega⟩
      | false =>
        have HF := Lib.hid (selectsR_not hlt hp)
        have HP := Lib.hid hp
        clear hp
        go_wp2_with fail
        refine (NeedMet_spec labels xs[k] _ _ _ _ _ _ _ (h'.ext (by repeat (first | with_reducible exact ext_refl _ | with_reducible assumption | with_reducible refine ext_alloc ?_ _ | with_reducible refine ext_trans ?_ (by assumption)))) rfl (rd_extT hr (by repeat (first | with_reducible exact ext_refl _ | with_reducible assumption | with_reducible refine ext_alloc ?_ _ | with_reducible refine ext_trans ?_ (by assumption)))) hll hs1 hs2 hs3).mono ?_
        rw [HP.out]
        rintro e wn ⟨rfl, hn⟩
        go_wp2
        go_ret
        exact ⟨by rw [HF.out]; rfl, (by repeat (first | with_reducible exact ext_refl _ | with_reducible assumption | with_reducible refine ext_alloc ?_ _ | with_reducible refine ext_trans ?_ (by assumption)))⟩
    · have hkl : k = xs.length := by omega
      subst hkl
      have hn := HN.out
      rw [List.take_length] at hn
      have HF := Lib.hid (selectsR_all hn)
      clear hn
      go_wp2
      go_ret
      exact ⟨by rw [HF.out]; rfl, (by repeat (first | with_reducible exact ext_refl _ | with_reducible assumption | with_reducible refine ext_alloc ?_ _ | with_reducible refine ext_trans ?_ (by assumption)))⟩

end Go.Proofs.YtjoclfenghenjaaGreat
