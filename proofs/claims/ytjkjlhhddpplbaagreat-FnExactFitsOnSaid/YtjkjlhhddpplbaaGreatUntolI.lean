/- slices.IndexFunc of the closure of Untolerated. No condition. -/
import Derived.Test.YtjkjlhhddpplbaaGreatToler
import Derived.Test.YtjkjlhhddpplbaaGreatAt
namespace Go.Proofs.YtjkjlhhddpplbaaGreat
open Go.ChangeShapes Go.WideShapes Go.ChangeAt Go.RowKit
set_option linter.unusedVariables false
set_option linter.unusedSimpArgs false

theorem any_idx {α : Type} (p : α → Bool) : ∀ xs : List α, xs.any p = decide (0 ≤ idxI p xs)
  | [] => rfl
  | x :: xs => by
    have h := any_idx p xs
    simp only [List.any_cons, idxI, h]
    by_cases hp : p x = true
    · simp [hp]
    · simp only [Bool.not_eq_true] at hp
      simp only [hp, Bool.false_or, if_neg (show ¬ false = true by simp)]
      rw [Bool.eq_iff_iff, decide_eq_true_eq, decide_eq_true_eq]
      split <;> omega
/-- a taint of that effect that none of the list bears -/
def untolP (ts : List Tolerance) (eff : Int) (x : Taint) : Bool := (x.effect == eff) && !(ts.any fun t => tolerR t x)
def untolN (ts : List Tolerance) (eff : Int) (xs : List Taint) : Nat := (xs.filter (untolP ts eff)).length
theorem untolN_yes {ts : List Tolerance} {eff : Int} {xs : List Taint} {k : Nat} (h : k < xs.length) (hp : untolP ts eff xs[k] = true) : untolN ts eff (xs.take (k + 1)) = untolN ts eff (xs.take k) + 1 := by
  unfold untolN; rw [List.take_succ_eq_append_getElem h, List.filter_append]; simp [hp]
theorem untolN_no {ts : List Tolerance} {eff : Int} {xs : List Taint} {k : Nat} (h : k < xs.length) (hp : untolP ts eff xs[k] = false) : untolN ts eff (xs.take (k + 1)) = untolN ts eff (xs.take k) := by
  unfold untolN; rw [List.take_succ_eq_append_getElem h, List.filter_append]; simp [hp]
theorem untolN_le (ts : List Tolerance) (eff : Int) (xs : List Taint) : untolN ts eff xs ≤ xs.length := List.length_filter_le _ _
theorem untolN_take (ts : List Tolerance) (eff : Int) (xs : List Taint) (k : Nat) : untolN ts eff (xs.take k) ≤ k := Nat.le_trans (untolN_le _ _ _) (by rw [List.length_take]; omega)
set_option maxHeartbeats 400000 in
theorem Untol_clo (t : Tolerance) (cs : List Value) (F : List Nat) (x : Taint) (q : Nat) (w : World) (h : rd w t cs F) (hq0 : w.cell? ⟨q, 0, none⟩ = some (.string x.key)) (hq1 : w.cell? ⟨q, 1, none⟩ = some (.string x.value)) (hq2 : w.cell? ⟨q, 2, none⟩ = some (.int .i64 x.effect)) (hx : I64 x.effect) (hql : q < w.heap.size)
    (hks : (t.key.size : Int) ≤ 1048576) (hvs : (t.value.size : Int) ≤ 1048576) (hks' : (x.key.size : Int) ≤ 1048576) (hvs' : (x.value.size : Int) ≤ 1048576) :
    Calls Tryz.prog 123 #[.agg cs.toArray, .pointer (some ⟨q, 0, none⟩)] w fun e w' => e = .returned (.bool (tolerR t x)) ∧ Below w.heap.size w w' := by
  obtain ⟨hck, hF, hkey, hvalue, heffect⟩ := rd_Tolerance h
  subst hck
  subst hF
  go_enter Tryz.func123, Tryz.ntmps123
  go_wp2_with fail
  refine (Tolerates_impl t x _ _ [] [] _ (rd_extT h (by repeat (first | with_reducible exact ext_refl _ | with_reducible assumption | with_reducible refine ext_alloc ?_ _ | with_reducible refine ext_trans ?_ (by assumption)))) (rd_Taint_mk _ x (by unfold maxLen; omega) (by unfold maxLen; omega) hx) hks hvs hks' hvs').mono ?_
  rintro e w2 ⟨rfl, hb2⟩
  go_wp2
  go_ret
  exact ⟨rfl, (by repeat (first | with_reducible exact ext_refl _ | with_reducible assumption | with_reducible refine ext_alloc ?_ _ | with_reducible refine ext_trans ?_ (by assumption)))⟩
set_option maxHeartbeats 1000000 in
theorem Untol_index (ts : List Tolerance) (A : Option Addr) (n c : Nat) (F : List Nat) (x : Taint) (q : Nat) (w : World) (h : Sl w ts A c F) (hn : n = ts.length) (hq0 : w.cell? ⟨q, 0, none⟩ = some (.string x.key)) (hq1 : w.cell? ⟨q, 1, none⟩ = some (.string x.value)) (hq2 : w.cell? ⟨q, 2, none⟩ = some (.int .i64 x.effect)) (hx : I64 x.effect) (hql : q < w.heap.size) (hl : (ts.length : Int) ≤ 1048576)
    (hsm : (∀ t ∈ ts, (t.key.size : Int) ≤ 1048576 ∧ (t.value.size : Int) ≤ 1048576)) (hks' : (x.key.size : Int) ≤ 1048576) (hvs' : (x.value.size : Int) ≤ 1048576) :
    Calls Tryz.prog 156 #[.slice A n c, .func (.func 123) #[] #[.pointer (some ⟨q, 0, none⟩)]] w fun e w' => e = .returned (.int .i64 (idxI (fun t => tolerR t x) ts)) ∧ Below w.heap.size w w' := by
  subst hn
  have HSM := Lib.hid hsm
  clear hsm
  go_enter Tryz.func156, Tryz.ntmps156
  go_wp2
  go_loopw [5, 8] (fun _ i wr => ∃ k : Nat, k ≤ ts.length ∧ i = .int .i64 k ∧ Hid (∀ t ∈ ts.take k, tolerR t x = false) ∧ Below w.heap.size w wr) (fun _ i _ => ts.length - (intOf i).toNat)
  case atStart => exact ⟨0, Nat.zero_le _, rfl, by show ∀ _, _; simp, ext_refl _⟩
  case round =>
    obtain ⟨k, hk, rfl, Hn, hbl⟩ := hrel
    by_cases hlt : k < ts.length
    · obtain ⟨b, o, ck, Fk, rfl, hbF, hbs, hr, hsub, hc⟩ := (h.ext hbl).get hlt
      obtain ⟨hck, hFk, hkey, hvalue, heffect⟩ := rd_Tolerance hr
      subst hck
      have q0 : wr.cell? ⟨b, o + k * 4, none⟩ = some (.string ts[k].key) := by exact hc 0 _ rfl
      have q1 : wr.cell? ⟨b, o + k * 4 + 1, none⟩ = some (.bool ts[k].equal) := by rw [Nat.add_assoc]; exact hc 1 _ rfl
      have q2 : wr.cell? ⟨b, o + k * 4 + 2, none⟩ = some (.string ts[k].value) := by rw [Nat.add_assoc]; exact hc 2 _ rfl
      have q3 : wr.cell? ⟨b, o + k * 4 + 3, none⟩ = some (.int .i64 ts[k].effect) := by rw [Nat.add_assoc]; exact hc 3 _ rfl
      clear hc
      have hr0 := hbl.cell (p := ⟨q, 0, none⟩) hql
      have hr1 := hbl.cell (p := ⟨q, 1, none⟩) hql
      have hr2 := hbl.cell (p := ⟨q, 2, none⟩) hql
      rw [hq0] at hr0
      rw [hq1] at hr1
      rw [hq2] at hr2
      have hqlr : q < wr.heap.size := Nat.lt_of_lt_of_le hql hbl.size
      obtain ⟨hs1, hs2⟩ := HSM.out ts[k] (List.getElem_mem ..)
      cases hp : tolerR ts[k] x with
      | false =>
        have HP := Lib.hid hp
        clear hp
        go_wp2_with (go_at_call 123; refine (Untol_clo ts[k] _ _ x q _ hr hr0 hr1 hr2 hx hqlr hs1 hs2 hks' hvs').mono ?_; rw [HP.out]; rintro e w2 ⟨rfl, hb2⟩)
        exact ⟨⟨k + 1, by omega, by go_num, take_none (p := fun t => tolerR t x) hlt Hn.out HP.out, ext_trans hbl hb2⟩, by simp [intOf]; omega⟩
      | true =>
        have HP := Lib.hid hp
        clear hp
        have HI := Lib.hid (idxI_found (p := fun t => tolerR t x) hlt Hn.out HP.out)
        go_wp2_with (go_at_call 123; refine (Untol_clo ts[k] _ _ x q _ hr hr0 hr1 hr2 hx hqlr hs1 hs2 hks' hvs').mono ?_; rw [HP.out]; rintro e w2 ⟨rfl, hb2⟩)
        go_ret
        exact ⟨by rw [HI.out]; rfl, ext_trans hbl hb2⟩
    · have hkl : k = ts.length := by omega
      subst hkl
      have hn := Hn.out
      rw [List.take_length] at hn
      have HI := Lib.hid (idxI_none (p := fun t => tolerR t x) hn)
      clear hn
      go_wp2
      go_ret
      exact ⟨by rw [HI.out]; rfl, hbl⟩

end Go.Proofs.YtjkjlhhddpplbaaGreat
