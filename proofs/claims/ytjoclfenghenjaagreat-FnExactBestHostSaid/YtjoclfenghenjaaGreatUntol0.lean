/- slices.IndexFunc of the closure of Untolerated. No condition. -/
import Derived.Test.YtjoclfenghenjaaGreatToler0
import Derived.Test.YtjoclfenghenjaaGreatAt
namespace Go.Proofs.YtjoclfenghenjaaGreat
open Go.ChangeShapes Go.WideShapes Go.ChangeAt Go.RowKit
set_option linter.unusedVariables false
set_option linter.unusedSimpArgs false

theorem any_idx {α : Type} (p : α → Bool) : ∀ xs : List α, xs.any p = decide (0 ≤ idxI p xs)
  | [] => rfl
  | x :: xs => by
    have h := any_idx p xs
    simp only [List.any_cons, idxI, h]
    by_cases hp : p x = true
    · simp [hp]
    · simp only [Bool.not_eq_true] at hp
      simp only [hp, Bool.false_or, if_neg (show ¬ false = true by simp)]
      rw [Bool.eq_iff_iff, decide_eq_true_eq, decide_eq_true_eq]
      split <;> omega
/-- a taint of that effect that none of the list bears -/
def untolP (ts : List Tolerance) (eff : Int) (x : Taint) : Bool := (x.effect == eff) && !(ts.any fun t => tolerR t x)
def untolN (ts : List Tolerance) (eff : Int) (xs : List Taint) : Nat := (xs.filter (untolP ts eff)).length
theorem untolN_yes {ts : List Tolerance} {eff : Int} {xs : List Taint} {k : Nat} (h : k < xs.length) (hp : untolP ts eff xs[k] = true) : untolN ts eff (xs.take (k + 1)) = untolN ts eff (xs.take k) + 1 := by
  unfold untolN; rw [List.take_succ_eq_append_getElem h, List.filter_append]; simp [hp]
theorem untolN_no {ts : List Tolerance} {eff : Int} {xs : List Taint} {k : Nat} (h : k < xs.length) (hp : untolP ts eff xs[k] = false) : untolN ts eff (xs.take (k + 1)) = untolN ts eff (xs.take k) := by
  unfold untolN; rw [List.take_succ_eq_append_getElem h, List.filter_append]; simp [hp]
theorem untolN_le (ts : List Tolerance) (eff : Int) (xs : List Taint) : untolN ts eff xs ≤ xs.length := List.length_filter_le _ _
theorem untolN_take (ts : List Tolerance) (eff : Int) (xs : List Taint) (k : Nat) : untolN ts eff (xs.take k) ≤ k := Nat.le_trans (untolN_le _ _ _) (by rw [List.length_take]; omega)
set_option maxHeartbeats 400000 in
theorem Untol_clo (t : Tolerance) (cs : List Value) (F : List Nat) (x : Taint) (q : Nat) (w : World) (h : rd w t cs F) (hq0 : w.cell? ⟨q, 0, none⟩ = some (.string x.key)) (hq1 : w.cell? ⟨q, 1, none⟩ = some (.string x.value)) (hq2 : w.cell? ⟨q, 2, none⟩ = some (.int .i64 x.effect)) (hx : I64 x.effect) (hql : q < w.heap.size)
    (hks : (t.key.size : Int) ≤ 1048576) (hvs : (t.value.size : Int) ≤ 1048576) (hks' : (x.key.size : Int) ≤ 1048576) (hvs' : (x.value.size : Int) ≤ 1048576) :
    Calls Tryz.prog 191 #[.agg cs.toArray, .pointer (some ⟨q, 0, none⟩)] w fun e w' => e = .returned (.bool (tolerR t x)) ∧ Below w.heap.size w w' := by
  obtain ⟨hck, hF, hkey, hvalue, heffect⟩ := rd_Tolerance h
  subst hck
  subst hF
  go_enter Tryz.func191, Tryz.ntmps191
  go_wp2_with fail
  refine (Tolerates_impl t x _ _ [] [] _ (rd_extT h (by repeat (first | with_reducible exact ext_refl _ | with_reducible assumption | with_reducible refine ext_alloc ?_ _ | with_reducible refine ext_trans ?_ (by assumption)))) (rd_Taint_mk _ x (by unfold maxLen; omega) (by unfold maxLen; omega) hx) hks hvs hks' hvs').mono ?_
  rintro e w2 ⟨rfl, hb2⟩
  go_wp2
  go_ret
  exact ⟨rfl, (by repeat (first | with_reducible exact ext_refl _ | with_reducible assumption | with_reducible refine ext_alloc ?_ _ | with_reducible refine ext_trans ?_ (by assumption)))⟩
set_option maxHeartbeats 1000000 in
theorem Untol_index (ts : List Tolerance) (A : Option Addr) (n c : Nat) (F : List Nat) (x : Taint) (q : Nat) (w : World) (h : Sl w ts A c F) (hn : n = ts.length) (hq0 : w.cell? ⟨q, 0, none⟩ = some (.string x.key)) (hq1 : w.cell? ⟨q, 1, none⟩ = some (.string x.value)) (hq2 : w.cell? ⟨q, 2, none⟩ = some (.int .i64 x.effect)) (hx : I64 x.effect) (hql : q < w.heap.size) (hl : (ts.length : Int) ≤ 1048576)
    (hsm : (∀ t ∈ ts, (t.key.size : Int) ≤ 1048576 ∧ (t.value.size : Int) ≤ 1048576)) (hks' : (x.key.size : Int) ≤ 1048576) (hvs' : (x.value.size : Int) ≤ 1048576) :
    Calls Tryz.prog 202 #[.slice A n c, .func (.func 191) #[] #[.pointer (some ⟨q, 0, none⟩)]] w fun e w' => e = .returned (.int .i64 (idxI (fun t => tolerR t x) ts)) ∧ Below w.heap.size w w' := by
  subst hn
  have HSM := Lib.hid hsm
  clear hsm
  go_enter Tryz.func202, Tryz.ntmps202
  go_wp2
  go_loopw [5, 8] (fun _ i wr => ∃ k : Nat, k ≤ ts.length ∧ i = .int .i64 k ∧ Hid (∀ t ∈ ts.take k, tolerR t x = false) ∧ Below w.heap.size w wr) (fun _ i _ => ts.length - (intOf i).toNat)
  case atStart => exact ⟨0, Nat.zero_le _, rfl, by show ∀ _, _; simp, ext_refl _⟩
  case round =>
    obtain ⟨k, hk, rfl, Hn, hbl⟩ := hrel
    by_cases hlt : k < ts.length
    · obtain ⟨b, o, ck, Fk, rfl, hbF, hbs, hr, hsub, hc⟩ := (h.ext hbl).get hlt
      obtain ⟨hck, hFk, hkey, hvalue, heffect⟩ := rd_Tolerance hr
      subst hck
      have q0 : wr.cell? ⟨b, o + k * 4, none⟩ = some (.string ts[k].key) := by exact hc 0 _ rfl
      have q1 : wr.cell? ⟨b, o + k * 4 + 1, none⟩ = some (.bool ts[k].equal) := by rw [Nat.add_assoc]; exact hc 1 _ rfl
      have q2 : wr.cell? ⟨b, o + k * 4 + 2, none⟩ = some (.string ts[k].value) := by rw [Nat.add_assoc]; exact hc 2 _ rfl
      have q3 : wr.cell? ⟨b, o + k * 4 + 3, none⟩ = some (.int .i64 ts[k].effect) := by rw [Nat.add_assoc]; exact hc 3 _ rfl
      clear hc
      have hr0 := hbl.cell (p := ⟨q, 0, none⟩) hql
      have hr1 := hbl.cell (p := ⟨q, 1, none⟩) hql
      have hr2 := hbl.cell (p := ⟨q, 2, none⟩) hql
      rw [hq0] at hr0
      rw [hq1] at hr1
      rw [hq2] at hr2
      have hqlr : q < wr.heap.size := Nat.lt_of_lt_of_le hql hbl.size
      obtain ⟨hs1, hs2⟩ := HSM.out ts[k] (List.getElem_mem ..)
      cases hp : tolerR ts[k] x with
      | false =>
        have HP := Lib.hid hp
        clear hp
        go_wp2_with (go_at_call 191; refine (Untol_clo ts[k] _ _ x q _ hr hr0 hr1 hr2 hx hqlr hs1 hs2 hks' hvs').mono ?_; rw [HP.out]; rintro e w2 ⟨rfl, hb2⟩)
        exact ⟨⟨k + 1, by omega, by go_num, take_none (p := fun t => tolerR t x) hlt Hn.out HP.out, ext_trans hbl hb2⟩, by simp [intOf]; omega⟩
      | true =>
        have HP := Lib.hid hp
        clear hp
        have HI := Lib.hid (idxI_found (p := fun t => tolerR t x) hlt Hn.out HP.out)
        go_wp2_with (go_at_call 191; refine (Untol_clo ts[k] _ _ x q _ hr hr0 hr1 hr2 hx hqlr hs1 hs2 hks' hvs').mono ?_; rw [HP.out]; rintro e w2 ⟨rfl, hb2⟩)
        go_ret
        exact ⟨by rw [HI.out]; rfl, ext_trans hbl hb2⟩
    · have hkl : k = ts.length := by omega
      subst hkl
      have hn := Hn.out
      rw [List.take_length] at hn
      have HI := Lib.hid (idxI_none (p := fun t => tolerR t x) hn)
      clear hn
      go_wp2
      go_ret
      exact ⟨by rw [HI.out]; rfl, hbl⟩

end Go.Proofs.YtjoclfenghenjaaGreat

namespace Go.Proofs.YtjoclfenghenjaaGreat
open Go.ChangeShapes Go.WideShapes Go.ChangeAt Go.RowKit
set_option linter.unusedVariables false
set_option linter.unusedSimpArgs false
set_option maxRecDepth 100000 in
set_option maxHeartbeats 1000000 in
theorem Untol_contains (ts : List Tolerance) (A : Option Addr) (n c : Nat) (F : List Nat) (x : Taint) (q : Nat) (w : World) (h : Sl w ts A c F) (hn : n = ts.length) (hq0 : w.cell? ⟨q, 0, none⟩ = some (.string x.key)) (hq1 : w.cell? ⟨q, 1, none⟩ = some (.string x.value)) (hq2 : w.cell? ⟨q, 2, none⟩ = some (.int .i64 x.effect)) (hx : I64 x.effect) (hql : q < w.heap.size) (hl : (ts.length : Int) ≤ 1048576)
    (hsm : (∀ t ∈ ts, (t.key.size : Int) ≤ 1048576 ∧ (t.value.size : Int) ≤ 1048576)) (hks' : (x.key.size : Int) ≤ 1048576) (hvs' : (x.value.size : Int) ≤ 1048576) :
    Calls Tryz.prog 190 #[.slice A n c, .func (.func 191) #[] #[.pointer (some ⟨q, 0, none⟩)]] w fun e w' => e = .returned (.bool (ts.any fun t => tolerR t x)) ∧ Below w.heap.size w w' := by
  subst hn
  have hab := any_idx (fun t => tolerR t x) ts
  have HSM := Lib.hid hsm
  clear hsm
  have hix := Untol_index ts A _ c F x q w h rfl hq0 hq1 hq2 hx hql hl HSM.out hks' hvs'
  generalize idxI (fun t => tolerR t x) ts = z at hab hix
  rw [hab]
  clear hab HSM
  go_enter Tryz.func190, Tryz.ntmps190
  go_wp2_with fail
  refine hix.mono ?_
  rintro e w2 ⟨rfl, hb2⟩
  go_wp2
  go_ret
  exact ⟨rfl, hb2⟩

end Go.Proofs.YtjoclfenghenjaaGreat

namespace Go.Proofs.YtjoclfenghenjaaGreat
open Go.ChangeShapes Go.WideShapes Go.ChangeAt Go.RowKit
set_option linter.unusedVariables false
set_option linter.unusedSimpArgs false
set_option maxRecDepth 100000 in
set_option maxHeartbeats 1000000 in
theorem Untolerated_impl (ts : List Tolerance) (xs : List Taint) (eff : Int) (A B : Option Addr) (n m c d : Nat) (F G : List Nat) (w : World) (h : Sl w ts A c F) (h' : Sl w xs B d G) (hn : n = ts.length) (hm : m = xs.length) (hl : (ts.length : Int) ≤ 1048576) (hl' : (xs.length : Int) ≤ 1048576)
    (hsm : (∀ t ∈ ts, (t.key.size : Int) ≤ 1048576 ∧ (t.value.size : Int) ≤ 1048576)) (hsm' : (∀ x ∈ xs, (x.key.size : Int) ≤ 1048576 ∧ (x.value.size : Int) ≤ 1048576)) :
    Calls Tryz.prog 155 #[.slice A n c, .slice B m d, .int .i64 eff] w fun e w' => e = .returned (.int .i64 (untolN ts eff xs)) ∧ Below w.heap.size w w' := by
  subst hm
  subst hn
  have HSM := Lib.hid hsm
  have HSX := Lib.hid hsm'
  clear hsm hsm'
  go_enter Tryz.func155, Tryz.ntmps155
  go_wp2_with fail
  go_loopw [7, 12] (fun x i wr => ∃ k : Nat, k ≤ xs.length ∧ i = .int .i64 k ∧ x = .int .i64 (untolN ts eff (xs.take k)) ∧ Below w.heap.size w wr) (fun _ i _ => xs.length - (intOf i).toNat)
  case atStart => exact ⟨0, Nat.zero_le _, rfl, rfl, (by repeat (first | with_reducible exact ext_refl _ | with_reducible assumption | with_reducible refine ext_alloc ?_ _ | with_reducible refine ext_trans ?_ (by assumption)))⟩
  case round =>
    obtain ⟨k, hk, rfl, rfl, hbl⟩ := hrel
    by_cases hlt : k < xs.length
    · obtain ⟨b, o, ck, Fk, rfl, hbF, hbs, hr, hsub, hc⟩ := (Sl.ext (w' := wr) (A := B) (c := d) h' hbl).get hlt
      obtain ⟨hck, hFk, hkey, hvalue, heffect⟩ := rd_Taint hr
      subst hck
      have q0 : wr.cell? ⟨b, o + k * 3, none⟩ = some (.string xs[k].key) := by exact hc 0 _ rfl
      have q1 : wr.cell? ⟨b, o + k * 3 + 1, none⟩ = some (.string xs[k].value) := by rw [Nat.add_assoc]; exact hc 1 _ rfl
      have q2 : wr.cell? ⟨b, o + k * 3 + 2, none⟩ = some (.int .i64 xs[k].effect) := by rw [Nat.add_assoc]; exact hc 2 _ rfl
      clear hc
      obtain ⟨hs1, hs2⟩ := HSX.out xs[k] (List.getElem_mem ..)
      have hnt := untolN_take ts eff xs k
      cases hef : (xs[k].effect == eff) with
      | false =>
        have hp : untolP ts eff xs[k] = false := by unfold untolP; rw [hef]; rfl
        have HN := Lib.hid (untolN_no hlt hp)
        clear hp
        go_wp2
        exact ⟨⟨k + 1, by omega, by go_num, by rw [HN.out] <;> first | rfl | go_num, ext_alloc hbl _⟩, by simp [intOf]; omega⟩
      | true =>
        cases han : (ts.any fun t => tolerR t xs[k])
        all_goals
          have hp : untolP ts eff xs[k] = _ := (by unfold untolP; rw [hef, han])
          have HA := Lib.hid han
          clear han
          first | have HN := Lib.hid (untolN_yes hlt hp) | have HN := Lib.hid (untolN_no hlt hp)
          clear hp
          go_wp2_with (go_at_call 190; refine (Untol_contains ts A _ c F xs[k] wr.heap.size _ (Sl.ext (Sl.ext (w' := wr) h hbl) (by repeat (first | with_reducible exact ext_refl _ | with_reducible assumption | with_reducible refine ext_alloc ?_ _ | with_reducible refine ext_trans ?_ (by assumption)))) rfl (by rw [cell_of_row _ _ _ _ _ _ (heap_alloc_new wr _)]; rfl) (by rw [cell_of_row _ _ _ _ _ _ (heap_alloc_new wr _)]; rfl) (by rw [cell_of_row _ _ _ _ _ _ (heap_alloc_new wr _)]; rfl) heffect (by simp) hl HSM.out hs1 hs2).mono ?_; rw [HA.out]; rintro e w2 ⟨rfl, hb2⟩)
          exact ⟨⟨k + 1, by omega, by go_num, by rw [HN.out] <;> first | rfl | go_num, ext_trans (ext_alloc hbl _) hb2⟩, by simp [intOf]; omega⟩
    · have hkl : k = xs.length := by omega
      subst hkl
      go_wp2
      go_ret
      exact ⟨by rw [List.take_length]; rfl, hbl⟩
set_option maxRecDepth 100000 in
set_option maxHeartbeats 1000000 in
theorem Untolerated_spec (ts : List Tolerance) (xs : List Taint) (eff : Int) (A B : Option Addr) (n m c d : Nat) (F G : List Nat) (w : World) (h : Sl w ts A c F) (h' : Sl w xs B d G) (hn : n = ts.length) (hm : m = xs.length) (hl : (ts.length : Int) ≤ 1048576) (hl' : (xs.length : Int) ≤ 1048576)
    (hsm : (∀ t ∈ ts, (t.key.size : Int) ≤ 1048576 ∧ (t.value.size : Int) ≤ 1048576)) (hsm' : (∀ x ∈ xs, (x.key.size : Int) ≤ 1048576 ∧ (x.value.size : Int) ≤ 1048576)) :
    Calls Tryz.prog 148 #[.slice A n c, .slice B m d, .int .i64 eff] w fun e w' => e = .returned (.int .i64 (untolN ts eff xs)) ∧ Below w.heap.size w w' := by
  subst hm
  subst hn
  have HSM := Lib.hid hsm
  have HSX := Lib.hid hsm'
  clear hsm hsm'
  go_enter Tryz.func148, Tryz.ntmps148
  go_wp2_with fail
  go_loopw [7, 8] (fun x i wr => ∃ k : Nat, k ≤ xs.length ∧ i = .int .i64 k ∧ x = .int .i64 (untolN ts eff (xs.take k)) ∧ Below w.heap.size w wr) (fun _ i _ => xs.length - (intOf i).toNat)
  case atStart => exact ⟨0, Nat.zero_le _, rfl, rfl, (by repeat (first | with_reducible exact ext_refl _ | with_reducible assumption | with_reducible refine ext_alloc ?_ _ | with_reducible refine ext_trans ?_ (by assumption)))⟩
  case round =>
    obtain ⟨k, hk, rfl, rfl, hbl⟩ := hrel
    by_cases hlt : k < xs.length
    · obtain ⟨b, o, ck, Fk, rfl, hbF, hbs, hr, hsub, hc⟩ := (Sl.ext (w' := wr) (A := B) (c := d) h' hbl).get hlt
      obtain ⟨hck, hFk, hkey, hvalue, heffect⟩ := rd_Taint hr
      subst hck
      have q0 : wr.cell? ⟨b, o + k * 3, none⟩ = some (.string xs[k].key) := by exact hc 0 _ rfl
      have q1 : wr.cell? ⟨b, o + k * 3 + 1, none⟩ = some (.string xs[k].value) := by rw [Nat.add_assoc]; exact hc 1 _ rfl
      have q2 : wr.cell? ⟨b, o + k * 3 + 2, none⟩ = some (.int .i64 xs[k].effect) := by rw [Nat.add_assoc]; exact hc 2 _ rfl
      clear hc
      obtain ⟨hs1, hs2⟩ := HSX.out xs[k] (List.getElem_mem ..)
      have hnt := untolN_take ts eff xs k
      generalize hz : (untolN ts eff (xs.take k) : Int) = z at *
      have hkk : ((xs[k].effect != eff) || (ts.take 0).any (fun t => tolerR t xs[k])) = (xs[k].effect != eff) := by simp
      obtain ⟨wo, hwo⟩ : ∃ wo, wo = wr := ⟨_, rfl⟩
      subst hwo
      go_wp2_with fail
      go_loopw [9, 10] (fun v u wi => ∃ j : Nat, j ≤ ts.length ∧ u = .int .i64 j ∧ v = .bool ((xs[k].effect != eff) || (ts.take j).any (fun t => tolerR t xs[k])) ∧ Below w.heap.size w wi ∧ Below wo.heap.size wo wi) (fun _ u _ => ts.length - (intOf u).toNat)
      case atStart => exact ⟨0, Nat.zero_le _, rfl, by rw [hkk], hbl, ext_refl _⟩
      case round =>
        obtain ⟨j, hj, rfl, rfl, hbi, hbw⟩ := hrel
        replace q0 := ((bcell hbw).1 b _ hbs).trans q0
        replace q1 := ((bcell hbw).1 b _ hbs).trans q1
        replace q2 := ((bcell hbw).1 b _ hbs).trans q2
        replace hbs := Nat.lt_of_lt_of_le hbs hbw.size
        by_cases hjl : j < ts.length
        · obtain ⟨b2, o2, ck2, Fk2, rfl, hbF2, hbs2, hr2, hsub2, hc2⟩ := (Sl.ext (w' := wr) (A := A) (c := c) h hbi).get hjl
          obtain ⟨hck, hFk2, hkey2, hvalue2, heffect2⟩ := rd_Tolerance hr2
          subst hck
          have p0 : wr.cell? ⟨b2, o2 + j * 4, none⟩ = some (.string ts[j].key) := by exact hc2 0 _ rfl
          have p1 : wr.cell? ⟨b2, o2 + j * 4 + 1, none⟩ = some (.bool ts[j].equal) := by rw [Nat.add_assoc]; exact hc2 1 _ rfl
          have p2 : wr.cell? ⟨b2, o2 + j * 4 + 2, none⟩ = some (.string ts[j].value) := by rw [Nat.add_assoc]; exact hc2 2 _ rfl
          have p3 : wr.cell? ⟨b2, o2 + j * 4 + 3, none⟩ = some (.int .i64 ts[j].effect) := by rw [Nat.add_assoc]; exact hc2 3 _ rfl
          clear hc2
          obtain ⟨ht1, ht2⟩ := HSM.out ts[j] (List.getElem_mem ..)
          have hst : (ts.take (j + 1)).any (fun t => tolerR t xs[k]) = ((ts.take j).any (fun t => tolerR t xs[k]) || tolerR ts[j] xs[k]) := by rw [List.take_succ_eq_append_getElem hjl, List.any_append]; simp
          generalize hv : ((xs[k].effect != eff) || (ts.take j).any (fun t => tolerR t xs[k])) = v at *
          have hnx : ((xs[k].effect != eff) || (ts.take (j + 1)).any (fun t => tolerR t xs[k])) = (v || tolerR ts[j] xs[k]) := by rw [hst, ← Bool.or_assoc, hv]
          have HNX := Lib.hid hnx
          clear hnx hst hv hkk
          cases v
          all_goals
            go_wp2_with fail
            refine wp_region_grow _ (by kernel_rfl) (by kernel_rfl) (ext_refl _) ?_
            repeat (first
              | (apply inText_skip
                 case hw => rfl
                 simp only [Act.put, List.setIfInBounds_toArray, List.set_cons_zero, List.set_cons_succ])
              | (apply inText_step
                 case hw => rfl
                 case h =>
                   intro wq hq
                   have hcq := (cls_cell hq).1
                   have hfq := (cls_cell hq).2
                   go_simp
                   first
                     | exact ⟨hq, rfl⟩
                     | exact ⟨cls_alloc hq _, rfl⟩
                     | (refine (Tolerates_spec ts[j] xs[k] _ _ _ [] _ (rd_extT hr2 (by first | exact hq | exact hq.out)) (rd_Taint_mk _ xs[k] hkey hvalue heffect) ht1 ht2 hs1 hs2).mono ?_; rintro e w2 ⟨rfl, hb2⟩; exact ⟨rfl, cls_trans hq hb2⟩)
                     | (simp only [↓IntWalk.iteOmega]; exact ⟨hq, rfl⟩)
                 simp only [Act.put, List.setIfInBounds_toArray, List.set_cons_zero, List.set_cons_succ]))
            refine inText_nil ?_
            intro wn hn
            replace hn := hn.out
            go_wp2
            exact ⟨⟨j + 1, by omega, by go_num, by rw [HNX.out]; rfl, ext_trans hbi hn, ext_trans hbw hn⟩, by simp [intOf]; omega⟩
        · have hjo : j = ts.length := by omega
          subst hjo
          rw [List.take_length]
          cases hef : (xs[k].effect == eff) <;> cases han : (ts.any fun t => tolerR t xs[k])
          all_goals
            have hp : untolP ts eff xs[k] = _ := (by unfold untolP; rw [hef, han])
            simp only [Bool.false_and, Bool.true_and, Bool.not_true, Bool.not_false] at hp
            first | have HN := Lib.hid (untolN_yes hlt hp) | have HN := Lib.hid (untolN_no hlt hp)
            have hne : (xs[k].effect != eff) = _ := (by unfold bne; rw [hef])
            rw [hne]
            clear hp han
            go_wp2
            exact ⟨⟨k + 1, by omega, by go_num, by rw [HN.out, ← hz] <;> first | rfl | go_num, hbi⟩, by simp [intOf]; omega⟩
    · have hkl : k = xs.length := by omega
      subst hkl
      go_wp2
      go_ret
      exact ⟨by rw [List.take_length]; rfl, hbl⟩

end Go.Proofs.YtjoclfenghenjaaGreat
