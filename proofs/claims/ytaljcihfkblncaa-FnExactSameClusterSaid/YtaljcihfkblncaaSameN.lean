/- SameNeeds, SameLabels, of the program and of the reference. No condition. -/
import Derived.Test.YtaljcihfkblncaaSameL
import Derived.Test.YtaljcihfkblncaaNeedLess
import Derived.Test.YtaljcihfkblncaaRows2
namespace Go.Proofs.Ytaljcihfkblncaa
open Go.ChangeShapes Go.WideShapes Go.ChangeAt Go.RowKit
set_option linter.unusedVariables false
set_option linter.unusedSimpArgs false
set_option maxHeartbeats 1000000 in
theorem SameNeeds_clo (x y : Need) (cs ds : List Value) (F G : List Nat) (w : World) (h : rd w x cs F) (h' : rd w y ds G) (hl : (x.values.length : Int) ≤ 1048576) (hl' : (y.values.length : Int) ≤ 1048576) :
    Calls Try.prog 170 #[.agg cs.toArray, .agg ds.toArray] w fun e w' => e = .returned (.bool (eqNeed x y)) ∧ Below w.heap.size w w' := by
  have hC := Lib.hid (fun wq hq => compareNeeds_any x y cs ds F G wq (rd_extT h hq) (rd_extT h' hq) hl hl')
  have HE := Lib.hid (eqNeed_ncmp x y)
  obtain ⟨Avalues1, cvalues1, Fvalues1, hck, rfl, hkey1, hop1, hvalues1⟩ := rd_Need h
  subst hck
  obtain ⟨Avalues2, cvalues2, Fvalues2, hck, rfl, hkey2, hop2, hvalues2⟩ := rd_Need h'
  subst hck
  go_enter Try.func170, Try.ntmps170
  go_wp2_with fail
  refine (hC.out _ (by repeat (first | with_reducible exact ext_refl _ | with_reducible assumption | with_reducible refine ext_alloc ?_ _ | with_reducible refine ext_trans ?_ (by assumption)))).mono ?_
  rintro e w2 ⟨rfl, hb2⟩
  go_wp2
  go_ret
  exact ⟨by rw [← HE.out]; first | rfl | simp, (by repeat (first | with_reducible exact ext_refl _ | with_reducible assumption | with_reducible refine ext_alloc ?_ _ | with_reducible refine ext_trans ?_ (by assumption)))⟩
set_option maxRecDepth 100000 in
set_option maxHeartbeats 2000000 in
theorem EqualFuncNeed_any (xs ys : List Need) (A B : Option Addr) (c d : Nat) (F G : List Nat) (w : World) (h : Sl w xs A c F) (h' : Sl w ys B d G) (hxs : ∀ l ∈ xs, (l.values.length : Int) ≤ 1048576) (hys : ∀ l ∈ ys, (l.values.length : Int) ≤ 1048576) :
    Calls Try.prog 169 #[.slice A xs.length c, .slice B ys.length d, .func (.func 170) #[] #[]] w fun e w' => e = .returned (.bool (same eqNeed xs ys)) ∧ Below w.heap.size w w' := by
  have hc := h.cap
  unfold maxLen at hc
  obtain ⟨hc1, hc2⟩ := hc
  have hd := h'.cap
  unfold maxLen at hd
  obtain ⟨hd1, hd2⟩ := hd
  by_cases hl : xs.length = ys.length
  · have HL := Lib.hid hl
    have hb1 : ((xs.length : Int) != (ys.length : Int)) = false := by simp [hl]
    clear hl
    go_enter Try.func169, Try.ntmps169
    go_wp2
    go_loopw [17] (fun i wr => ∃ k : Nat, k ≤ xs.length ∧ i = .int .i64 k ∧ Hid (same eqNeed (xs.take k) (ys.take k) = true) ∧ Below w.heap.size w wr) (fun i _ => xs.length - (intOf i).toNat)
    case atStart => exact ⟨0, Nat.zero_le _, rfl, by show _ = true; simp [same], ext_refl _⟩
    case round =>
      obtain ⟨k, hk, rfl, Heq, hbl⟩ := hrel
      by_cases hlt : k < xs.length
      · obtain ⟨b, o, ck, Fk, rfl, hbF, hbs, hr, hsub, hc⟩ := (h.ext hbl).get hlt
        have hlt' : k < ys.length := by rw [← HL.out]; exact hlt
        obtain ⟨b', o', ck', Fk', rfl, hbF', hbs', hr', hsub', hc'⟩ := (h'.ext hbl).get hlt'
        obtain ⟨Avalues1, cvalues1, Fvalues1, hck, rfl, hkey1, hop1, hvalues1⟩ := rd_Need hr
        subst hck
        obtain ⟨Avalues2, cvalues2, Fvalues2, hck, rfl, hkey2, hop2, hvalues2⟩ := rd_Need hr'
        subst hck
        have q0 : wr.cell? ⟨b, o + k * 3, none⟩ = some (.string xs[k].key) := by exact hc 0 _ rfl
        have q1 : wr.cell? ⟨b, o + k * 3 + 1, none⟩ = some (.int .i64 xs[k].op) := by rw [Nat.add_assoc]; exact hc 1 _ rfl
        have q2 : wr.cell? ⟨b, o + k * 3 + 2, none⟩ = some (.slice Avalues1 xs[k].values.length cvalues1) := by rw [Nat.add_assoc]; exact hc 2 _ rfl
        have p0 : wr.cell? ⟨b', o' + k * 3, none⟩ = some (.string ys[k].key) := by exact hc' 0 _ rfl
        have p1 : wr.cell? ⟨b', o' + k * 3 + 1, none⟩ = some (.int .i64 ys[k].op) := by rw [Nat.add_assoc]; exact hc' 1 _ rfl
        have p2 : wr.cell? ⟨b', o' + k * 3 + 2, none⟩ = some (.slice Avalues2 ys[k].values.length cvalues2) := by rw [Nat.add_assoc]; exact hc' 2 _ rfl
        clear hc hc'
        cases he : eqNeed xs[k] ys[k] with
        | false =>
          have HE := Lib.hid he
          have HS := Lib.hid (same_drop (k + 1) (by rw [same_take hlt hlt', Heq.out, he]; rfl) HL.out)
          clear he
          go_wp2_with fail
          refine (SameNeeds_clo xs[k] ys[k] _ _ _ _ _ (rd_extT hr (by repeat (first | with_reducible exact ext_refl _ | with_reducible assumption | with_reducible refine ext_alloc ?_ _ | with_reducible refine ext_trans ?_ (by assumption)))) (rd_extT hr' (by repeat (first | with_reducible exact ext_refl _ | with_reducible assumption | with_reducible refine ext_alloc ?_ _ | with_reducible refine ext_trans ?_ (by assumption)))) (hxs _ (List.getElem_mem ..)) (hys _ (List.getElem_mem ..))).mono ?_
          rw [HE.out]
          rintro e w2 ⟨rfl, hb2⟩
          go_wp2
          go_ret
          exact ⟨by rw [HS.out]; rfl, (by repeat (first | with_reducible exact ext_refl _ | with_reducible assumption | with_reducible refine ext_alloc ?_ _ | with_reducible refine ext_trans ?_ (by assumption)))⟩
        | true =>
          have HE := Lib.hid he
          have HS := Lib.hid (show same eqNeed (xs.take (k + 1)) (ys.take (k + 1)) = true by rw [same_take hlt hlt', Heq.out, he]; rfl)
          clear he
          go_wp2_with fail
          refine (SameNeeds_clo xs[k] ys[k] _ _ _ _ _ (rd_extT hr (by repeat (first | with_reducible exact ext_refl _ | with_reducible assumption | with_reducible refine ext_alloc ?_ _ | with_reducible refine ext_trans ?_ (by assumption)))) (rd_extT hr' (by repeat (first | with_reducible exact ext_refl _ | with_reducible assumption | with_reducible refine ext_alloc ?_ _ | with_reducible refine ext_trans ?_ (by assumption)))) (hxs _ (List.getElem_mem ..)) (hys _ (List.getElem_mem ..))).mono ?_
          rw [HE.out]
          rintro e w2 ⟨rfl, hb2⟩
          go_wp2
          exact ⟨⟨k + 1, by omega, by go_num, HS, (by repeat (first | with_reducible exact ext_refl _ | with_reducible assumption | with_reducible refine ext_alloc ?_ _ | with_reducible refine ext_trans ?_ (by assumption)))⟩, by simp [intOf]; omega⟩
      · have hkl : k = xs.length := by omega
        have HK := Lib.hid hkl
        clear hkl
        go_wp2
        go_ret
        have h1 := Heq.out
        rw [HK.out, List.take_length, HL.out, List.take_length] at h1
        exact ⟨by rw [h1]; rfl, hbl⟩
  · have hb1 : ((xs.length : Int) != (ys.length : Int)) = true := by simp; omega
    have HL := Lib.hid (same_len (eq := eqNeed) hl)
    clear hl
    go_enter Try.func169, Try.ntmps169
    go_wp2
    go_ret
    exact ⟨by rw [HL.out]; rfl, ext_refl _⟩
set_option maxHeartbeats 1000000 in
theorem SameNeeds_impl (xs ys : List Need) (A B : Option Addr) (c d : Nat) (F G : List Nat) (w : World) (h : Sl w xs A c F) (h' : Sl w ys B d G) (hxs : ∀ l ∈ xs, (l.values.length : Int) ≤ 1048576) (hys : ∀ l ∈ ys, (l.values.length : Int) ≤ 1048576) :
    Calls Try.prog 133 #[.slice A xs.length c, .slice B ys.length d] w fun e w' => e = .returned (.bool (same eqNeed xs ys)) ∧ Below w.heap.size w w' := by
  go_enter Try.func133, Try.ntmps133
  go_wp2_with fail
  refine (EqualFuncNeed_any xs ys _ _ _ _ _ _ _ (h.ext (by repeat (first | with_reducible exact ext_refl _ | with_reducible assumption | with_reducible refine ext_alloc ?_ _ | with_reducible refine ext_trans ?_ (by assumption)))) (h'.ext (by repeat (first | with_reducible exact ext_refl _ | with_reducible assumption | with_reducible refine ext_alloc ?_ _ | with_reducible refine ext_trans ?_ (by assumption)))) hxs hys).mono ?_
  rintro e w2 ⟨rfl, hb2⟩
  go_wp2
  go_ret
  exact ⟨rfl, (by repeat (first | with_reducible exact ext_refl _ | with_reducible assumption | with_reducible refine ext_alloc ?_ _ | with_reducible refine ext_trans ?_ (by assumption)))⟩
set_option maxHeartbeats 1000000 in
theorem SameLabels_impl (xs ys : List Label) (A B : Option Addr) (c d : Nat) (F G : List Nat) (w : World) (h : Sl w xs A c F) (h' : Sl w ys B d G) :
    Calls Try.prog 132 #[.slice A xs.length c, .slice B ys.length d] w fun e w' => e = .returned (.bool (same eqLabel xs ys)) ∧ Below w.heap.size w w' := by
  go_enter Try.func132, Try.ntmps132
  go_wp2_with fail
  refine (EqualLabel_any xs ys _ _ _ _ _ _ _ (h.ext (by repeat (first | with_reducible exact ext_refl _ | with_reducible assumption | with_reducible refine ext_alloc ?_ _ | with_reducible refine ext_trans ?_ (by assumption)))) (h'.ext (by repeat (first | with_reducible exact ext_refl _ | with_reducible assumption | with_reducible refine ext_alloc ?_ _ | with_reducible refine ext_trans ?_ (by assumption))))).mono ?_
  rintro e w2 ⟨rfl, hb2⟩
  go_wp2
  go_ret
  exact ⟨rfl, (by repeat (first | with_reducible exact ext_refl _ | with_reducible assumption | with_reducible refine ext_alloc ?_ _ | with_reducible refine ext_trans ?_ (by assumption)))⟩
set_option maxRecDepth 100000 in
set_option maxHeartbeats 2000000 in
theorem SameNeeds_spec (xs ys : List Need) (A B : Option Addr) (c d : Nat) (F G : List Nat) (w : World) (h : Sl w xs A c F) (h' : Sl w ys B d G) (hxs : ∀ l ∈ xs, (l.values.length : Int) ≤ 1048576) (hys : ∀ l ∈ ys, (l.values.length : Int) ≤ 1048576) :
    Calls Try.prog 131 #[.slice A xs.length c, .slice B ys.length d] w fun e w' => e = .returned (.bool (same eqNeed xs ys)) ∧ Below w.heap.size w w' := by
  have hc := h.cap
  unfold maxLen at hc
  obtain ⟨hc1, hc2⟩ := hc
  have hd := h'.cap
  unfold maxLen at hd
  obtain ⟨hd1, hd2⟩ := hd
  by_cases hl : xs.length = ys.length
  · have HL := Lib.hid hl
    have hb1 : ((xs.length : Int) != (ys.length : Int)) = false := by simp [hl]
    clear hl
    go_enter Try.func131, Try.ntmps131
    go_wp2
    go_loopw [5] (fun i wr => ∃ k : Nat, k ≤ xs.length ∧ i = .int .i64 k ∧ Hid (same eqNeed (xs.take k) (ys.take k) = true) ∧ Below w.heap.size w wr) (fun i _ => xs.length - (intOf i).toNat)
    case atStart => exact ⟨0, Nat.zero_le _, rfl, by show _ = true; simp [same], ext_refl _⟩
    case round =>
      obtain ⟨k, hk, rfl, Heq, hbl⟩ := hrel
      by_cases hlt : k < xs.length
      · obtain ⟨b, o, ck, Fk, rfl, hbF, hbs, hr, hsub, hc⟩ := (h.ext hbl).get hlt
        have hlt' : k < ys.length := by rw [← HL.out]; exact hlt
        obtain ⟨b', o', ck', Fk', rfl, hbF', hbs', hr', hsub', hc'⟩ := (h'.ext hbl).get hlt'
        obtain ⟨Avalues1, cvalues1, Fvalues1, hck, rfl, hkey1, hop1, hvalues1⟩ := rd_Need hr
        subst hck
        obtain ⟨Avalues2, cvalues2, Fvalues2, hck, rfl, hkey2, hop2, hvalues2⟩ := rd_Need hr'
        subst hck
        have q0 : wr.cell? ⟨b, o + k * 3, none⟩ = some (.string xs[k].key) := by exact hc 0 _ rfl
        have q1 : wr.cell? ⟨b, o + k * 3 + 1, none⟩ = some (.int .i64 xs[k].op) := by rw [Nat.add_assoc]; exact hc 1 _ rfl
        have q2 : wr.cell? ⟨b, o + k * 3 + 2, none⟩ = some (.slice Avalues1 xs[k].values.length cvalues1) := by rw [Nat.add_assoc]; exact hc 2 _ rfl
        have p0 : wr.cell? ⟨b', o' + k * 3, none⟩ = some (.string ys[k].key) := by exact hc' 0 _ rfl
        have p1 : wr.cell? ⟨b', o' + k * 3 + 1, none⟩ = some (.int .i64 ys[k].op) := by rw [Nat.add_assoc]; exact hc' 1 _ rfl
        have p2 : wr.cell? ⟨b', o' + k * 3 + 2, none⟩ = some (.slice Avalues2 ys[k].values.length cvalues2) := by rw [Nat.add_assoc]; exact hc' 2 _ rfl
        clear hc hc'
        have hxk := hxs xs[k] (List.getElem_mem ..)
        have hyk := hys ys[k] (List.getElem_mem ..)
        have HLX := Lib.hid (fun wq hq => NeedLess_spec xs[k] ys[k] _ _ _ _ wq (rd_extT hr hq) (rd_extT hr' hq) hxk hyk)
        have HLY := Lib.hid (fun wq hq => NeedLess_spec ys[k] xs[k] _ _ _ _ wq (rd_extT hr' hq) (rd_extT hr hq) hyk hxk)
        have hee := eqNeed_less xs[k] ys[k]
        clear hxs hys
        cases h1 : needLess xs[k] ys[k] with
        | true =>
          have he : eqNeed xs[k] ys[k] = false := by rw [← hee, h1]; rfl
          have HS := Lib.hid (same_drop (k + 1) (by rw [same_take hlt hlt', Heq.out, he]; rfl) HL.out)
          rw [h1] at HLX
          clear hee he h1
          go_wp2_with fail
          refine wp_region_grow wr (by kernel_rfl) (by kernel_rfl) (by first | exact ext_refl _ | assumption) ?_
          repeat (first
            | (apply inText_skip
               case hw => rfl
               simp only [Act.put, List.setIfInBounds_toArray, List.set_cons_zero, List.set_cons_succ])
            | (apply inText_step
               case hw => rfl
               case h =>
                 intro wq hq
                 have hcq := (cls_cell hq).1
                 have hfq := (cls_cell hq).2
                 go_simp
                 first
                   | exact ⟨hq, rfl⟩
                   | exact ⟨cls_alloc hq _, rfl⟩
                   | ((simp only [outcome]; first | (with_reducible refine Calls.mono (HLX.out _ hq.out) ?_; rintro e wz ⟨rfl, hbz⟩; exact ⟨rfl, cls_trans hq hbz⟩) | (with_reducible refine Calls.mono (HLY.out _ hq.out) ?_; rintro e wz ⟨rfl, hbz⟩; exact ⟨rfl, cls_trans hq hbz⟩)))
                   | (simp only [↓IntWalk.iteOmega]; exact ⟨hq, rfl⟩)
               simp only [Act.put, List.setIfInBounds_toArray, List.set_cons_zero, List.set_cons_succ]))
          refine inText_nil ?_
          intro wn hn
          replace hn := hn.out
          go_wp2
          go_ret
          exact ⟨by rw [HS.out]; rfl, ext_trans hbl hn⟩
        | false =>
          cases h2 : needLess ys[k] xs[k] with
          | true =>
            have he : eqNeed xs[k] ys[k] = false := by rw [← hee, h1, h2]; rfl
            have HS := Lib.hid (same_drop (k + 1) (by rw [same_take hlt hlt', Heq.out, he]; rfl) HL.out)
            rw [h1] at HLX
            rw [h2] at HLY
            clear hee he h1 h2
            go_wp2_with fail
            refine wp_region_grow wr (by kernel_rfl) (by kernel_rfl) (by first | exact ext_refl _ | assumption) ?_
            repeat (first
              | (apply inText_skip
                 case hw => rfl
                 simp only [Act.put, List.setIfInBounds_toArray, List.set_cons_zero, List.set_cons_succ])
              | (apply inText_step
                 case hw => rfl
                 case h =>
                   intro wq hq
                   have hcq := (cls_cell hq).1
                   have hfq := (cls_cell hq).2
                   go_simp
                   first
                     | exact ⟨hq, rfl⟩
                     | exact ⟨cls_alloc hq _, rfl⟩
                     | ((simp only [outcome]; first | (with_reducible refine Calls.mono (HLX.out _ hq.out) ?_; rintro e wz ⟨rfl, hbz⟩; exact ⟨rfl, cls_trans hq hbz⟩) | (with_reducible refine Calls.mono (HLY.out _ hq.out) ?_; rintro e wz ⟨rfl, hbz⟩; exact ⟨rfl, cls_trans hq hbz⟩)))
                     | (simp only [↓IntWalk.iteOmega]; exact ⟨hq, rfl⟩)
                 simp only [Act.put, List.setIfInBounds_toArray, List.set_cons_zero, List.set_cons_succ]))
            refine inText_nil ?_
            intro wn hn
            replace hn := hn.out
            go_wp2
            go_ret
            exact ⟨by rw [HS.out]; rfl, ext_trans hbl hn⟩
          | false =>
            have he : eqNeed xs[k] ys[k] = true := by rw [← hee, h1, h2]; rfl
            have HS := Lib.hid (show same eqNeed (xs.take (k + 1)) (ys.take (k + 1)) = true by rw [same_take hlt hlt', Heq.out, he]; rfl)
            rw [h1] at HLX
            rw [h2] at HLY
            clear hee he h1 h2
            go_wp2_with fail
            refine wp_region_grow wr (by kernel_rfl) (by kernel_rfl) (by first | exact ext_refl _ | assumption) ?_
            repeat (first
              | (apply inText_skip
                 case hw => rfl
                 simp only [Act.put, List.setIfInBounds_toArray, List.set_cons_zero, List.set_cons_succ])
              | (apply inText_step
                 case hw => rfl
                 case h =>
                   intro wq hq
                   have hcq := (cls_cell hq).1
                   have hfq := (cls_cell hq).2
                   go_simp
                   first
                     | exact ⟨hq, rfl⟩
                     | exact ⟨cls_alloc hq _, rfl⟩
                     | ((simp only [outcome]; first | (with_reducible refine Calls.mono (HLX.out _ hq.out) ?_; rintro e wz ⟨rfl, hbz⟩; exact ⟨rfl, cls_trans hq hbz⟩) | (with_reducible refine Calls.mono (HLY.out _ hq.out) ?_; rintro e wz ⟨rfl, hbz⟩; exact ⟨rfl, cls_trans hq hbz⟩)))
                     | (simp only [↓IntWalk.iteOmega]; exact ⟨hq, rfl⟩)
                 simp only [Act.put, List.setIfInBounds_toArray, List.set_cons_zero, List.set_cons_succ]))
            refine inText_nil ?_
            intro wn hn
            replace hn := hn.out
            go_wp2
            exact ⟨⟨k + 1, by omega, by go_num, HS, ext_trans hbl hn⟩, by simp [intOf]; omega⟩
      · have hkl : k = xs.length := by omega
        have HK := Lib.hid hkl
        clear hkl
        go_wp2
        go_ret
        have h1 := Heq.out
        rw [HK.out, List.take_length, HL.out, List.take_length] at h1
        exact ⟨by rw [h1]; rfl, hbl⟩
  · have hb1 : ((xs.length : Int) != (ys.length : Int)) = true := by simp; omega
    have HL := Lib.hid (same_len (eq := eqNeed) hl)
    clear hl
    go_enter Try.func131, Try.ntmps131
    go_wp2
    go_ret
    exact ⟨by rw [HL.out]; rfl, ext_refl _⟩

end Go.Proofs.Ytaljcihfkblncaa
