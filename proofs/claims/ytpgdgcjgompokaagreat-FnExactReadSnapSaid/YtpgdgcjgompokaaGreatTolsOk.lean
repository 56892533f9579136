/- TolerancesOk, of the program and of the reference. No condition. -/
import Derived.Test.YtpgdgcjgompokaaGreatCmpL
import Derived.Test.YtpgdgcjgompokaaGreatOks1
import Derived.Test.YtpgdgcjgompokaaGreatLabOk
namespace Go.Proofs.YtpgdgcjgompokaaGreat
open Go.ChangeShapes Go.WideShapes Go.ChangeAt Go.RowKit
set_option linter.unusedVariables false
set_option linter.unusedSimpArgs false
def tolsR (xs : List Tolerance) : Bool := rowR tolR tolLess 4 xs
set_option maxRecDepth 100000 in
set_option maxHeartbeats 2000000 in
theorem TolerancesOk_impl (xs : List Tolerance) (A : Option Addr) (n c : Nat) (F : List Nat) (w : World) (h : Sl w xs A c F) (hn : n = xs.length) (hl : (xs.length : Int) ≤ 1048576) (hsm : ∀ l ∈ xs, (l.key.size : Int) ≤ 1048576 ∧ (l.value.size : Int) ≤ 1048576) :
    Calls Tryz.prog 71 #[.slice A n c] w fun e w' => e = .returned (.bool (tolsR xs)) ∧ Below w.heap.size w w' := by
  subst hn
  have HSM := Lib.hid hsm
  clear hsm
  go_enter Tryz.func71, Tryz.ntmps71
  go_wp2_with fail
  go_loopw [7] (fun i wr => ∃ k : Nat, k ≤ xs.length ∧ i = .int .i64 k ∧ Hid (∀ j, j < k → rowAt tolR tolLess xs j = true) ∧ Below w.heap.size w wr) (fun i _ => xs.length - (intOf i).toNat)
  case atStart => exact ⟨0, Nat.zero_le _, rfl, (fun j hj => by omega), (by repeat (first | with_reducible exact ext_refl _ | with_reducible assumption | with_reducible refine ext_alloc ?_ _ | with_reducible refine ext_trans ?_ (by assumption)))⟩
  case round =>
    obtain ⟨k, hk, rfl, hall, hbl⟩ := hrel
    by_cases hlt : k < xs.length
    · obtain rfl | ⟨j, rfl⟩ : k = 0 ∨ ∃ j, k = j + 1 := by cases k with | zero => exact .inl rfl | succ j => exact .inr ⟨j, rfl⟩
      · obtain ⟨b, o, ck, Fk, rfl, hbF, hbs, hr, hsub, hc⟩ := (Sl.ext (w' := wr) (A := A) (c := c) h hbl).get hlt
        obtain ⟨hck, hFk, hkey, hvalue, heffect⟩ := rd_Tolerance hr
        subst hck
        have q0 : wr.cell? ⟨b, o + 0 * 4, none⟩ = some (.string xs[0].key) := by exact hc 0 _ rfl
        have q1 : wr.cell? ⟨b, o + 0 * 4 + 1, none⟩ = some (.bool xs[0].equal) := by rw [Nat.add_assoc]; exact hc 1 _ rfl
        have q2 : wr.cell? ⟨b, o + 0 * 4 + 2, none⟩ = some (.string xs[0].value) := by rw [Nat.add_assoc]; exact hc 2 _ rfl
        have q3 : wr.cell? ⟨b, o + 0 * 4 + 3, none⟩ = some (.int .i64 xs[0].effect) := by rw [Nat.add_assoc]; exact hc 3 _ rfl
        clear hc
        simp only [Nat.zero_mul, Nat.add_zero] at q0 q1 q2 q3
        have hs1 := (HSM.out xs[0] (List.getElem_mem ..)).1
        have hs2 := (HSM.out xs[0] (List.getElem_mem ..)).2
        subst hFk
        have hr0 := hr
        cases h1 : tolR xs[0]
        all_goals
          have hp := rowAt_zero (ok := tolR) (less := tolLess) hlt
          rw [h1] at hp
          try simp only [Bool.false_and, Bool.and_false, Bool.and_true, Bool.and_self] at hp
          change rowAt tolR tolLess xs _ = _ at hp
          have H1 := Lib.hid h1
          first
            | have HN := Lib.hid (upto_next hall.out hp)
            | have HF := Lib.hid (rowR_not (most := 4) hlt hp)
          clear h1 hp
          go_wp2_with fail
          refine wp_region_grow _ (by kernel_rfl) (by kernel_rfl) (ext_refl _) ?_
          repeat (first
            | (apply inText_skip
               case hw => rfl
               simp only [Act.put, List.setIfInBounds_toArray, List.set_cons_zero, List.set_cons_succ])
            | (apply inText_step
               case hw => rfl
               case h =>
                 intro wq hq
                 have hcq := (cls_cell hq).1
                 have hfq := (cls_cell hq).2
                 go_simp
                 first
                   | exact ⟨hq, rfl⟩
                   | exact ⟨cls_alloc hq _, rfl⟩
                   | (first | (refine (ToleranceOk_impl xs[0] _ [] _ (rd_extT hr0 (by first | exact hq | exact hq.out | exact ext_trans (ext_alloc (ext_refl _) _) hq)) hs1 hs2).mono ?_; rw [H1.out]; rintro e w2 ⟨rfl, hb2⟩; exact ⟨rfl, cls_trans hq hb2⟩) | (refine (CMP.out _ (by first | exact hq | exact ext_trans (ext_alloc (ext_refl _) _) hq)).mono ?_; rintro e w2 ⟨rfl, hb2⟩; exact ⟨rfl, cls_trans hq hb2⟩))
                   | (simp only [↓IntWalk.iteOmega]; exact ⟨hq, rfl⟩)
               simp only [Act.put, List.setIfInBounds_toArray, List.set_cons_zero, List.set_cons_succ]))
          refine inText_nil ?_
          intro wn hn
          replace hn := hn.out
          go_wp2
          first
            | exact ⟨⟨0 + 1, by omega, by go_num, HN.out, ext_trans (ext_alloc hbl _) hn⟩, by simp [intOf]; omega⟩
            | (go_ret; exact ⟨by unfold tolsR; rw [HF.out]; rfl, ext_trans (ext_alloc hbl _) hn⟩)
      · obtain ⟨b, o, ck, Fk, rfl, hbF, hbs, hr, hsub, hc⟩ := (Sl.ext (w' := wr) (A := A) (c := c) h hbl).get hlt
        obtain ⟨hck, hFk, hkey, hvalue, heffect⟩ := rd_Tolerance hr
        subst hck
        have q0 : wr.cell? ⟨b, o + (j + 1) * 4, none⟩ = some (.string xs[j + 1].key) := by exact hc 0 _ rfl
        have q1 : wr.cell? ⟨b, o + (j + 1) * 4 + 1, none⟩ = some (.bool xs[j + 1].equal) := by rw [Nat.add_assoc]; exact hc 1 _ rfl
        have q2 : wr.cell? ⟨b, o + (j + 1) * 4 + 2, none⟩ = some (.string xs[j + 1].value) := by rw [Nat.add_assoc]; exact hc 2 _ rfl
        have q3 : wr.cell? ⟨b, o + (j + 1) * 4 + 3, none⟩ = some (.int .i64 xs[j + 1].effect) := by rw [Nat.add_assoc]; exact hc 3 _ rfl
        clear hc
        obtain ⟨b', o', ck', Fk', e, hbF', hbs', hr', hsub', hc'⟩ := Sl.get (Sl.ext (w' := wr) (c := c) h hbl) (show j < xs.length by omega)
        obtain ⟨hck2, hFk2, hkey2, hvalue2, heffect2⟩ := rd_Tolerance hr'
        subst hck2
        obtain ⟨rfl, rfl⟩ : b' = b ∧ o' = o := by simpa using e.symm
        clear e
        have p0 : wr.cell? ⟨b', o' + j * 4, none⟩ = some (.string xs[j].key) := by exact hc' 0 _ rfl
        have p1 : wr.cell? ⟨b', o' + j * 4 + 1, none⟩ = some (.bool xs[j].equal) := by rw [Nat.add_assoc]; exact hc' 1 _ rfl
        have p2 : wr.cell? ⟨b', o' + j * 4 + 2, none⟩ = some (.string xs[j].value) := by rw [Nat.add_assoc]; exact hc' 2 _ rfl
        have p3 : wr.cell? ⟨b', o' + j * 4 + 3, none⟩ = some (.int .i64 xs[j].effect) := by rw [Nat.add_assoc]; exact hc' 3 _ rfl
        clear hc'
        have hwj : IntKind.i64.wrap (j : Int) = j := IntWalk.i64_in _ (by omega)
        have hjl : j < xs.length := by omega
        have hs1 := (HSM.out xs[j + 1] (List.getElem_mem ..)).1
        have hs2 := (HSM.out xs[j + 1] (List.getElem_mem ..)).2
        subst hFk
        have hr0 := hr
        cases h1 : tolR xs[j + 1] <;> cases h3 : tolLess xs[j] xs[j + 1]
        all_goals
          have hp := rowAt_succ (ok := tolR) (less := tolLess) hlt
          rw [h1, h3] at hp
          try simp only [Bool.false_and, Bool.and_false, Bool.and_true, Bool.and_self] at hp
          change rowAt tolR tolLess xs _ = _ at hp
          have H1 := Lib.hid h1
          first
            | have HN := Lib.hid (upto_next hall.out hp)
            | have HF := Lib.hid (rowR_not (most := 4) hlt hp)
          have hC : ∀ wq, Below wr.heap.size wr wq → Calls Tryz.prog 99 #[.agg #[.string xs[j].key, .bool xs[j].equal, .string xs[j].value, .int .i64 xs[j].effect], .agg #[.string xs[j + 1].key, .bool xs[j + 1].equal, .string xs[j + 1].value, .int .i64 xs[j + 1].effect]] wq fun e w' => e = .returned (.int .i64 (orI (vcmp xs[j] xs[j + 1]))) ∧ Below wq.heap.size wq w' :=
            fun wq hq => compareTolerances_any xs[j] xs[j + 1] _ _ _ _ _ (rd_extT hr' hq) (rd_extT hr0 hq)
          have CMP := Lib.hid hC
          clear hC
          have hz := h3
          unfold tolLess at hz
          simp only [decide_eq_true_eq, decide_eq_false_iff_not, Int.not_lt] at hz
          generalize orI (vcmp xs[j] xs[j + 1]) = z at CMP hz
          clear h1 hp
          go_wp2_with fail
          refine wp_region_grow _ (by kernel_rfl) (by kernel_rfl) (ext_refl _) ?_
          repeat (first
            | (apply inText_skip
               case hw => rfl
               simp only [Act.put, List.setIfInBounds_toArray, List.set_cons_zero, List.set_cons_succ])
            | (apply inText_step
               case hw => rfl
               case h =>
                 intro wq hq
                 have hcq := (cls_cell hq).1
                 have hfq := (cls_cell hq).2
                 go_simp
                 first
                   | exact ⟨hq, rfl⟩
                   | exact ⟨cls_alloc hq _, rfl⟩
                   | (first | (refine (ToleranceOk_impl xs[j + 1] _ [] _ (rd_extT hr0 (by first | exact hq | exact hq.out | exact ext_trans (ext_alloc (ext_refl _) _) hq)) hs1 hs2).mono ?_; rw [H1.out]; rintro e w2 ⟨rfl, hb2⟩; exact ⟨rfl, cls_trans hq hb2⟩) | (refine (CMP.out _ (by first | exact hq | exact ext_trans (ext_alloc (ext_refl _) _) hq)).mono ?_; rintro e w2 ⟨rfl, hb2⟩; exact ⟨rfl, cls_trans hq hb2⟩))
                   | (simp only [↓IntWalk.iteOmega]; exact ⟨hq, rfl⟩)
               simp only [Act.put, List.setIfInBounds_toArray, List.set_cons_zero, List.set_cons_succ]))
          refine inText_nil ?_
          intro wn hn
          replace hn := hn.out
          go_wp2
          first
            | exact ⟨⟨j + 1 + 1, by omega, by go_num, HN.out, ext_trans (ext_alloc hbl _) hn⟩, by simp [intOf]; omega⟩
            | (go_ret; exact ⟨by unfold tolsR; rw [HF.out]; rfl, ext_trans (ext_alloc hbl _) hn⟩)
    · have hkl : k = xs.length := by omega
      subst hkl
      by_cases hm : (xs.length : Int) ≤ 4
      · have HF := Lib.hid (rowR_all hm hall.out)
        go_wp2
        go_ret
        exact ⟨by unfold tolsR; rw [HF.out]; first | rfl | simp [hm], hbl⟩
      · have HF := Lib.hid (rowR_len (ok := tolR) (less := tolLess) hm)
        go_wp2
        go_ret
        exact ⟨by unfold tolsR; rw [HF.out]; first | rfl | simp [hm], hbl⟩
set_option maxRecDepth 100000 in
set_option maxHeartbeats 2000000 in
theorem TolerancesOk_spec (xs : List Tolerance) (A : Option Addr) (n c : Nat) (F : List Nat) (w : World) (h : Sl w xs A c F) (hn : n = xs.length) (hl : (xs.length : Int) ≤ 1048576) (hsm : ∀ l ∈ xs, (l.key.size : Int) ≤ 1048576 ∧ (l.value.size : Int) ≤ 1048576) :
    Calls Tryz.prog 63 #[.slice A n c] w fun e w' => e = .returned (.bool (tolsR xs)) ∧ Below w.heap.size w w' := by
  subst hn
  have HSM := Lib.hid hsm
  clear hsm
  by_cases hm : (xs.length : Int) ≤ 4
  · go_enter Tryz.func63, Tryz.ntmps63
    go_wp2_with fail
    go_loopw [3] (fun i wr => ∃ k : Nat, k ≤ xs.length ∧ i = .int .i64 k ∧ Hid (∀ j, j < k → rowAt tolR tolLess xs j = true) ∧ Below w.heap.size w wr) (fun i _ => xs.length - (intOf i).toNat)
    case atStart => exact ⟨0, Nat.zero_le _, rfl, (fun j hj => by omega), (by repeat (first | with_reducible exact ext_refl _ | with_reducible assumption | with_reducible refine ext_alloc ?_ _ | with_reducible refine ext_trans ?_ (by assumption)))⟩
    case round =>
      obtain ⟨k, hk, rfl, hall, hbl⟩ := hrel
      by_cases hlt : k < xs.length
      · obtain rfl | ⟨j, rfl⟩ : k = 0 ∨ ∃ j, k = j + 1 := by cases k with | zero => exact .inl rfl | succ j => exact .inr ⟨j, rfl⟩
        · obtain ⟨b, o, ck, Fk, rfl, hbF, hbs, hr, hsub, hc⟩ := (Sl.ext (w' := wr) (A := A) (c := c) h hbl).get hlt
          obtain ⟨hck, hFk, hkey, hvalue, heffect⟩ := rd_Tolerance hr
          subst hck
          have q0 : wr.cell? ⟨b, o + 0 * 4, none⟩ = some (.string xs[0].key) := by exact hc 0 _ rfl
          have q1 : wr.cell? ⟨b, o + 0 * 4 + 1, none⟩ = some (.bool xs[0].equal) := by rw [Nat.add_assoc]; exact hc 1 _ rfl
          have q2 : wr.cell? ⟨b, o + 0 * 4 + 2, none⟩ = some (.string xs[0].value) := by rw [Nat.add_assoc]; exact hc 2 _ rfl
          have q3 : wr.cell? ⟨b, o + 0 * 4 + 3, none⟩ = some (.int .i64 xs[0].effect) := by rw [Nat.add_assoc]; exact hc 3 _ rfl
          clear hc
          simp only [Nat.zero_mul, Nat.add_zero] at q0 q1 q2 q3
          have hs1 := (HSM.out xs[0] (List.getElem_mem ..)).1
          have hs2 := (HSM.out xs[0] (List.getElem_mem ..)).2
          subst hFk
          have hr0 := hr
          cases h1 : tolR xs[0]
          all_goals
            have hp := rowAt_zero (ok := tolR) (less := tolLess) hlt
            rw [h1] at hp
            try simp only [Bool.false_and, Bool.and_false, Bool.and_true, Bool.and_self] at hp
            change rowAt tolR tolLess xs _ = _ at hp
            have H1 := Lib.hid h1
            first
              | have HN := Lib.hid (upto_next hall.out hp)
              | have HF := Lib.hid (rowR_not (most := 4) hlt hp)
            clear h1 hp
            go_wp2_with fail
            refine wp_region_grow _ (by kernel_rfl) (by kernel_rfl) (ext_refl _) ?_
            repeat (first
              | (apply inText_skip
                 case hw => rfl
                 simp only [Act.put, List.setIfInBounds_toArray, List.set_cons_zero, List.set_cons_succ])
              | (apply inText_step
                 case hw => rfl
                 case h =>
                   intro wq hq
                   have hcq := (cls_cell hq).1
                   have hfq := (cls_cell hq).2
                   go_simp
                   first
                     | exact ⟨hq, rfl⟩
                     | exact ⟨cls_alloc hq _, rfl⟩
                     | (first | (refine (ToleranceOk_spec xs[0] _ [] _ (rd_extT hr0 (by first | exact hq | exact hq.out | exact ext_trans (ext_alloc (ext_refl _) _) hq)) hs1 hs2).mono ?_; rw [H1.out]; rintro e w2 ⟨rfl, hb2⟩; exact ⟨rfl, cls_trans hq hb2⟩) | (refine (CMP.out _ (by first | exact hq | exact ext_trans (ext_alloc (ext_refl _) _) hq)).mono ?_; rintro e w2 ⟨rfl, hb2⟩; exact ⟨rfl, cls_trans hq hb2⟩))
                     | (simp only [↓IntWalk.iteOmega]; exact ⟨hq, rfl⟩)
                 simp only [Act.put, List.setIfInBounds_toArray, List.set_cons_zero, List.set_cons_succ]))
            refine inText_nil ?_
            intro wn hn
            replace hn := hn.out
            go_wp2
            first
              | exact ⟨⟨0 + 1, by omega, by go_num, HN.out, ext_trans hbl hn⟩, by simp [intOf]; omega⟩
              | (go_ret; exact ⟨by unfold tolsR; rw [HF.out]; rfl, ext_trans hbl hn⟩)
        · obtain ⟨b, o, ck, Fk, rfl, hbF, hbs, hr, hsub, hc⟩ := (Sl.ext (w' := wr) (A := A) (c := c) h hbl).get hlt
          obtain ⟨hck, hFk, hkey, hvalue, heffect⟩ := rd_Tolerance hr
          subst hck
          have q0 : wr.cell? ⟨b, o + (j + 1) * 4, none⟩ = some (.string xs[j + 1].key) := by exact hc 0 _ rfl
          have q1 : wr.cell? ⟨b, o + (j + 1) * 4 + 1, none⟩ = some (.bool xs[j + 1].equal) := by rw [Nat.add_assoc]; exact hc 1 _ rfl
          have q2 : wr.cell? ⟨b, o + (j + 1) * 4 + 2, none⟩ = some (.string xs[j + 1].value) := by rw [Nat.add_assoc]; exact hc 2 _ rfl
          have q3 : wr.cell? ⟨b, o + (j + 1) * 4 + 3, none⟩ = some (.int .i64 xs[j + 1].effect) := by rw [Nat.add_assoc]; exact hc 3 _ rfl
          clear hc
          obtain ⟨b', o', ck', Fk', e, hbF', hbs', hr', hsub', hc'⟩ := Sl.get (Sl.ext (w' := wr) (c := c) h hbl) (show j < xs.length by omega)
          obtain ⟨hck2, hFk2, hkey2, hvalue2, heffect2⟩ := rd_Tolerance hr'
          subst hck2
          obtain ⟨rfl, rfl⟩ : b' = b ∧ o' = o := by simpa using e.symm
          clear e
          have p0 : wr.cell? ⟨b', o' + j * 4, none⟩ = some (.string xs[j].key) := by exact hc' 0 _ rfl
          have p1 : wr.cell? ⟨b', o' + j * 4 + 1, none⟩ = some (.bool xs[j].equal) := by rw [Nat.add_assoc]; exact hc' 1 _ rfl
          have p2 : wr.cell? ⟨b', o' + j * 4 + 2, none⟩ = some (.string xs[j].value) := by rw [Nat.add_assoc]; exact hc' 2 _ rfl
          have p3 : wr.cell? ⟨b', o' + j * 4 + 3, none⟩ = some (.int .i64 xs[j].effect) := by rw [Nat.add_assoc]; exact hc' 3 _ rfl
          clear hc'
          have hwj : IntKind.i64.wrap (j : Int) = j := IntWalk.i64_in _ (by omega)
          have hjl : j < xs.length := by omega
          have hs1 := (HSM.out xs[j + 1] (List.getElem_mem ..)).1
          have hs2 := (HSM.out xs[j + 1] (List.getElem_mem ..)).2
          subst hFk
          have hr0 := hr
          cases h1 : tolR xs[j + 1] <;> cases h3 : tolLess xs[j] xs[j + 1]
          all_goals
            have hp := rowAt_succ (ok := tolR) (less := tolLess) hlt
            rw [h1, h3] at hp
            try simp only [Bool.false_and, Bool.and_false, Bool.and_true, Bool.and_self] at hp
            change rowAt tolR tolLess xs _ = _ at hp
            have H1 := Lib.hid h1
            first
              | have HN := Lib.hid (upto_next hall.out hp)
              | have HF := Lib.hid (rowR_not (most := 4) hlt hp)
            have hC : ∀ wq, Below wr.heap.size wr wq → Calls Tryz.prog 86 #[.agg #[.string xs[j].key, .bool xs[j].equal, .string xs[j].value, .int .i64 xs[j].effect], .agg #[.string xs[j + 1].key, .bool xs[j + 1].equal, .string xs[j + 1].value, .int .i64 xs[j + 1].effect]] wq fun e w' => e = .returned (.bool (tolLess xs[j] xs[j + 1])) ∧ Below wq.heap.size wq w' :=
              fun wq hq => l16Before_any xs[j] xs[j + 1] _ _ _ _ _ (rd_extT hr' hq) (rd_extT hr0 hq)
            rw [h3] at hC
            have CMP := Lib.hid hC
            clear hC
            clear h1 hp
            go_wp2_with fail
            refine wp_region_grow _ (by kernel_rfl) (by kernel_rfl) (ext_refl _) ?_
            repeat (first
              | (apply inText_skip
                 case hw => rfl
                 simp only [Act.put, List.setIfInBounds_toArray, List.set_cons_zero, List.set_cons_succ])
              | (apply inText_step
                 case hw => rfl
                 case h =>
                   intro wq hq
                   have hcq := (cls_cell hq).1
                   have hfq := (cls_cell hq).2
                   go_simp
                   first
                     | exact ⟨hq, rfl⟩
                     | exact ⟨cls_alloc hq _, rfl⟩
                     | (first | (refine (ToleranceOk_spec xs[j + 1] _ [] _ (rd_extT hr0 (by first | exact hq | exact hq.out | exact ext_trans (ext_alloc (ext_refl _) _) hq)) hs1 hs2).mono ?_; rw [H1.out]; rintro e w2 ⟨rfl, hb2⟩; exact ⟨rfl, cls_trans hq hb2⟩) | (refine (CMP.out _ (by first | exact hq | exact ext_trans (ext_alloc (ext_refl _) _) hq)).mono ?_; rintro e w2 ⟨rfl, hb2⟩; exact ⟨rfl, cls_trans hq hb2⟩))
                     | (simp only [↓IntWalk.iteOmega]; exact ⟨hq, rfl⟩)
                 simp only [Act.put, List.setIfInBounds_toArray, List.set_cons_zero, List.set_cons_succ]))
            refine inText_nil ?_
            intro wn hn
            replace hn := hn.out
            go_wp2
            first
              | exact ⟨⟨j + 1 + 1, by omega, by go_num, HN.out, ext_trans hbl hn⟩, by simp [intOf]; omega⟩
              | (go_ret; exact ⟨by unfold tolsR; rw [HF.out]; rfl, ext_trans hbl hn⟩)
      · have hkl : k = xs.length := by omega
        subst hkl
        have HF := Lib.hid (rowR_all hm hall.out)
        go_wp2
        go_ret
        exact ⟨by unfold tolsR; rw [HF.out]; rfl, hbl⟩
  · have HF := Lib.hid (rowR_len (ok := tolR) (less := tolLess) hm)
    go_enter Tryz.func63, Tryz.ntmps63
    go_wp2
    go_ret
    exact ⟨by unfold tolsR; rw [HF.out]; rfl, (by repeat (first | with_reducible exact ext_refl _ | with_reducible assumption | with_reducible refine ext_alloc ?_ _ | with_reducible refine ext_trans ?_ (by assumption)))⟩

end Go.Proofs.YtpgdgcjgompokaaGreat
