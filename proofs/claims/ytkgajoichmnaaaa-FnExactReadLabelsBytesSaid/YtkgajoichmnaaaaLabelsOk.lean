/- LabelsOk, of the program and of the reference. No condition. -/
import Derived.Test.YtkgajoichmnaaaaRows2
namespace Go.Proofs.Ytkgajoichmnaaaa
open Dat (rd)
open Go.ChangeShapes Go.WideShapes Go.ChangeAt Go.RowKit
set_option linter.unusedVariables false
set_option linter.unusedSimpArgs false

def labelOkR (l : Label) : Bool := keyR l.key && valR l.value
def labelLess (a b : Label) : Bool := Op.bytesLess a.key.toList b.key.toList
def labelsR (xs : List Label) : Bool := rowR labelOkR labelLess 6 xs
set_option maxRecDepth 100000 in
set_option maxHeartbeats 2000000 in
theorem LabelsOk_impl (xs : List Label) (A : Option Addr) (n c : Nat) (F : List Nat) (w : World) (h : Sl w xs A c F) (hn : n = xs.length) (hl : (xs.length : Int) ≤ 1048576) (hsm : ∀ l ∈ xs, (l.key.size : Int) ≤ 1048576 ∧ (l.value.size : Int) ≤ 1048576) :
    Calls Try.prog 52 #[.slice A n c] w fun e w' => e = .returned (.bool (labelsR xs)) ∧ Below w.heap.size w w' := by
  subst hn
  have HSM := Lib.hid hsm
  clear hsm
  go_enter Try.func52, Try.ntmps52
  go_wp2_with fail
  go_loopw [7] (fun i wr => ∃ k : Nat, k ≤ xs.length ∧ i = .int .i64 k ∧ Hid (∀ j, j < k → rowAt labelOkR labelLess xs j = true) ∧ Below w.heap.size w wr) (fun i _ => xs.length - (intOf i).toNat)
  case atStart => exact ⟨0, Nat.zero_le _, rfl, (fun j hj => by omega), (by repeat (first | with_reducible exact ext_refl _ | with_reducible assumption | with_reducible refine ext_alloc ?_ _ | with_reducible refine ext_trans ?_ (by assumption)))⟩
  case round =>
    obtain ⟨k, hk, rfl, hall, hbl⟩ := hrel
    by_cases hlt : k < xs.length
    · obtain rfl | ⟨j, rfl⟩ : k = 0 ∨ ∃ j, k = j + 1 := by cases k with | zero => exact .inl rfl | succ j => exact .inr ⟨j, rfl⟩
      · obtain ⟨b, o, ck, Fk, rfl, hbF, hbs, hr, hsub, hc⟩ := (Sl.ext (w' := wr) (A := A) (c := c) h hbl).get hlt
        obtain ⟨hck, hFk, hkey, hvalue⟩ := rd_Label hr
        subst hck
        have q0 : wr.cell? ⟨b, o + 0 * 2, none⟩ = some (.string xs[0].key) := by exact hc 0 _ rfl
        have q1 : wr.cell? ⟨b, o + 0 * 2 + 1, none⟩ = some (.string xs[0].value) := by rw [Nat.add_assoc]; exact hc 1 _ rfl
        clear hc
        simp only [Nat.zero_mul, Nat.add_zero] at q0 q1
        have hs1 := (HSM.out xs[0] (List.getElem_mem ..)).1
        have hs2 := (HSM.out xs[0] (List.getElem_mem ..)).2
        cases h1 : keyR xs[0].key <;> cases h2 : valR xs[0].value
        all_goals
          have hp := rowAt_zero (ok := labelOkR) (less := labelLess) hlt
          unfold labelOkR at hp
          rw [h1, h2] at hp
          simp only [Bool.false_and, Bool.and_false, Bool.and_true, Bool.and_self] at hp
          change rowAt labelOkR labelLess xs _ = _ at hp
          have H1 := Lib.hid h1
          have H2 := Lib.hid h2
          first
            | have HN := Lib.hid (upto_next hall.out hp)
            | have HF := Lib.hid (rowR_not (most := 6) hlt hp)
          clear h1 h2 hp
          go_wp2_with fail
          refine wp_region_grow _ (by kernel_rfl) (by kernel_rfl) (ext_refl _) ?_
          repeat (first
            | (apply inText_skip
               case hw => rfl
               simp only [Act.put, List.setIfInBounds_toArray, List.set_cons_zero, List.set_cons_succ])
            | (apply inText_step
               case hw => rfl
               case h =>
                 intro wq hq
                 have hcq := (cls_cell hq).1
                 have hfq := (cls_cell hq).2
                 go_simp
                 first
                   | exact ⟨hq, rfl⟩
                   | exact ⟨cls_alloc hq _, rfl⟩
                   | (first | (refine (LabelKeyOk_impl xs[0].key _ hs1).mono ?_; rw [H1.out]; rintro e w2 ⟨rfl, hb2⟩; exact ⟨rfl, cls_trans hq hb2⟩) | (refine (LabelValueOk_impl xs[0].value _ hs2).mono ?_; rw [H2.out]; rintro e w2 ⟨rfl, hb2⟩; exact ⟨rfl, cls_trans hq hb2⟩))
                   | (simp only [↓IntWalk.iteOmega]; exact ⟨hq, rfl⟩)
               simp only [Act.put, List.setIfInBounds_toArray, List.set_cons_zero, List.set_cons_succ]))
          refine inText_nil ?_
          intro wn hn
          replace hn := hn.out
          go_wp2
          first
            | exact ⟨⟨0 + 1, by omega, by go_num, HN.out, ext_trans (ext_alloc hbl _) hn⟩, by simp [intOf]; omega⟩
            | (go_ret; exact ⟨by unfold labelsR; rw [HF.out]; rfl, ext_trans (ext_alloc hbl _) hn⟩)
      · obtain ⟨b, o, ck, Fk, rfl, hbF, hbs, hr, hsub, hc⟩ := (Sl.ext (w' := wr) (A := A) (c := c) h hbl).get hlt
        obtain ⟨hck, hFk, hkey, hvalue⟩ := rd_Label hr
        subst hck
        have q0 : wr.cell? ⟨b, o + (j + 1) * 2, none⟩ = some (.string xs[j + 1].key) := by exact hc 0 _ rfl
        have q1 : wr.cell? ⟨b, o + (j + 1) * 2 + 1, none⟩ = some (.string xs[j + 1].value) := by rw [Nat.add_assoc]; exact hc 1 _ rfl
        clear hc
        obtain ⟨b', o', ck', Fk', e, hbF', hbs', hr', hsub', hc'⟩ := Sl.get (Sl.ext (w' := wr) (c := c) h hbl) (show j < xs.length by omega)
        obtain ⟨hck2, hFk2, hkey2, hvalue2⟩ := rd_Label hr'
        subst hck2
        obtain ⟨rfl, rfl⟩ : b' = b ∧ o' = o := by simpa using e.symm
        clear e
        have p0 : wr.cell? ⟨b', o' + j * 2, none⟩ = some (.string xs[j].key) := by exact hc' 0 _ rfl
        have p1 : wr.cell? ⟨b', o' + j * 2 + 1, none⟩ = some (.string xs[j].value) := by rw [Nat.add_assoc]; exact hc' 1 _ rfl
        clear hc'
        have hwj : IntKind.i64.wrap (j : Int) = j := IntWalk.i64_in _ (by omega)
        have hjl : j < xs.length := by omega
        have hs1 := (HSM.out xs[j + 1] (List.getElem_mem ..)).1
        have hs2 := (HSM.out xs[j + 1] (List.getElem_mem ..)).2
        cases h1 : keyR xs[j + 1].key <;> cases h2 : valR xs[j + 1].value <;> cases h3 : Op.bytesLess xs[j].key.toList xs[j + 1].key.toList
        all_goals
          have hp := rowAt_succ (ok := labelOkR) (less := labelLess) hlt
          unfold labelOkR labelLess at hp
          rw [h1, h2, h3] at hp
          simp only [Bool.false_and, Bool.and_false, Bool.and_true, Bool.and_self] at hp
          change rowAt labelOkR labelLess xs _ = _ at hp
          have H1 := Lib.hid h1
          have H2 := Lib.hid h2
          first
            | have HN := Lib.hid (upto_next hall.out hp)
            | have HF := Lib.hid (rowR_not (most := 6) hlt hp)
          clear h1 h2 hp
          go_wp2_with fail
          refine wp_region_grow _ (by kernel_rfl) (by kernel_rfl) (ext_refl _) ?_
          repeat (first
            | (apply inText_skip
               case hw => rfl
               simp only [Act.put, List.setIfInBounds_toArray, List.set_cons_zero, List.set_cons_succ])
            | (apply inText_step
               case hw => rfl
               case h =>
                 intro wq hq
                 have hcq := (cls_cell hq).1
                 have hfq := (cls_cell hq).2
                 go_simp
                 first
                   | exact ⟨hq, rfl⟩
                   | exact ⟨cls_alloc hq _, rfl⟩
                   | (first | (refine (LabelKeyOk_impl xs[j + 1].key _ hs1).mono ?_; rw [H1.out]; rintro e w2 ⟨rfl, hb2⟩; exact ⟨rfl, cls_trans hq hb2⟩) | (refine (LabelValueOk_impl xs[j + 1].value _ hs2).mono ?_; rw [H2.out]; rintro e w2 ⟨rfl, hb2⟩; exact ⟨rfl, cls_trans hq hb2⟩))
                   | (simp only [↓IntWalk.iteOmega]; exact ⟨hq, rfl⟩)
               simp only [Act.put, List.setIfInBounds_toArray, List.set_cons_zero, List.set_cons_succ]))
          refine inText_nil ?_
          intro wn hn
          replace hn := hn.out
          go_wp2
          first
            | exact ⟨⟨j + 1 + 1, by omega, by go_num, HN.out, ext_trans (ext_alloc hbl _) hn⟩, by simp [intOf]; omega⟩
            | (go_ret; exact ⟨by unfold labelsR; rw [HF.out]; rfl, ext_trans (ext_alloc hbl _) hn⟩)
    · have hkl : k = xs.length := by omega
      subst hkl
      by_cases hm : (xs.length : Int) ≤ 6
      · have HF := Lib.hid (rowR_all hm hall.out)
        go_wp2
        go_ret
        exact ⟨by unfold labelsR; rw [HF.out]; first | rfl | simp [hm], hbl⟩
      · have HF := Lib.hid (rowR_len (ok := labelOkR) (less := labelLess) hm)
        go_wp2
        go_ret
        exact ⟨by unfold labelsR; rw [HF.out]; first | rfl | simp [hm], hbl⟩
set_option maxRecDepth 100000 in
set_option maxHeartbeats 2000000 in
theorem LabelsOk_spec (xs : List Label) (A : Option Addr) (n c : Nat) (F : List Nat) (w : World) (h : Sl w xs A c F) (hn : n = xs.length) (hl : (xs.length : Int) ≤ 1048576) (hsm : ∀ l ∈ xs, (l.key.size : Int) ≤ 1048576 ∧ (l.value.size : Int) ≤ 1048576) :
    Calls Try.prog 40 #[.slice A n c] w fun e w' => e = .returned (.bool (labelsR xs)) ∧ Below w.heap.size w w' := by
  subst hn
  have HSM := Lib.hid hsm
  clear hsm
  by_cases hm : (xs.length : Int) ≤ 6
  · go_enter Try.func40, Try.ntmps40
    go_wp2_with fail
    go_loopw [3] (fun i wr => ∃ k : Nat, k ≤ xs.length ∧ i = .int .i64 k ∧ Hid (∀ j, j < k → rowAt labelOkR labelLess xs j = true) ∧ Below w.heap.size w wr) (fun i _ => xs.length - (intOf i).toNat)
    case atStart => exact ⟨0, Nat.zero_le _, rfl, (fun j hj => by omega), (by repeat (first | with_reducible exact ext_refl _ | with_reducible assumption | with_reducible refine ext_alloc ?_ _ | with_reducible refine ext_trans ?_ (by assumption)))⟩
    case round =>
      obtain ⟨k, hk, rfl, hall, hbl⟩ := hrel
      by_cases hlt : k < xs.length
      · obtain rfl | ⟨j, rfl⟩ : k = 0 ∨ ∃ j, k = j + 1 := by cases k with | zero => exact .inl rfl | succ j => exact .inr ⟨j, rfl⟩
        · obtain ⟨b, o, ck, Fk, rfl, hbF, hbs, hr, hsub, hc⟩ := (Sl.ext (w' := wr) (A := A) (c := c) h hbl).get hlt
          obtain ⟨hck, hFk, hkey, hvalue⟩ := rd_Label hr
          subst hck
          have q0 : wr.cell? ⟨b, o + 0 * 2, none⟩ = some (.string xs[0].key) := by exact hc 0 _ rfl
          have q1 : wr.cell? ⟨b, o + 0 * 2 + 1, none⟩ = some (.string xs[0].value) := by rw [Nat.add_assoc]; exact hc 1 _ rfl
          clear hc
          simp only [Nat.zero_mul, Nat.add_zero] at q0 q1
          have hs1 := (HSM.out xs[0] (List.getElem_mem ..)).1
          have hs2 := (HSM.out xs[0] (List.getElem_mem ..)).2
          cases h1 : keyR xs[0].key <;> cases h2 : valR xs[0].value
          all_goals
            have hp := rowAt_zero (ok := labelOkR) (less := labelLess) hlt
            unfold labelOkR at hp
            rw [h1, h2] at hp
            simp only [Bool.false_and, Bool.and_false, Bool.and_true, Bool.and_self] at hp
            change rowAt labelOkR labelLess xs _ = _ at hp
            have H1 := Lib.hid h1
            have H2 := Lib.hid h2
            first
              | have HN := Lib.hid (upto_next hall.out hp)
              | have HF := Lib.hid (rowR_not (most := 6) hlt hp)
            clear h1 h2 hp
            go_wp2_with fail
            refine wp_region_grow _ (by kernel_rfl) (by kernel_rfl) (ext_refl _) ?_
            repeat (first
              | (apply inText_skip
                 case hw => rfl
                 simp only [Act.put, List.setIfInBounds_toArray, List.set_cons_zero, List.set_cons_succ])
              | (apply inText_step
                 case hw => rfl
                 case h =>
                   intro wq hq
                   have hcq := (cls_cell hq).1
                   have hfq := (cls_cell hq).2
                   go_simp
                   first
                     | exact ⟨hq, rfl⟩
                     | exact ⟨cls_alloc hq _, rfl⟩
                     | (first | (refine (LabelKeyOk_spec xs[0].key _ hs1).mono ?_; rw [H1.out]; rintro e w2 ⟨rfl, hb2⟩; exact ⟨rfl, cls_trans hq hb2⟩) | (refine (LabelValueOk_spec xs[0].value _ hs2).mono ?_; rw [H2.out]; rintro e w2 ⟨rfl, hb2⟩; exact ⟨rfl, cls_trans hq hb2⟩))
                     | (simp only [↓IntWalk.iteOmega]; exact ⟨hq, rfl⟩)
                 simp only [Act.put, List.setIfInBounds_toArray, List.set_cons_zero, List.set_cons_succ]))
            refine inText_nil ?_
            intro wn hn
            replace hn := hn.out
            go_wp2
            first
              | exact ⟨⟨0 + 1, by omega, by go_num, HN.out, ext_trans hbl hn⟩, by simp [intOf]; omega⟩
              | (go_ret; exact ⟨by unfold labelsR; rw [HF.out]; rfl, ext_trans hbl hn⟩)
        · obtain ⟨b, o, ck, Fk, rfl, hbF, hbs, hr, hsub, hc⟩ := (Sl.ext (w' := wr) (A := A) (c := c) h hbl).get hlt
          obtain ⟨hck, hFk, hkey, hvalue⟩ := rd_Label hr
          subst hck
          have q0 : wr.cell? ⟨b, o + (j + 1) * 2, none⟩ = some (.string xs[j + 1].key) := by exact hc 0 _ rfl
          have q1 : wr.cell? ⟨b, o + (j + 1) * 2 + 1, none⟩ = some (.string xs[j + 1].value) := by rw [Nat.add_assoc]; exact hc 1 _ rfl
          clear hc
          obtain ⟨b', o', ck', Fk', e, hbF', hbs', hr', hsub', hc'⟩ := Sl.get (Sl.ext (w' := wr) (c := c) h hbl) (show j < xs.length by omega)
          obtain ⟨hck2, hFk2, hkey2, hvalue2⟩ := rd_Label hr'
          subst hck2
          obtain ⟨rfl, rfl⟩ : b' = b ∧ o' = o := by simpa using e.symm
          clear e
          have p0 : wr.cell? ⟨b', o' + j * 2, none⟩ = some (.string xs[j].key) := by exact hc' 0 _ rfl
          have p1 : wr.cell? ⟨b', o' + j * 2 + 1, none⟩ = some (.string xs[j].value) := by rw [Nat.add_assoc]; exact hc' 1 _ rfl
          clear hc'
          have hwj : IntKind.i64.wrap (j : Int) = j := IntWalk.i64_in _ (by omega)
          have hjl : j < xs.length := by omega
          have hs1 := (HSM.out xs[j + 1] (List.getElem_mem ..)).1
          have hs2 := (HSM.out xs[j + 1] (List.getElem_mem ..)).2
          cases h1 : keyR xs[j + 1].key <;> cases h2 : valR xs[j + 1].value <;> cases h3 : Op.bytesLess xs[j].key.toList xs[j + 1].key.toList
          all_goals
            have hp := rowAt_succ (ok := labelOkR) (less := labelLess) hlt
            unfold labelOkR labelLess at hp
            rw [h1, h2, h3] at hp
            simp only [Bool.false_and, Bool.and_false, Bool.and_true, Bool.and_self] at hp
            change rowAt labelOkR labelLess xs _ = _ at hp
            have H1 := Lib.hid h1
            have H2 := Lib.hid h2
            first
              | have HN := Lib.hid (upto_next hall.out hp)
              | have HF := Lib.hid (rowR_not (most := 6) hlt hp)
            clear h1 h2 hp
            go_wp2_with fail
            refine wp_region_grow _ (by kernel_rfl) (by kernel_rfl) (ext_refl _) ?_
            repeat (first
              | (apply inText_skip
                 case hw => rfl
                 simp only [Act.put, List.setIfInBounds_toArray, List.set_cons_zero, List.set_cons_succ])
              | (apply inText_step
                 case hw => rfl
                 case h =>
                   intro wq hq
                   have hcq := (cls_cell hq).1
                   have hfq := (cls_cell hq).2
                   go_simp
                   first
                     | exact ⟨hq, rfl⟩
                     | exact ⟨cls_alloc hq _, rfl⟩
                     | (first | (refine (LabelKeyOk_spec xs[j + 1].key _ hs1).mono ?_; rw [H1.out]; rintro e w2 ⟨rfl, hb2⟩; exact ⟨rfl, cls_trans hq hb2⟩) | (refine (LabelValueOk_spec xs[j + 1].value _ hs2).mono ?_; rw [H2.out]; rintro e w2 ⟨rfl, hb2⟩; exact ⟨rfl, cls_trans hq hb2⟩))
                     | (simp only [↓IntWalk.iteOmega]; exact ⟨hq, rfl⟩)
                 simp only [Act.put, List.setIfInBounds_toArray, List.set_cons_zero, List.set_cons_succ]))
            refine inText_nil ?_
            intro wn hn
            replace hn := hn.out
            go_wp2
            first
              | exact ⟨⟨j + 1 + 1, by omega, by go_num, HN.out, ext_trans hbl hn⟩, by simp [intOf]; omega⟩
              | (go_ret; exact ⟨by unfold labelsR; rw [HF.out]; rfl, ext_trans hbl hn⟩)
      · have hkl : k = xs.length := by omega
        subst hkl
        have HF := Lib.hid (rowR_all hm hall.out)
        go_wp2
        go_ret
        exact ⟨by unfold labelsR; rw [HF.out]; rfl, hbl⟩
  · have HF := Lib.hid (rowR_len (ok := labelOkR) (less := labelLess) hm)
    go_enter Try.func40, Try.ntmps40
    go_wp2
    go_ret
    exact ⟨by unfold labelsR; rw [HF.out]; rfl, (by repeat (first | with_reducible exact ext_refl _ | with_reducible assumption | with_reducible refine ext_alloc ?_ _ | with_reducible refine ext_trans ?_ (by assumption)))⟩

end Go.Proofs.Ytkgajoichmnaaaa
