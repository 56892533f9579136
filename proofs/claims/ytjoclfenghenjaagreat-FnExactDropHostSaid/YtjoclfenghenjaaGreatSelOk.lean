/- SelectorOk, of the program and of the reference. No condition. -/
import Derived.Test.YtjoclfenghenjaaGreatNeedOk
import Derived.Test.YtjoclfenghenjaaGreatNeedLess
import Derived.Test.YtjoclfenghenjaaGreatSmalls
namespace Go.Proofs.YtjoclfenghenjaaGreat
open Go.ChangeShapes Go.WideShapes Go.ChangeAt Go.RowKit
set_option linter.unusedVariables false
set_option linter.unusedSimpArgs false

def selR (xs : List Need) : Bool := rowR needR needLess 4 xs
set_option maxRecDepth 100000 in
set_option maxHeartbeats 2000000 in
theorem SelectorOk_impl (xs : List Need) (A : Option Addr) (n c : Nat) (F : List Nat) (w : World) (h : Sl w xs A c F) (hn : n = xs.length) (hl : (xs.length : Int) ≤ 1048576) (hsm : (∀ l ∈ xs, (l.key.size : Int) ≤ 1048576 ∧ (l.values.length : Int) ≤ 1048576 ∧ ∀ v ∈ l.values, (v.size : Int) ≤ 1048576)) :
    Calls Tryz.prog 140 #[.slice A n c] w fun e w' => e = .returned (.bool (selR xs)) ∧ Below w.heap.size w w' := by
  subst hn
  have HSM := Lib.hid hsm
  clear hsm
  go_enter Tryz.func140, Tryz.ntmps140
  go_wp2_with fail
  go_loopw [7] (fun i wr => ∃ k : Nat, k ≤ xs.length ∧ i = .int .i64 k ∧ Hid (∀ j, j < k → rowAt needR needLess xs j = true) ∧ Below w.heap.size w wr) (fun i _ => xs.length - (intOf i).toNat)
  case atStart => exact ⟨0, Nat.zero_le _, rfl, (fun j hj => by omega), (by repeat (first | with_reducible exact ext_refl _ | with_reducible assumption | with_reducible refine ext_alloc ?_ _ | with_reducible refine ext_trans ?_ (by assumption)))⟩
  case round =>
    obtain ⟨k, hk, rfl, hall, hbl⟩ := hrel
    by_cases hlt : k < xs.length
    · obtain rfl | ⟨j, rfl⟩ : k = 0 ∨ ∃ j, k = j + 1 := by cases k with | zero => exact .inl rfl | succ j => exact .inr ⟨j, rfl⟩
      · obtain ⟨b, o, ck, Fk, rfl, hbF, hbs, hr, hsub, hc⟩ := (Sl.ext (w' := wr) (A := A) (c := c) h hbl).get hlt
        have hr0 := hr
        obtain ⟨Avalues, cvalues, Fvalues, hck, hFk, hkey, hop, hvalues⟩ := rd_Need hr
        subst hck
        have q0 : wr.cell? ⟨b, o + 0 * 3, none⟩ = some (.string xs[0].key) := by exact hc 0 _ rfl
        have q1 : wr.cell? ⟨b, o + 0 * 3 + 1, none⟩ = some (.int .i64 xs[0].op) := by rw [Nat.add_assoc]; exact hc 1 _ rfl
        have q2 : wr.cell? ⟨b, o + 0 * 3 + 2, none⟩ = some (.slice Avalues xs[0].values.length cvalues) := by rw [Nat.add_assoc]; exact hc 2 _ rfl
        clear hc
        simp only [Nat.zero_mul, Nat.add_zero] at q0 q1 q2
        obtain ⟨hs1, hs2, hs3⟩ := HSM.out xs[0] (List.getElem_mem ..)
        cases h1 : needR xs[0]
        all_goals
          have hp := rowAt_zero (ok := needR) (less := needLess) hlt
          rw [h1] at hp
          try simp only [Bool.false_and, Bool.and_false, Bool.and_true, Bool.and_self] at hp
          change rowAt needR needLess xs _ = _ at hp
          have hK : ∀ wq, Below wr.heap.size wr wq → Calls Tryz.prog 177 #[.agg #[.string xs[0].key, .int .i64 xs[0].op, .slice Avalues xs[0].values.length cvalues]] wq fun e w' => e = .returned (.bool (needR xs[0])) ∧ Below wq.heap.size wq w' :=
            fun wq hq => NeedOk_impl xs[0] _ _ _ (rd_extT hr0 hq) hs1 hs2 hs3
          rw [h1] at hK
          have NOK := Lib.hid hK
          clear hK
          first
            | have HN := Lib.hid (upto_next hall.out hp)
            | have HF := Lib.hid (rowR_not (most := 4) hlt hp)
          clear h1 hp
          go_wp2_with fail
          refine wp_region_grow _ (by kernel_rfl) (by kernel_rfl) (ext_refl _) ?_
          repeat (first
            | (apply inText_skip
               case hw => rfl
               simp only [Act.put, List.setIfInBounds_toArray, List.set_cons_zero, List.set_cons_succ])
            | (apply inText_step
               case hw => rfl
               case h =>
                 intro wq hq
                 have hcq := (cls_cell hq).1
                 have hfq := (cls_cell hq).2
                 go_simp
                 first
                   | exact ⟨hq, rfl⟩
                   | exact ⟨cls_alloc hq _, rfl⟩
                   | (first | (refine (NOK.out _ (by first | exact hq | exact ext_trans (ext_alloc (ext_refl _) _) hq)).mono ?_; rintro e w2 ⟨rfl, hb2⟩; exact ⟨rfl, cls_trans hq hb2⟩) | (refine (CMP.out _ (by first | exact hq | exact ext_trans (ext_alloc (ext_refl _) _) hq)).mono ?_; rintro e w2 ⟨rfl, hb2⟩; exact ⟨rfl, cls_trans hq hb2⟩))
                   | (simp only [↓IntWalk.iteOmega]; exact ⟨hq, rfl⟩)
               simp only [Act.put, List.setIfInBounds_toArray, List.set_cons_zero, List.set_cons_succ]))
          refine inText_nil ?_
          intro wn hn
          replace hn := hn.out
          go_wp2
          first
            | exact ⟨⟨0 + 1, by omega, by go_num, HN.out, ext_trans (ext_alloc hbl _) hn⟩, by simp [intOf]; omega⟩
            | (go_ret; exact ⟨by unfold selR; rw [HF.out]; rfl, ext_trans (ext_alloc hbl _) hn⟩)
      · obtain ⟨b, o, ck, Fk, rfl, hbF, hbs, hr, hsub, hc⟩ := (Sl.ext (w' := wr) (A := A) (c := c) h hbl).get hlt
        have hr0 := hr
        obtain ⟨Avalues, cvalues, Fvalues, hck, hFk, hkey, hop, hvalues⟩ := rd_Need hr
        subst hck
        have q0 : wr.cell? ⟨b, o + (j + 1) * 3, none⟩ = some (.string xs[j + 1].key) := by exact hc 0 _ rfl
        have q1 : wr.cell? ⟨b, o + (j + 1) * 3 + 1, none⟩ = some (.int .i64 xs[j + 1].op) := by rw [Nat.add_assoc]; exact hc 1 _ rfl
        have q2 : wr.cell? ⟨b, o + (j + 1) * 3 + 2, none⟩ = some (.slice Avalues xs[j + 1].values.length cvalues) := by rw [Nat.add_assoc]; exact hc 2 _ rfl
        clear hc
        obtain ⟨b', o', ck', Fk', e, hbF', hbs', hr', hsub', hc'⟩ := Sl.get (Sl.ext (w' := wr) (c := c) h hbl) (show j < xs.length by omega)
        have hrp := hr'
        obtain ⟨Avalues2, cvalues2, Fvalues2, hck2, hFk2, hkey2, hop2, hvalues2⟩ := rd_Need hr'
        subst hck2
        obtain ⟨rfl, rfl⟩ : b' = b ∧ o' = o := by simpa using e.symm
        clear e
        have p0 : wr.cell? ⟨b', o' + j * 3, none⟩ = some (.string xs[j].key) := by exact hc' 0 _ rfl
        have p1 : wr.cell? ⟨b', o' + j * 3 + 1, none⟩ = some (.int .i64 xs[j].op) := by rw [Nat.add_assoc]; exact hc' 1 _ rfl
        have p2 : wr.cell? ⟨b', o' + j * 3 + 2, none⟩ = some (.slice Avalues2 xs[j].values.length cvalues2) := by rw [Nat.add_assoc]; exact hc' 2 _ rfl
        clear hc'
        have hwj : IntKind.i64.wrap (j : Int) = j := IntWalk.i64_in _ (by omega)
        have hjl : j < xs.length := by omega
        obtain ⟨hp1, hp2, hp3⟩ := HSM.out xs[j] (List.getElem_mem ..)
        obtain ⟨hs1, hs2, hs3⟩ := HSM.out xs[j + 1] (List.getElem_mem ..)
        cases h1 : needR xs[j + 1] <;> cases h3 : needLess xs[j] xs[j + 1]
        all_goals
          have hp := rowAt_succ (ok := needR) (less := needLess) hlt
          rw [h1, h3] at hp
          try simp only [Bool.false_and, Bool.and_false, Bool.and_true, Bool.and_self] at hp
          change rowAt needR needLess xs _ = _ at hp
          have hK : ∀ wq, Below wr.heap.size wr wq → Calls Tryz.prog 177 #[.agg #[.string xs[j + 1].key, .int .i64 xs[j + 1].op, .slice Avalues xs[j + 1].values.length cvalues]] wq fun e w' => e = .returned (.bool (needR xs[j + 1])) ∧ Below wq.heap.size wq w' :=
            fun wq hq => NeedOk_impl xs[j + 1] _ _ _ (rd_extT hr0 hq) hs1 hs2 hs3
          rw [h1] at hK
          have NOK := Lib.hid hK
          clear hK
          first
            | have HN := Lib.hid (upto_next hall.out hp)
            | have HF := Lib.hid (rowR_not (most := 4) hlt hp)
          have hC : ∀ wq, Below wr.heap.size wr wq → Calls Tryz.prog 178 #[.agg #[.string xs[j].key, .int .i64 xs[j].op, .slice Avalues2 xs[j].values.length cvalues2], .agg #[.string xs[j + 1].key, .int .i64 xs[j + 1].op, .slice Avalues xs[j + 1].values.length cvalues]] wq fun e w' => e = .returned (.bool (needLess xs[j] xs[j + 1])) ∧ Below wq.heap.size wq w' :=
            fun wq hq => NeedLess_impl xs[j] xs[j + 1] _ _ _ _ _ (rd_extT hrp hq) (rd_extT hr0 hq) hp2 hs2
          rw [h3] at hC
          have CMP := Lib.hid hC
          clear hC
          clear h1 hp
          go_wp2_with fail
          refine wp_region_grow _ (by kernel_rfl) (by kernel_rfl) (ext_refl _) ?_
          repeat (first
            | (apply inText_skip
               case hw => rfl
               simp only [Act.put, List.setIfInBounds_toArray, List.set_cons_zero, List.set_cons_succ])
            | (apply inText_step
               case hw => rfl
               case h =>
                 intro wq hq
                 have hcq := (cls_cell hq).1
                 have hfq := (cls_cell hq).2
                 go_simp
                 first
                   | exact ⟨hq, rfl⟩
                   | exact ⟨cls_alloc hq _, rfl⟩
                   | (first | (refine (NOK.out _ (by first | exact hq | exact ext_trans (ext_alloc (ext_refl _) _) hq)).mono ?_; rintro e w2 ⟨rfl, hb2⟩; exact ⟨rfl, cls_trans hq hb2⟩) | (refine (CMP.out _ (by first | exact hq | exact ext_trans (ext_alloc (ext_refl _) _) hq)).mono ?_; rintro e w2 ⟨rfl, hb2⟩; exact ⟨rfl, cls_trans hq hb2⟩))
                   | (simp only [↓IntWalk.iteOmega]; exact ⟨hq, rfl⟩)
               simp only [Act.put, List.setIfInBounds_toArray, List.set_cons_zero, List.set_cons_succ]))
          refine inText_nil ?_
          intro wn hn
          replace hn := hn.out
          go_wp2
          first
            | exact ⟨⟨j + 1 + 1, by omega, by go_num, HN.out, ext_trans (ext_alloc hbl _) hn⟩, by simp [intOf]; omega⟩
            | (go_ret; exact ⟨by unfold selR; rw [HF.out]; rfl, ext_trans (ext_alloc hbl _) hn⟩)
    · have hkl : k = xs.length := by omega
      subst hkl
      by_cases hm : (xs.length : Int) ≤ 4
      · have HF := Lib.hid (rowR_all hm hall.out)
        go_wp2
        go_ret
        exact ⟨by unfold selR; rw [HF.out]; first | rfl | simp [hm], hbl⟩
      · have HF := Lib.hid (rowR_len (ok := needR) (less := needLess) hm)
        go_wp2
        go_ret
        exact ⟨by unfold selR; rw [HF.out]; first | rfl | simp [hm], hbl⟩
set_option maxRecDepth 100000 in
set_option maxHeartbeats 2000000 in
theorem SelectorOk_spec (xs : List Need) (A : Option Addr) (n c : Nat) (F : List Nat) (w : World) (h : Sl w xs A c F) (hn : n = xs.length) (hl : (xs.length : Int) ≤ 1048576) (hsm : (∀ l ∈ xs, (l.key.size : Int) ≤ 1048576 ∧ (l.values.length : Int) ≤ 1048576 ∧ ∀ v ∈ l.values, (v.size : Int) ≤ 1048576)) :
    Calls Tryz.prog 127 #[.slice A n c] w fun e w' => e = .returned (.bool (selR xs)) ∧ Below w.heap.size w w' := by
  subst hn
  have HSM := Lib.hid hsm
  clear hsm
  by_cases hm : (xs.length : Int) ≤ 4
  · go_enter Tryz.func127, Tryz.ntmps127
    go_wp2_with fail
    go_loopw [3] (fun i wr => ∃ k : Nat, k ≤ xs.length ∧ i = .int .i64 k ∧ Hid (∀ j, j < k → rowAt needR needLess xs j = true) ∧ Below w.heap.size w wr) (fun i _ => xs.length - (intOf i).toNat)
    case atStart => exact ⟨0, Nat.zero_le _, rfl, (fun j hj => by omega), (by repeat (first | with_reducible exact ext_refl _ | with_reducible assumption | with_reducible refine ext_alloc ?_ _ | with_reducible refine ext_trans ?_ (by assumption)))⟩
    case round =>
      obtain ⟨k, hk, rfl, hall, hbl⟩ := hrel
      by_cases hlt : k < xs.length
      · obtain rfl | ⟨j, rfl⟩ : k = 0 ∨ ∃ j, k = j + 1 := by cases k with | zero => exact .inl rfl | succ j => exact .inr ⟨j, rfl⟩
        · obtain ⟨b, o, ck, Fk, rfl, hbF, hbs, hr, hsub, hc⟩ := (Sl.ext (w' := wr) (A := A) (c := c) h hbl).get hlt
          have hr0 := hr
          obtain ⟨Avalues, cvalues, Fvalues, hck, hFk, hkey, hop, hvalues⟩ := rd_Need hr
          subst hck
          have q0 : wr.cell? ⟨b, o + 0 * 3, none⟩ = some (.string xs[0].key) := by exact hc 0 _ rfl
          have q1 : wr.cell? ⟨b, o + 0 * 3 + 1, none⟩ = some (.int .i64 xs[0].op) := by rw [Nat.add_assoc]; exact hc 1 _ rfl
          have q2 : wr.cell? ⟨b, o + 0 * 3 + 2, none⟩ = some (.slice Avalues xs[0].values.length cvalues) := by rw [Nat.add_assoc]; exact hc 2 _ rfl
          clear hc
          simp only [Nat.zero_mul, Nat.add_zero] at q0 q1 q2
          obtain ⟨hs1, hs2, hs3⟩ := HSM.out xs[0] (List.getElem_mem ..)
          cases h1 : needR xs[0]
          all_goals
            have hp := rowAt_zero (ok := needR) (less := needLess) hlt
            rw [h1] at hp
            try simp only [Bool.false_and, Bool.and_false, Bool.and_true, Bool.and_self] at hp
            change rowAt needR needLess xs _ = _ at hp
            have hK : ∀ wq, Below wr.heap.size wr wq → Calls Tryz.prog 160 #[.agg #[.string xs[0].key, .int .i64 xs[0].op, .slice Avalues xs[0].values.length cvalues]] wq fun e w' => e = .returned (.bool (needR xs[0])) ∧ Below wq.heap.size wq w' :=
              fun wq hq => NeedOk_spec xs[0] _ _ _ (rd_extT hr0 hq) hs1 hs2 hs3
            rw [h1] at hK
            have NOK := Lib.hid hK
            clear hK
            first
              | have HN := Lib.hid (upto_next hall.out hp)
              | have HF := Lib.hid (rowR_not (most := 4) hlt hp)
            clear h1 hp
            go_wp2_with fail
            refine wp_region_grow _ (by kernel_rfl) (by kernel_rfl) (ext_refl _) ?_
            repeat (first
              | (apply inText_skip
                 case hw => rfl
                 simp only [Act.put, List.setIfInBounds_toArray, List.set_cons_zero, List.set_cons_succ])
              | (apply inText_step
                 case hw => rfl
                 case h =>
                   intro wq hq
                   have hcq := (cls_cell hq).1
                   have hfq := (cls_cell hq).2
                   go_simp
                   first
                     | exact ⟨hq, rfl⟩
                     | exact ⟨cls_alloc hq _, rfl⟩
                     | (first | (refine (NOK.out _ (by first | exact hq | exact ext_trans (ext_alloc (ext_refl _) _) hq)).mono ?_; rintro e w2 ⟨rfl, hb2⟩; exact ⟨rfl, cls_trans hq hb2⟩) | (refine (CMP.out _ (by first | exact hq | exact ext_trans (ext_alloc (ext_refl _) _) hq)).mono ?_; rintro e w2 ⟨rfl, hb2⟩; exact ⟨rfl, cls_trans hq hb2⟩))
                     | (simp only [↓IntWalk.iteOmega]; exact ⟨hq, rfl⟩)
                 simp only [Act.put, List.setIfInBounds_toArray, List.set_cons_zero, List.set_cons_succ]))
            refine inText_nil ?_
            intro wn hn
            replace hn := hn.out
            go_wp2
            first
              | exact ⟨⟨0 + 1, by omega, by go_num, HN.out, ext_trans hbl hn⟩, by simp [intOf]; omega⟩
              | (go_ret; exact ⟨by unfold selR; rw [HF.out]; rfl, ext_trans hbl hn⟩)
        · obtain ⟨b, o, ck, Fk, rfl, hbF, hbs, hr, hsub, hc⟩ := (Sl.ext (w' := wr) (A := A) (c := c) h hbl).get hlt
          have hr0 := hr
          obtain ⟨Avalues, cvalues, Fvalues, hck, hFk, hkey, hop, hvalues⟩ := rd_Need hr
          subst hck
          have q0 : wr.cell? ⟨b, o + (j + 1) * 3, none⟩ = some (.string xs[j + 1].key) := by exact hc 0 _ rfl
          have q1 : wr.cell? ⟨b, o + (j + 1) * 3 + 1, none⟩ = some (.int .i64 xs[j + 1].op) := by rw [Nat.add_assoc]; exact hc 1 _ rfl
          have q2 : wr.cell? ⟨b, o + (j + 1) * 3 + 2, none⟩ = some (.slice Avalues xs[j + 1].values.length cvalues) := by rw [Nat.add_assoc]; exact hc 2 _ rfl
          clear hc
          obtain ⟨b', o', ck', Fk', e, hbF', hbs', hr', hsub', hc'⟩ := Sl.get (Sl.ext (w' := wr) (c := c) h hbl) (show j < xs.length by omega)
          have hrp := hr'
          obtain ⟨Avalues2, cvalues2, Fvalues2, hck2, hFk2, hkey2, hop2, hvalues2⟩ := rd_Need hr'
          subst hck2
          obtain ⟨rfl, rfl⟩ : b' = b ∧ o' = o := by simpa using e.symm
          clear e
          have p0 : wr.cell? ⟨b', o' + j * 3, none⟩ = some (.string xs[j].key) := by exact hc' 0 _ rfl
          have p1 : wr.cell? ⟨b', o' + j * 3 + 1, none⟩ = some (.int .i64 xs[j].op) := by rw [Nat.add_assoc]; exact hc' 1 _ rfl
          have p2 : wr.cell? ⟨b', o' + j * 3 + 2, none⟩ = some (.slice Avalues2 xs[j].values.length cvalues2) := by rw [Nat.add_assoc]; exact hc' 2 _ rfl
          clear hc'
          have hwj : IntKind.i64.wrap (j : Int) = j := IntWalk.i64_in _ (by omega)
          have hjl : j < xs.length := by omega
          obtain ⟨hp1, hp2, hp3⟩ := HSM.out xs[j] (List.getElem_mem ..)
          obtain ⟨hs1, hs2, hs3⟩ := HSM.out xs[j + 1] (List.getElem_mem ..)
          cases h1 : needR xs[j + 1] <;> cases h3 : needLess xs[j] xs[j + 1]
          all_goals
            have hp := rowAt_succ (ok := needR) (less := needLess) hlt
            rw [h1, h3] at hp
            try simp only [Bool.false_and, Bool.and_false, Bool.and_true, Bool.and_self] at hp
            change rowAt needR needLess xs _ = _ at hp
            have hK : ∀ wq, Below wr.heap.size wr wq → Calls Tryz.prog 160 #[.agg #[.string xs[j + 1].key, .int .i64 xs[j + 1].op, .slice Avalues xs[j + 1].values.length cvalues]] wq fun e w' => e = .returned (.bool (needR xs[j + 1])) ∧ Below wq.heap.size wq w' :=
              fun wq hq => NeedOk_spec xs[j + 1] _ _ _ (rd_extT hr0 hq) hs1 hs2 hs3
            rw [h1] at hK
            have NOK := Lib.hid hK
            clear hK
            first
              | have HN := Lib.hid (upto_next hall.out hp)
              | have HF := Lib.hid (rowR_not (most := 4) hlt hp)
            have hC : ∀ wq, Below wr.heap.size wr wq → Calls Tryz.prog 161 #[.agg #[.string xs[j].key, .int .i64 xs[j].op, .slice Avalues2 xs[j].values.length cvalues2], .agg #[.string xs[j + 1].key, .int .i64 xs[j + 1].op, .slice Avalues xs[j + 1].values.length cvalues]] wq fun e w' => e = .returned (.bool (needLess xs[j] xs[j + 1])) ∧ Below wq.heap.size wq w' :=
              fun wq hq => NeedLess_spec xs[j] xs[j + 1] _ _ _ _ _ (rd_extT hrp hq) (rd_extT hr0 hq) hp2 hs2
            rw [h3] at hC
            have CMP := Lib.hid hC
            clear hC
            clear h1 hp
            go_wp2_with fail
            refine wp_region_grow _ (by kernel_rfl) (by kernel_rfl) (ext_refl _) ?_
            repeat (first
              | (apply inText_skip
                 case hw => rfl
                 simp only [Act.put, List.setIfInBounds_toArray, List.set_cons_zero, List.set_cons_succ])
              | (apply inText_step
                 case hw => rfl
                 case h =>
                   intro wq hq
                   have hcq := (cls_cell hq).1
                   have hfq := (cls_cell hq).2
                   go_simp
                   first
                     | exact ⟨hq, rfl⟩
                     | exact ⟨cls_alloc hq _, rfl⟩
                     | (first | (refine (NOK.out _ (by first | exact hq | exact ext_trans (ext_alloc (ext_refl _) _) hq)).mono ?_; rintro e w2 ⟨rfl, hb2⟩; exact ⟨rfl, cls_trans hq hb2⟩) | (refine (CMP.out _ (by first | exact hq | exact ext_trans (ext_alloc (ext_refl _) _) hq)).mono ?_; rintro e w2 ⟨rfl, hb2⟩; exact ⟨rfl, cls_trans hq hb2⟩))
                     | (simp only [↓IntWalk.iteOmega]; exact ⟨hq, rfl⟩)
                 simp only [Act.put, List.setIfInBounds_toArray, List.set_cons_zero, List.set_cons_succ]))
            refine inText_nil ?_
            intro wn hn
            replace hn := hn.out
            go_wp2
            first
              | exact ⟨⟨j + 1 + 1, by omega, by go_num, HN.out, ext_trans hbl hn⟩, by simp [intOf]; omega⟩
              | (go_ret; exact ⟨by unfold selR; rw [HF.out]; rfl, ext_trans hbl hn⟩)
      · have hkl : k = xs.length := by omega
        subst hkl
        have HF := Lib.hid (rowR_all hm hall.out)
        go_wp2
        go_ret
        exact ⟨by unfold selR; rw [HF.out]; rfl, hbl⟩
  · have HF := Lib.hid (rowR_len (ok := needR) (less := needLess) hm)
    go_enter Tryz.func127, Tryz.ntmps127
    go_wp2
    go_ret
    exact ⟨by unfold selR; rw [HF.out]; rfl, (by repeat (first | with_reducible exact ext_refl _ | with_reducible assumption | with_reducible refine ext_alloc ?_ _ | with_reducible refine ext_trans ?_ (by assumption)))⟩

end Go.Proofs.YtjoclfenghenjaaGreat
