/- NeedOk, of the program and of the reference. No condition. -/
import Derived.Test.YtjoclfenghenjaaGreatNeedOkP
import Derived.Laws.Cover1
namespace Go.Proofs.YtjoclfenghenjaaGreat
open Go.ChangeShapes Go.WideShapes Go.ChangeAt Go.RowKit
set_option linter.unusedVariables false
set_option linter.unusedSimpArgs false
theorem within_any (n a b : Int) (w : World) : Calls Tryz.prog 88 #[.int .i64 n, .int .i64 a, .int .i64 b] w fun e w' => e = .returned (.bool (decide (a ≤ n) && decide (n ≤ b))) ∧ w' = w := by
  by_cases h1 : a ≤ n <;> by_cases h2 : n ≤ b
  all_goals
    go_enter Tryz.func88, Tryz.ntmps88
    go_wp2
    go_ret
    exact ⟨by simp [h1, h2] <;> first | rfl | omega, rfl⟩
set_option maxRecDepth 100000 in
set_option maxHeartbeats 2000000 in
theorem NeedOk_impl (x : Need) (cs : List Value) (F : List Nat) (w : World) (h : rd w x cs F) (hks : (x.key.size : Int) ≤ 1048576) (hl : (x.values.length : Int) ≤ 1048576) (hsm : ∀ v ∈ x.values, (v.size : Int) ≤ 1048576) :
    Calls Tryz.prog 177 #[.agg cs.toArray] w fun e w' => e = .returned (.bool (needR x)) ∧ Below w.heap.size w w' := by
  have HSM := Lib.hid hsm
  clear hsm
  obtain ⟨Avalues, cvalues, Fvalues, hck, hF0, hkey, hop, hvalues⟩ := rd_Need h
  subst hck
  clear hF0
  cases hK : keyR x.key with
  | false =>
    have HF := Lib.hid (needR_key hK)
    have HK := Lib.hid hK
    clear hK
    go_enter Tryz.func177, Tryz.ntmps177
    go_wp2_with fail
    refine (LabelKeyOk_impl x.key _ hks).mono ?_
    rw [HK.out]
    rintro e w2 ⟨rfl, hb2⟩
    obtain ⟨hc2, hf2⟩ := bcell hb2
    have hz2 : w.heap.size < w2.heap.size := by have := hb2.size; simp at this; omega
    have hq1 : w2.cell? ⟨w.heap.size, 1, none⟩ = some (.int .i64 x.op) := by rw [hc2 _ _ (by simp), cell_of_row _ _ _ _ _ _ (heap_alloc_new w _)]; rfl
    have hq2 : w2.cell? ⟨w.heap.size, 2, none⟩ = some (.slice Avalues x.values.length cvalues) := by rw [hc2 _ _ (by simp), cell_of_row _ _ _ _ _ _ (heap_alloc_new w _)]; rfl
    have hB2 : Below w.heap.size w w2 := (by repeat (first | with_reducible exact ext_refl _ | with_reducible assumption | with_reducible refine ext_alloc ?_ _ | with_reducible refine ext_trans ?_ (by assumption)))
    clear hc2 hf2
    go_wp2
    go_ret
    exact ⟨by rw [HF.out]; first | rfl | simp_all, hB2⟩
  | true =>
    have HK := Lib.hid hK
    by_cases hop : 1 ≤ x.op ∧ x.op ≤ 4
    · by_cases h2 : 2 < x.op
      · have hg := needR_has hK hop h2
        obtain ⟨hop1, hop2⟩ := hop
        by_cases h0 : x.values.length = 0
        · rw [decide_eq_true h0] at hg
          have HF := Lib.hid hg
          have H0 := Lib.hid h0
          clear hK hg h0
          go_enter Tryz.func177, Tryz.ntmps177
          go_wp2_with fail
          refine (LabelKeyOk_impl x.key _ hks).mono ?_
          rw [HK.out]
          rintro e w2 ⟨rfl, hb2⟩
          obtain ⟨hc2, hf2⟩ := bcell hb2
          have hz2 : w.heap.size < w2.heap.size := by have := hb2.size; simp at this; omega
          have hq1 : w2.cell? ⟨w.heap.size, 1, none⟩ = some (.int .i64 x.op) := by rw [hc2 _ _ (by simp), cell_of_row _ _ _ _ _ _ (heap_alloc_new w _)]; rfl
          have hq2 : w2.cell? ⟨w.heap.size, 2, none⟩ = some (.slice Avalues x.values.length cvalues) := by rw [hc2 _ _ (by simp), cell_of_row _ _ _ _ _ _ (heap_alloc_new w _)]; rfl
          have hB2 : Below w.heap.size w w2 := (by repeat (first | with_reducible exact ext_refl _ | with_reducible assumption | with_reducible refine ext_alloc ?_ _ | with_reducible refine ext_trans ?_ (by assumption)))
          clear hc2 hf2
          have h0i : ((x.values.length : Int) == 0) = true := by simp [H0.out]
          go_wp2
          go_ret
          exact ⟨by rw [HF.out]; first | rfl | simp_all, hB2⟩
        · rw [decide_eq_false h0] at hg
          have HF := Lib.hid hg
          have h0i : ((x.values.length : Int) == 0) = false := by rw [beq_eq_false_iff_ne]; omega
          clear hK hg
          go_enter Tryz.func177, Tryz.ntmps177
          go_wp2_with fail
          refine (LabelKeyOk_impl x.key _ hks).mono ?_
          rw [HK.out]
          rintro e w2 ⟨rfl, hb2⟩
          obtain ⟨hc2, hf2⟩ := bcell hb2
          have hz2 : w.heap.size < w2.heap.size := by have := hb2.size; simp at this; omega
          have hq1 : w2.cell? ⟨w.heap.size, 1, none⟩ = some (.int .i64 x.op) := by rw [hc2 _ _ (by simp), cell_of_row _ _ _ _ _ _ (heap_alloc_new w _)]; rfl
          have hq2 : w2.cell? ⟨w.heap.size, 2, none⟩ = some (.slice Avalues x.values.length cvalues) := by rw [hc2 _ _ (by simp), cell_of_row _ _ _ _ _ _ (heap_alloc_new w _)]; rfl
          have hB2 : Below w.heap.size w w2 := (by repeat (first | with_reducible exact ext_refl _ | with_reducible assumption | with_reducible refine ext_alloc ?_ _ | with_reducible refine ext_trans ?_ (by assumption)))
          clear hc2 hf2
          go_wp2
          go_ret
          exact ⟨by rw [HF.out]; first | rfl | simp_all, hB2⟩
      · have HI := Lib.hid (needR_in hK hop h2)
        obtain ⟨hop1, hop2⟩ := hop
        have h2' : x.op ≤ 2 := by omega
        clear hK
        go_enter Tryz.func177, Tryz.ntmps177
        go_wp2_with fail
        refine (LabelKeyOk_impl x.key _ hks).mono ?_
        rw [HK.out]
        rintro e w2 ⟨rfl, hb2⟩
        obtain ⟨hc2, hf2⟩ := bcell hb2
        have hz2 : w.heap.size < w2.heap.size := by have := hb2.size; simp at this; omega
        have hq1 : w2.cell? ⟨w.heap.size, 1, none⟩ = some (.int .i64 x.op) := by rw [hc2 _ _ (by simp), cell_of_row _ _ _ _ _ _ (heap_alloc_new w _)]; rfl
        have hq2 : w2.cell? ⟨w.heap.size, 2, none⟩ = some (.slice Avalues x.values.length cvalues) := by rw [hc2 _ _ (by simp), cell_of_row _ _ _ _ _ _ (heap_alloc_new w _)]; rfl
        have hB2 : Below w.heap.size w w2 := (by repeat (first | with_reducible exact ext_refl _ | with_reducible assumption | with_reducible refine ext_alloc ?_ _ | with_reducible refine ext_trans ?_ (by assumption)))
        clear hc2 hf2
        go_wp2_with fail
        refine (within_any x.op 1 4 _).mono ?_
        rw [show (decide ((1 : Int) ≤ x.op) && decide (x.op ≤ 4)) = true by simp [hop1, hop2]]
        rintro e w3 ⟨rfl, hw⟩
        simp only [hw]
        clear hw w3
        go_wp2
        go_loopw [25] (fun i wr => ∃ k : Nat, k ≤ x.values.length ∧ i = .int .i64 k ∧ Hid (∀ j, j < k → rowAt valR bl x.values j = true) ∧ wr.cell? ⟨w.heap.size, 2, none⟩ = some (.slice Avalues x.values.length cvalues) ∧ Below w.heap.size w wr) (fun i _ => x.values.length - (intOf i).toNat)
        case atStart => exact ⟨0, Nat.zero_le _, rfl, (fun j hj => by omega), hq2, hB2⟩
        case round =>
          obtain ⟨k, hk, rfl, hall, hbx, hbl⟩ := hrel
          have hbz : w.heap.size < wr.heap.size := World.block_lt_of_cell? wr _ hbx
          by_cases hlt : k < x.values.length
          · obtain rfl | ⟨j, rfl⟩ : k = 0 ∨ ∃ j, k = j + 1 := by cases k with | zero => exact .inl rfl | succ j => exact .inr ⟨j, rfl⟩
            · obtain ⟨b, o, ck, Fk, rfl, hbF, hbs, hr, hsub, hc⟩ := (Sl.ext (w' := wr) (A := Avalues) (c := cvalues) hvalues hbl).get hlt
              obtain ⟨hck, hFk, hsz⟩ := hr
              subst hck hFk
              have q0 : wr.cell? ⟨b, o + 0, none⟩ = some (.string x.values[0]) := by have := hc 0 _ rfl; rwa [show o + (0 * Dat.size ByteArray + 0) = o + 0 from by show o + (0 * 1 + 0) = _; omega] at this
              clear hc
              simp only [Nat.add_zero] at q0
              have hs1 := HSM.out x.values[0] (List.getElem_mem ..)
              cases h1 : valR x.values[0]
              all_goals
                have hp := rowAt_zero (ok := valR) (less := bl) hlt
                
                rw [h1] at hp
                try simp only [Bool.false_and, Bool.and_false, Bool.and_true, Bool.and_self] at hp
                change rowAt valR bl x.values _ = _ at hp
                have H1 := Lib.hid h1
                first
                  | have HN := Lib.hid (upto_next hall.out hp)
                  | have HF := Lib.hid (show needR x = false by rw [HI.out, rowR_not (most := 4) hlt hp]; simp)
                clear h1 hp
                go_wp2_with fail
                refine (LabelValueOk_impl x.values[0] _ hs1).mono ?_
                rw [H1.out]
                rintro e wn ⟨rfl, hn⟩
                obtain ⟨hcn, hfn⟩ := bcell hn
                go_wp2
                first
                  | exact ⟨⟨0 + 1, by omega, by go_num, HN.out, ((bcell hn).1 _ _ hbz).trans hbx, ext_trans hbl hn⟩, by simp [intOf]; omega⟩
                  | (go_ret; exact ⟨by rw [HF.out]; rfl, ext_trans hbl hn⟩)
                  | (go_roundw
                     case rel => exact ⟨0 + 1, by omega, by go_num, HN.out, ((bcell hn).1 _ _ hbz).trans hbx, ext_trans hbl hn⟩
                     case measure => simp [intOf]; omega)
            · obtain ⟨b, o, ck, Fk, rfl, hbF, hbs, hr, hsub, hc⟩ := (Sl.ext (w' := wr) (A := Avalues) (c := cvalues) hvalues hbl).get hlt
              obtain ⟨hck, hFk, hsz⟩ := hr
              subst hck hFk
              have q0 : wr.cell? ⟨b, o + (j + 1), none⟩ = some (.string x.values[j + 1]) := by have := hc 0 _ rfl; rwa [show o + ((j + 1) * Dat.size ByteArray + 0) = o + (j + 1) from by show o + ((j + 1) * 1 + 0) = _; omega] at this
              clear hc
              obtain ⟨b', o', ck', Fk', e, hbF', hbs', hr', hsub', hc'⟩ := Sl.get (Sl.ext (w' := wr) (c := cvalues) hvalues hbl) (show j < x.values.length by omega)
              obtain ⟨hck2, hFk2, hsz2⟩ := hr'
              subst hck2
              obtain ⟨rfl, rfl⟩ : b' = b ∧ o' = o := by simpa using e.symm
              clear e
              have p0 : wr.cell? ⟨b', o' + j, none⟩ = some (.string x.values[j]) := by have := hc' 0 _ rfl; rwa [show o' + (j * Dat.size ByteArray + 0) = o' + j from by show o' + (j * 1 + 0) = _; omega] at this
              clear hc'
              have hwj : IntKind.i64.wrap (j : Int) = j := IntWalk.i64_in _ (by omega)
              have hjl : j < x.values.length := by omega
              have hs1 := HSM.out x.values[j + 1] (List.getElem_mem ..)
              cases h1 : valR x.values[j + 1] <;> cases h3 : Op.bytesLess x.values[j].toList x.values[j + 1].toList
              all_goals
                have hp := rowAt_succ (ok := valR) (less := bl) hlt
                unfold bl at hp
                rw [h1, h3] at hp
                try simp only [Bool.false_and, Bool.and_false, Bool.and_true, Bool.and_self] at hp
                change rowAt valR bl x.values _ = _ at hp
                have H1 := Lib.hid h1
                first
                  | have HN := Lib.hid (upto_next hall.out hp)
                  | have HF := Lib.hid (show needR x = false by rw [HI.out, rowR_not (most := 4) hlt hp]; simp)
                clear h1 hp
                go_wp2_with fail
                refine (LabelValueOk_impl x.values[j + 1] _ hs1).mono ?_
                rw [H1.out]
                rintro e wn ⟨rfl, hn⟩
                obtain ⟨hcn, hfn⟩ := bcell hn
                go_wp2
                first
                  | exact ⟨⟨j + 1 + 1, by omega, by go_num, HN.out, ((bcell hn).1 _ _ hbz).trans hbx, ext_trans hbl hn⟩, by simp [intOf]; omega⟩
                  | (go_ret; exact ⟨by rw [HF.out]; rfl, ext_trans hbl hn⟩)
                  | (go_roundw
                     case rel => exact ⟨j + 1 + 1, by omega, by go_num, HN.out, ((bcell hn).1 _ _ hbz).trans hbx, ext_trans hbl hn⟩
                     case measure => simp [intOf]; omega)
          · have hkl : k = x.values.length := by omega
            subst hkl
            by_cases hm : (x.values.length : Int) ≤ 4
            · by_cases hm1 : 1 ≤ x.values.length
              · have HF := Lib.hid (show needR x = true by rw [HI.out, rowR_all hm hall.out]; simp [hm1])
                go_wp2
                go_ret
                exact ⟨by rw [HF.out]; first | rfl | simp_all, hbl⟩
              · have HF := Lib.hid (show needR x = false by rw [HI.out]; simp [hm1])
                have hm2 : (x.values.length : Int) < 1 := by omega
                go_wp2
                go_ret
                exact ⟨by rw [HF.out]; first | rfl | simp_all, hbl⟩
            · have HF := Lib.hid (show needR x = false by rw [HI.out, rowR_len (ok := valR) (less := bl) hm]; simp)
              have hm2 : (1 : Int) ≤ x.values.length := by omega
              have hd5 : decide ((x.values.length : Int) ≤ 4) = false := by simp; omega
              go_wp2
              go_ret
              exact ⟨by rw [HF.out]; first | rfl | simp_all, hbl⟩
    · have HF := Lib.hid (needR_op hop)
      clear hK
      by_cases h1 : x.op < 1
      · go_enter Tryz.func177, Tryz.ntmps177
        go_wp2_with fail
        refine (LabelKeyOk_impl x.key _ hks).mono ?_
        rw [HK.out]
        rintro e w2 ⟨rfl, hb2⟩
        obtain ⟨hc2, hf2⟩ := bcell hb2
        have hz2 : w.heap.size < w2.heap.size := by have := hb2.size; simp at this; omega
        have hq1 : w2.cell? ⟨w.heap.size, 1, none⟩ = some (.int .i64 x.op) := by rw [hc2 _ _ (by simp), cell_of_row _ _ _ _ _ _ (heap_alloc_new w _)]; rfl
        have hq2 : w2.cell? ⟨w.heap.size, 2, none⟩ = some (.slice Avalues x.values.length cvalues) := by rw [hc2 _ _ (by simp), cell_of_row _ _ _ _ _ _ (heap_alloc_new w _)]; rfl
        have hB2 : Below w.heap.size w w2 := (by repeat (first | with_reducible exact ext_refl _ | with_reducible assumption | with_reducible refine ext_alloc ?_ _ | with_reducible refine ext_trans ?_ (by assumption)))
        clear hc2 hf2
        go_wp2
        go_ret
        exact ⟨by rw [HF.out]; first | rfl | simp_all, hB2⟩
      · have h1' : 1 ≤ x.op := by omega
        have h4' : 4 < x.op := by omega
        have hd4 : decide (x.op ≤ 4) = false := by simp; omega
        go_enter Tryz.func177, Tryz.ntmps177
        go_wp2_with fail
        refine (LabelKeyOk_impl x.key _ hks).mono ?_
        rw [HK.out]
        rintro e w2 ⟨rfl, hb2⟩
        obtain ⟨hc2, hf2⟩ := bcell hb2
        have hz2 : w.heap.size < w2.heap.size := by have := hb2.size; simp at this; omega
        have hq1 : w2.cell? ⟨w.heap.size, 1, none⟩ = some (.int .i64 x.op) := by rw [hc2 _ _ (by simp), cell_of_row _ _ _ _ _ _ (heap_alloc_new w _)]; rfl
        have hq2 : w2.cell? ⟨w.heap.size, 2, none⟩ = some (.slice Avalues x.values.length cvalues) := by rw [hc2 _ _ (by simp), cell_of_row _ _ _ _ _ _ (heap_alloc_new w _)]; rfl
        have hB2 : Below w.heap.size w w2 := (by repeat (first | with_reducible exact ext_refl _ | with_reducible assumption | with_reducible refine ext_alloc ?_ _ | with_reducible refine ext_trans ?_ (by assumption)))
        clear hc2 hf2
        go_wp2
        go_ret
        exact ⟨by rw [HF.out]; first | rfl | simp_all, hB2⟩
set_option maxRecDepth 100000 in
set_option maxHeartbeats 2000000 in
theorem NeedOk_spec (x : Need) (cs : List Value) (F : List Nat) (w : World) (h : rd w x cs F) (hks : (x.key.size : Int) ≤ 1048576) (hl : (x.values.length : Int) ≤ 1048576) (hsm : ∀ v ∈ x.values, (v.size : Int) ≤ 1048576) :
    Calls Tryz.prog 160 #[.agg cs.toArray] w fun e w' => e = .returned (.bool (needR x)) ∧ Below w.heap.size w w' := by
  have HSM := Lib.hid hsm
  clear hsm
  obtain ⟨Avalues, cvalues, Fvalues, hck, hF0, hkey, hop, hvalues⟩ := rd_Need h
  subst hck
  clear hF0
  cases hK : keyR x.key with
  | false =>
    have HF := Lib.hid (needR_key hK)
    have HK := Lib.hid hK
    clear hK
    go_enter Tryz.func160, Tryz.ntmps160
    go_wp2_with fail
    refine (LabelKeyOk_spec x.key _ hks).mono ?_
    rw [HK.out]
    rintro e w2 ⟨rfl, hb2⟩
    obtain ⟨hc2, hf2⟩ := bcell hb2
    have hz2 : w.heap.size < w2.heap.size := by have := hb2.size; simp at this; omega
    have hq1 : w2.cell? ⟨w.heap.size, 1, none⟩ = some (.int .i64 x.op) := by rw [hc2 _ _ (by simp), cell_of_row _ _ _ _ _ _ (heap_alloc_new w _)]; rfl
    have hq2 : w2.cell? ⟨w.heap.size, 2, none⟩ = some (.slice Avalues x.values.length cvalues) := by rw [hc2 _ _ (by simp), cell_of_row _ _ _ _ _ _ (heap_alloc_new w _)]; rfl
    have hB2 : Below w.heap.size w w2 := (by repeat (first | with_reducible exact ext_refl _ | with_reducible assumption | with_reducible refine ext_alloc ?_ _ | with_reducible refine ext_trans ?_ (by assumption)))
    clear hc2 hf2
    go_wp2
    go_ret
    exact ⟨by rw [HF.out]; first | rfl | simp_all, hB2⟩
  | true =>
    have HK := Lib.hid hK
    by_cases hop : 1 ≤ x.op ∧ x.op ≤ 4
    · by_cases h2 : 2 < x.op
      · have hg := needR_has hK hop h2
        obtain ⟨hop1, hop2⟩ := hop
        by_cases h0 : x.values.length = 0
        · rw [decide_eq_true h0] at hg
          have HF := Lib.hid hg
          have H0 := Lib.hid h0
          clear hK hg h0
          go_enter Tryz.func160, Tryz.ntmps160
          go_wp2_with fail
          refine (LabelKeyOk_spec x.key _ hks).mono ?_
          rw [HK.out]
          rintro e w2 ⟨rfl, hb2⟩
          obtain ⟨hc2, hf2⟩ := bcell hb2
          have hz2 : w.heap.size < w2.heap.size := by have := hb2.size; simp at this; omega
          have hq1 : w2.cell? ⟨w.heap.size, 1, none⟩ = some (.int .i64 x.op) := by rw [hc2 _ _ (by simp), cell_of_row _ _ _ _ _ _ (heap_alloc_new w _)]; rfl
          have hq2 : w2.cell? ⟨w.heap.size, 2, none⟩ = some (.slice Avalues x.values.length cvalues) := by rw [hc2 _ _ (by simp), cell_of_row _ _ _ _ _ _ (heap_alloc_new w _)]; rfl
          have hB2 : Below w.heap.size w w2 := (by repeat (first | with_reducible exact ext_refl _ | with_reducible assumption | with_reducible refine ext_alloc ?_ _ | with_reducible refine ext_trans ?_ (by assumption)))
          clear hc2 hf2
          have h0i : ((x.values.length : Int) == 0) = true := by simp [H0.out]
          go_wp2
          go_ret
          exact ⟨by rw [HF.out]; first | rfl | simp_all, hB2⟩
        · rw [decide_eq_false h0] at hg
          have HF := Lib.hid hg
          have h0i : ((x.values.length : Int) == 0) = false := by rw [beq_eq_false_iff_ne]; omega
          clear hK hg
          go_enter Tryz.func160, Tryz.ntmps160
          go_wp2_with fail
          refine (LabelKeyOk_spec x.key _ hks).mono ?_
          rw [HK.out]
          rintro e w2 ⟨rfl, hb2⟩
          obtain ⟨hc2, hf2⟩ := bcell hb2
          have hz2 : w.heap.size < w2.heap.size := by have := hb2.size; simp at this; omega
          have hq1 : w2.cell? ⟨w.heap.size, 1, none⟩ = some (.int .i64 x.op) := by rw [hc2 _ _ (by simp), cell_of_row _ _ _ _ _ _ (heap_alloc_new w _)]; rfl
          have hq2 : w2.cell? ⟨w.heap.size, 2, none⟩ = some (.slice Avalues x.values.length cvalues) := by rw [hc2 _ _ (by simp), cell_of_row _ _ _ _ _ _ (heap_alloc_new w _)]; rfl
          have hB2 : Below w.heap.size w w2 := (by repeat (first | with_reducible exact ext_refl _ | with_reducible assumption | with_reducible refine ext_alloc ?_ _ | with_reducible refine ext_trans ?_ (by assumption)))
          clear hc2 hf2
          go_wp2
          go_ret
          exact ⟨by rw [HF.out]; first | rfl | simp_all, hB2⟩
      · have HI := Lib.hid (needR_in hK hop h2)
        obtain ⟨hop1, hop2⟩ := hop
        have h2' : x.op ≤ 2 := by omega
        clear hK
        go_enter Tryz.func160, Tryz.ntmps160
        go_wp2_with fail
        refine (LabelKeyOk_spec x.key _ hks).mono ?_
        rw [HK.out]
        rintro e w2 ⟨rfl, hb2⟩
        obtain ⟨hc2, hf2⟩ := bcell hb2
        have hz2 : w.heap.size < w2.heap.size := by have := hb2.size; simp at this; omega
        have hq1 : w2.cell? ⟨w.heap.size, 1, none⟩ = some (.int .i64 x.op) := by rw [hc2 _ _ (by simp), cell_of_row _ _ _ _ _ _ (heap_alloc_new w _)]; rfl
        have hq2 : w2.cell? ⟨w.heap.size, 2, none⟩ = some (.slice Avalues x.values.length cvalues) := by rw [hc2 _ _ (by simp), cell_of_row _ _ _ _ _ _ (heap_alloc_new w _)]; rfl
        have hB2 : Below w.heap.size w w2 := (by repeat (first | with_reducible exact ext_refl _ | with_reducible assumption | with_reducible refine ext_alloc ?_ _ | with_reducible refine ext_trans ?_ (by assumption)))
        clear hc2 hf2
        by_cases hm1 : 1 ≤ x.values.length
        · have hm1i : (1 : Int) ≤ x.values.length := by omega
          by_cases hm : (x.values.length : Int) ≤ 4
          · go_wp2
            go_loopw [3] (fun i wr => ∃ k : Nat, k ≤ x.values.length ∧ i = .int .i64 k ∧ Hid (∀ j, j < k → rowAt valR bl x.values j = true) ∧ wr.cell? ⟨w.heap.size, 2, none⟩ = some (.slice Avalues x.values.length cvalues) ∧ Below w.heap.size w wr) (fun i _ => x.values.length - (intOf i).toNat)
            case atStart => exact ⟨0, Nat.zero_le _, rfl, (fun j hj => by omega), hq2, hB2⟩
            case round =>
              obtain ⟨k, hk, rfl, hall, hbx, hbl⟩ := hrel
              have hbz : w.heap.size < wr.heap.size := World.block_lt_of_cell? wr _ hbx
              by_cases hlt : k < x.values.length
              · obtain rfl | ⟨j, rfl⟩ : k = 0 ∨ ∃ j, k = j + 1 := by cases k with | zero => exact .inl rfl | succ j => exact .inr ⟨j, rfl⟩
                · obtain ⟨b, o, ck, Fk, rfl, hbF, hbs, hr, hsub, hc⟩ := (Sl.ext (w' := wr) (A := Avalues) (c := cvalues) hvalues hbl).get hlt
                  obtain ⟨hck, hFk, hsz⟩ := hr
                  subst hck hFk
                  have q0 : wr.cell? ⟨b, o + 0, none⟩ = some (.string x.values[0]) := by have := hc 0 _ rfl; rwa [show o + (0 * Dat.size ByteArray + 0) = o + 0 from by show o + (0 * 1 + 0) = _; omega] at this
                  clear hc
                  simp only [Nat.add_zero] at q0
                  have hs1 := HSM.out x.values[0] (List.getElem_mem ..)
                  cases h1 : valR x.values[0]
                  all_goals
                    have hp := rowAt_zero (ok := valR) (less := bl) hlt
                    
                    rw [h1] at hp
                    try simp only [Bool.false_and, Bool.and_false, Bool.and_true, Bool.and_self] at hp
                    change rowAt valR bl x.values _ = _ at hp
                    have H1 := Lib.hid h1
                    first
                      | have HN := Lib.hid (upto_next hall.out hp)
                      | have HF := Lib.hid (show needR x = false by rw [HI.out, rowR_not (most := 4) hlt hp]; simp)
                    clear h1 hp
                    go_wp2_with fail
                    refine wp_region_grow _ (by kernel_rfl) (by kernel_rfl) (ext_refl _) ?_
                    repeat (first
                      | (apply inText_skip
                         case hw => rfl
                         simp only [Act.put, List.setIfInBounds_toArray, List.set_cons_zero, List.set_cons_succ])
                      | (apply inText_step
                         case hw => rfl
                         case h =>
                           intro wq hq
                           have hcq := (cls_cell hq).1
                           have hfq := (cls_cell hq).2
                           go_simp
                           first
                             | exact ⟨hq, rfl⟩
                             | exact ⟨cls_alloc hq _, rfl⟩
                             | ((refine (LabelValueOk_spec x.values[0] _ hs1).mono ?_; rw [H1.out]; rintro e w2 ⟨rfl, hb2⟩; exact ⟨rfl, cls_trans hq hb2⟩))
                             | (simp only [↓IntWalk.iteOmega]; exact ⟨hq, rfl⟩)
                         simp only [Act.put, List.setIfInBounds_toArray, List.set_cons_zero, List.set_cons_succ]))
                    refine inText_nil ?_
                    intro wn hn
                    replace hn := hn.out
                    go_wp2
                    first
                      | exact ⟨⟨0 + 1, by omega, by go_num, HN.out, ((bcell hn).1 _ _ hbz).trans hbx, ext_trans hbl hn⟩, by simp [intOf]; omega⟩
                      | (go_ret; exact ⟨by rw [HF.out]; rfl, ext_trans hbl hn⟩)
                      | (go_roundw
                         case rel => exact ⟨0 + 1, by omega, by go_num, HN.out, ((bcell hn).1 _ _ hbz).trans hbx, ext_trans hbl hn⟩
                         case measure => simp [intOf]; omega)
                · obtain ⟨b, o, ck, Fk, rfl, hbF, hbs, hr, hsub, hc⟩ := (Sl.ext (w' := wr) (A := Avalues) (c := cvalues) hvalues hbl).get hlt
                  obtain ⟨hck, hFk, hsz⟩ := hr
                  subst hck hFk
                  have q0 : wr.cell? ⟨b, o + (j + 1), none⟩ = some (.string x.values[j + 1]) := by have := hc 0 _ rfl; rwa [show o + ((j + 1) * Dat.size ByteArray + 0) = o + (j + 1) from by show o + ((j + 1) * 1 + 0) = _; omega] at this
                  clear hc
                  obtain ⟨b', o', ck', Fk', e, hbF', hbs', hr', hsub', hc'⟩ := Sl.get (Sl.ext (w' := wr) (c := cvalues) hvalues hbl) (show j < x.values.length by omega)
                  obtain ⟨hck2, hFk2, hsz2⟩ := hr'
                  subst hck2
                  obtain ⟨rfl, rfl⟩ : b' = b ∧ o' = o := by simpa using e.symm
                  clear e
                  have p0 : wr.cell? ⟨b', o' + j, none⟩ = some (.string x.values[j]) := by have := hc' 0 _ rfl; rwa [show o' + (j * Dat.size ByteArray + 0) = o' + j from by show o' + (j * 1 + 0) = _; omega] at this
                  clear hc'
                  have hwj : IntKind.i64.wrap (j : Int) = j := IntWalk.i64_in _ (by omega)
                  have hjl : j < x.values.length := by omega
                  have hs1 := HSM.out x.values[j + 1] (List.getElem_mem ..)
                  cases h1 : valR x.values[j + 1] <;> cases h3 : Op.bytesLess x.values[j].toList x.values[j + 1].toList
                  all_goals
                    have hp := rowAt_succ (ok := valR) (less := bl) hlt
                    unfold bl at hp
                    rw [h1, h3] at hp
                    try simp only [Bool.false_and, Bool.and_false, Bool.and_true, Bool.and_self] at hp
                    change rowAt valR bl x.values _ = _ at hp
                    have H1 := Lib.hid h1
                    first
                      | have HN := Lib.hid (upto_next hall.out hp)
                      | have HF := Lib.hid (show needR x = false by rw [HI.out, rowR_not (most := 4) hlt hp]; simp)
                    clear h1 hp
                    go_wp2_with fail
                    refine wp_region_grow _ (by kernel_rfl) (by kernel_rfl) (ext_refl _) ?_
                    repeat (first
                      | (apply inText_skip
                         case hw => rfl
                         simp only [Act.put, List.setIfInBounds_toArray, List.set_cons_zero, List.set_cons_succ])
                      | (apply inText_step
                         case hw => rfl
                         case h =>
                           intro wq hq
                           have hcq := (cls_cell hq).1
                           have hfq := (cls_cell hq).2
                           go_simp
                           first
                             | exact ⟨hq, rfl⟩
                             | exact ⟨cls_alloc hq _, rfl⟩
                             | ((refine (LabelValueOk_spec x.values[j + 1] _ hs1).mono ?_; rw [H1.out]; rintro e w2 ⟨rfl, hb2⟩; exact ⟨rfl, cls_trans hq hb2⟩))
                             | (simp only [↓IntWalk.iteOmega]; exact ⟨hq, rfl⟩)
                         simp only [Act.put, List.setIfInBounds_toArray, List.set_cons_zero, List.set_cons_succ]))
                    refine inText_nil ?_
                    intro wn hn
                    replace hn := hn.out
                    go_wp2
                    first
                      | exact ⟨⟨j + 1 + 1, by omega, by go_num, HN.out, ((bcell hn).1 _ _ hbz).trans hbx, ext_trans hbl hn⟩, by simp [intOf]; omega⟩
                      | (go_ret; exact ⟨by rw [HF.out]; rfl, ext_trans hbl hn⟩)
                      | (go_roundw
                         case rel => exact ⟨j + 1 + 1, by omega, by go_num, HN.out, ((bcell hn).1 _ _ hbz).trans hbx, ext_trans hbl hn⟩
                         case measure => simp [intOf]; omega)
              · have hkl : k = x.values.length := by omega
                subst hkl
                have HF := Lib.hid (show needR x = true by rw [HI.out, rowR_all hm hall.out]; simp [hm1])
                go_wp2
                go_ret
                exact ⟨by rw [HF.out]; first | rfl | simp_all, hbl⟩
          · have HF := Lib.hid (show needR x = false by rw [HI.out, rowR_len (ok := valR) (less := bl) hm]; simp)
            have hd5 : decide ((x.values.length : Int) ≤ 4) = false := by simp; omega
            go_wp2
            go_ret
            exact ⟨by rw [HF.out]; rfl, hB2⟩
        · have HF := Lib.hid (show needR x = false by rw [HI.out]; simp [hm1])
          have hm2 : (x.values.length : Int) < 1 := by omega
          go_wp2
          go_ret
          exact ⟨by rw [HF.out]; rfl, hB2⟩
    · have HF := Lib.hid (needR_op hop)
      clear hK
      by_cases h1 : x.op < 1
      · go_enter Tryz.func160, Tryz.ntmps160
        go_wp2_with fail
        refine (LabelKeyOk_spec x.key _ hks).mono ?_
        rw [HK.out]
        rintro e w2 ⟨rfl, hb2⟩
        obtain ⟨hc2, hf2⟩ := bcell hb2
        have hz2 : w.heap.size < w2.heap.size := by have := hb2.size; simp at this; omega
        have hq1 : w2.cell? ⟨w.heap.size, 1, none⟩ = some (.int .i64 x.op) := by rw [hc2 _ _ (by simp), cell_of_row _ _ _ _ _ _ (heap_alloc_new w _)]; rfl
        have hq2 : w2.cell? ⟨w.heap.size, 2, none⟩ = some (.slice Avalues x.values.length cvalues) := by rw [hc2 _ _ (by simp), cell_of_row _ _ _ _ _ _ (heap_alloc_new w _)]; rfl
        have hB2 : Below w.heap.size w w2 := (by repeat (first | with_reducible exact ext_refl _ | with_reducible assumption | with_reducible refine ext_alloc ?_ _ | with_reducible refine ext_trans ?_ (by assumption)))
        clear hc2 hf2
        go_wp2
        go_ret
        exact ⟨by rw [HF.out]; first | rfl | simp_all, hB2⟩
      · have h1' : 1 ≤ x.op := by omega
        have h4' : 4 < x.op := by omega
        have hd4 : decide (x.op ≤ 4) = false := by simp; omega
        go_enter Tryz.func160, Tryz.ntmps160
        go_wp2_with fail
        refine (LabelKeyOk_spec x.key _ hks).mono ?_
        rw [HK.out]
        rintro e w2 ⟨rfl, hb2⟩
        obtain ⟨hc2, hf2⟩ := bcell hb2
        have hz2 : w.heap.size < w2.heap.size := by have := hb2.size; simp at this; omega
        have hq1 : w2.cell? ⟨w.heap.size, 1, none⟩ = some (.int .i64 x.op) := by rw [hc2 _ _ (by simp), cell_of_row _ _ _ _ _ _ (heap_alloc_new w _)]; rfl
        have hq2 : w2.cell? ⟨w.heap.size, 2, none⟩ = some (.slice Avalues x.values.length cvalues) := by rw [hc2 _ _ (by simp), cell_of_row _ _ _ _ _ _ (heap_alloc_new w _)]; rfl
        have hB2 : Below w.heap.size w w2 := (by repeat (first | with_reducible exact ext_refl _ | with_reducible assumption | with_reducible refine ext_alloc ?_ _ | with_reducible refine ext_trans ?_ (by assumption)))
        clear hc2 hf2
        go_wp2
        go_ret
        exact ⟨by rw [HF.out]; first | rfl | simp_all, hB2⟩

end Go.Proofs.YtjoclfenghenjaaGreat
