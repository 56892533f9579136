/- The reference's NeedLess. No condition. -/
import Derived.Test.YtjoclfenghenjaaGreatNeedCmp
namespace Go.Proofs.YtjoclfenghenjaaGreat
open Go.ChangeShapes Go.WideShapes Go.ChangeAt Go.RowKit
set_option linter.unusedVariables false
set_option linter.unusedSimpArgs false

theorem needLess_key {x y : Need} (h : (x.key.toList == y.key.toList) = false) : needLess x y = Op.bytesLess x.key.toList y.key.toList := by
  have h1 : Lib.compareBytes x.key.data.toList y.key.data.toList ≠ 0 := fun e => by
    rw [cb_eq, ← ByteArray.toList_eq, ← ByteArray.toList_eq] at e
    simp [e] at h
  unfold needLess ncmp
  simp only [orI, if_neg h1]
  rw [Bool.eq_iff_iff, decide_eq_true_eq, cb_lt, ByteArray.toList_eq, ByteArray.toList_eq]
theorem needLess_op {x y : Need} (hk : (x.key.toList == y.key.toList) = true) (h : x.op ≠ y.op) : needLess x y = decide (x.op < y.op) := by
  have h0 : Lib.compareBytes x.key.data.toList y.key.data.toList = 0 := by rw [cb_eq, ← ByteArray.toList_eq, ← ByteArray.toList_eq]; simpa using hk
  have h1 : Lib.compareInt x.op y.op ≠ 0 := by unfold Lib.compareInt; repeat' split <;> omega
  unfold needLess ncmp
  simp only [orI, if_pos h0, if_neg h1]
  unfold Lib.compareInt
  rw [Bool.eq_iff_iff, decide_eq_true_eq, decide_eq_true_eq]
  repeat' split
  all_goals omega
theorem needLess_values {x y : Need} (hk : (x.key.toList == y.key.toList) = true) (h : x.op = y.op) : needLess x y = decide (cmpVals x.values y.values < 0) := by
  have h0 : Lib.compareBytes x.key.data.toList y.key.data.toList = 0 := by rw [cb_eq, ← ByteArray.toList_eq, ← ByteArray.toList_eq]; simpa using hk
  have h1 : Lib.compareInt x.op y.op = 0 := by unfold Lib.compareInt; repeat' split <;> omega
  unfold needLess ncmp
  simp only [orI, if_pos h0, if_pos h1]
  by_cases h2 : cmpVals x.values y.values = 0
  · rw [if_pos h2, h2]
  · rw [if_neg h2]
set_option maxRecDepth 100000 in
set_option maxHeartbeats 2000000 in
theorem NeedLess_spec (x y : Need) (cs ds : List Value) (F G : List Nat) (w : World) (h : rd w x cs F) (h' : rd w y ds G) (hl : (x.values.length : Int) ≤ 1048576) (hl' : (y.values.length : Int) ≤ 1048576) :
    Calls Tryz.prog 161 #[.agg cs.toArray, .agg ds.toArray] w fun e w' => e = .returned (.bool (needLess x y)) ∧ Below w.heap.size w w' := by
  obtain ⟨Avalues1, cvalues1, Fvalues1, hck, hF1, hkey1, hop1, hvalues1⟩ := rd_Need h
  obtain ⟨Avalues2, cvalues2, Fvalues2, hck2, hF2, hkey2, hop2, hvalues2⟩ := rd_Need h'
  subst hck hck2
  cases h1 : (x.key.toList == y.key.toList) with
  | false =>
    rw [needLess_key h1]
    go_enter Tryz.func161, Tryz.ntmps161
    go_wp2
    all_goals
      go_ret
      exact ⟨by first | rfl | simp_all, (by repeat (first | with_reducible exact ext_refl _ | with_reducible assumption | with_reducible refine ext_alloc ?_ _ | with_reducible refine ext_trans ?_ (by assumption)))⟩
  | true =>
    by_cases h3 : x.op = y.op
    · have hfin := needLess_values h1 h3
      have HF := Lib.hid hfin
      clear hfin
      have h4 : (x.op == y.op) = true := by simp [h3]
      go_enter Tryz.func161, Tryz.ntmps161
      go_wp2
      go_loopw [5] (fun i wr => ∃ k : Nat, k ≤ x.values.length ∧ i = .int .i64 k ∧ Hid (k ≤ y.values.length) ∧ Hid (cmpVals x.values y.values = cmpVals (x.values.drop k) (y.values.drop k)) ∧ wr.cell? ⟨w.heap.size, 2, none⟩ = some (.slice Avalues1 x.values.length cvalues1) ∧ wr.cell? ⟨w.heap.size + 1, 2, none⟩ = some (.slice Avalues2 y.values.length cvalues2) ∧ Below w.heap.size w wr) (fun i _ => x.values.length - (intOf i).toNat)
      case atStart =>
        refine ⟨0, Nat.zero_le _, rfl, Nat.zero_le _, rfl, ?_, ?_, (by repeat (first | with_reducible exact ext_refl _ | with_reducible assumption | with_reducible refine ext_alloc ?_ _ | with_reducible refine ext_trans ?_ (by assumption)))⟩
        · rw [World.cell?_of_block (heap_alloc_old _ _ (by simp)), cell_of_row _ _ _ _ _ _ (heap_alloc_new w _)]; rfl
        · simp
      case round =>
        obtain ⟨k, hk, rfl, HK, HO, hx1, hx2, hbl⟩ := hrel
        have hky := HK.out
        have hz1 := World.block_lt_of_cell? wr _ hx1
        have hz2 := World.block_lt_of_cell? wr _ hx2
        simp only at hz1 hz2
        by_cases hlt : k < x.values.length
        · by_cases hly : k < y.values.length
          · obtain ⟨b, o, ck, Fk, rfl, hbF, hbs, hr, hsub, hc⟩ := (Sl.ext (w' := wr) (A := Avalues1) (c := cvalues1) hvalues1 hbl).get hlt
            obtain ⟨hck, hFk, hsz⟩ := hr
            subst hck hFk
            have q0 : wr.cell? ⟨b, o + k, none⟩ = some (.string x.values[k]) := by have := hc 0 _ rfl; rwa [show o + (k * Dat.size ByteArray + 0) = o + k from by show o + (k * 1 + 0) = _; omega] at this
            clear hc
            obtain ⟨b2, o2, ck2, Fk2, rfl, hbF2, hbs2, hr2, hsub2, hc2⟩ := (Sl.ext (w' := wr) (A := Avalues2) (c := cvalues2) hvalues2 hbl).get hly
            obtain ⟨hck, hFk, hsz2⟩ := hr2
            subst hck hFk
            have p0 : wr.cell? ⟨b2, o2 + k, none⟩ = some (.string y.values[k]) := by have := hc2 0 _ rfl; rwa [show o2 + (k * Dat.size ByteArray + 0) = o2 + k from by show o2 + (k * 1 + 0) = _; omega] at this
            clear hc2
            have hd := cmpVals_drop hlt hly
            cases he : (x.values[k].toList == y.values[k].toList) with
            | true =>
              have h0 : Lib.compareBytes x.values[k].data.toList y.values[k].data.toList = 0 := by rw [cb_eq, ← ByteArray.toList_eq, ← ByteArray.toList_eq]; simpa using he
              rw [if_pos h0] at hd
              have HN := Lib.hid (HO.out.trans hd)
              clear hd h0
              go_wp2_with fail
              refine wp_region_grow _ (by kernel_rfl) (by kernel_rfl) (ext_refl _) ?_
              repeat (first
                | (apply inText_skip
                   case hw => rfl
                   simp only [Act.put, List.setIfInBounds_toArray, List.set_cons_zero, List.set_cons_succ])
                | (apply inText_step
                   case hw => rfl
                   case h =>
                     intro wq hq
                     have hcq := (cls_cell hq).1
                     have hfq := (cls_cell hq).2
                     go_simp
                     first
                       | exact ⟨hq, rfl⟩
                       | exact ⟨cls_alloc hq _, rfl⟩
                       | (fail)
                       | (simp only [↓IntWalk.iteOmega]; exact ⟨hq, rfl⟩)
                   simp only [Act.put, List.setIfInBounds_toArray, List.set_cons_zero, List.set_cons_succ]))
              refine inText_nil ?_
              intro wn hn
              replace hn := hn.out
              replace hx1 := ((bcell hn).1 _ _ hz1).trans hx1
              replace hx2 := ((bcell hn).1 _ _ hz2).trans hx2
              replace q0 := ((bcell hn).1 _ _ hbs).trans q0
              replace p0 := ((bcell hn).1 _ _ hbs2).trans p0
              replace hz1 := Nat.lt_of_lt_of_le hz1 hn.size
              replace hz2 := Nat.lt_of_lt_of_le hz2 hn.size
              replace hbs := Nat.lt_of_lt_of_le hbs hn.size
              replace hbs2 := Nat.lt_of_lt_of_le hbs2 hn.size
              replace hbl := ext_trans hbl hn
              go_wp2
              exact ⟨⟨k + 1, by omega, by go_num, by show k + 1 ≤ y.values.length; omega, HN.out, hx1, hx2, hbl⟩, by simp [intOf]; omega⟩
            | false =>
              have h0 : Lib.compareBytes x.values[k].data.toList y.values[k].data.toList ≠ 0 := fun e => by
                rw [cb_eq, ← ByteArray.toList_eq, ← ByteArray.toList_eq] at e
                simp [e] at he
              rw [if_neg h0] at hd
              have hg : needLess x y = Op.bytesLess x.values[k].toList y.values[k].toList := by
                rw [HF.out, HO.out, hd, Bool.eq_iff_iff, decide_eq_true_eq, cb_lt, ByteArray.toList_eq, ByteArray.toList_eq]
              have HG := Lib.hid hg
              clear hd h0 hg
              go_wp2_with fail
              refine wp_region_grow _ (by kernel_rfl) (by kernel_rfl) (ext_refl _) ?_
              repeat (first
                | (apply inText_skip
                   case hw => rfl
                   simp only [Act.put, List.setIfInBounds_toArray, List.set_cons_zero, List.set_cons_succ])
                | (apply inText_step
                   case hw => rfl
                   case h =>
                     intro wq hq
                     have hcq := (cls_cell hq).1
                     have hfq := (cls_cell hq).2
                     go_simp
                     first
                       | exact ⟨hq, rfl⟩
                       | exact ⟨cls_alloc hq _, rfl⟩
                       | (fail)
                       | (simp only [↓IntWalk.iteOmega]; exact ⟨hq, rfl⟩)
                   simp only [Act.put, List.setIfInBounds_toArray, List.set_cons_zero, List.set_cons_succ]))
              refine inText_nil ?_
              intro wn hn
              replace hn := hn.out
              replace hx1 := ((bcell hn).1 _ _ hz1).trans hx1
              replace hx2 := ((bcell hn).1 _ _ hz2).trans hx2
              replace q0 := ((bcell hn).1 _ _ hbs).trans q0
              replace p0 := ((bcell hn).1 _ _ hbs2).trans p0
              replace hz1 := Nat.lt_of_lt_of_le hz1 hn.size
              replace hz2 := Nat.lt_of_lt_of_le hz2 hn.size
              replace hbs := Nat.lt_of_lt_of_le hbs hn.size
              replace hbs2 := Nat.lt_of_lt_of_le hbs2 hn.size
              replace hbl := ext_trans hbl hn
              clear hn
              go_wp2_with fail
              first
                | (go_ret; exact ⟨by rw [HG.out]; first | rfl | simp_all, hbl⟩)
                | (refine wp_region_grow _ (by kernel_rfl) (by kernel_rfl) (ext_refl _) ?_
                   repeat (first
                     | (apply inText_skip
                        case hw => rfl
                        simp only [Act.put, List.setIfInBounds_toArray, List.set_cons_zero, List.set_cons_succ])
                     | (apply inText_step
                        case hw => rfl
                        case h =>
                          intro wq hq
                          have hcq := (cls_cell hq).1
                          have hfq := (cls_cell hq).2
                          go_simp
                          first
                            | exact ⟨hq, rfl⟩
                            | exact ⟨cls_alloc hq _, rfl⟩
                            | (fail)
                            | (simp only [↓IntWalk.iteOmega]; exact ⟨hq, rfl⟩)
                        simp only [Act.put, List.setIfInBounds_toArray, List.set_cons_zero, List.set_cons_succ]))
                   refine inText_nil ?_
                   intro wn2 hn2
                   replace hn2 := hn2.out
                   go_wp2
                   go_ret
                   exact ⟨by rw [HG.out]; first | rfl | simp_all, ext_trans hbl hn2⟩)
          · have hg : needLess x y = false := by rw [HF.out, HO.out, cmpVals_long hlt (by omega)]; rfl
            have HG := Lib.hid hg
            have hli : ¬ (x.values.length : Int) < y.values.length := by omega
            clear hg
            go_wp2
            go_ret
            exact ⟨by rw [HG.out]; first | rfl | simp_all, hbl⟩
        · have hkl : k = x.values.length := by omega
          subst hkl
          have he := HO.out.trans (cmpVals_end (Nat.le_refl _))
          by_cases hly : x.values.length < y.values.length
          · rw [if_pos hly] at he
            have hg : needLess x y = true := by rw [HF.out, he]; rfl
            have HG := Lib.hid hg
            have hli : (x.values.length : Int) < y.values.length := by omega
            clear hg he
            go_wp2
            go_ret
            exact ⟨by rw [HG.out]; first | rfl | simp_all, hbl⟩
          · rw [if_neg hly] at he
            have hg : needLess x y = false := by rw [HF.out, he]; rfl
            have HG := Lib.hid hg
            have hli : ¬ (x.values.length : Int) < y.values.length := by omega
            clear hg he
            go_wp2
            go_ret
            exact ⟨by rw [HG.out]; first | rfl | simp_all, hbl⟩
    · rw [needLess_op h1 h3]
      have h4 : (x.op == y.op) = false := by simp [h3]
      go_enter Tryz.func161, Tryz.ntmps161
      go_wp2
      all_goals
        go_ret
        exact ⟨by first | rfl | simp_all, (by repeat (first | with_reducible exact ext_refl _ | with_reducible assumption | with_reducible refine ext_alloc ?_ _ | with_reducible refine ext_trans ?_ (by assumption)))⟩

end Go.Proofs.YtjoclfenghenjaaGreat
