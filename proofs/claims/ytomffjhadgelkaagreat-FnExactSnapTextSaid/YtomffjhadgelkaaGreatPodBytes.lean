/- PodBytes, of the program and of the reference. No condition. -/
import Derived.Test.YtomffjhadgelkaaGreatPodBytesP
namespace Go.Proofs.YtomffjhadgelkaaGreat
open Go.ChangeShapes Go.WideShapes Go.ChangeAt Go.RowKit
set_option linter.unusedVariables false
set_option linter.unusedSimpArgs false
theorem l26Flag_any (b : Bool) (w : World) : Calls Tryz.prog 82 #[.bool b] w fun e w' => e = .returned (.int .i64 (if b then 1 else 0)) ∧ w' = w := by
  cases b
  all_goals
    go_enter Tryz.func82, Tryz.ntmps82
    go_wp2
    go_ret
    exact ⟨rfl, rfl⟩
set_option maxRecDepth 100000 in
set_option maxHeartbeats 4000000 in
theorem PodBytes_impl (x : Pod) (cs : List Value) (F : List Nat) (w : World) (h : rd w x cs F) (hw : (x.wt : Int) ≤ 1048576) :
    Calls Tryz.prog 52 #[.agg cs.toArray] w fun e w' => e = .returned (.string (podBytes x)) ∧ Below w.heap.size w w' := by
  have hwx : x.wt = x.name.size + wtL Label.wt x.labels + wtL Need.wt x.needs + wtL Tolerance.wt x.tolerances := rfl
  obtain ⟨hll, hls⟩ := labels_small (xs := x.labels) (by omega)
  obtain ⟨hnl, hnds⟩ := needs_small (xs := x.needs) (by omega)
  obtain ⟨htl, hts⟩ := tols_small (xs := x.tolerances) (by omega)
  have hns : (x.name.size : Int) ≤ 1048576 := by omega
  have HLS := Lib.hid hls
  have HNS := Lib.hid hnds
  have HTS := Lib.hid hts
  clear hls hts hnds
  have hr := h
  obtain ⟨Alabels, clabels, Flabels, Aneeds, cneeds, Fneeds, Atolerances, ctolerances, Ftolerances, hck, hF, hname, hlabels, hcpu, hmem, hrank, hneeds, htolerances⟩ := rd_Pod hr
  subst hck
  clear hr hF
  cases hR : podR x with
  | false =>
    have hfin : podBytes x = ⟨#[]⟩ := by unfold podBytes; rw [hR]; rfl
    have HF := Lib.hid hfin
    have HR := Lib.hid hR
    clear hfin hR
    go_enter Tryz.func52, Tryz.ntmps52
    go_wp2_with fail
    refine (PodOk_impl x _ _ _ (rd_extT h (by repeat (first | with_reducible exact ext_refl _ | with_reducible assumption | with_reducible refine ext_alloc ?_ _ | with_reducible refine ext_trans ?_ (by assumption)))) hw).mono ?_
    rw [HR.out]
    rintro e w2 ⟨rfl, hb2⟩
    go_wp2
    go_ret
    exact ⟨by rw [HF.out]; rfl, (by repeat (first | with_reducible exact ext_refl _ | with_reducible assumption | with_reducible refine ext_alloc ?_ _ | with_reducible refine ext_trans ?_ (by assumption)))⟩
  | true =>
    have hfin : podBytes x = podTols x x.tolerances.length := by unfold podBytes; rw [hR]; rfl
    have HF := Lib.hid hfin
    have HR := Lib.hid hR
    clear hfin hR
    go_enter Tryz.func52, Tryz.ntmps52
    go_wp2_with fail
    refine (PodOk_impl x _ _ _ (rd_extT h (by repeat (first | with_reducible exact ext_refl _ | with_reducible assumption | with_reducible refine ext_alloc ?_ _ | with_reducible refine ext_trans ?_ (by assumption)))) hw).mono ?_
    rw [HR.out]
    rintro e w2 ⟨rfl, hb2⟩
    obtain ⟨hc2, hf2⟩ := bcell hb2; have hz2 : w.heap.size < w2.heap.size := (by have := hb2.size; (try simp at this); omega)
    have hq1 := shortText_size x.name (by omega)
    have hq2 := labelsBytes_size x.labels hll HLS.out
    have hq3 := varText_size x.cpu hcpu
    have hq4 := varText_size x.mem hmem
    have hq5 := varText_size x.rank hrank
    have hlI : I64 (x.needs.length : Int) := by unfold I64; omega
    have hlT : I64 (x.tolerances.length : Int) := by unfold I64; omega
    have hq6 := varText_size x.needs.length hlI
    have hq7 := varText_size x.tolerances.length hlT
    have hb5 : w2.cell? ⟨w.heap.size, 5, none⟩ = some (.slice Aneeds x.needs.length cneeds) := by
      rw [hc2 _ _ (by simp), cell_of_row _ _ _ _ _ _ (heap_alloc_new w _)]; rfl
    have hb6 : w2.cell? ⟨w.heap.size, 6, none⟩ = some (.slice Atolerances x.tolerances.length ctolerances) := by
      rw [hc2 _ _ (by simp), cell_of_row _ _ _ _ _ _ (heap_alloc_new w _)]; rfl
    have hB2 : Below w.heap.size w w2 := (by repeat (first | with_reducible exact ext_refl _ | with_reducible assumption | with_reducible refine ext_alloc ?_ _ | with_reducible refine ext_trans ?_ (by assumption)))
    have hNI := Lib.hid hneeds.need_I64
    have hTI := Lib.hid htolerances.tol_I64
    have hhs : (podHead x).size ≤ 2199046980000 := by
      unfold podHead
      simp only [ByteArray.size_append]
      omega
    go_wp2_with fail
    refine wp_region_grow w2 (by kernel_rfl) (by kernel_rfl) (ext_refl _) ?_
    repeat (first
      | (apply inText_skip
         case hw => rfl
         simp only [Act.put, List.setIfInBounds_toArray, List.set_cons_zero, List.set_cons_succ])
      | (apply inText_step
         case hw => rfl
         case h =>
           intro wq hq
           have hcq := (cls_cell hq).1
           have hfq := (cls_cell hq).2
           go_simp
           first
             | exact ⟨hq, rfl⟩
             | exact ⟨cls_alloc hq _, rfl⟩
             | (first | (refine (ShortText_impl x.name _ (by omega)).mono ?_; rintro e wz ⟨rfl, hbz0⟩; exact ⟨rfl, cls_trans hq hbz0⟩) | (refine (LabelsBytes_impl x.labels _ _ _ _ (hlabels.ext (ext_trans hB2 hq)) hll HLS.out).mono ?_; rintro e wz ⟨rfl, hbz0⟩; exact ⟨rfl, cls_trans hq hbz0⟩) | (refine (VarText_impl _ _ (by first | assumption | (unfold I64; omega))).mono ?_; rintro e wz ⟨rfl, hbz0⟩; exact ⟨rfl, cls_trans hq hbz0⟩))
             | (simp only [↓IntWalk.iteOmega]; exact ⟨hq, rfl⟩)
         simp only [Act.put, List.setIfInBounds_toArray, List.set_cons_zero, List.set_cons_succ]))
    refine inText_nil ?_
    intro wn hn
    replace hn := hn.out
    have hbn5 := ((bcell hn).1 _ 5 hz2).trans hb5
    have hbn6 := ((bcell hn).1 _ 6 hz2).trans hb6
    go_wp2_with fail
    go_loopw [3, 41] (fun s i wr => ∃ k : Nat, k ≤ x.needs.length ∧ i = .int .i64 k ∧ s = .string (podNeeds x k) ∧ wr.cell? ⟨w.heap.size, 5, none⟩ = some (.slice Aneeds x.needs.length cneeds) ∧ wr.cell? ⟨w.heap.size, 6, none⟩ = some (.slice Atolerances x.tolerances.length ctolerances) ∧ Below w.heap.size w wr) (fun _ i _ => x.needs.length - (intOf i).toNat)
    case atStart => exact ⟨0, Nat.zero_le _, rfl, rfl, hbn5, hbn6, ext_trans hB2 hn⟩
    case round =>
      obtain ⟨k, hk, rfl, rfl, hx5, hx6, hbl⟩ := hrel
      have hbz : w.heap.size < wr.heap.size := World.block_lt_of_cell? wr _ hx5
      by_cases hlt : k < x.needs.length
      · obtain ⟨b, o, ck, Fk, rfl, hbF, hbs, hr, hsub, hc⟩ := (Sl.ext (w' := wr) (A := Aneeds) (c := cneeds) hneeds hbl).get hlt
        obtain ⟨Avalues3, cvalues3, Fvalues3, hck, hFk, hkey3, hop3, hvalues3⟩ := rd_Need hr
        subst hck
        have q0 : wr.cell? ⟨b, o + k * 3, none⟩ = some (.string x.needs[k].key) := by exact hc 0 _ rfl
        have q1 : wr.cell? ⟨b, o + k * 3 + 1, none⟩ = some (.int .i64 x.needs[k].op) := by rw [Nat.add_assoc]; exact hc 1 _ rfl
        have q2 : wr.cell? ⟨b, o + k * 3 + 2, none⟩ = some (.slice Avalues3 x.needs[k].values.length cvalues3) := by rw [Nat.add_assoc]; exact hc 2 _ rfl
        clear hc
        obtain ⟨hs1, hs2, hs3⟩ := HNS.out x.needs[k] (List.getElem_mem ..)
        have hp1 := shortText_size x.needs[k].key (by omega)
        have hp2 := varText_size x.needs[k].op hop3
        have hlI3 : I64 (x.needs[k].values.length : Int) := by unfold I64; omega
        have hp3 := varText_size x.needs[k].values.length hlI3
        have hbs0 := podNeeds_size x HNS.out hNI.out k hk
        have hkk : k * 1099523200000 ≤ 1048576 * 1099523200000 := Nat.mul_le_mul_right _ (by omega)
        have HNX := Lib.hid (podNeeds_next hlt)
        have HVS := Lib.hid (valsTo_size hs1 hop3 hs2 hs3)
        have HS3 := Lib.hid hs3
        clear hs3
        generalize hS : podNeeds x k = S0 at HNX hbs0 ⊢
        obtain ⟨wo, hwo⟩ : ∃ wo, wo = wr := ⟨_, rfl⟩
        subst hwo
        go_wp2_with fail
        refine wp_region_grow _ (by kernel_rfl) (by kernel_rfl) (ext_refl _) ?_
        repeat (first
          | (apply inText_skip
             case hw => rfl
             simp only [Act.put, List.setIfInBounds_toArray, List.set_cons_zero, List.set_cons_succ])
          | (apply inText_step
             case hw => rfl
             case h =>
               intro wq hq
               have hcq := (cls_cell hq).1
               have hfq := (cls_cell hq).2
               go_simp
               first
                 | exact ⟨hq, rfl⟩
                 | exact ⟨cls_alloc hq _, rfl⟩
                 | (first | (refine (ShortText_impl _ _ (by omega)).mono ?_; rintro e wz ⟨rfl, hbz0⟩; exact ⟨rfl, cls_trans hq hbz0⟩) | (refine (VarText_impl _ _ (by first | assumption | (unfold I64; omega))).mono ?_; rintro e wz ⟨rfl, hbz0⟩; exact ⟨rfl, cls_trans hq hbz0⟩))
                 | (simp only [↓IntWalk.iteOmega]; exact ⟨hq, rfl⟩)
             simp only [Act.put, List.setIfInBounds_toArray, List.set_cons_zero, List.set_cons_succ]))
        refine inText_nil ?_
        intro wn3 hn3
        replace hn3 := hn3.out
        have hbo : Below wo.heap.size wo (wo.alloc (.cells #[.string x.needs[k].key, .int .i64 x.needs[k].op, .slice Avalues3 x.needs[k].values.length cvalues3] 112)) := ext_alloc (ext_refl _) _
        have hnb : wn3.cell? ⟨wo.heap.size, 2, none⟩ = some (.slice Avalues3 x.needs[k].values.length cvalues3) := by rw [(bcell hn3).1 _ _ (by simp), cell_of_row _ _ _ _ _ _ (heap_alloc_new wo _)]; rfl
        have hw3 : Below wo.heap.size wo wn3 := ext_trans hbo hn3
        have hx53 := ((bcell hw3).1 _ 5 hbz).trans hx5
        have hx63 := ((bcell hw3).1 _ 6 hbz).trans hx6
        have hassoc : S0 ++ (shortText x.needs[k].key ++ varText x.needs[k].op ++ varText x.needs[k].values.length) = S0 ++ valsTo x.needs[k] 0 := rfl
        have hassoc2 : S0 ++ shortText x.needs[k].key ++ varText x.needs[k].op ++ varText x.needs[k].values.length = S0 ++ valsTo x.needs[k] 0 := by rw [valsTo_zero]; unfold needBytes0; simp only [ByteArray.append_assoc]
        have HAS := Lib.hid hassoc
        have HAS2 := Lib.hid hassoc2
        clear hassoc hassoc2
        go_wp2_with fail
        go_loopw [3, 62] (fun s i wi => ∃ j : Nat, j ≤ x.needs[k].values.length ∧ i = .int .i64 j ∧ s = .string (S0 ++ valsTo x.needs[k] j) ∧ wi.cell? ⟨wo.heap.size, 2, none⟩ = some (.slice Avalues3 x.needs[k].values.length cvalues3) ∧ wi.cell? ⟨w.heap.size, 5, none⟩ = some (.slice (some ⟨b, o, none⟩) x.needs.length cneeds) ∧ wi.cell? ⟨w.heap.size, 6, none⟩ = some (.slice Atolerances x.tolerances.length ctolerances) ∧ Below wo.heap.size wo wi) (fun _ i _ => x.needs[k].values.length - (intOf i).toNat)
        case atStart => exact ⟨0, Nat.zero_le _, rfl, by first | rw [HAS.out] | rw [HAS2.out], hnb, hx53, hx63, hw3⟩
        case round =>
          obtain ⟨j, hj, rfl, rfl, hvb, hx54, hx64, hbi⟩ := hrel
          have hvz : wo.heap.size < wr.heap.size := World.block_lt_of_cell? wr _ hvb
          have hbz4 : w.heap.size < wr.heap.size := World.block_lt_of_cell? wr _ hx54
          have hvs := HVS.out j hj
          have hjj : j * 1048586 ≤ 1048576 * 1048586 := Nat.mul_le_mul_right _ (by omega)
          by_cases hjl : j < x.needs[k].values.length
          · obtain ⟨b2, o2, ck2, Fk2, rfl, hbF2, hbs2, hr2, hsub2, hc2'⟩ := (Sl.ext (w' := wr) (A := Avalues3) (c := cvalues3) hvalues3 hbi).get hjl
            obtain ⟨hck, hFk2, hsz2⟩ := hr2
            subst hck hFk2
            have p0 : wr.cell? ⟨b2, o2 + j, none⟩ = some (.string x.needs[k].values[j]) := by have := hc2' 0 _ rfl; rwa [show o2 + (j * Dat.size ByteArray + 0) = o2 + j from by show o2 + (j * 1 + 0) = _; omega] at this
            clear hc2'
            have hv1 := HS3.out x.needs[k].values[j] (List.getElem_mem ..)
            have hv2 := shortText_size x.needs[k].values[j] (by omega)
            have HVN := Lib.hid (valsTo_next hjl)
            generalize hV : valsTo x.needs[k] j = V0 at HVN hvs ⊢
            have hsum : ((S0 ++ V0).size : Int) = S0.size + V0.size := by rw [ByteArray.size_append]; omega
            go_wp2_with fail
            first
              | (refine wp_region_grow _ (by kernel_rfl) (by kernel_rfl) (ext_refl _) ?_
                 repeat (first
                   | (apply inText_skip
                      case hw => rfl
                      simp only [Act.put, List.setIfInBounds_toArray, List.set_cons_zero, List.set_cons_succ])
                   | (apply inText_step
                      case hw => rfl
                      case h =>
                        intro wq hq
                        have hcq := (cls_cell hq).1
                        have hfq := (cls_cell hq).2
                        go_simp
                        first
                          | exact ⟨hq, rfl⟩
                          | exact ⟨cls_alloc hq _, rfl⟩
                          | (first | (refine (ShortText_impl _ _ (by omega)).mono ?_; rintro e wz ⟨rfl, hbz0⟩; exact ⟨rfl, cls_trans hq hbz0⟩) | (refine (VarText_impl _ _ (by first | assumption | (unfold I64; omega))).mono ?_; rintro e wz ⟨rfl, hbz0⟩; exact ⟨rfl, cls_trans hq hbz0⟩))
                          | (simp only [↓IntWalk.iteOmega]; exact ⟨hq, rfl⟩)
                      simp only [Act.put, List.setIfInBounds_toArray, List.set_cons_zero, List.set_cons_succ]))
                 refine inText_nil ?_
                 intro wn4 hn4
                 replace hn4 := hn4.out
                 go_wp2
                 exact ⟨⟨j + 1, by omega, by go_num, by rw [HVN.out]; simp only [ByteArray.append_assoc], ((bcell hn4).1 _ _ hvz).trans hvb, ((bcell hn4).1 _ _ hbz4).trans hx54, ((bcell hn4).1 _ _ hbz4).trans hx64, ext_trans hbi hn4⟩, by simp [intOf]; omega⟩)
              | (refine (ShortText_impl _ _ (by omega)).mono ?_
                 rintro e wn4 ⟨rfl, hn4⟩
                 obtain ⟨hc4, hf4⟩ := bcell hn4
                 go_wp2
                 exact ⟨⟨j + 1, by omega, by go_num, by rw [HVN.out]; simp only [ByteArray.append_assoc], ((bcell hn4).1 _ _ hvz).trans hvb, ((bcell hn4).1 _ _ hbz4).trans hx54, ((bcell hn4).1 _ _ hbz4).trans hx64, ext_trans hbi hn4⟩, by simp [intOf]; omega⟩)
          · have hjo : j = x.needs[k].values.length := by omega
            subst hjo
            go_wp2
            exact ⟨⟨k + 1, by omega, by go_num, by rw [HNX.out]; rfl, hx54, hx64, ext_trans hbl hbi⟩, by simp [intOf]; omega⟩
      · have hkl : k = x.needs.length := by omega
        subst hkl
        have hbs0 := podNeeds_size x HNS.out hNI.out x.needs.length (Nat.le_refl _)
        have hkk : x.needs.length * 1099523200000 ≤ 1048576 * 1099523200000 := Nat.mul_le_mul_right _ (by omega)
        have hml : (podMid x).size ≤ (podNeeds x x.needs.length).size + 10 := by unfold podMid; rw [ByteArray.size_append]; omega
        have HM := Lib.hid (show podMid x = podNeeds x x.needs.length ++ varText x.tolerances.length from rfl)
        generalize hS : podNeeds x x.needs.length = S0 at HM hbs0 hml ⊢
        obtain ⟨wo, hwo⟩ : ∃ wo, wo = wr := ⟨_, rfl⟩
        subst hwo
        go_wp2_with fail
        refine (VarText_impl _ _ hlT).mono ?_
        rintro e wn5 ⟨rfl, hn5⟩
        have hx55 := ((bcell hn5).1 _ 5 hbz).trans hx5
        have hx65 := ((bcell hn5).1 _ 6 hbz).trans hx6
        have hB5 := ext_trans hbl hn5
        go_wp2_with fail
        go_loopw [3, 81] (fun s i wr => ∃ k : Nat, k ≤ x.tolerances.length ∧ i = .int .i64 k ∧ s = .string (podTols x k) ∧ wr.cell? ⟨w.heap.size, 5, none⟩ = some (.slice Aneeds x.needs.length cneeds) ∧ wr.cell? ⟨w.heap.size, 6, none⟩ = some (.slice Atolerances x.tolerances.length ctolerances) ∧ Below w.heap.size w wr) (fun _ i _ => x.tolerances.length - (intOf i).toNat)
        case atStart => exact ⟨0, Nat.zero_le _, rfl, by rw [← HM.out]; rfl, hx55, hx65, hB5⟩
        case round =>
          obtain ⟨k, hk, rfl, rfl, hx5, hx6, hbl⟩ := hrel
          have hbz : w.heap.size < wr.heap.size := World.block_lt_of_cell? wr _ hx5
          by_cases hlt : k < x.tolerances.length
          · obtain ⟨b, o, ck, Fk, rfl, hbF, hbs, hr, hsub, hc⟩ := (Sl.ext (w' := wr) (A := Atolerances) (c := ctolerances) htolerances hbl).get hlt
            obtain ⟨hck, hFk, hkey3, hvalue3, heffect3⟩ := rd_Tolerance hr
            subst hck
            have q0 : wr.cell? ⟨b, o + k * 4, none⟩ = some (.string x.tolerances[k].key) := by exact hc 0 _ rfl
            have q1 : wr.cell? ⟨b, o + k * 4 + 1, none⟩ = some (.bool x.tolerances[k].equal) := by rw [Nat.add_assoc]; exact hc 1 _ rfl
            have q2 : wr.cell? ⟨b, o + k * 4 + 2, none⟩ = some (.string x.tolerances[k].value) := by rw [Nat.add_assoc]; exact hc 2 _ rfl
            have q3 : wr.cell? ⟨b, o + k * 4 + 3, none⟩ = some (.int .i64 x.tolerances[k].effect) := by rw [Nat.add_assoc]; exact hc 3 _ rfl
            clear hc
            obtain ⟨hs1, hs2⟩ := HTS.out x.tolerances[k] (List.getElem_mem ..)
            have hp1 := shortText_size x.tolerances[k].key (by omega)
            have hp2 := shortText_size x.tolerances[k].value (by omega)
            have hp3 := varText_size x.tolerances[k].effect heffect3
            have hv0 := varText_size 0 ⟨by decide, by decide⟩
            have hv1 := varText_size 1 ⟨by decide, by decide⟩
            have hts := podTols_size x HTS.out hTI.out k hk
            have hkk : k * 2097192 ≤ 1048576 * 2097192 := Nat.mul_le_mul_right _ (by omega)
            have HNX := Lib.hid (podTols_next hlt)
            generalize hT : podTols x k = T0 at HNX hts ⊢
            cases hE : x.tolerances[k].equal
            all_goals
              rw [hE] at q1
              have hte : tolBytes x.tolerances[k] = shortText x.tolerances[k].key ++ varText (flagB x.tolerances[k].equal) ++ shortText x.tolerances[k].value ++ varText x.tolerances[k].effect := rfl
              rw [hE] at hte
              simp only [flagB, if_true, Bool.false_eq_true, if_false] at hte
              have HTE := Lib.hid hte
              clear hte
              go_wp2_with fail
              refine wp_region_grow _ (by kernel_rfl) (by kernel_rfl) (ext_refl _) ?_
              repeat (first
                | (apply inText_skip
                   case hw => rfl
                   simp only [Act.put, List.setIfInBounds_toArray, List.set_cons_zero, List.set_cons_succ])
                | (apply inText_step
                   case hw => rfl
                   case h =>
                     intro wq hq
                     have hcq := (cls_cell hq).1
                     have hfq := (cls_cell hq).2
                     go_simp
                     first
                       | exact ⟨hq, rfl⟩
                       | exact ⟨cls_alloc hq _, rfl⟩
                       | (first | (refine (ShortText_impl _ _ (by omega)).mono ?_; rintro e wz ⟨rfl, hbz0⟩; exact ⟨rfl, cls_trans hq hbz0⟩) | (refine (VarText_impl _ _ (by first | assumption | (unfold I64; omega))).mono ?_; rintro e wz ⟨rfl, hbz0⟩; exact ⟨rfl, cls_trans hq hbz0⟩))
                       | (simp only [↓IntWalk.iteOmega]; exact ⟨hq, rfl⟩)
                   simp only [Act.put, List.setIfInBounds_toArray, List.set_cons_zero, List.set_cons_succ]))
              refine inText_nil ?_
              intro wn6 hn6
              replace hn6 := hn6.out
              go_wp2
              exact ⟨⟨k + 1, by omega, by go_num, by rw [HNX.out, HTE.out] <;> simp only [ByteArray.append_assoc], (((bcell hn6).1 _ _ (by simp; omega)).trans ((World.cell?_of_block (heap_alloc_old wr _ hbz)).trans hx5)), (((bcell hn6).1 _ _ (by simp; omega)).trans ((World.cell?_of_block (heap_alloc_old wr _ hbz)).trans hx6)), ext_trans (ext_alloc hbl _) hn6⟩, by simp [intOf]; omega⟩
          · have hkl : k = x.tolerances.length := by omega
            subst hkl
            go_wp2
            go_ret
            exact ⟨by rw [HF.out]; rfl, hbl⟩
set_option maxRecDepth 100000 in
set_option maxHeartbeats 4000000 in
theorem PodBytes_spec (x : Pod) (cs : List Value) (F : List Nat) (w : World) (h : rd w x cs F) (hw : (x.wt : Int) ≤ 1048576) :
    Calls Tryz.prog 47 #[.agg cs.toArray] w fun e w' => e = .returned (.string (podBytes x)) ∧ Below w.heap.size w w' := by
  have hwx : x.wt = x.name.size + wtL Label.wt x.labels + wtL Need.wt x.needs + wtL Tolerance.wt x.tolerances := rfl
  obtain ⟨hll, hls⟩ := labels_small (xs := x.labels) (by omega)
  obtain ⟨hnl, hnds⟩ := needs_small (xs := x.needs) (by omega)
  obtain ⟨htl, hts⟩ := tols_small (xs := x.tolerances) (by omega)
  have hns : (x.name.size : Int) ≤ 1048576 := by omega
  have HLS := Lib.hid hls
  have HNS := Lib.hid hnds
  have HTS := Lib.hid hts
  clear hls hts hnds
  have hr := h
  obtain ⟨Alabels, clabels, Flabels, Aneeds, cneeds, Fneeds, Atolerances, ctolerances, Ftolerances, hck, hF, hname, hlabels, hcpu, hmem, hrank, hneeds, htolerances⟩ := rd_Pod hr
  subst hck
  clear hr hF
  cases hR : podR x with
  | false =>
    have hfin : podBytes x = ⟨#[]⟩ := by unfold podBytes; rw [hR]; rfl
    have HF := Lib.hid hfin
    have HR := Lib.hid hR
    clear hfin hR
    go_enter Tryz.func47, Tryz.ntmps47
    go_wp2_with fail
    refine (PodOk_spec x _ _ _ (rd_extT h (by repeat (first | with_reducible exact ext_refl _ | with_reducible assumption | with_reducible refine ext_alloc ?_ _ | with_reducible refine ext_trans ?_ (by assumption)))) hw).mono ?_
    rw [HR.out]
    rintro e w2 ⟨rfl, hb2⟩
    go_wp2
    go_ret
    exact ⟨by rw [HF.out]; rfl, (by repeat (first | with_reducible exact ext_refl _ | with_reducible assumption | with_reducible refine ext_alloc ?_ _ | with_reducible refine ext_trans ?_ (by assumption)))⟩
  | true =>
    have hfin : podBytes x = podTols x x.tolerances.length := by unfold podBytes; rw [hR]; rfl
    have HF := Lib.hid hfin
    have HR := Lib.hid hR
    clear hfin hR
    go_enter Tryz.func47, Tryz.ntmps47
    go_wp2_with fail
    refine (PodOk_spec x _ _ _ (rd_extT h (by repeat (first | with_reducible exact ext_refl _ | with_reducible assumption | with_reducible refine ext_alloc ?_ _ | with_reducible refine ext_trans ?_ (by assumption)))) hw).mono ?_
    rw [HR.out]
    rintro e w2 ⟨rfl, hb2⟩
    obtain ⟨hc2, hf2⟩ := bcell hb2; have hz2 : w.heap.size < w2.heap.size := (by have := hb2.size; (try simp at this); omega)
    have hq1 := shortText_size x.name (by omega)
    have hq2 := labelsBytes_size x.labels hll HLS.out
    have hq3 := varText_size x.cpu hcpu
    have hq4 := varText_size x.mem hmem
    have hq5 := varText_size x.rank hrank
    have hlI : I64 (x.needs.length : Int) := by unfold I64; omega
    have hlT : I64 (x.tolerances.length : Int) := by unfold I64; omega
    have hq6 := varText_size x.needs.length hlI
    have hq7 := varText_size x.tolerances.length hlT
    have hb5 : w2.cell? ⟨w.heap.size, 5, none⟩ = some (.slice Aneeds x.needs.length cneeds) := by
      rw [hc2 _ _ (by simp), cell_of_row _ _ _ _ _ _ (heap_alloc_new w _)]; rfl
    have hb6 : w2.cell? ⟨w.heap.size, 6, none⟩ = some (.slice Atolerances x.tolerances.length ctolerances) := by
      rw [hc2 _ _ (by simp), cell_of_row _ _ _ _ _ _ (heap_alloc_new w _)]; rfl
    have hB2 : Below w.heap.size w w2 := (by repeat (first | with_reducible exact ext_refl _ | with_reducible assumption | with_reducible refine ext_alloc ?_ _ | with_reducible refine ext_trans ?_ (by assumption)))
    have hNI := Lib.hid hneeds.need_I64
    have hTI := Lib.hid htolerances.tol_I64
    have hhs : (podHead x).size ≤ 2199046980000 := by
      unfold podHead
      simp only [ByteArray.size_append]
      omega
    go_wp2_with fail
    refine wp_region_grow w2 (by kernel_rfl) (by kernel_rfl) (ext_refl _) ?_
    repeat (first
      | (apply inText_skip
         case hw => rfl
         simp only [Act.put, List.setIfInBounds_toArray, List.set_cons_zero, List.set_cons_succ])
      | (apply inText_step
         case hw => rfl
         case h =>
           intro wq hq
           have hcq := (cls_cell hq).1
           have hfq := (cls_cell hq).2
           go_simp
           first
             | exact ⟨hq, rfl⟩
             | exact ⟨cls_alloc hq _, rfl⟩
             | (first | (refine (ShortText_spec x.name _ (by omega)).mono ?_; rintro e wz ⟨rfl, hbz0⟩; exact ⟨rfl, cls_trans hq hbz0⟩) | (refine (LabelsBytes_spec x.labels _ _ _ _ (hlabels.ext (ext_trans hB2 hq)) hll HLS.out).mono ?_; rintro e wz ⟨rfl, hbz0⟩; exact ⟨rfl, cls_trans hq hbz0⟩) | (refine (VarText_spec _ _ (by first | assumption | (unfold I64; omega))).mono ?_; rintro e wz ⟨rfl, hbz0⟩; exact ⟨rfl, cls_trans hq hbz0⟩))
             | (simp only [↓IntWalk.iteOmega]; exact ⟨hq, rfl⟩)
         simp only [Act.put, List.setIfInBounds_toArray, List.set_cons_zero, List.set_cons_succ]))
    refine inText_nil ?_
    intro wn hn
    replace hn := hn.out
    have hbn5 := ((bcell hn).1 _ 5 hz2).trans hb5
    have hbn6 := ((bcell hn).1 _ 6 hz2).trans hb6
    go_wp2_with fail
    go_loopw [3, 4] (fun s i wr => ∃ k : Nat, k ≤ x.needs.length ∧ i = .int .i64 k ∧ s = .string (podNeeds x k) ∧ wr.cell? ⟨w.heap.size, 5, none⟩ = some (.slice Aneeds x.needs.length cneeds) ∧ wr.cell? ⟨w.heap.size, 6, none⟩ = some (.slice Atolerances x.tolerances.length ctolerances) ∧ Below w.heap.size w wr) (fun _ i _ => x.needs.length - (intOf i).toNat)
    case atStart => exact ⟨0, Nat.zero_le _, rfl, rfl, hbn5, hbn6, ext_trans hB2 hn⟩
    case round =>
      obtain ⟨k, hk, rfl, rfl, hx5, hx6, hbl⟩ := hrel
      have hbz : w.heap.size < wr.heap.size := World.block_lt_of_cell? wr _ hx5
      by_cases hlt : k < x.needs.length
      · obtain ⟨b, o, ck, Fk, rfl, hbF, hbs, hr, hsub, hc⟩ := (Sl.ext (w' := wr) (A := Aneeds) (c := cneeds) hneeds hbl).get hlt
        obtain ⟨Avalues3, cvalues3, Fvalues3, hck, hFk, hkey3, hop3, hvalues3⟩ := rd_Need hr
        subst hck
        have q0 : wr.cell? ⟨b, o + k * 3, none⟩ = some (.string x.needs[k].key) := by exact hc 0 _ rfl
        have q1 : wr.cell? ⟨b, o + k * 3 + 1, none⟩ = some (.int .i64 x.needs[k].op) := by rw [Nat.add_assoc]; exact hc 1 _ rfl
        have q2 : wr.cell? ⟨b, o + k * 3 + 2, none⟩ = some (.slice Avalues3 x.needs[k].values.length cvalues3) := by rw [Nat.add_assoc]; exact hc 2 _ rfl
        clear hc
        obtain ⟨hs1, hs2, hs3⟩ := HNS.out x.needs[k] (List.getElem_mem ..)
        have hp1 := shortText_size x.needs[k].key (by omega)
        have hp2 := varText_size x.needs[k].op hop3
        have hlI3 : I64 (x.needs[k].values.length : Int) := by unfold I64; omega
        have hp3 := varText_size x.needs[k].values.length hlI3
        have hbs0 := podNeeds_size x HNS.out hNI.out k hk
        have hkk : k * 1099523200000 ≤ 1048576 * 1099523200000 := Nat.mul_le_mul_right _ (by omega)
        have HNX := Lib.hid (podNeeds_next hlt)
        have HVS := Lib.hid (valsTo_size hs1 hop3 hs2 hs3)
        have HS3 := Lib.hid hs3
        clear hs3
        generalize hS : podNeeds x k = S0 at HNX hbs0 ⊢
        obtain ⟨wo, hwo⟩ : ∃ wo, wo = wr := ⟨_, rfl⟩
        subst hwo
        go_wp2_with fail
        refine wp_region_grow _ (by kernel_rfl) (by kernel_rfl) (ext_refl _) ?_
        repeat (first
          | (apply inText_skip
             case hw => rfl
             simp only [Act.put, List.setIfInBounds_toArray, List.set_cons_zero, List.set_cons_succ])
          | (apply inText_step
             case hw => rfl
             case h =>
               intro wq hq
               have hcq := (cls_cell hq).1
               have hfq := (cls_cell hq).2
               go_simp
               first
                 | exact ⟨hq, rfl⟩
                 | exact ⟨cls_alloc hq _, rfl⟩
                 | (first | (refine (ShortText_spec _ _ (by omega)).mono ?_; rintro e wz ⟨rfl, hbz0⟩; exact ⟨rfl, cls_trans hq hbz0⟩) | (refine (VarText_spec _ _ (by first | assumption | (unfold I64; omega))).mono ?_; rintro e wz ⟨rfl, hbz0⟩; exact ⟨rfl, cls_trans hq hbz0⟩))
                 | (simp only [↓IntWalk.iteOmega]; exact ⟨hq, rfl⟩)
             simp only [Act.put, List.setIfInBounds_toArray, List.set_cons_zero, List.set_cons_succ]))
        refine inText_nil ?_
        intro wn3 hn3
        replace hn3 := hn3.out
        have hbo : Below wo.heap.size wo (wo.alloc (.cells #[.string x.needs[k].key, .int .i64 x.needs[k].op, .slice Avalues3 x.needs[k].values.length cvalues3] 112)) := ext_alloc (ext_refl _) _
        have hnb : wn3.cell? ⟨wo.heap.size, 2, none⟩ = some (.slice Avalues3 x.needs[k].values.length cvalues3) := by rw [(bcell hn3).1 _ _ (by simp), cell_of_row _ _ _ _ _ _ (heap_alloc_new wo _)]; rfl
        have hw3 : Below wo.heap.size wo wn3 := ext_trans hbo hn3
        have hx53 := ((bcell hw3).1 _ 5 hbz).trans hx5
        have hx63 := ((bcell hw3).1 _ 6 hbz).trans hx6
        have hassoc : S0 ++ (shortText x.needs[k].key ++ varText x.needs[k].op ++ varText x.needs[k].values.length) = S0 ++ valsTo x.needs[k] 0 := rfl
        have hassoc2 : S0 ++ shortText x.needs[k].key ++ varText x.needs[k].op ++ varText x.needs[k].values.length = S0 ++ valsTo x.needs[k] 0 := by rw [valsTo_zero]; unfold needBytes0; simp only [ByteArray.append_assoc]
        have HAS := Lib.hid hassoc
        have HAS2 := Lib.hid hassoc2
        clear hassoc hassoc2
        go_wp2_with fail
        go_loopw [3, 6] (fun s i wi => ∃ j : Nat, j ≤ x.needs[k].values.length ∧ i = .int .i64 j ∧ s = .string (S0 ++ valsTo x.needs[k] j) ∧ wi.cell? ⟨wo.heap.size, 2, none⟩ = some (.slice Avalues3 x.needs[k].values.length cvalues3) ∧ wi.cell? ⟨w.heap.size, 5, none⟩ = some (.slice (some ⟨b, o, none⟩) x.needs.length cneeds) ∧ wi.cell? ⟨w.heap.size, 6, none⟩ = some (.slice Atolerances x.tolerances.length ctolerances) ∧ Below wo.heap.size wo wi) (fun _ i _ => x.needs[k].values.length - (intOf i).toNat)
        case atStart => exact ⟨0, Nat.zero_le _, rfl, by first | rw [HAS.out] | rw [HAS2.out], hnb, hx53, hx63, hw3⟩
        case round =>
          obtain ⟨j, hj, rfl, rfl, hvb, hx54, hx64, hbi⟩ := hrel
          have hvz : wo.heap.size < wr.heap.size := World.block_lt_of_cell? wr _ hvb
          have hbz4 : w.heap.size < wr.heap.size := World.block_lt_of_cell? wr _ hx54
          have hvs := HVS.out j hj
          have hjj : j * 1048586 ≤ 1048576 * 1048586 := Nat.mul_le_mul_right _ (by omega)
          by_cases hjl : j < x.needs[k].values.length
          · obtain ⟨b2, o2, ck2, Fk2, rfl, hbF2, hbs2, hr2, hsub2, hc2'⟩ := (Sl.ext (w' := wr) (A := Avalues3) (c := cvalues3) hvalues3 hbi).get hjl
            obtain ⟨hck, hFk2, hsz2⟩ := hr2
            subst hck hFk2
            have p0 : wr.cell? ⟨b2, o2 + j, none⟩ = some (.string x.needs[k].values[j]) := by have := hc2' 0 _ rfl; rwa [show o2 + (j * Dat.size ByteArray + 0) = o2 + j from by show o2 + (j * 1 + 0) = _; omega] at this
            clear hc2'
            have hv1 := HS3.out x.needs[k].values[j] (List.getElem_mem ..)
            have hv2 := shortText_size x.needs[k].values[j] (by omega)
            have HVN := Lib.hid (valsTo_next hjl)
            generalize hV : valsTo x.needs[k] j = V0 at HVN hvs ⊢
            have hsum : ((S0 ++ V0).size : Int) = S0.size + V0.size := by rw [ByteArray.size_append]; omega
            go_wp2_with fail
            first
              | (refine wp_region_grow _ (by kernel_rfl) (by kernel_rfl) (ext_refl _) ?_
                 repeat (first
                   | (apply inText_skip
                      case hw => rfl
                      simp only [Act.put, List.setIfInBounds_toArray, List.set_cons_zero, List.set_cons_succ])
                   | (apply inText_step
                      case hw => rfl
                      case h =>
                        intro wq hq
                        have hcq := (cls_cell hq).1
                        have hfq := (cls_cell hq).2
                        go_simp
                        first
                          | exact ⟨hq, rfl⟩
                          | exact ⟨cls_alloc hq _, rfl⟩
                          | (first | (refine (ShortText_spec _ _ (by omega)).mono ?_; rintro e wz ⟨rfl, hbz0⟩; exact ⟨rfl, cls_trans hq hbz0⟩) | (refine (VarText_spec _ _ (by first | assumption | (unfold I64; omega))).mono ?_; rintro e wz ⟨rfl, hbz0⟩; exact ⟨rfl, cls_trans hq hbz0⟩))
                          | (simp only [↓IntWalk.iteOmega]; exact ⟨hq, rfl⟩)
                      simp only [Act.put, List.setIfInBounds_toArray, List.set_cons_zero, List.set_cons_succ]))
                 refine inText_nil ?_
                 intro wn4 hn4
                 replace hn4 := hn4.out
                 go_wp2
                 exact ⟨⟨j + 1, by omega, by go_num, by rw [HVN.out]; simp only [ByteArray.append_assoc], ((bcell hn4).1 _ _ hvz).trans hvb, ((bcell hn4).1 _ _ hbz4).trans hx54, ((bcell hn4).1 _ _ hbz4).trans hx64, ext_trans hbi hn4⟩, by simp [intOf]; omega⟩)
              | (refine (ShortText_spec _ _ (by omega)).mono ?_
                 rintro e wn4 ⟨rfl, hn4⟩
                 obtain ⟨hc4, hf4⟩ := bcell hn4
                 go_wp2
                 exact ⟨⟨j + 1, by omega, by go_num, by rw [HVN.out]; simp only [ByteArray.append_assoc], ((bcell hn4).1 _ _ hvz).trans hvb, ((bcell hn4).1 _ _ hbz4).trans hx54, ((bcell hn4).1 _ _ hbz4).trans hx64, ext_trans hbi hn4⟩, by simp [intOf]; omega⟩)
          · have hjo : j = x.needs[k].values.length := by omega
            subst hjo
            go_wp2
            exact ⟨⟨k + 1, by omega, by go_num, by rw [HNX.out]; rfl, hx54, hx64, ext_trans hbl hbi⟩, by simp [intOf]; omega⟩
      · have hkl : k = x.needs.length := by omega
        subst hkl
        have hbs0 := podNeeds_size x HNS.out hNI.out x.needs.length (Nat.le_refl _)
        have hkk : x.needs.length * 1099523200000 ≤ 1048576 * 1099523200000 := Nat.mul_le_mul_right _ (by omega)
        have hml : (podMid x).size ≤ (podNeeds x x.needs.length).size + 10 := by unfold podMid; rw [ByteArray.size_append]; omega
        have HM := Lib.hid (show podMid x = podNeeds x x.needs.length ++ varText x.tolerances.length from rfl)
        generalize hS : podNeeds x x.needs.length = S0 at HM hbs0 hml ⊢
        obtain ⟨wo, hwo⟩ : ∃ wo, wo = wr := ⟨_, rfl⟩
        subst hwo
        go_wp2_with fail
        refine (VarText_spec _ _ hlT).mono ?_
        rintro e wn5 ⟨rfl, hn5⟩
        have hx55 := ((bcell hn5).1 _ 5 hbz).trans hx5
        have hx65 := ((bcell hn5).1 _ 6 hbz).trans hx6
        have hB5 := ext_trans hbl hn5
        go_wp2_with fail
        go_loopw [3, 7] (fun s i wr => ∃ k : Nat, k ≤ x.tolerances.length ∧ i = .int .i64 k ∧ s = .string (podTols x k) ∧ wr.cell? ⟨w.heap.size, 5, none⟩ = some (.slice Aneeds x.needs.length cneeds) ∧ wr.cell? ⟨w.heap.size, 6, none⟩ = some (.slice Atolerances x.tolerances.length ctolerances) ∧ Below w.heap.size w wr) (fun _ i _ => x.tolerances.length - (intOf i).toNat)
        case atStart => exact ⟨0, Nat.zero_le _, rfl, by rw [← HM.out]; rfl, hx55, hx65, hB5⟩
        case round =>
          obtain ⟨k, hk, rfl, rfl, hx5, hx6, hbl⟩ := hrel
          have hbz : w.heap.size < wr.heap.size := World.block_lt_of_cell? wr _ hx5
          by_cases hlt : k < x.tolerances.length
          · obtain ⟨b, o, ck, Fk, rfl, hbF, hbs, hr, hsub, hc⟩ := (Sl.ext (w' := wr) (A := Atolerances) (c := ctolerances) htolerances hbl).get hlt
            obtain ⟨hck, hFk, hkey3, hvalue3, heffect3⟩ := rd_Tolerance hr
            subst hck
            have q0 : wr.cell? ⟨b, o + k * 4, none⟩ = some (.string x.tolerances[k].key) := by exact hc 0 _ rfl
            have q1 : wr.cell? ⟨b, o + k * 4 + 1, none⟩ = some (.bool x.tolerances[k].equal) := by rw [Nat.add_assoc]; exact hc 1 _ rfl
            have q2 : wr.cell? ⟨b, o + k * 4 + 2, none⟩ = some (.string x.tolerances[k].value) := by rw [Nat.add_assoc]; exact hc 2 _ rfl
            have q3 : wr.cell? ⟨b, o + k * 4 + 3, none⟩ = some (.int .i64 x.tolerances[k].effect) := by rw [Nat.add_assoc]; exact hc 3 _ rfl
            clear hc
            obtain ⟨hs1, hs2⟩ := HTS.out x.tolerances[k] (List.getElem_mem ..)
            have hp1 := shortText_size x.tolerances[k].key (by omega)
            have hp2 := shortText_size x.tolerances[k].value (by omega)
            have hp3 := varText_size x.tolerances[k].effect heffect3
            have hv0 := varText_size 0 ⟨by decide, by decide⟩
            have hv1 := varText_size 1 ⟨by decide, by decide⟩
            have hts := podTols_size x HTS.out hTI.out k hk
            have hkk : k * 2097192 ≤ 1048576 * 2097192 := Nat.mul_le_mul_right _ (by omega)
            have HNX := Lib.hid (podTols_next hlt)
            generalize hT : podTols x k = T0 at HNX hts ⊢
            cases hE : x.tolerances[k].equal
            all_goals
              rw [hE] at q1
              have hte : tolBytes x.tolerances[k] = shortText x.tolerances[k].key ++ varText (flagB x.tolerances[k].equal) ++ shortText x.tolerances[k].value ++ varText x.tolerances[k].effect := rfl
              rw [hE] at hte
              simp only [flagB, if_true, Bool.false_eq_true, if_false] at hte
              have HTE := Lib.hid hte
              clear hte
              go_wp2_with fail
              refine wp_region_grow _ (by kernel_rfl) (by kernel_rfl) (ext_refl _) ?_
              repeat (first
                | (apply inText_skip
                   case hw => rfl
                   simp only [Act.put, List.setIfInBounds_toArray, List.set_cons_zero, List.set_cons_succ])
                | (apply inText_step
                   case hw => rfl
                   case h =>
                     intro wq hq
                     have hcq := (cls_cell hq).1
                     have hfq := (cls_cell hq).2
                     go_simp
                     first
                       | exact ⟨hq, rfl⟩
                       | exact ⟨cls_alloc hq _, rfl⟩
                       | (first | (refine (ShortText_spec _ _ (by omega)).mono ?_; rintro e wz ⟨rfl, hbz0⟩; exact ⟨rfl, cls_trans hq hbz0⟩) | (refine (VarText_spec _ _ (by first | assumption | (unfold I64; omega))).mono ?_; rintro e wz ⟨rfl, hbz0⟩; exact ⟨rfl, cls_trans hq hbz0⟩) | (refine (l26Flag_any _ _).mono ?_; rintro e wz ⟨rfl, rfl⟩; exact ⟨rfl, hq⟩))
                       | (simp only [↓IntWalk.iteOmega]; exact ⟨hq, rfl⟩)
                   simp only [Act.put, List.setIfInBounds_toArray, List.set_cons_zero, List.set_cons_succ]))
              refine inText_nil ?_
              intro wn6 hn6
              replace hn6 := hn6.out
              go_wp2
              exact ⟨⟨k + 1, by omega, by go_num, by rw [HNX.out, HTE.out] <;> simp only [ByteArray.append_assoc], (((bcell hn6).1 _ _ (by simp; omega)).trans ((World.cell?_of_block (heap_alloc_old wr _ hbz)).trans hx5)), (((bcell hn6).1 _ _ (by simp; omega)).trans ((World.cell?_of_block (heap_alloc_old wr _ hbz)).trans hx6)), ext_trans (ext_alloc hbl _) hn6⟩, by simp [intOf]; omega⟩
          · have hkl : k = x.tolerances.length := by omega
            subst hkl
            go_wp2
            go_ret
            exact ⟨by rw [HF.out]; rfl, hbl⟩

end Go.Proofs.YtomffjhadgelkaaGreat
