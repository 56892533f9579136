/- ReadLabelsBytes, of the program and of the reference. No condition. -/
import Derived.Test.YtkgajoichmnaaaaRdLI
import Derived.Test.YtkgajoichmnaaaaRdLS
import Derived.Test.YtkgajoichmnaaaaMkLabel
namespace Go.Proofs.Ytkgajoichmnaaaa
open Dat (rd)
open Go.ChangeShapes Go.WideShapes Go.ChangeAt Go.RowKit
set_option linter.unusedVariables false
set_option linter.unusedSimpArgs false
theorem cntL_lab : ∀ xs : List Label, cntL cntLabel xs = 2 * xs.length
  | [] => rfl
  | x :: xs => by have := cntL_lab xs; simp only [cntL, List.map_cons, List.sum_cons, List.length_cons] at this ⊢; rw [this]; simp only [cntLabel]; omega
theorem readLabelsI_cnt (s : ByteArray) (a : Int) : (cntL cntLabel (readLabelsI s a).1 : Int) ≤ 1048576 := by
  have := readLabelsI_len s a
  rw [cntL_lab]; omega
set_option maxRecDepth 100000 in
set_option maxHeartbeats 1000000 in
theorem ReadLabels_impl (s : ByteArray) (a : Int) (w : World) (hs : (s.size : Int) ≤ 1048576) (ha : I64 a) :
    Calls Try.prog 25 #[.string s, .int .i64 a] w fun e w' => ∃ A c F, e = .returned (.tuple #[.slice A (readLabelsI s a).1.length c, .int .i64 (readLabelsI s a).2]) ∧ Own w' w.heap.size (readLabelsI s a).1 [.slice A (readLabelsI s a).1.length c] F ∧ Below w.heap.size w w' := by
  have HL := Lib.hid (fun wq hq => labels_any s w.heap.size a wq hq hs)
  have HR := Lib.hid (show readLabelsI s a = if (labelsI s a).2 < 0 then ([], -1) else labelsI s a from rfl)
  generalize labelsI s a = q at *
  generalize readLabelsI s a = R at *
  go_enter Try.func25, Try.ntmps25
  go_wp2_with fail
  refine (HL.out _ ⟨⟨_, heap_alloc_new w _⟩, ha⟩).mono ?_
  rintro e w2 ⟨A2, c2, F2, rfl, hO, hI, hu⟩
  have HB := Lib.hid (((Upd.of_ext [w.heap.size] (ext_alloc (ext_refl w) _)).trans hu).below (B := w.heap.size) (fun y hy => by simp only [List.mem_singleton] at hy; omega) (Nat.le_refl _))
  have HO := Lib.hid (hO.mono (B' := w.heap.size) (by simp))
  have hc1 := hI.c1
  have hlt := hI.lt
  have H2 := Lib.hid hI
  clear hO hu hI
  by_cases hn : q.2 < 0
  · have HF := Lib.hid (show R = ([], -1) by rw [HR.out, if_pos hn])
    go_wp2_with fail
    refine (bad_any s w.heap.size q.2 _ H2.out).mono ?_
    rw [show decide (q.2 < 0) = true by simp [hn]]
    rintro e w4 ⟨rfl, hw⟩
    simp only [hw]
    clear hw w4
    go_wp2
    go_returns
    rw [HF.out]
    exact ⟨none, 0, [], rfl, ⟨Sl.nil _ none 0 (Nat.zero_le _), List.nodup_nil, (fun b hb => by cases hb), (fun b hb => by cases hb)⟩, HB.out⟩
  · have HF := Lib.hid (show R = q by rw [HR.out, if_neg hn])
    go_wp2_with fail
    refine (bad_any s w.heap.size q.2 _ H2.out).mono ?_
    rw [show decide (q.2 < 0) = false by simp; omega]
    rintro e w4 ⟨rfl, hw⟩
    simp only [hw]
    clear hw w4
    go_wp2
    first
      | go_returns
      | (refine wp_region_grow _ (by kernel_rfl) (by kernel_rfl) (ext_refl _) ?_
         repeat (first
           | (apply inText_skip
              case hw => rfl
              simp only [Act.put, List.setIfInBounds_toArray, List.set_cons_zero, List.set_cons_succ])
           | (apply inText_step
              case hw => rfl
              case h =>
                intro wq hq
                have hcq := (cls_cell hq).1
                have hfq := (cls_cell hq).2
                go_simp
                first
                  | exact ⟨hq, rfl⟩
                  | exact ⟨cls_alloc hq _, rfl⟩
                  | (fail)
                  | (simp only [↓IntWalk.iteOmega]; exact ⟨hq, rfl⟩)
              simp only [Act.put, List.setIfInBounds_toArray, List.set_cons_zero, List.set_cons_succ]))
         refine inText_nil ?_
         intro wz hz
         replace hz := hz.out
         go_wp2
         go_returns)
    have HB2 := HB.out
    rw [HF.out]
    refine ⟨A2, c2, ?_⟩
    first | exact ⟨F2, rfl, HO.out.ext (by repeat (first | with_reducible exact ext_refl _ | with_reducible assumption | with_reducible refine ext_alloc ?_ _ | with_reducible refine ext_trans ?_ (by assumption))), (by repeat (first | with_reducible exact ext_refl _ | with_reducible assumption | with_reducible refine ext_alloc ?_ _ | with_reducible refine ext_trans ?_ (by assumption)))⟩ | exact ⟨rfl, ⟨F2, HO.out.ext (by repeat (first | with_reducible exact ext_refl _ | with_reducible assumption | with_reducible refine ext_alloc ?_ _ | with_reducible refine ext_trans ?_ (by assumption)))⟩, (by repeat (first | with_reducible exact ext_refl _ | with_reducible assumption | with_reducible refine ext_alloc ?_ _ | with_reducible refine ext_trans ?_ (by assumption)))⟩
set_option maxRecDepth 100000 in
set_option maxHeartbeats 1000000 in
theorem ReadLabels_spec (s : ByteArray) (a : Int) (w : World) (hs : (s.size : Int) ≤ 1048576) (ha : I64 a) :
    Calls Try.prog 24 #[.string s, .int .i64 a] w fun e w' => ∃ A c F, e = .returned (.tuple #[.slice A (readLabelsI s a).1.length c, .int .i64 (readLabelsI s a).2]) ∧ Own w' w.heap.size (readLabelsI s a).1 [.slice A (readLabelsI s a).1.length c] F ∧ Below w.heap.size w w' := by
  have HL := Lib.hid (fun wq hq => Labels_spec s w.heap.size (a, false) wq hq hs)
  have HR := Lib.hid (show readLabelsI s a = if (labelsS s (a, false)).2.2 = true ∨ labelsR (labelsS s (a, false)).1 = false then ([], -1) else ((labelsS s (a, false)).1, (labelsS s (a, false)).2.1) from readLabels_same s a)
  have HSM := Lib.hid (labelsS_small s (a, false) hs)
  have HLN := Lib.hid (labelsS_len s (a, false))
  generalize labelsS s (a, false) = q at *
  generalize readLabelsI s a = R at *
  go_enter Try.func24, Try.ntmps24
  go_wp2_with fail
  refine (HL.out _ ⟨⟨_, heap_alloc_new w _⟩, ha⟩).mono ?_
  rintro e w2 ⟨A2, c2, F2, rfl, hO, hI, hu⟩
  have hB2 : Below w.heap.size w w2 := ((Upd.of_ext [w.heap.size] (ext_alloc (ext_refl w) _)).trans hu).below (B := w.heap.size) (fun y hy => by simp only [List.mem_singleton] at hy; omega) (Nat.le_refl _)
  have HO := Lib.hid (hO.mono (B' := w.heap.size) (by simp))
  have hc1 := hI.c1
  have hc2 := hI.c2
  have hlt := hI.lt
  clear hO hu hI
  obtain ⟨xs, n, bad⟩ := q
  dsimp only at *
  have hxl : (xs.length : Int) ≤ 1048576 := by have := HLN.out; omega
  cases hl : labelsR xs <;> cases bad
  all_goals
    have HLR := Lib.hid hl
    have hr0 := HR.out
    rw [hl] at hr0
    simp only [Bool.false_eq_true, Bool.true_eq_false, or_true, or_false, true_or, if_true, if_false] at hr0
    have HF := Lib.hid hr0
    clear hr0 hl
    go_wp2_with (go_at_call 40; refine (LabelsOk_spec xs A2 _ c2 F2 _ (rd_extT HO.out.rd (by repeat (first | with_reducible exact ext_refl _ | with_reducible assumption | with_reducible refine ext_alloc ?_ _ | with_reducible refine ext_trans ?_ (by assumption)))) rfl hxl HSM.out).mono ?_; rw [HLR.out]; rintro e w5 ⟨rfl, hb5⟩; obtain ⟨hc5, hf5⟩ := bcell hb5; have hz5 : w.heap.size < w5.heap.size := (by have := hb5.size; (try simp at this); omega))
    first
      | go_returns
      | (refine wp_region_grow _ (by kernel_rfl) (by kernel_rfl) (ext_refl _) ?_
         repeat (first
           | (apply inText_skip
              case hw => rfl
              simp only [Act.put, List.setIfInBounds_toArray, List.set_cons_zero, List.set_cons_succ])
           | (apply inText_step
              case hw => rfl
              case h =>
                intro wq hq
                have hcq := (cls_cell hq).1
                have hfq := (cls_cell hq).2
                go_simp
                first
                  | exact ⟨hq, rfl⟩
                  | exact ⟨cls_alloc hq _, rfl⟩
                  | (fail)
                  | (simp only [↓IntWalk.iteOmega]; exact ⟨hq, rfl⟩)
              simp only [Act.put, List.setIfInBounds_toArray, List.set_cons_zero, List.set_cons_succ]))
         refine inText_nil ?_
         intro wz hz
         replace hz := hz.out
         go_wp2
         go_returns)
    rw [HF.out]
    first
      | exact ⟨A2, c2, F2, rfl, HO.out.ext (by repeat (first | with_reducible exact ext_refl _ | with_reducible assumption | with_reducible refine ext_alloc ?_ _ | with_reducible refine ext_trans ?_ (by assumption))), (by repeat (first | with_reducible exact ext_refl _ | with_reducible assumption | with_reducible refine ext_alloc ?_ _ | with_reducible refine ext_trans ?_ (by assumption)))⟩
      | exact ⟨A2, c2, rfl, ⟨F2, HO.out.ext (by repeat (first | with_reducible exact ext_refl _ | with_reducible assumption | with_reducible refine ext_alloc ?_ _ | with_reducible refine ext_trans ?_ (by assumption)))⟩, (by repeat (first | with_reducible exact ext_refl _ | with_reducible assumption | with_reducible refine ext_alloc ?_ _ | with_reducible refine ext_trans ?_ (by assumption)))⟩
      | exact ⟨_, 0, [], rfl, ⟨Sl.nil _ _ 0 (Nat.zero_le _), List.nodup_nil, (fun b hb => by cases hb), (fun b hb => by cases hb)⟩, (by repeat (first | with_reducible exact ext_refl _ | with_reducible assumption | with_reducible refine ext_alloc ?_ _ | with_reducible refine ext_trans ?_ (by assumption)))⟩
      | exact ⟨_, 0, rfl, ⟨[], ⟨Sl.nil _ _ 0 (Nat.zero_le _), List.nodup_nil, (fun b hb => by cases hb), (fun b hb => by cases hb)⟩⟩, (by repeat (first | with_reducible exact ext_refl _ | with_reducible assumption | with_reducible refine ext_alloc ?_ _ | with_reducible refine ext_trans ?_ (by assumption)))⟩

end Go.Proofs.Ytkgajoichmnaaaa
