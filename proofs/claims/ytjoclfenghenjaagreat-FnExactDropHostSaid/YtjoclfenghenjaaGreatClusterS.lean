/- ClusterOk, of the reference. No condition. -/
import Derived.Test.YtjoclfenghenjaaGreatClusterP
import Derived.Test.YtjoclfenghenjaaGreatRegion
namespace Go.Proofs.YtjoclfenghenjaaGreat
open Go.ChangeShapes Go.WideShapes Go.ChangeAt Go.RowKit
set_option linter.unusedVariables false
set_option linter.unusedSimpArgs false
set_option maxRecDepth 100000 in
set_option maxHeartbeats 16000000 in
theorem ClusterOk_spec (x : Cluster) (cs : List Value) (F : List Nat) (w : World) (h : rd w x cs F) (hw : (x.wt : Int) ≤ 1048576) :
    Calls Tryz.prog 34 #[.agg cs.toArray] w fun e w' => e = .returned (.bool (clusterR x)) ∧ Below w.heap.size w w' := by
  have hwx : x.wt = wtL Host.wt x.hosts + wtL Placed.wt x.pods := rfl
  have hlen : (x.hosts.length : Int) ≤ 1048576 := by have := wtL_len Host.wt x.hosts; omega
  have hplen : (x.pods.length : Int) ≤ 1048576 := by have := wtL_len Placed.wt x.pods; omega
  have HWH := Lib.hid (fun k (hk : k < x.hosts.length) => (show (Host.wt x.hosts[k] : Int) ≤ 1048576 by have := wtL_get (f := Host.wt) hk; omega))
  have HWQ := Lib.hid (fun k (hk : k < x.pods.length) => (show (Pod.wt x.pods[k].pod : Int) ≤ 1048576 by have := wtL_get (f := Placed.wt) hk; have e : Placed.wt x.pods[k] = Pod.wt x.pods[k].pod + x.pods[k].on.size := rfl; omega))
  clear hw hwx
  have hr := h
  obtain ⟨Ahosts, chosts, Fhosts, Apods, cpods, Fpods, hck, hF, hhosts, hpods, hnext, hweightspack, hweightsspread, hweightssoft⟩ := rd_Cluster hr
  subst hck
  clear hF hr
  obtain ⟨w0, hw0⟩ : ∃ w0, w.alloc (.cells #[.slice Ahosts x.hosts.length chosts, .slice Apods x.pods.length cpods, .int .i64 x.next, .int .i64 x.weights.pack, .int .i64 x.weights.spread, .int .i64 x.weights.soft] 33) = w0 := ⟨_, rfl⟩
  have c0 : w0.cell? ⟨w.heap.size, 0, none⟩ = some (.slice Ahosts x.hosts.length chosts) := by rw [← hw0, cell_of_row _ _ _ _ _ _ (heap_alloc_new w _)]; rfl
  have c1 : w0.cell? ⟨w.heap.size, 1, none⟩ = some (.slice Apods x.pods.length cpods) := by rw [← hw0, cell_of_row _ _ _ _ _ _ (heap_alloc_new w _)]; rfl
  have c2 : w0.cell? ⟨w.heap.size, 2, none⟩ = some (.int .i64 x.next) := by rw [← hw0, cell_of_row _ _ _ _ _ _ (heap_alloc_new w _)]; rfl
  have c3 : w0.cell? ⟨w.heap.size, 3, none⟩ = some (.int .i64 x.weights.pack) := by rw [← hw0, cell_of_row _ _ _ _ _ _ (heap_alloc_new w _)]; rfl
  have c4 : w0.cell? ⟨w.heap.size, 4, none⟩ = some (.int .i64 x.weights.spread) := by rw [← hw0, cell_of_row _ _ _ _ _ _ (heap_alloc_new w _)]; rfl
  have c5 : w0.cell? ⟨w.heap.size, 5, none⟩ = some (.int .i64 x.weights.soft) := by rw [← hw0, cell_of_row _ _ _ _ _ _ (heap_alloc_new w _)]; rfl
  have hB0 : Below w.heap.size w w0 := by rw [← hw0]; exact ext_alloc (ext_refl _) _
  have hz0 : w.heap.size < w0.heap.size := by rw [← hw0]; simp
  have HW0 := Lib.hid hw0
  clear hw0
  by_cases hh1 : (x.hosts.length : Int) ≤ 8
  · by_cases hh2 : (x.pods.length : Int) ≤ 12
    · cases hnx : (decide ((1 : Int) ≤ x.next) && decide (x.next ≤ 1000000000)) with
      | false =>
        have HNX := Lib.hid hnx
        have HF := Lib.hid (clusterR_head (x := x) (by unfold headR; rw [hnx]; simp))
        clear hnx
        go_enter Tryz.func34, Tryz.ntmps34
        go_wp2_with fail
        rw [HW0.out]
        go_wp2_with (first
          | (go_at_call 80; refine (l01In_any2 x.next 1 1000000000 _).mono ?_; rw [HNX.out]; rintro e w1 ⟨rfl, hw1⟩; simp only [← hw1]; clear hw1 w1)
          | (go_at_call 35; refine (WeightsOk_spec x.weights.pack x.weights.spread x.weights.soft _).mono ?_; rw [HWT.out]; rintro e w2 ⟨rfl, hb2⟩; obtain ⟨hc2, hf2⟩ := bcell hb2; have hz2 : w.heap.size < w2.heap.size := (by have := hb2.size; (try simp at this); omega)))
        go_ret
        exact ⟨by rw [HF.out]; rfl, (by repeat (first | with_reducible exact ext_refl _ | with_reducible assumption | with_reducible refine ext_alloc ?_ _ | with_reducible refine ext_trans ?_ (by assumption)))⟩
      | true =>
        have HNX := Lib.hid hnx
        cases hwt : weightsR x.weights.pack x.weights.spread x.weights.soft with
        | false =>
          have HWT := Lib.hid hwt
          have HF := Lib.hid (clusterR_head (x := x) (by unfold headR; rw [hwt]; simp))
          clear hnx hwt
          go_enter Tryz.func34, Tryz.ntmps34
          go_wp2_with fail
          rw [HW0.out]
          go_wp2_with (first
            | (go_at_call 80; refine (l01In_any2 x.next 1 1000000000 _).mono ?_; rw [HNX.out]; rintro e w1 ⟨rfl, hw1⟩; simp only [← hw1]; clear hw1 w1)
            | (go_at_call 35; refine (WeightsOk_spec x.weights.pack x.weights.spread x.weights.soft _).mono ?_; rw [HWT.out]; rintro e w2 ⟨rfl, hb2⟩; obtain ⟨hc2, hf2⟩ := bcell hb2; have hz2 : w.heap.size < w2.heap.size := (by have := hb2.size; (try simp at this); omega)))
          go_ret
          exact ⟨by rw [HF.out]; rfl, (by repeat (first | with_reducible exact ext_refl _ | with_reducible assumption | with_reducible refine ext_alloc ?_ _ | with_reducible refine ext_trans ?_ (by assumption)))⟩
        | true =>
          have HWT := Lib.hid hwt
          have HHD := Lib.hid (show headR x = true by unfold headR; rw [hnx, hwt]; simp [hh1, hh2])
          have hn1 : 1 ≤ x.next ∧ x.next ≤ 1000000000 := by simpa using hnx
          obtain ⟨hn1, hn2⟩ := hn1
          clear hnx hwt
          go_enter Tryz.func34, Tryz.ntmps34
          go_wp2_with fail
          rw [HW0.out]
          go_wp2_with (first
            | (go_at_call 80; refine (l01In_any2 x.next 1 1000000000 _).mono ?_; rw [HNX.out]; rintro e w1 ⟨rfl, hw1⟩; simp only [← hw1]; clear hw1 w1)
            | (go_at_call 35; refine (WeightsOk_spec x.weights.pack x.weights.spread x.weights.soft _).mono ?_; rw [HWT.out]; rintro e w2 ⟨rfl, hb2⟩; obtain ⟨hc2, hf2⟩ := bcell hb2; have hz2 : w.heap.size < w2.heap.size := (by have := hb2.size; (try simp at this); omega)))
          have HPL := Lib.hid hplen
          have HHL := Lib.hid hlen
          have hpods12 : x.pods.length ≤ 12 := by omega
          go_wp2_with fail
          go_loopw [3] (fun i wr => ∃ k : Nat, k ≤ x.pods.length ∧ i = .int .i64 k ∧ Hid (∀ j, j < k → rowAt (podX x) placedLess x.pods j = true) ∧ Hid (∀ j, j < k → freshAt x.pods j = true) ∧ Below w0.heap.size w0 wr) (fun i _ => x.pods.length - (intOf i).toNat)
          case atStart => exact ⟨0, Nat.zero_le _, rfl, (fun j hj => by omega), (fun j hj => by omega), hb2⟩
          case round =>
            obtain ⟨k, hk, rfl, hall, hfresh, hbl⟩ := hrel
            by_cases hlt : k < x.pods.length
            · obtain rfl | ⟨j, rfl⟩ : k = 0 ∨ ∃ j, k = j + 1 := by cases k with | zero => exact .inl rfl | succ j => exact .inr ⟨j, rfl⟩
              · obtain ⟨b, o, ck3, Fk3, rfl, hbF3, hbs3, hr3, hsub3, hc3⟩ := Sl.get (α := Placed) (A := Apods) (c := cpods) hpods hlt
                have hre3 := hr3
                obtain ⟨Apodlabels3, cpodlabels3, Fpodlabels3, Apodneeds3, cpodneeds3, Fpodneeds3, Apodtolerances3, cpodtolerances3, Fpodtolerances3, hck3, hFk3, hpodname3, hpodlabels3, hpodcpu3, hpodmem3, hpodrank3, hpodneeds3, hpodtolerances3, hon3, hseq3⟩ := rd_Placed hre3
                subst hck3
                have q0 : w.cell? ⟨b, o + 0 * 9, none⟩ = some (.string x.pods[0].pod.name) := by exact hc3 0 _ rfl
                have q1 : w.cell? ⟨b, o + 0 * 9 + 1, none⟩ = some (.slice Apodlabels3 x.pods[0].pod.labels.length cpodlabels3) := by rw [Nat.add_assoc]; exact hc3 1 _ rfl
                have q2 : w.cell? ⟨b, o + 0 * 9 + 2, none⟩ = some (.int .i64 x.pods[0].pod.cpu) := by rw [Nat.add_assoc]; exact hc3 2 _ rfl
                have q3 : w.cell? ⟨b, o + 0 * 9 + 3, none⟩ = some (.int .i64 x.pods[0].pod.mem) := by rw [Nat.add_assoc]; exact hc3 3 _ rfl
                have q4 : w.cell? ⟨b, o + 0 * 9 + 4, none⟩ = some (.int .i64 x.pods[0].pod.rank) := by rw [Nat.add_assoc]; exact hc3 4 _ rfl
                have q5 : w.cell? ⟨b, o + 0 * 9 + 5, none⟩ = some (.slice Apodneeds3 x.pods[0].pod.needs.length cpodneeds3) := by rw [Nat.add_assoc]; exact hc3 5 _ rfl
                have q6 : w.cell? ⟨b, o + 0 * 9 + 6, none⟩ = some (.slice Apodtolerances3 x.pods[0].pod.tolerances.length cpodtolerances3) := by rw [Nat.add_assoc]; exact hc3 6 _ rfl
                have q7 : w.cell? ⟨b, o + 0 * 9 + 7, none⟩ = some (.string x.pods[0].on) := by rw [Nat.add_assoc]; exact hc3 7 _ rfl
                have q8 : w.cell? ⟨b, o + 0 * 9 + 8, none⟩ = some (.int .i64 x.pods[0].seq) := by rw [Nat.add_assoc]; exact hc3 8 _ rfl
                clear hc3 hre3 hFk3
                simp only [Nat.zero_mul, Nat.add_zero] at q0 q1 q2 q3 q4 q5 q6 q7 q8
                obtain ⟨dpod, don, Gpod, Gon, hdc, hdG, hrpod, _⟩ := hr3
                have hrpod2 : rd w x.pods[0].pod [.string x.pods[0].pod.name, .slice Apodlabels3 x.pods[0].pod.labels.length cpodlabels3, .int .i64 x.pods[0].pod.cpu, .int .i64 x.pods[0].pod.mem, .int .i64 x.pods[0].pod.rank, .slice Apodneeds3 x.pods[0].pod.needs.length cpodneeds3, .slice Apodtolerances3 x.pods[0].pod.tolerances.length cpodtolerances3] Gpod := by
                  have hl7 : dpod.length = 7 := Dat.len hrpod
                  have h2 : List.take 7 (dpod ++ don) = dpod := by rw [List.take_append_of_le_length (by omega), List.take_of_length_le (by omega)]
                  have h3 := congrArg (List.take 7) hdc
                  rw [h2] at h3
                  rw [← h3] at hrpod
                  exact hrpod
                clear hdc hdG hrpod
                have hBr : Below w.heap.size w wr := ext_trans hB0 hbl
                have hKwr := (bcell hbl).1
                replace c0 := (hKwr _ _ hz0).trans c0
                replace c1 := (hKwr _ _ hz0).trans c1
                replace c2 := (hKwr _ _ hz0).trans c2
                replace c3 := (hKwr _ _ hz0).trans c3
                replace c4 := (hKwr _ _ hz0).trans c4
                replace c5 := (hKwr _ _ hz0).trans c5
                clear hKwr
                replace q0 := ((bcell hBr).1 b _ hbs3).trans q0
                replace q1 := ((bcell hBr).1 b _ hbs3).trans q1
                replace q2 := ((bcell hBr).1 b _ hbs3).trans q2
                replace q3 := ((bcell hBr).1 b _ hbs3).trans q3
                replace q4 := ((bcell hBr).1 b _ hbs3).trans q4
                replace q5 := ((bcell hBr).1 b _ hbs3).trans q5
                replace q6 := ((bcell hBr).1 b _ hbs3).trans q6
                replace q7 := ((bcell hBr).1 b _ hbs3).trans q7
                replace q8 := ((bcell hBr).1 b _ hbs3).trans q8

                have hbsr : b < wr.heap.size := by have := hBr.size; omega
                have hz0r : w.heap.size < wr.heap.size := by have := hbl.size; omega
                have hsq := hpods.placed_seq x.pods[0] (List.getElem_mem ..)
                have hsq1 := hsq.1
                have hsq2 := hsq.2
                have hwk := HWQ.out (0) hlt
                have hnw : IntKind.i64.wrap (x.next - 1) = x.next - 1 := IntWalk.i64_in _ (by omega)
                obtain ⟨wi, hwi⟩ : ∃ wi, (decide ((1 : Int) ≤ x.pods[0].seq) && decide (x.pods[0].seq ≤ x.next - 1)) = wi := ⟨_, rfl⟩
                have HWI := Lib.hid hwi
                cases h1 : podR x.pods[0].pod with
                | false =>
                  have H1 := Lib.hid h1
                  as_aux_lemma =>
                    have hp := rowAt0 (ok := podX x) (less := placedLess) hlt (show podX x x.pods[0] = false by unfold podX; rw [h1]; rfl)
                    have HF := Lib.hid (clusterR_pod hlt hp)
                    clear hp
                    go_wp2_with fail
                    skip
                    refine wp_region_grow _ (by kernel_rfl) (by kernel_rfl) (ext_refl _) ?_
                    repeat (first
                      | (apply inText_skip
                         case hw => rfl
                         simp only [Act.put, List.setIfInBounds_toArray, List.set_cons_zero, List.set_cons_succ])
                      | (apply inText_step
                         case hw => rfl
                         case h =>
                           intro wq hq
                           have hcq := (cls_cell hq).1
                           have hfq := (cls_cell hq).2
                           go_simp
                           first
                             | exact ⟨hq, rfl⟩
                             | exact ⟨cls_alloc hq _, rfl⟩
                             | (first | (refine (PodOk_spec x.pods[0].pod _ _ _ (rd_extT hrpod2 (by repeat (first | with_reducible exact hq | with_reducible exact hq.out | with_reducible exact ext_refl _ | with_reducible assumption | with_reducible refine ext_alloc ?_ _ | with_reducible refine ext_trans ?_ (by first | exact hq | exact hq.out) | with_reducible refine ext_trans ?_ (by assumption)))) hwk).mono ?_; rw [H1.out]; rintro e w2 ⟨rfl, hb2⟩; exact ⟨rfl, cls_trans hq hb2⟩) | (refine (l01In_any2 x.pods[0].seq 1 (x.next - 1) _).mono ?_; rw [HWI.out]; rintro e w2 ⟨rfl, rfl⟩; exact ⟨rfl, hq⟩) | (refine (HostAt_spec x _ _ x.pods[0].on _ (rd_extT h (by repeat (first | with_reducible exact hq | with_reducible exact hq.out | with_reducible exact ext_refl _ | with_reducible assumption | with_reducible refine ext_alloc ?_ _ | with_reducible refine ext_trans ?_ (by first | exact hq | exact hq.out) | with_reducible refine ext_trans ?_ (by assumption)))) HHL.out).mono ?_; rw [HIX.out]; rintro e w2 ⟨rfl, hb2⟩; exact ⟨rfl, cls_trans hq hb2⟩))
                             | (simp only [↓IntWalk.iteOmega]; exact ⟨hq, rfl⟩)
                         simp only [Act.put, List.setIfInBounds_toArray, List.set_cons_zero, List.set_cons_succ]))
                    refine inText_nil ?_
                    intro wn hn
                    replace hn := hn.out
                    obtain ⟨hcn, hfn⟩ := bcell hn
                    have hzn : w.heap.size < wn.heap.size := by have := hn.size; (try simp at this); omega
                    have hyn : b < wn.heap.size := by have := hn.size; (try simp at this); omega
                    try (have hxn : wr.heap.size < wn.heap.size := by have := hn.size; (try simp at this); omega)
                    go_wp2
                    go_ret
                    exact ⟨by rw [HF.out]; rfl, (by repeat (first | with_reducible exact ext_refl _ | with_reducible assumption | with_reducible refine ext_alloc ?_ _ | with_reducible refine ext_trans ?_ (by assumption)))⟩
                | true =>
                  have H1 := Lib.hid h1
                  cases wi with
                  | false =>
                    as_aux_lemma =>
                      have hp := rowAt0 (ok := podX x) (less := placedLess) hlt (show podX x x.pods[0] = false by unfold podX; rw [hwi]; simp)
                      have HF := Lib.hid (clusterR_pod hlt hp)
                      clear hp
                      go_wp2_with fail
                      skip
                      refine wp_region_grow _ (by kernel_rfl) (by kernel_rfl) (ext_refl _) ?_
                      repeat (first
                        | (apply inText_skip
                           case hw => rfl
                           simp only [Act.put, List.setIfInBounds_toArray, List.set_cons_zero, List.set_cons_succ])
                        | (apply inText_step
                           case hw => rfl
                           case h =>
                             intro wq hq
                             have hcq := (cls_cell hq).1
                             have hfq := (cls_cell hq).2
                             go_simp
                             first
                               | exact ⟨hq, rfl⟩
                               | exact ⟨cls_alloc hq _, rfl⟩
                               | (first | (refine (PodOk_spec x.pods[0].pod _ _ _ (rd_extT hrpod2 (by repeat (first | with_reducible exact hq | with_reducible exact hq.out | with_reducible exact ext_refl _ | with_reducible assumption | with_reducible refine ext_alloc ?_ _ | with_reducible refine ext_trans ?_ (by first | exact hq | exact hq.out) | with_reducible refine ext_trans ?_ (by assumption)))) hwk).mono ?_; rw [H1.out]; rintro e w2 ⟨rfl, hb2⟩; exact ⟨rfl, cls_trans hq hb2⟩) | (refine (l01In_any2 x.pods[0].seq 1 (x.next - 1) _).mono ?_; rw [HWI.out]; rintro e w2 ⟨rfl, rfl⟩; exact ⟨rfl, hq⟩) | (refine (HostAt_spec x _ _ x.pods[0].on _ (rd_extT h (by repeat (first | with_reducible exact hq | with_reducible exact hq.out | with_reducible exact ext_refl _ | with_reducible assumption | with_reducible refine ext_alloc ?_ _ | with_reducible refine ext_trans ?_ (by first | exact hq | exact hq.out) | with_reducible refine ext_trans ?_ (by assumption)))) HHL.out).mono ?_; rw [HIX.out]; rintro e w2 ⟨rfl, hb2⟩; exact ⟨rfl, cls_trans hq hb2⟩))
                               | (simp only [↓IntWalk.iteOmega]; exact ⟨hq, rfl⟩)
                           simp only [Act.put, List.setIfInBounds_toArray, List.set_cons_zero, List.set_cons_succ]))
                      refine inText_nil ?_
                      intro wn hn
                      replace hn := hn.out
                      obtain ⟨hcn, hfn⟩ := bcell hn
                      have hzn : w.heap.size < wn.heap.size := by have := hn.size; (try simp at this); omega
                      have hyn : b < wn.heap.size := by have := hn.size; (try simp at this); omega
                      try (have hxn : wr.heap.size < wn.heap.size := by have := hn.size; (try simp at this); omega)
                      go_wp2
                      go_ret
                      exact ⟨by rw [HF.out]; rfl, (by repeat (first | with_reducible exact ext_refl _ | with_reducible assumption | with_reducible refine ext_alloc ?_ _ | with_reducible refine ext_trans ?_ (by assumption)))⟩
                  | true =>
                    cases hon : (x.pods[0].on.toList == []) with
                    | true =>
                      have HIX := Lib.hid (show True from trivial)
                      have hon2 : (x.pods[0].on.toList != []) = false := by unfold bne; rw [hon]; rfl
                      as_aux_lemma =>
                        have hp := rowAt0 (ok := podX x) (less := placedLess) hlt (show podX x x.pods[0] = true by unfold podX; rw [h1, hwi, hon]; rfl)
                        have HN := Lib.hid (upto_next hall.out hp)
                        clear hp
                        go_wp2_with fail
                        skip
                        refine wp_region_grow _ (by kernel_rfl) (by kernel_rfl) (ext_refl _) ?_
                        repeat (first
                          | (apply inText_skip
                             case hw => rfl
                             simp only [Act.put, List.setIfInBounds_toArray, List.set_cons_zero, List.set_cons_succ])
                          | (apply inText_step
                             case hw => rfl
                             case h =>
                               intro wq hq
                               have hcq := (cls_cell hq).1
                               have hfq := (cls_cell hq).2
                               go_simp
                               first
                                 | exact ⟨hq, rfl⟩
                                 | exact ⟨cls_alloc hq _, rfl⟩
                                 | (first | (refine (PodOk_spec x.pods[0].pod _ _ _ (rd_extT hrpod2 (by repeat (first | with_reducible exact hq | with_reducible exact hq.out | with_reducible exact ext_refl _ | with_reducible assumption | with_reducible refine ext_alloc ?_ _ | with_reducible refine ext_trans ?_ (by first | exact hq | exact hq.out) | with_reducible refine ext_trans ?_ (by assumption)))) hwk).mono ?_; rw [H1.out]; rintro e w2 ⟨rfl, hb2⟩; exact ⟨rfl, cls_trans hq hb2⟩) | (refine (l01In_any2 x.pods[0].seq 1 (x.next - 1) _).mono ?_; rw [HWI.out]; rintro e w2 ⟨rfl, rfl⟩; exact ⟨rfl, hq⟩) | (refine (HostAt_spec x _ _ x.pods[0].on _ (rd_extT h (by repeat (first | with_reducible exact hq | with_reducible exact hq.out | with_reducible exact ext_refl _ | with_reducible assumption | with_reducible refine ext_alloc ?_ _ | with_reducible refine ext_trans ?_ (by first | exact hq | exact hq.out) | with_reducible refine ext_trans ?_ (by assumption)))) HHL.out).mono ?_; rw [HIX.out]; rintro e w2 ⟨rfl, hb2⟩; exact ⟨rfl, cls_trans hq hb2⟩))
                                 | (simp only [↓IntWalk.iteOmega]; exact ⟨hq, rfl⟩)
                             simp only [Act.put, List.setIfInBounds_toArray, List.set_cons_zero, List.set_cons_succ]))
                        refine inText_nil ?_
                        intro wn hn
                        replace hn := hn.out
                        obtain ⟨hcn, hfn⟩ := bcell hn
                        have hzn : w.heap.size < wn.heap.size := by have := hn.size; (try simp at this); omega
                        have hyn : b < wn.heap.size := by have := hn.size; (try simp at this); omega
                        try (have hxn : wr.heap.size < wn.heap.size := by have := hn.size; (try simp at this); omega)
                        have hWn : Below wr.heap.size wr wn := (by repeat (first | with_reducible exact ext_refl _ | with_reducible assumption | with_reducible refine ext_alloc ?_ _ | with_reducible refine ext_trans ?_ (by assumption)))
                        have hs8 : wn.cell? ⟨wr.heap.size, 8, none⟩ = some (.int .i64 x.pods[0].seq) := by rw [hcn _ _ (by simp), cell_of_row _ _ _ _ _ _ (heap_alloc_new wr _)]; rfl
                        have hK12 : (0 : Nat) < 12 := by omega
                        obtain ⟨wo, hwo⟩ : ∃ wo, wo = wr := ⟨_, rfl⟩
                        subst hwo
                        go_wp2_with fail
                        go_loopw [5] (fun i2 wi => ∃ q : Nat, q ≤ 0 ∧ i2 = .int .i64 q ∧ Hid (∀ u ∈ x.pods.take q, (u.seq == x.pods[0].seq) = false) ∧ Below wn.heap.size wn wi) (fun i2 _ => 0 - (intOf i2).toNat)
                        case atStart => exact ⟨0, Nat.zero_le _, rfl, by show ∀ _, _; simp, ext_refl _⟩
                        case round =>
                          obtain ⟨q, hq, rfl, HQ, hbi⟩ := hrel
                          have hWi : Below wo.heap.size wo wr := ext_trans hWn hbi
                          have hBi : Below w.heap.size w wr := ext_trans hBr hWi
                          have ci0 := (bcell hWi).1 _ 0 hz0r |>.trans c0
                          have ci1 := (bcell hWi).1 _ 1 hz0r |>.trans c1
                          have ci2 := (bcell hWi).1 _ 2 hz0r |>.trans c2
                          have ci3 := (bcell hWi).1 _ 3 hz0r |>.trans c3
                          have ci4 := (bcell hWi).1 _ 4 hz0r |>.trans c4
                          have ci5 := (bcell hWi).1 _ 5 hz0r |>.trans c5
                          replace hs8 := ((bcell hbi).1 _ _ (by omega)).trans hs8
                          have hzi : w.heap.size < wr.heap.size := by have := hWi.size; omega
                          have hxi : wo.heap.size < wr.heap.size := by have := hbi.size; omega
                          by_cases hqk : q < 0
                          · exact absurd hqk (by omega)
                          · obtain rfl : q = 0 := by omega
                            have hsn : seenIn (x.pods.take (0)) x.pods[0].seq = false := by
                              unfold seenIn
                              rw [List.any_eq_false]
                              intro u hu
                              have := HQ.out u hu
                              simp [this]
                            have HN2 := Lib.hid (upto_next hfresh.out (show freshAt x.pods (0) = true by rw [freshAt_get hlt, hsn]; rfl))
                            clear hsn
                            go_wp2
                            exact ⟨⟨0 + 1, by omega, by go_num, HN.out, HN2.out, ext_trans hbl hWi⟩, by simp [intOf]; omega⟩
                    | false =>
                      have hon2 : (x.pods[0].on.toList != []) = true := by unfold bne; rw [hon]; rfl
                      rcases idxI_ways (hostatP x.pods[0].on) x.hosts with hi | ⟨iz, hiz, hi⟩
                      · have HIX := Lib.hid hi
                        as_aux_lemma =>
                          have hp := rowAt0 (ok := podX x) (less := placedLess) hlt (show podX x x.pods[0] = false by unfold podX; rw [hi, hon]; simp)
                          have HF := Lib.hid (clusterR_pod hlt hp)
                          clear hp hi
                          go_wp2_with fail
                          skip
                          refine wp_region_grow _ (by kernel_rfl) (by kernel_rfl) (ext_refl _) ?_
                          repeat (first
                            | (apply inText_skip
                               case hw => rfl
                               simp only [Act.put, List.setIfInBounds_toArray, List.set_cons_zero, List.set_cons_succ])
                            | (apply inText_step
                               case hw => rfl
                               case h =>
                                 intro wq hq
                                 have hcq := (cls_cell hq).1
                                 have hfq := (cls_cell hq).2
                                 go_simp
                                 first
                                   | exact ⟨hq, rfl⟩
                                   | exact ⟨cls_alloc hq _, rfl⟩
                                   | (first | (refine (PodOk_spec x.pods[0].pod _ _ _ (rd_extT hrpod2 (by repeat (first | with_reducible exact hq | with_reducible exact hq.out | with_reducible exact ext_refl _ | with_reducible assumption | with_reducible refine ext_alloc ?_ _ | with_reducible refine ext_trans ?_ (by first | exact hq | exact hq.out) | with_reducible refine ext_trans ?_ (by assumption)))) hwk).mono ?_; rw [H1.out]; rintro e w2 ⟨rfl, hb2⟩; exact ⟨rfl, cls_trans hq hb2⟩) | (refine (l01In_any2 x.pods[0].seq 1 (x.next - 1) _).mono ?_; rw [HWI.out]; rintro e w2 ⟨rfl, rfl⟩; exact ⟨rfl, hq⟩) | (refine (HostAt_spec x _ _ x.pods[0].on _ (rd_extT h (by repeat (first | with_reducible exact hq | with_reducible exact hq.out | with_reducible exact ext_refl _ | with_reducible assumption | with_reducible refine ext_alloc ?_ _ | with_reducible refine ext_trans ?_ (by first | exact hq | exact hq.out) | with_reducible refine ext_trans ?_ (by assumption)))) HHL.out).mono ?_; rw [HIX.out]; rintro e w2 ⟨rfl, hb2⟩; exact ⟨rfl, cls_trans hq hb2⟩))
                                   | (simp only [↓IntWalk.iteOmega]; exact ⟨hq, rfl⟩)
                               simp only [Act.put, List.setIfInBounds_toArray, List.set_cons_zero, List.set_cons_succ]))
                          refine inText_nil ?_
                          intro wn hn
                          replace hn := hn.out
                          obtain ⟨hcn, hfn⟩ := bcell hn
                          have hzn : w.heap.size < wn.heap.size := by have := hn.size; (try simp at this); omega
                          have hyn : b < wn.heap.size := by have := hn.size; (try simp at this); omega
                          try (have hxn : wr.heap.size < wn.heap.size := by have := hn.size; (try simp at this); omega)
                          go_wp2
                          go_ret
                          exact ⟨by rw [HF.out]; rfl, (by repeat (first | with_reducible exact ext_refl _ | with_reducible assumption | with_reducible refine ext_alloc ?_ _ | with_reducible refine ext_trans ?_ (by assumption)))⟩
                      · have HIX := Lib.hid hi
                        have hdi : decide ((iz : Int) < 0) = false := decide_eq_false (by omega)
                        have hp0 : podX x x.pods[0] = true := by unfold podX; rw [h1, hwi, hon, hi]; simp
                        clear hi
                        as_aux_lemma =>
                          have hp := rowAt0 (ok := podX x) (less := placedLess) hlt (show podX x x.pods[0] = true by exact hp0)
                          have HN := Lib.hid (upto_next hall.out hp)
                          clear hp
                          go_wp2_with fail
                          skip
                          refine wp_region_grow _ (by kernel_rfl) (by kernel_rfl) (ext_refl _) ?_
                          repeat (first
                            | (apply inText_skip
                               case hw => rfl
                               simp only [Act.put, List.setIfInBounds_toArray, List.set_cons_zero, List.set_cons_succ])
                            | (apply inText_step
                               case hw => rfl
                               case h =>
                                 intro wq hq
                                 have hcq := (cls_cell hq).1
                                 have hfq := (cls_cell hq).2
                                 go_simp
                                 first
                                   | exact ⟨hq, rfl⟩
                                   | exact ⟨cls_alloc hq _, rfl⟩
                                   | (first | (refine (PodOk_spec x.pods[0].pod _ _ _ (rd_extT hrpod2 (by repeat (first | with_reducible exact hq | with_reducible exact hq.out | with_reducible exact ext_refl _ | with_reducible assumption | with_reducible refine ext_alloc ?_ _ | with_reducible refine ext_trans ?_ (by first | exact hq | exact hq.out) | with_reducible refine ext_trans ?_ (by assumption)))) hwk).mono ?_; rw [H1.out]; rintro e w2 ⟨rfl, hb2⟩; exact ⟨rfl, cls_trans hq hb2⟩) | (refine (l01In_any2 x.pods[0].seq 1 (x.next - 1) _).mono ?_; rw [HWI.out]; rintro e w2 ⟨rfl, rfl⟩; exact ⟨rfl, hq⟩) | (refine (HostAt_spec x _ _ x.pods[0].on _ (rd_extT h (by repeat (first | with_reducible exact hq | with_reducible exact hq.out | with_reducible exact ext_refl _ | with_reducible assumption | with_reducible refine ext_alloc ?_ _ | with_reducible refine ext_trans ?_ (by first | exact hq | exact hq.out) | with_reducible refine ext_trans ?_ (by assumption)))) HHL.out).mono ?_; rw [HIX.out]; rintro e w2 ⟨rfl, hb2⟩; exact ⟨rfl, cls_trans hq hb2⟩))
                                   | (simp only [↓IntWalk.iteOmega]; exact ⟨hq, rfl⟩)
                               simp only [Act.put, List.setIfInBounds_toArray, List.set_cons_zero, List.set_cons_succ]))
                          refine inText_nil ?_
                          intro wn hn
                          replace hn := hn.out
                          obtain ⟨hcn, hfn⟩ := bcell hn
                          have hzn : w.heap.size < wn.heap.size := by have := hn.size; (try simp at this); omega
                          have hyn : b < wn.heap.size := by have := hn.size; (try simp at this); omega
                          try (have hxn : wr.heap.size < wn.heap.size := by have := hn.size; (try simp at this); omega)
                          have hWn : Below wr.heap.size wr wn := (by repeat (first | with_reducible exact ext_refl _ | with_reducible assumption | with_reducible refine ext_alloc ?_ _ | with_reducible refine ext_trans ?_ (by assumption)))
                          have hs8 : wn.cell? ⟨wr.heap.size, 8, none⟩ = some (.int .i64 x.pods[0].seq) := by rw [hcn _ _ (by simp), cell_of_row _ _ _ _ _ _ (heap_alloc_new wr _)]; rfl
                          have hK12 : (0 : Nat) < 12 := by omega
                          obtain ⟨wo, hwo⟩ : ∃ wo, wo = wr := ⟨_, rfl⟩
                          subst hwo
                          go_wp2_with fail
                          go_loopw [5] (fun i2 wi => ∃ q : Nat, q ≤ 0 ∧ i2 = .int .i64 q ∧ Hid (∀ u ∈ x.pods.take q, (u.seq == x.pods[0].seq) = false) ∧ Below wn.heap.size wn wi) (fun i2 _ => 0 - (intOf i2).toNat)
                          case atStart => exact ⟨0, Nat.zero_le _, rfl, by show ∀ _, _; simp, ext_refl _⟩
                          case round =>
                            obtain ⟨q, hq, rfl, HQ, hbi⟩ := hrel
                            have hWi : Below wo.heap.size wo wr := ext_trans hWn hbi
                            have hBi : Below w.heap.size w wr := ext_trans hBr hWi
                            have ci0 := (bcell hWi).1 _ 0 hz0r |>.trans c0
                            have ci1 := (bcell hWi).1 _ 1 hz0r |>.trans c1
                            have ci2 := (bcell hWi).1 _ 2 hz0r |>.trans c2
                            have ci3 := (bcell hWi).1 _ 3 hz0r |>.trans c3
                            have ci4 := (bcell hWi).1 _ 4 hz0r |>.trans c4
                            have ci5 := (bcell hWi).1 _ 5 hz0r |>.trans c5
                            replace hs8 := ((bcell hbi).1 _ _ (by omega)).trans hs8
                            have hzi : w.heap.size < wr.heap.size := by have := hWi.size; omega
                            have hxi : wo.heap.size < wr.heap.size := by have := hbi.size; omega
                            by_cases hqk : q < 0
                            · exact absurd hqk (by omega)
                            · obtain rfl : q = 0 := by omega
                              have hsn : seenIn (x.pods.take (0)) x.pods[0].seq = false := by
                                unfold seenIn
                                rw [List.any_eq_false]
                                intro u hu
                                have := HQ.out u hu
                                simp [this]
                              have HN2 := Lib.hid (upto_next hfresh.out (show freshAt x.pods (0) = true by rw [freshAt_get hlt, hsn]; rfl))
                              clear hsn
                              go_wp2
                              exact ⟨⟨0 + 1, by omega, by go_num, HN.out, HN2.out, ext_trans hbl hWi⟩, by simp [intOf]; omega⟩
              · obtain ⟨b, o, ck3, Fk3, rfl, hbF3, hbs3, hr3, hsub3, hc3⟩ := Sl.get (α := Placed) (A := Apods) (c := cpods) hpods hlt
                have hre3 := hr3
                obtain ⟨Apodlabels3, cpodlabels3, Fpodlabels3, Apodneeds3, cpodneeds3, Fpodneeds3, Apodtolerances3, cpodtolerances3, Fpodtolerances3, hck3, hFk3, hpodname3, hpodlabels3, hpodcpu3, hpodmem3, hpodrank3, hpodneeds3, hpodtolerances3, hon3, hseq3⟩ := rd_Placed hre3
                subst hck3
                have q0 : w.cell? ⟨b, o + (j + 1) * 9, none⟩ = some (.string x.pods[j + 1].pod.name) := by exact hc3 0 _ rfl
                have q1 : w.cell? ⟨b, o + (j + 1) * 9 + 1, none⟩ = some (.slice Apodlabels3 x.pods[j + 1].pod.labels.length cpodlabels3) := by rw [Nat.add_assoc]; exact hc3 1 _ rfl
                have q2 : w.cell? ⟨b, o + (j + 1) * 9 + 2, none⟩ = some (.int .i64 x.pods[j + 1].pod.cpu) := by rw [Nat.add_assoc]; exact hc3 2 _ rfl
                have q3 : w.cell? ⟨b, o + (j + 1) * 9 + 3, none⟩ = some (.int .i64 x.pods[j + 1].pod.mem) := by rw [Nat.add_assoc]; exact hc3 3 _ rfl
                have q4 : w.cell? ⟨b, o + (j + 1) * 9 + 4, none⟩ = some (.int .i64 x.pods[j + 1].pod.rank) := by rw [Nat.add_assoc]; exact hc3 4 _ rfl
                have q5 : w.cell? ⟨b, o + (j + 1) * 9 + 5, none⟩ = some (.slice Apodneeds3 x.pods[j + 1].pod.needs.length cpodneeds3) := by rw [Nat.add_assoc]; exact hc3 5 _ rfl
                have q6 : w.cell? ⟨b, o + (j + 1) * 9 + 6, none⟩ = some (.slice Apodtolerances3 x.pods[j + 1].pod.tolerances.length cpodtolerances3) := by rw [Nat.add_assoc]; exact hc3 6 _ rfl
                have q7 : w.cell? ⟨b, o + (j + 1) * 9 + 7, none⟩ = some (.string x.pods[j + 1].on) := by rw [Nat.add_assoc]; exact hc3 7 _ rfl
                have q8 : w.cell? ⟨b, o + (j + 1) * 9 + 8, none⟩ = some (.int .i64 x.pods[j + 1].seq) := by rw [Nat.add_assoc]; exact hc3 8 _ rfl
                clear hc3 hre3 hFk3
                obtain ⟨b', o', ck4, Fk4, e, hbF4, hbs4, hr4, hsub4, hc4⟩ := Sl.get (α := Placed) (c := cpods) hpods (show j < x.pods.length by omega)
                have hre4 := hr4
                obtain ⟨Apodlabels4, cpodlabels4, Fpodlabels4, Apodneeds4, cpodneeds4, Fpodneeds4, Apodtolerances4, cpodtolerances4, Fpodtolerances4, hck4, hFk4, hpodname4, hpodlabels4, hpodcpu4, hpodmem4, hpodrank4, hpodneeds4, hpodtolerances4, hon4, hseq4⟩ := rd_Placed hre4
                subst hck4
                obtain ⟨rfl, rfl⟩ : b' = b ∧ o' = o := by simpa using e.symm
                clear e
                have p0 : w.cell? ⟨b', o' + j * 9, none⟩ = some (.string x.pods[j].pod.name) := by exact hc4 0 _ rfl
                have p1 : w.cell? ⟨b', o' + j * 9 + 1, none⟩ = some (.slice Apodlabels4 x.pods[j].pod.labels.length cpodlabels4) := by rw [Nat.add_assoc]; exact hc4 1 _ rfl
                have p2 : w.cell? ⟨b', o' + j * 9 + 2, none⟩ = some (.int .i64 x.pods[j].pod.cpu) := by rw [Nat.add_assoc]; exact hc4 2 _ rfl
                have p3 : w.cell? ⟨b', o' + j * 9 + 3, none⟩ = some (.int .i64 x.pods[j].pod.mem) := by rw [Nat.add_assoc]; exact hc4 3 _ rfl
                have p4 : w.cell? ⟨b', o' + j * 9 + 4, none⟩ = some (.int .i64 x.pods[j].pod.rank) := by rw [Nat.add_assoc]; exact hc4 4 _ rfl
                have p5 : w.cell? ⟨b', o' + j * 9 + 5, none⟩ = some (.slice Apodneeds4 x.pods[j].pod.needs.length cpodneeds4) := by rw [Nat.add_assoc]; exact hc4 5 _ rfl
                have p6 : w.cell? ⟨b', o' + j * 9 + 6, none⟩ = some (.slice Apodtolerances4 x.pods[j].pod.tolerances.length cpodtolerances4) := by rw [Nat.add_assoc]; exact hc4 6 _ rfl
                have p7 : w.cell? ⟨b', o' + j * 9 + 7, none⟩ = some (.string x.pods[j].on) := by rw [Nat.add_assoc]; exact hc4 7 _ rfl
                have p8 : w.cell? ⟨b', o' + j * 9 + 8, none⟩ = some (.int .i64 x.pods[j].seq) := by rw [Nat.add_assoc]; exact hc4 8 _ rfl
                clear hc4 hre4 hFk4
                obtain ⟨dpod, don, Gpod, Gon, hdc, hdG, hrpod, _⟩ := hr3
                have hrpod2 : rd w x.pods[j + 1].pod [.string x.pods[j + 1].pod.name, .slice Apodlabels3 x.pods[j + 1].pod.labels.length cpodlabels3, .int .i64 x.pods[j + 1].pod.cpu, .int .i64 x.pods[j + 1].pod.mem, .int .i64 x.pods[j + 1].pod.rank, .slice Apodneeds3 x.pods[j + 1].pod.needs.length cpodneeds3, .slice Apodtolerances3 x.pods[j + 1].pod.tolerances.length cpodtolerances3] Gpod := by
                  have hl7 : dpod.length = 7 := Dat.len hrpod
                  have h2 : List.take 7 (dpod ++ don) = dpod := by rw [List.take_append_of_le_length (by omega), List.take_of_length_le (by omega)]
                  have h3 := congrArg (List.take 7) hdc
                  rw [h2] at h3
                  rw [← h3] at hrpod
                  exact hrpod
                clear hdc hdG hrpod
                have hBr : Below w.heap.size w wr := ext_trans hB0 hbl
                have hKwr := (bcell hbl).1
                replace c0 := (hKwr _ _ hz0).trans c0
                replace c1 := (hKwr _ _ hz0).trans c1
                replace c2 := (hKwr _ _ hz0).trans c2
                replace c3 := (hKwr _ _ hz0).trans c3
                replace c4 := (hKwr _ _ hz0).trans c4
                replace c5 := (hKwr _ _ hz0).trans c5
                clear hKwr
                replace q0 := ((bcell hBr).1 b' _ hbs3).trans q0
                replace q1 := ((bcell hBr).1 b' _ hbs3).trans q1
                replace q2 := ((bcell hBr).1 b' _ hbs3).trans q2
                replace q3 := ((bcell hBr).1 b' _ hbs3).trans q3
                replace q4 := ((bcell hBr).1 b' _ hbs3).trans q4
                replace q5 := ((bcell hBr).1 b' _ hbs3).trans q5
                replace q6 := ((bcell hBr).1 b' _ hbs3).trans q6
                replace q7 := ((bcell hBr).1 b' _ hbs3).trans q7
                replace q8 := ((bcell hBr).1 b' _ hbs3).trans q8
                replace p0 := ((bcell hBr).1 b' _ hbs4).trans p0
                replace p1 := ((bcell hBr).1 b' _ hbs4).trans p1
                replace p2 := ((bcell hBr).1 b' _ hbs4).trans p2
                replace p3 := ((bcell hBr).1 b' _ hbs4).trans p3
                replace p4 := ((bcell hBr).1 b' _ hbs4).trans p4
                replace p5 := ((bcell hBr).1 b' _ hbs4).trans p5
                replace p6 := ((bcell hBr).1 b' _ hbs4).trans p6
                replace p7 := ((bcell hBr).1 b' _ hbs4).trans p7
                replace p8 := ((bcell hBr).1 b' _ hbs4).trans p8
                have hbsr : b' < wr.heap.size := by have := hBr.size; omega
                have hz0r : w.heap.size < wr.heap.size := by have := hbl.size; omega
                have hsq := hpods.placed_seq x.pods[j + 1] (List.getElem_mem ..)
                have hsq1 := hsq.1
                have hsq2 := hsq.2
                have hwk := HWQ.out (j + 1) hlt
                have hnw : IntKind.i64.wrap (x.next - 1) = x.next - 1 := IntWalk.i64_in _ (by omega)
                have hwj : IntKind.i64.wrap (j : Int) = j := IntWalk.i64_in _ (by omega)
                have hjl : j < x.pods.length := by omega
                clear p1 p2 p3 p4 p5 p6 p7 p8 hpodlabels4 hpodneeds4 hpodtolerances4 hpodcpu4 hpodmem4 hpodrank4 hon4 hseq4
                obtain ⟨wi, hwi⟩ : ∃ wi, (decide ((1 : Int) ≤ x.pods[j + 1].seq) && decide (x.pods[j + 1].seq ≤ x.next - 1)) = wi := ⟨_, rfl⟩
                have HWI := Lib.hid hwi
                cases h1 : podR x.pods[j + 1].pod with
                | false =>
                  have H1 := Lib.hid h1
                  obtain ⟨u3, h3⟩ : ∃ u, placedLess x.pods[j] x.pods[j + 1] = u := ⟨_, rfl⟩
                  as_aux_lemma =>
                    have hp := rowAtS (ok := podX x) (less := placedLess) hlt (show podX x x.pods[j + 1] = false by unfold podX; rw [h1]; rfl) (show placedLess x.pods[j] x.pods[j + 1] = u3 from h3)
                    try simp only [Bool.and_false, Bool.and_true, Bool.false_and, Bool.and_self] at hp
                    have HF := Lib.hid (clusterR_pod hlt hp)
                    clear hp
                    go_wp2_with fail
                    skip
                    refine wp_region_grow _ (by kernel_rfl) (by kernel_rfl) (ext_refl _) ?_
                    repeat (first
                      | (apply inText_skip
                         case hw => rfl
                         simp only [Act.put, List.setIfInBounds_toArray, List.set_cons_zero, List.set_cons_succ])
                      | (apply inText_step
                         case hw => rfl
                         case h =>
                           intro wq hq
                           have hcq := (cls_cell hq).1
                           have hfq := (cls_cell hq).2
                           go_simp
                           first
                             | exact ⟨hq, rfl⟩
                             | exact ⟨cls_alloc hq _, rfl⟩
                             | (first | (refine (PodOk_spec x.pods[j + 1].pod _ _ _ (rd_extT hrpod2 (by repeat (first | with_reducible exact hq | with_reducible exact hq.out | with_reducible exact ext_refl _ | with_reducible assumption | with_reducible refine ext_alloc ?_ _ | with_reducible refine ext_trans ?_ (by first | exact hq | exact hq.out) | with_reducible refine ext_trans ?_ (by assumption)))) hwk).mono ?_; rw [H1.out]; rintro e w2 ⟨rfl, hb2⟩; exact ⟨rfl, cls_trans hq hb2⟩) | (refine (l01In_any2 x.pods[j + 1].seq 1 (x.next - 1) _).mono ?_; rw [HWI.out]; rintro e w2 ⟨rfl, rfl⟩; exact ⟨rfl, hq⟩) | (refine (HostAt_spec x _ _ x.pods[j + 1].on _ (rd_extT h (by repeat (first | with_reducible exact hq | with_reducible exact hq.out | with_reducible exact ext_refl _ | with_reducible assumption | with_reducible refine ext_alloc ?_ _ | with_reducible refine ext_trans ?_ (by first | exact hq | exact hq.out) | with_reducible refine ext_trans ?_ (by assumption)))) HHL.out).mono ?_; rw [HIX.out]; rintro e w2 ⟨rfl, hb2⟩; exact ⟨rfl, cls_trans hq hb2⟩))
                             | (simp only [↓IntWalk.iteOmega]; exact ⟨hq, rfl⟩)
                         simp only [Act.put, List.setIfInBounds_toArray, List.set_cons_zero, List.set_cons_succ]))
                    refine inText_nil ?_
                    intro wn hn
                    replace hn := hn.out
                    obtain ⟨hcn, hfn⟩ := bcell hn
                    have hzn : w.heap.size < wn.heap.size := by have := hn.size; (try simp at this); omega
                    have hyn : b' < wn.heap.size := by have := hn.size; (try simp at this); omega
                    try (have hxn : wr.heap.size < wn.heap.size := by have := hn.size; (try simp at this); omega)
                    go_wp2
                    go_ret
                    exact ⟨by rw [HF.out]; rfl, (by repeat (first | with_reducible exact ext_refl _ | with_reducible assumption | with_reducible refine ext_alloc ?_ _ | with_reducible refine ext_trans ?_ (by assumption)))⟩
                | true =>
                  have H1 := Lib.hid h1
                  cases h3 : Op.bytesLess x.pods[j].pod.name.toList x.pods[j + 1].pod.name.toList with
                  | false =>
                    as_aux_lemma =>
                      obtain ⟨v, hv⟩ : ∃ v, podX x x.pods[j + 1] = v := ⟨_, rfl⟩
                      have hp := rowAtS (ok := podX x) (less := placedLess) hlt (show podX x x.pods[j + 1] = v by exact hv) (show placedLess x.pods[j] x.pods[j + 1] = false from h3)
                      try simp only [Bool.and_false, Bool.and_true, Bool.false_and, Bool.and_self] at hp
                      have HF := Lib.hid (clusterR_pod hlt hp)
                      clear hp hv
                      go_wp2_with fail
                      skip
                      refine wp_region_grow _ (by kernel_rfl) (by kernel_rfl) (ext_refl _) ?_
                      repeat (first
                        | (apply inText_skip
                           case hw => rfl
                           simp only [Act.put, List.setIfInBounds_toArray, List.set_cons_zero, List.set_cons_succ])
                        | (apply inText_step
                           case hw => rfl
                           case h =>
                             intro wq hq
                             have hcq := (cls_cell hq).1
                             have hfq := (cls_cell hq).2
                             go_simp
                             first
                               | exact ⟨hq, rfl⟩
                               | exact ⟨cls_alloc hq _, rfl⟩
                               | (first | (refine (PodOk_spec x.pods[j + 1].pod _ _ _ (rd_extT hrpod2 (by repeat (first | with_reducible exact hq | with_reducible exact hq.out | with_reducible exact ext_refl _ | with_reducible assumption | with_reducible refine ext_alloc ?_ _ | with_reducible refine ext_trans ?_ (by first | exact hq | exact hq.out) | with_reducible refine ext_trans ?_ (by assumption)))) hwk).mono ?_; rw [H1.out]; rintro e w2 ⟨rfl, hb2⟩; exact ⟨rfl, cls_trans hq hb2⟩) | (refine (l01In_any2 x.pods[j + 1].seq 1 (x.next - 1) _).mono ?_; rw [HWI.out]; rintro e w2 ⟨rfl, rfl⟩; exact ⟨rfl, hq⟩) | (refine (HostAt_spec x _ _ x.pods[j + 1].on _ (rd_extT h (by repeat (first | with_reducible exact hq | with_reducible exact hq.out | with_reducible exact ext_refl _ | with_reducible assumption | with_reducible refine ext_alloc ?_ _ | with_reducible refine ext_trans ?_ (by first | exact hq | exact hq.out) | with_reducible refine ext_trans ?_ (by assumption)))) HHL.out).mono ?_; rw [HIX.out]; rintro e w2 ⟨rfl, hb2⟩; exact ⟨rfl, cls_trans hq hb2⟩))
                               | (simp only [↓IntWalk.iteOmega]; exact ⟨hq, rfl⟩)
                           simp only [Act.put, List.setIfInBounds_toArray, List.set_cons_zero, List.set_cons_succ]))
                      refine inText_nil ?_
                      intro wn hn
                      replace hn := hn.out
                      obtain ⟨hcn, hfn⟩ := bcell hn
                      have hzn : w.heap.size < wn.heap.size := by have := hn.size; (try simp at this); omega
                      have hyn : b' < wn.heap.size := by have := hn.size; (try simp at this); omega
                      try (have hxn : wr.heap.size < wn.heap.size := by have := hn.size; (try simp at this); omega)
                      go_wp2
                      go_ret
                      exact ⟨by rw [HF.out]; rfl, (by repeat (first | with_reducible exact ext_refl _ | with_reducible assumption | with_reducible refine ext_alloc ?_ _ | with_reducible refine ext_trans ?_ (by assumption)))⟩
                  | true =>
                    cases wi with
                    | false =>
                      as_aux_lemma =>
                        have hp := rowAtS (ok := podX x) (less := placedLess) hlt (show podX x x.pods[j + 1] = false by unfold podX; rw [hwi]; simp) (show placedLess x.pods[j] x.pods[j + 1] = true from h3)
                        try simp only [Bool.and_false, Bool.and_true, Bool.false_and, Bool.and_self] at hp
                        have HF := Lib.hid (clusterR_pod hlt hp)
                        clear hp
                        go_wp2_with fail
                        skip
                        refine wp_region_grow _ (by kernel_rfl) (by kernel_rfl) (ext_refl _) ?_
                        repeat (first
                          | (apply inText_skip
                             case hw => rfl
                             simp only [Act.put, List.setIfInBounds_toArray, List.set_cons_zero, List.set_cons_succ])
                          | (apply inText_step
                             case hw => rfl
                             case h =>
                               intro wq hq
                               have hcq := (cls_cell hq).1
                               have hfq := (cls_cell hq).2
                               go_simp
                               first
                                 | exact ⟨hq, rfl⟩
                                 | exact ⟨cls_alloc hq _, rfl⟩
                                 | (first | (refine (PodOk_spec x.pods[j + 1].pod _ _ _ (rd_extT hrpod2 (by repeat (first | with_reducible exact hq | with_reducible exact hq.out | with_reducible exact ext_refl _ | with_reducible assumption | with_reducible refine ext_alloc ?_ _ | with_reducible refine ext_trans ?_ (by first | exact hq | exact hq.out) | with_reducible refine ext_trans ?_ (by assumption)))) hwk).mono ?_; rw [H1.out]; rintro e w2 ⟨rfl, hb2⟩; exact ⟨rfl, cls_trans hq hb2⟩) | (refine (l01In_any2 x.pods[j + 1].seq 1 (x.next - 1) _).mono ?_; rw [HWI.out]; rintro e w2 ⟨rfl, rfl⟩; exact ⟨rfl, hq⟩) | (refine (HostAt_spec x _ _ x.pods[j + 1].on _ (rd_extT h (by repeat (first | with_reducible exact hq | with_reducible exact hq.out | with_reducible exact ext_refl _ | with_reducible assumption | with_reducible refine ext_alloc ?_ _ | with_reducible refine ext_trans ?_ (by first | exact hq | exact hq.out) | with_reducible refine ext_trans ?_ (by assumption)))) HHL.out).mono ?_; rw [HIX.out]; rintro e w2 ⟨rfl, hb2⟩; exact ⟨rfl, cls_trans hq hb2⟩))
                                 | (simp only [↓IntWalk.iteOmega]; exact ⟨hq, rfl⟩)
                             simp only [Act.put, List.setIfInBounds_toArray, List.set_cons_zero, List.set_cons_succ]))
                        refine inText_nil ?_
                        intro wn hn
                        replace hn := hn.out
                        obtain ⟨hcn, hfn⟩ := bcell hn
                        have hzn : w.heap.size < wn.heap.size := by have := hn.size; (try simp at this); omega
                        have hyn : b' < wn.heap.size := by have := hn.size; (try simp at this); omega
                        try (have hxn : wr.heap.size < wn.heap.size := by have := hn.size; (try simp at this); omega)
                        go_wp2
                        go_ret
                        exact ⟨by rw [HF.out]; rfl, (by repeat (first | with_reducible exact ext_refl _ | with_reducible assumption | with_reducible refine ext_alloc ?_ _ | with_reducible refine ext_trans ?_ (by assumption)))⟩
                    | true =>
                      cases hon : (x.pods[j + 1].on.toList == []) with
                      | true =>
                        have HIX := Lib.hid (show True from trivial)
                        have hon2 : (x.pods[j + 1].on.toList != []) = false := by unfold bne; rw [hon]; rfl
                        as_aux_lemma =>
                          have hp := rowAtS (ok := podX x) (less := placedLess) hlt (show podX x x.pods[j + 1] = true by unfold podX; rw [h1, hwi, hon]; rfl) (show placedLess x.pods[j] x.pods[j + 1] = true from h3)
                          try simp only [Bool.and_false, Bool.and_true, Bool.false_and, Bool.and_self] at hp
                          have HN := Lib.hid (upto_next hall.out hp)
                          clear hp
                          go_wp2_with fail
                          skip
                          refine wp_region_grow _ (by kernel_rfl) (by kernel_rfl) (ext_refl _) ?_
                          repeat (first
                            | (apply inText_skip
                               case hw => rfl
                               simp only [Act.put, List.setIfInBounds_toArray, List.set_cons_zero, List.set_cons_succ])
                            | (apply inText_step
                               case hw => rfl
                               case h =>
                                 intro wq hq
                                 have hcq := (cls_cell hq).1
                                 have hfq := (cls_cell hq).2
                                 go_simp
                                 first
                                   | exact ⟨hq, rfl⟩
                                   | exact ⟨cls_alloc hq _, rfl⟩
                                   | (first | (refine (PodOk_spec x.pods[j + 1].pod _ _ _ (rd_extT hrpod2 (by repeat (first | with_reducible exact hq | with_reducible exact hq.out | with_reducible exact ext_refl _ | with_reducible assumption | with_reducible refine ext_alloc ?_ _ | with_reducible refine ext_trans ?_ (by first | exact hq | exact hq.out) | with_reducible refine ext_trans ?_ (by assumption)))) hwk).mono ?_; rw [H1.out]; rintro e w2 ⟨rfl, hb2⟩; exact ⟨rfl, cls_trans hq hb2⟩) | (refine (l01In_any2 x.pods[j + 1].seq 1 (x.next - 1) _).mono ?_; rw [HWI.out]; rintro e w2 ⟨rfl, rfl⟩; exact ⟨rfl, hq⟩) | (refine (HostAt_spec x _ _ x.pods[j + 1].on _ (rd_extT h (by repeat (first | with_reducible exact hq | with_reducible exact hq.out | with_reducible exact ext_refl _ | with_reducible assumption | with_reducible refine ext_alloc ?_ _ | with_reducible refine ext_trans ?_ (by first | exact hq | exact hq.out) | with_reducible refine ext_trans ?_ (by assumption)))) HHL.out).mono ?_; rw [HIX.out]; rintro e w2 ⟨rfl, hb2⟩; exact ⟨rfl, cls_trans hq hb2⟩))
                                   | (simp only [↓IntWalk.iteOmega]; exact ⟨hq, rfl⟩)
                               simp only [Act.put, List.setIfInBounds_toArray, List.set_cons_zero, List.set_cons_succ]))
                          refine inText_nil ?_
                          intro wn hn
                          replace hn := hn.out
                          obtain ⟨hcn, hfn⟩ := bcell hn
                          have hzn : w.heap.size < wn.heap.size := by have := hn.size; (try simp at this); omega
                          have hyn : b' < wn.heap.size := by have := hn.size; (try simp at this); omega
                          try (have hxn : wr.heap.size < wn.heap.size := by have := hn.size; (try simp at this); omega)
                          have hWn : Below wr.heap.size wr wn := (by repeat (first | with_reducible exact ext_refl _ | with_reducible assumption | with_reducible refine ext_alloc ?_ _ | with_reducible refine ext_trans ?_ (by assumption)))
                          have hs8 : wn.cell? ⟨wr.heap.size, 8, none⟩ = some (.int .i64 x.pods[j + 1].seq) := by rw [hcn _ _ (by simp), cell_of_row _ _ _ _ _ _ (heap_alloc_new wr _)]; rfl
                          have hK12 : (j + 1 : Nat) < 12 := by omega
                          obtain ⟨wo, hwo⟩ : ∃ wo, wo = wr := ⟨_, rfl⟩
                          subst hwo
                          go_wp2_with fail
                          go_loopw [5] (fun i2 wi => ∃ q : Nat, q ≤ j + 1 ∧ i2 = .int .i64 q ∧ Hid (∀ u ∈ x.pods.take q, (u.seq == x.pods[j + 1].seq) = false) ∧ Below wn.heap.size wn wi) (fun i2 _ => j + 1 - (intOf i2).toNat)
                          case atStart => exact ⟨0, Nat.zero_le _, rfl, by show ∀ _, _; simp, ext_refl _⟩
                          case round =>
                            obtain ⟨q, hq, rfl, HQ, hbi⟩ := hrel
                            have hWi : Below wo.heap.size wo wr := ext_trans hWn hbi
                            have hBi : Below w.heap.size w wr := ext_trans hBr hWi
                            have ci0 := (bcell hWi).1 _ 0 hz0r |>.trans c0
                            have ci1 := (bcell hWi).1 _ 1 hz0r |>.trans c1
                            have ci2 := (bcell hWi).1 _ 2 hz0r |>.trans c2
                            have ci3 := (bcell hWi).1 _ 3 hz0r |>.trans c3
                            have ci4 := (bcell hWi).1 _ 4 hz0r |>.trans c4
                            have ci5 := (bcell hWi).1 _ 5 hz0r |>.trans c5
                            replace hs8 := ((bcell hbi).1 _ _ (by omega)).trans hs8
                            have hzi : w.heap.size < wr.heap.size := by have := hWi.size; omega
                            have hxi : wo.heap.size < wr.heap.size := by have := hbi.size; omega
                            by_cases hqk : q < j + 1
                            · obtain ⟨b6, o6, ck6, Fk6, e, hbF6, hbs6, hr6, hsub6, hc6⟩ := Sl.get (α := Placed) (c := cpods) hpods (show q < x.pods.length by omega)
                              have hre6 := hr6
                              obtain ⟨Apodlabels6, cpodlabels6, Fpodlabels6, Apodneeds6, cpodneeds6, Fpodneeds6, Apodtolerances6, cpodtolerances6, Fpodtolerances6, hck6, hFk6, hpodname6, hpodlabels6, hpodcpu6, hpodmem6, hpodrank6, hpodneeds6, hpodtolerances6, hon6, hseq6⟩ := rd_Placed hre6
                              subst hck6
                              obtain ⟨rfl, rfl⟩ : b6 = b' ∧ o6 = o' := by simpa using e.symm
                              clear e
                              have m0 : w.cell? ⟨b6, o6 + q * 9, none⟩ = some (.string x.pods[q].pod.name) := by exact hc6 0 _ rfl
                              have m1 : w.cell? ⟨b6, o6 + q * 9 + 1, none⟩ = some (.slice Apodlabels6 x.pods[q].pod.labels.length cpodlabels6) := by rw [Nat.add_assoc]; exact hc6 1 _ rfl
                              have m2 : w.cell? ⟨b6, o6 + q * 9 + 2, none⟩ = some (.int .i64 x.pods[q].pod.cpu) := by rw [Nat.add_assoc]; exact hc6 2 _ rfl
                              have m3 : w.cell? ⟨b6, o6 + q * 9 + 3, none⟩ = some (.int .i64 x.pods[q].pod.mem) := by rw [Nat.add_assoc]; exact hc6 3 _ rfl
                              have m4 : w.cell? ⟨b6, o6 + q * 9 + 4, none⟩ = some (.int .i64 x.pods[q].pod.rank) := by rw [Nat.add_assoc]; exact hc6 4 _ rfl
                              have m5 : w.cell? ⟨b6, o6 + q * 9 + 5, none⟩ = some (.slice Apodneeds6 x.pods[q].pod.needs.length cpodneeds6) := by rw [Nat.add_assoc]; exact hc6 5 _ rfl
                              have m6 : w.cell? ⟨b6, o6 + q * 9 + 6, none⟩ = some (.slice Apodtolerances6 x.pods[q].pod.tolerances.length cpodtolerances6) := by rw [Nat.add_assoc]; exact hc6 6 _ rfl
                              have m7 : w.cell? ⟨b6, o6 + q * 9 + 7, none⟩ = some (.string x.pods[q].on) := by rw [Nat.add_assoc]; exact hc6 7 _ rfl
                              have m8 : w.cell? ⟨b6, o6 + q * 9 + 8, none⟩ = some (.int .i64 x.pods[q].seq) := by rw [Nat.add_assoc]; exact hc6 8 _ rfl
                              clear hc6 hre6 hFk6
                              replace m8 := ((bcell hBi).1 _ _ hbs6).trans m8
                              have hyi : b6 < wr.heap.size := by have := hBi.size; omega
                              have hqi : (q : Int) < ((j + 1 : Nat) : Int) := by omega
                              have hql : q < x.pods.length := by omega
                              cases hse : (x.pods[q].seq == x.pods[j + 1].seq) with
                              | true =>
                                have hsn : seenIn (x.pods.take (j + 1)) x.pods[j + 1].seq = true := by
                                  unfold seenIn
                                  rw [List.any_eq_true]
                                  exact ⟨x.pods[q], by rw [List.mem_take_iff_getElem]; exact ⟨q, by omega, rfl⟩, hse⟩
                                have HF := Lib.hid (clusterR_seq hlt (by rw [freshAt_get hlt, hsn]; rfl))
                                go_wp2_with fail
                                refine wp_region_grow _ (by kernel_rfl) (by kernel_rfl) (ext_refl _) ?_
                                repeat (first
                                  | (apply inText_skip
                                     case hw => rfl
                                     simp only [Act.put, List.setIfInBounds_toArray, List.set_cons_zero, List.set_cons_succ])
                                  | (apply inText_step
                                     case hw => rfl
                                     case h =>
                                       intro wq hq
                                       have hcq := (cls_cell hq).1
                                       have hfq := (cls_cell hq).2
                                       go_simp
                                       first
                                         | exact ⟨hq, rfl⟩
                                         | exact ⟨cls_alloc hq _, rfl⟩
                                         | (fail)
                                         | (simp only [↓IntWalk.iteOmega]; exact ⟨hq, rfl⟩)
                                     simp only [Act.put, List.setIfInBounds_toArray, List.set_cons_zero, List.set_cons_succ]))
                                refine inText_nil ?_
                                intro wz hz
                                replace hz := hz.out
                                go_wp2
                                go_ret
                                exact ⟨by rw [HF.out]; rfl, (by repeat (first | with_reducible exact ext_refl _ | with_reducible assumption | with_reducible refine ext_alloc ?_ _ | with_reducible refine ext_trans ?_ (by assumption)))⟩
                              | false =>
                                have HQ2 := Lib.hid (take_none (p := fun u : Placed => u.seq == x.pods[j + 1].seq) hql HQ.out hse)
                                go_wp2_with fail
                                refine wp_region_grow _ (by kernel_rfl) (by kernel_rfl) (ext_refl _) ?_
                                repeat (first
                                  | (apply inText_skip
                                     case hw => rfl
                                     simp only [Act.put, List.setIfInBounds_toArray, List.set_cons_zero, List.set_cons_succ])
                                  | (apply inText_step
                                     case hw => rfl
                                     case h =>
                                       intro wq hq
                                       have hcq := (cls_cell hq).1
                                       have hfq := (cls_cell hq).2
                                       go_simp
                                       first
                                         | exact ⟨hq, rfl⟩
                                         | exact ⟨cls_alloc hq _, rfl⟩
                                         | (fail)
                                         | (simp only [↓IntWalk.iteOmega]; exact ⟨hq, rfl⟩)
                                     simp only [Act.put, List.setIfInBounds_toArray, List.set_cons_zero, List.set_cons_succ]))
                                refine inText_nil ?_
                                intro wz hz
                                replace hz := hz.out
                                go_wp2
                                exact ⟨⟨q + 1, by omega, by go_num, HQ2.out, (by repeat (first | with_reducible exact ext_refl _ | with_reducible assumption | with_reducible refine ext_alloc ?_ _ | with_reducible refine ext_trans ?_ (by assumption)))⟩, by simp [intOf]; omega⟩
                            · obtain rfl : q = j + 1 := by omega
                              have hsn : seenIn (x.pods.take (j + 1)) x.pods[j + 1].seq = false := by
                                unfold seenIn
                                rw [List.any_eq_false]
                                intro u hu
                                have := HQ.out u hu
                                simp [this]
                              have HN2 := Lib.hid (upto_next hfresh.out (show freshAt x.pods (j + 1) = true by rw [freshAt_get hlt, hsn]; rfl))
                              clear hsn
                              go_wp2
                              exact ⟨⟨j + 1 + 1, by omega, by go_num, HN.out, HN2.out, ext_trans hbl hWi⟩, by simp [intOf]; omega⟩
                      | false =>
                        have hon2 : (x.pods[j + 1].on.toList != []) = true := by unfold bne; rw [hon]; rfl
                        rcases idxI_ways (hostatP x.pods[j + 1].on) x.hosts with hi | ⟨iz, hiz, hi⟩
                        · have HIX := Lib.hid hi
                          as_aux_lemma =>
                            have hp := rowAtS (ok := podX x) (less := placedLess) hlt (show podX x x.pods[j + 1] = false by unfold podX; rw [hi, hon]; simp) (show placedLess x.pods[j] x.pods[j + 1] = true from h3)
                            try simp only [Bool.and_false, Bool.and_true, Bool.false_and, Bool.and_self] at hp
                            have HF := Lib.hid (clusterR_pod hlt hp)
                            clear hp hi
                            go_wp2_with fail
                            skip
                            refine wp_region_grow _ (by kernel_rfl) (by kernel_rfl) (ext_refl _) ?_
                            repeat (first
                              | (apply inText_skip
                                 case hw => rfl
                                 simp only [Act.put, List.setIfInBounds_toArray, List.set_cons_zero, List.set_cons_succ])
                              | (apply inText_step
                                 case hw => rfl
                                 case h =>
                                   intro wq hq
                                   have hcq := (cls_cell hq).1
                                   have hfq := (cls_cell hq).2
                                   go_simp
                                   first
                                     | exact ⟨hq, rfl⟩
                                     | exact ⟨cls_alloc hq _, rfl⟩
                                     | (first | (refine (PodOk_spec x.pods[j + 1].pod _ _ _ (rd_extT hrpod2 (by repeat (first | with_reducible exact hq | with_reducible exact hq.out | with_reducible exact ext_refl _ | with_reducible assumption | with_reducible refine ext_alloc ?_ _ | with_reducible refine ext_trans ?_ (by first | exact hq | exact hq.out) | with_reducible refine ext_trans ?_ (by assumption)))) hwk).mono ?_; rw [H1.out]; rintro e w2 ⟨rfl, hb2⟩; exact ⟨rfl, cls_trans hq hb2⟩) | (refine (l01In_any2 x.pods[j + 1].seq 1 (x.next - 1) _).mono ?_; rw [HWI.out]; rintro e w2 ⟨rfl, rfl⟩; exact ⟨rfl, hq⟩) | (refine (HostAt_spec x _ _ x.pods[j + 1].on _ (rd_extT h (by repeat (first | with_reducible exact hq | with_reducible exact hq.out | with_reducible exact ext_refl _ | with_reducible assumption | with_reducible refine ext_alloc ?_ _ | with_reducible refine ext_trans ?_ (by first | exact hq | exact hq.out) | with_reducible refine ext_trans ?_ (by assumption)))) HHL.out).mono ?_; rw [HIX.out]; rintro e w2 ⟨rfl, hb2⟩; exact ⟨rfl, cls_trans hq hb2⟩))
                                     | (simp only [↓IntWalk.iteOmega]; exact ⟨hq, rfl⟩)
                                 simp only [Act.put, List.setIfInBounds_toArray, List.set_cons_zero, List.set_cons_succ]))
                            refine inText_nil ?_
                            intro wn hn
                            replace hn := hn.out
                            obtain ⟨hcn, hfn⟩ := bcell hn
                            have hzn : w.heap.size < wn.heap.size := by have := hn.size; (try simp at this); omega
                            have hyn : b' < wn.heap.size := by have := hn.size; (try simp at this); omega
                            try (have hxn : wr.heap.size < wn.heap.size := by have := hn.size; (try simp at this); omega)
                            go_wp2
                            go_ret
                            exact ⟨by rw [HF.out]; rfl, (by repeat (first | with_reducible exact ext_refl _ | with_reducible assumption | with_reducible refine ext_alloc ?_ _ | with_reducible refine ext_trans ?_ (by assumption)))⟩
                        · have HIX := Lib.hid hi
                          have hdi : decide ((iz : Int) < 0) = false := decide_eq_false (by omega)
                          have hp0 : podX x x.pods[j + 1] = true := by unfold podX; rw [h1, hwi, hon, hi]; simp
                          clear hi
                          as_aux_lemma =>
                            have hp := rowAtS (ok := podX x) (less := placedLess) hlt (show podX x x.pods[j + 1] = true by exact hp0) (show placedLess x.pods[j] x.pods[j + 1] = true from h3)
                            try simp only [Bool.and_false, Bool.and_true, Bool.false_and, Bool.and_self] at hp
                            have HN := Lib.hid (upto_next hall.out hp)
                            clear hp
                            go_wp2_with fail
                            skip
                            refine wp_region_grow _ (by kernel_rfl) (by kernel_rfl) (ext_refl _) ?_
                            repeat (first
                              | (apply inText_skip
                                 case hw => rfl
                                 simp only [Act.put, List.setIfInBounds_toArray, List.set_cons_zero, List.set_cons_succ])
                              | (apply inText_step
                                 case hw => rfl
                                 case h =>
                                   intro wq hq
                                   have hcq := (cls_cell hq).1
                                   have hfq := (cls_cell hq).2
                                   go_simp
                                   first
                                     | exact ⟨hq, rfl⟩
                                     | exact ⟨cls_alloc hq _, rfl⟩
                                     | (first | (refine (PodOk_spec x.pods[j + 1].pod _ _ _ (rd_extT hrpod2 (by repeat (first | with_reducible exact hq | with_reducible exact hq.out | with_reducible exact ext_refl _ | with_reducible assumption | with_reducible refine ext_alloc ?_ _ | with_reducible refine ext_trans ?_ (by first | exact hq | exact hq.out) | with_reducible refine ext_trans ?_ (by assumption)))) hwk).mono ?_; rw [H1.out]; rintro e w2 ⟨rfl, hb2⟩; exact ⟨rfl, cls_trans hq hb2⟩) | (refine (l01In_any2 x.pods[j + 1].seq 1 (x.next - 1) _).mono ?_; rw [HWI.out]; rintro e w2 ⟨rfl, rfl⟩; exact ⟨rfl, hq⟩) | (refine (HostAt_spec x _ _ x.pods[j + 1].on _ (rd_extT h (by repeat (first | with_reducible exact hq | with_reducible exact hq.out | with_reducible exact ext_refl _ | with_reducible assumption | with_reducible refine ext_alloc ?_ _ | with_reducible refine ext_trans ?_ (by first | exact hq | exact hq.out) | with_reducible refine ext_trans ?_ (by assumption)))) HHL.out).mono ?_; rw [HIX.out]; rintro e w2 ⟨rfl, hb2⟩; exact ⟨rfl, cls_trans hq hb2⟩))
                                     | (simp only [↓IntWalk.iteOmega]; exact ⟨hq, rfl⟩)
                                 simp only [Act.put, List.setIfInBounds_toArray, List.set_cons_zero, List.set_cons_succ]))
                            refine inText_nil ?_
                            intro wn hn
                            replace hn := hn.out
                            obtain ⟨hcn, hfn⟩ := bcell hn
                            have hzn : w.heap.size < wn.heap.size := by have := hn.size; (try simp at this); omega
                            have hyn : b' < wn.heap.size := by have := hn.size; (try simp at this); omega
                            try (have hxn : wr.heap.size < wn.heap.size := by have := hn.size; (try simp at this); omega)
                            have hWn : Below wr.heap.size wr wn := (by repeat (first | with_reducible exact ext_refl _ | with_reducible assumption | with_reducible refine ext_alloc ?_ _ | with_reducible refine ext_trans ?_ (by assumption)))
                            have hs8 : wn.cell? ⟨wr.heap.size, 8, none⟩ = some (.int .i64 x.pods[j + 1].seq) := by rw [hcn _ _ (by simp), cell_of_row _ _ _ _ _ _ (heap_alloc_new wr _)]; rfl
                            have hK12 : (j + 1 : Nat) < 12 := by omega
                            obtain ⟨wo, hwo⟩ : ∃ wo, wo = wr := ⟨_, rfl⟩
                            subst hwo
                            go_wp2_with fail
                            go_loopw [5] (fun i2 wi => ∃ q : Nat, q ≤ j + 1 ∧ i2 = .int .i64 q ∧ Hid (∀ u ∈ x.pods.take q, (u.seq == x.pods[j + 1].seq) = false) ∧ Below wn.heap.size wn wi) (fun i2 _ => j + 1 - (intOf i2).toNat)
                            case atStart => exact ⟨0, Nat.zero_le _, rfl, by show ∀ _, _; simp, ext_refl _⟩
                            case round =>
                              obtain ⟨q, hq, rfl, HQ, hbi⟩ := hrel
                              have hWi : Below wo.heap.size wo wr := ext_trans hWn hbi
                              have hBi : Below w.heap.size w wr := ext_trans hBr hWi
                              have ci0 := (bcell hWi).1 _ 0 hz0r |>.trans c0
                              have ci1 := (bcell hWi).1 _ 1 hz0r |>.trans c1
                              have ci2 := (bcell hWi).1 _ 2 hz0r |>.trans c2
                              have ci3 := (bcell hWi).1 _ 3 hz0r |>.trans c3
                              have ci4 := (bcell hWi).1 _ 4 hz0r |>.trans c4
                              have ci5 := (bcell hWi).1 _ 5 hz0r |>.trans c5
                              replace hs8 := ((bcell hbi).1 _ _ (by omega)).trans hs8
                              have hzi : w.heap.size < wr.heap.size := by have := hWi.size; omega
                              have hxi : wo.heap.size < wr.heap.size := by have := hbi.size; omega
                              by_cases hqk : q < j + 1
                              · obtain ⟨b6, o6, ck6, Fk6, e, hbF6, hbs6, hr6, hsub6, hc6⟩ := Sl.get (α := Placed) (c := cpods) hpods (show q < x.pods.length by omega)
                                have hre6 := hr6
                                obtain ⟨Apodlabels6, cpodlabels6, Fpodlabels6, Apodneeds6, cpodneeds6, Fpodneeds6, Apodtolerances6, cpodtolerances6, Fpodtolerances6, hck6, hFk6, hpodname6, hpodlabels6, hpodcpu6, hpodmem6, hpodrank6, hpodneeds6, hpodtolerances6, hon6, hseq6⟩ := rd_Placed hre6
                                subst hck6
                                obtain ⟨rfl, rfl⟩ : b6 = b' ∧ o6 = o' := by simpa using e.symm
                                clear e
                                have m0 : w.cell? ⟨b6, o6 + q * 9, none⟩ = some (.string x.pods[q].pod.name) := by exact hc6 0 _ rfl
                                have m1 : w.cell? ⟨b6, o6 + q * 9 + 1, none⟩ = some (.slice Apodlabels6 x.pods[q].pod.labels.length cpodlabels6) := by rw [Nat.add_assoc]; exact hc6 1 _ rfl
                                have m2 : w.cell? ⟨b6, o6 + q * 9 + 2, none⟩ = some (.int .i64 x.pods[q].pod.cpu) := by rw [Nat.add_assoc]; exact hc6 2 _ rfl
                                have m3 : w.cell? ⟨b6, o6 + q * 9 + 3, none⟩ = some (.int .i64 x.pods[q].pod.mem) := by rw [Nat.add_assoc]; exact hc6 3 _ rfl
                                have m4 : w.cell? ⟨b6, o6 + q * 9 + 4, none⟩ = some (.int .i64 x.pods[q].pod.rank) := by rw [Nat.add_assoc]; exact hc6 4 _ rfl
                                have m5 : w.cell? ⟨b6, o6 + q * 9 + 5, none⟩ = some (.slice Apodneeds6 x.pods[q].pod.needs.length cpodneeds6) := by rw [Nat.add_assoc]; exact hc6 5 _ rfl
                                have m6 : w.cell? ⟨b6, o6 + q * 9 + 6, none⟩ = some (.slice Apodtolerances6 x.pods[q].pod.tolerances.length cpodtolerances6) := by rw [Nat.add_assoc]; exact hc6 6 _ rfl
                                have m7 : w.cell? ⟨b6, o6 + q * 9 + 7, none⟩ = some (.string x.pods[q].on) := by rw [Nat.add_assoc]; exact hc6 7 _ rfl
                                have m8 : w.cell? ⟨b6, o6 + q * 9 + 8, none⟩ = some (.int .i64 x.pods[q].seq) := by rw [Nat.add_assoc]; exact hc6 8 _ rfl
                                clear hc6 hre6 hFk6
                                replace m8 := ((bcell hBi).1 _ _ hbs6).trans m8
                                have hyi : b6 < wr.heap.size := by have := hBi.size; omega
                                have hqi : (q : Int) < ((j + 1 : Nat) : Int) := by omega
                                have hql : q < x.pods.length := by omega
                                cases hse : (x.pods[q].seq == x.pods[j + 1].seq) with
                                | true =>
                                  have hsn : seenIn (x.pods.take (j + 1)) x.pods[j + 1].seq = true := by
                                    unfold seenIn
                                    rw [List.any_eq_true]
                                    exact ⟨x.pods[q], by rw [List.mem_take_iff_getElem]; exact ⟨q, by omega, rfl⟩, hse⟩
                                  have HF := Lib.hid (clusterR_seq hlt (by rw [freshAt_get hlt, hsn]; rfl))
                                  go_wp2_with fail
                                  refine wp_region_grow _ (by kernel_rfl) (by kernel_rfl) (ext_refl _) ?_
                                  repeat (first
                                    | (apply inText_skip
                                       case hw => rfl
                                       simp only [Act.put, List.setIfInBounds_toArray, List.set_cons_zero, List.set_cons_succ])
                                    | (apply inText_step
                                       case hw => rfl
                                       case h =>
                                         intro wq hq
                                         have hcq := (cls_cell hq).1
                                         have hfq := (cls_cell hq).2
                                         go_simp
                                         first
                                           | exact ⟨hq, rfl⟩
                                           | exact ⟨cls_alloc hq _, rfl⟩
                                           | (fail)
                                           | (simp only [↓IntWalk.iteOmega]; exact ⟨hq, rfl⟩)
                                       simp only [Act.put, List.setIfInBounds_toArray, List.set_cons_zero, List.set_cons_succ]))
                                  refine inText_nil ?_
                                  intro wz hz
                                  replace hz := hz.out
                                  go_wp2
                                  go_ret
                                  exact ⟨by rw [HF.out]; rfl, (by repeat (first | with_reducible exact ext_refl _ | with_reducible assumption | with_reducible refine ext_alloc ?_ _ | with_reducible refine ext_trans ?_ (by assumption)))⟩
                                | false =>
                                  have HQ2 := Lib.hid (take_none (p := fun u : Placed => u.seq == x.pods[j + 1].seq) hql HQ.out hse)
                                  go_wp2_with fail
                                  refine wp_region_grow _ (by kernel_rfl) (by kernel_rfl) (ext_refl _) ?_
                                  repeat (first
                                    | (apply inText_skip
                                       case hw => rfl
                                       simp only [Act.put, List.setIfInBounds_toArray, List.set_cons_zero, List.set_cons_succ])
                                    | (apply inText_step
                                       case hw => rfl
                                       case h =>
                                         intro wq hq
                                         have hcq := (cls_cell hq).1
                                         have hfq := (cls_cell hq).2
                                         go_simp
                                         first
                                           | exact ⟨hq, rfl⟩
                                           | exact ⟨cls_alloc hq _, rfl⟩
                                           | (fail)
                                           | (simp only [↓IntWalk.iteOmega]; exact ⟨hq, rfl⟩)
                                       simp only [Act.put, List.setIfInBounds_toArray, List.set_cons_zero, List.set_cons_succ]))
                                  refine inText_nil ?_
                                  intro wz hz
                                  replace hz := hz.out
                                  go_wp2
                                  exact ⟨⟨q + 1, by omega, by go_num, HQ2.out, (by repeat (first | with_reducible exact ext_refl _ | with_reducible assumption | with_reducible refine ext_alloc ?_ _ | with_reducible refine ext_trans ?_ (by assumption)))⟩, by simp [intOf]; omega⟩
                              · obtain rfl : q = j + 1 := by omega
                                have hsn : seenIn (x.pods.take (j + 1)) x.pods[j + 1].seq = false := by
                                  unfold seenIn
                                  rw [List.any_eq_false]
                                  intro u hu
                                  have := HQ.out u hu
                                  simp [this]
                                have HN2 := Lib.hid (upto_next hfresh.out (show freshAt x.pods (j + 1) = true by rw [freshAt_get hlt, hsn]; rfl))
                                clear hsn
                                go_wp2
                                exact ⟨⟨j + 1 + 1, by omega, by go_num, HN.out, HN2.out, ext_trans hbl hWi⟩, by simp [intOf]; omega⟩
            · have hkl : k = x.pods.length := by omega
              subst hkl
              have HPALL := Lib.hid hall.out
              have HPF := Lib.hid hfresh.out
              clear hall hfresh
              obtain ⟨wp, hwp⟩ : ∃ wp, wp = wr := ⟨_, rfl⟩
              subst hwp
              have hbp := hbl
              have hzp : w0.heap.size ≤ wp.heap.size := hbl.size
              clear hbl hlt
              have hKwp := (bcell hbp).1
              have cp0 := (hKwp _ _ hz0).trans c0
              have cp1 := (hKwp _ _ hz0).trans c1
              have cp2 := (hKwp _ _ hz0).trans c2
              have cp3 := (hKwp _ _ hz0).trans c3
              have cp4 := (hKwp _ _ hz0).trans c4
              have cp5 := (hKwp _ _ hz0).trans c5
              clear hKwp
              have hz0p : w.heap.size < wp.heap.size := by omega
              have HPL := Lib.hid hplen
              have HHL := Lib.hid hlen
              have hpods12 : x.pods.length ≤ 12 := by omega
              go_wp2_with fail
              go_loopw [6] (fun i wr => ∃ k : Nat, k ≤ x.hosts.length ∧ i = .int .i64 k ∧ Hid (∀ j, j < k → rowAt (hostX x) hostLess x.hosts j = true) ∧ Below w0.heap.size w0 wr) (fun i _ => x.hosts.length - (intOf i).toNat)
              case atStart => exact ⟨0, Nat.zero_le _, rfl, (fun j hj => by omega), hbp⟩
              case round =>
                obtain ⟨k, hk, rfl, hall, hbl⟩ := hrel
                by_cases hlt : k < x.hosts.length
                · obtain rfl | ⟨j, rfl⟩ : k = 0 ∨ ∃ j, k = j + 1 := by cases k with | zero => exact .inl rfl | succ j => exact .inr ⟨j, rfl⟩
                  · obtain ⟨b, o, ck3, Fk3, rfl, hbF3, hbs3, hr3, hsub3, hc3⟩ := Sl.get (α := Host) (A := Ahosts) (c := chosts) hhosts hlt
                    have hre3 := hr3
                    obtain ⟨Alabels3, clabels3, Flabels3, Ataints3, ctaints3, Ftaints3, hck3, hFk3, hname3, hlabels3, hcpu3, hmem3, hslots3, htaints3⟩ := rd_Host hre3
                    subst hck3
                    have q0 : w.cell? ⟨b, o + 0 * 6, none⟩ = some (.string x.hosts[0].name) := by exact hc3 0 _ rfl
                    have q1 : w.cell? ⟨b, o + 0 * 6 + 1, none⟩ = some (.slice Alabels3 x.hosts[0].labels.length clabels3) := by rw [Nat.add_assoc]; exact hc3 1 _ rfl
                    have q2 : w.cell? ⟨b, o + 0 * 6 + 2, none⟩ = some (.int .i64 x.hosts[0].cpu) := by rw [Nat.add_assoc]; exact hc3 2 _ rfl
                    have q3 : w.cell? ⟨b, o + 0 * 6 + 3, none⟩ = some (.int .i64 x.hosts[0].mem) := by rw [Nat.add_assoc]; exact hc3 3 _ rfl
                    have q4 : w.cell? ⟨b, o + 0 * 6 + 4, none⟩ = some (.int .i64 x.hosts[0].slots) := by rw [Nat.add_assoc]; exact hc3 4 _ rfl
                    have q5 : w.cell? ⟨b, o + 0 * 6 + 5, none⟩ = some (.slice Ataints3 x.hosts[0].taints.length ctaints3) := by rw [Nat.add_assoc]; exact hc3 5 _ rfl
                    clear hc3 hre3 hFk3
                    simp only [Nat.zero_mul, Nat.add_zero] at q0 q1 q2 q3 q4 q5
                    have hBr : Below w.heap.size w wr := ext_trans hB0 hbl
                    have hKwr := (bcell hbl).1
                    replace c0 := (hKwr _ _ hz0).trans c0
                    replace c1 := (hKwr _ _ hz0).trans c1
                    replace c2 := (hKwr _ _ hz0).trans c2
                    replace c3 := (hKwr _ _ hz0).trans c3
                    replace c4 := (hKwr _ _ hz0).trans c4
                    replace c5 := (hKwr _ _ hz0).trans c5
                    clear hKwr
                    replace q0 := ((bcell hBr).1 b _ hbs3).trans q0
                    replace q1 := ((bcell hBr).1 b _ hbs3).trans q1
                    replace q2 := ((bcell hBr).1 b _ hbs3).trans q2
                    replace q3 := ((bcell hBr).1 b _ hbs3).trans q3
                    replace q4 := ((bcell hBr).1 b _ hbs3).trans q4
                    replace q5 := ((bcell hBr).1 b _ hbs3).trans q5

                    have hbsr : b < wr.heap.size := by have := hBr.size; omega
                    have hz0r : w.heap.size < wr.heap.size := by have := hbl.size; omega
                    have hwk := HWH.out (0) hlt
                    obtain ⟨a, b2, L, okv, hus, hfo, hL0, hL1⟩ := fineOn_used x x.hosts[0]
                    have HU := Lib.hid hus
                    clear hus
                    have hLi : L ≤ 12 := by omega
                    cases h1 : hostR x.hosts[0] with
                    | false =>
                      have H1 := Lib.hid h1
                      as_aux_lemma =>
                        have hp := rowAt0 (ok := hostX x) (less := hostLess) hlt (show hostX x x.hosts[0] = false by unfold hostX; rw [h1]; rfl)
                        have HF := Lib.hid (clusterR_host hlt hp)
                        clear hp
                        go_wp2_with fail
                        refine wp_region_grow _ (by kernel_rfl) (by kernel_rfl) (ext_refl _) ?_
                        repeat (first
                          | (apply inText_skip
                             case hw => rfl
                             simp only [Act.put, List.setIfInBounds_toArray, List.set_cons_zero, List.set_cons_succ])
                          | (apply inText_step
                             case hw => rfl
                             case h =>
                               intro wq hq
                               have hcq := (cls_cell hq).1
                               have hfq := (cls_cell hq).2
                               go_simp
                               first
                                 | exact ⟨hq, rfl⟩
                                 | exact ⟨cls_alloc hq _, rfl⟩
                                 | (refine (HostOk_spec x.hosts[0] _ _ _ (rd_extT hr3 (by repeat (first | with_reducible exact hq | with_reducible exact hq.out | with_reducible exact ext_refl _ | with_reducible assumption | with_reducible refine ext_alloc ?_ _ | with_reducible refine ext_trans ?_ (by first | exact hq | exact hq.out) | with_reducible refine ext_trans ?_ (by assumption)))) hwk).mono ?_; rw [H1.out]; rintro e w6 ⟨rfl, hb6⟩; exact ⟨rfl, cls_trans hq hb6⟩)
                                 | (simp only [↓IntWalk.iteOmega]; exact ⟨hq, rfl⟩)
                             simp only [Act.put, List.setIfInBounds_toArray, List.set_cons_zero, List.set_cons_succ]))
                        refine inText_nil ?_
                        intro wn hn
                        replace hn := hn.out
                        obtain ⟨hcn, hfn⟩ := bcell hn
                        have hzn : w.heap.size < wn.heap.size := by have := hn.size; (try simp at this); omega
                        have hyn : b < wn.heap.size := by have := hn.size; (try simp at this); omega
                        try (have hxn : wr.heap.size < wn.heap.size := by have := hn.size; (try simp at this); omega)
                        go_wp2
                        go_ret
                        exact ⟨by rw [HF.out]; rfl, (by repeat (first | with_reducible exact ext_refl _ | with_reducible assumption | with_reducible refine ext_alloc ?_ _ | with_reducible refine ext_trans ?_ (by assumption)))⟩
                    | true =>
                      have H1 := Lib.hid h1
                      cases okv with
                      | false =>
                        as_aux_lemma =>
                          have hp := rowAt0 (ok := hostX x) (less := hostLess) hlt (show hostX x x.hosts[0] = false by unfold hostX; rw [hfo]; simp)
                          have HF := Lib.hid (clusterR_host hlt hp)
                          clear hp
                          go_wp2_with fail
                          refine wp_region_grow _ (by kernel_rfl) (by kernel_rfl) (ext_refl _) ?_
                          repeat (first
                            | (apply inText_skip
                               case hw => rfl
                               simp only [Act.put, List.setIfInBounds_toArray, List.set_cons_zero, List.set_cons_succ])
                            | (apply inText_step
                               case hw => rfl
                               case h =>
                                 intro wq hq
                                 have hcq := (cls_cell hq).1
                                 have hfq := (cls_cell hq).2
                                 go_simp
                                 first
                                   | exact ⟨hq, rfl⟩
                                   | exact ⟨cls_alloc hq _, rfl⟩
                                   | (refine (HostOk_spec x.hosts[0] _ _ _ (rd_extT hr3 (by repeat (first | with_reducible exact hq | with_reducible exact hq.out | with_reducible exact ext_refl _ | with_reducible assumption | with_reducible refine ext_alloc ?_ _ | with_reducible refine ext_trans ?_ (by first | exact hq | exact hq.out) | with_reducible refine ext_trans ?_ (by assumption)))) hwk).mono ?_; rw [H1.out]; rintro e w6 ⟨rfl, hb6⟩; exact ⟨rfl, cls_trans hq hb6⟩)
                                   | (simp only [↓IntWalk.iteOmega]; exact ⟨hq, rfl⟩)
                               simp only [Act.put, List.setIfInBounds_toArray, List.set_cons_zero, List.set_cons_succ]))
                          refine inText_nil ?_
                          intro wn hn
                          replace hn := hn.out
                          obtain ⟨hcn, hfn⟩ := bcell hn
                          have hzn : w.heap.size < wn.heap.size := by have := hn.size; (try simp at this); omega
                          have hyn : b < wn.heap.size := by have := hn.size; (try simp at this); omega
                          try (have hxn : wr.heap.size < wn.heap.size := by have := hn.size; (try simp at this); omega)
                          go_wp2_with (go_at_call 83; refine (UsedOn_spec x _ _ x.hosts[0].name _ (rd_extT h (by repeat (first | with_reducible exact ext_refl _ | with_reducible assumption | with_reducible refine ext_alloc ?_ _ | with_reducible refine ext_trans ?_ (by assumption)))) HPL.out).mono ?_; rw [HU.out]; rintro e w5 ⟨rfl, hb5⟩; obtain ⟨hc5, hf5⟩ := bcell hb5; have hz5 : w.heap.size < w5.heap.size := (by have := hb5.size; (try simp at this); omega); have hy5 : b < w5.heap.size := (by have := hb5.size; (try simp at this); omega); (try have hx5 : wr.heap.size < w5.heap.size := (by have := hb5.size; (try simp at this); omega)))
                          go_ret
                          exact ⟨by rw [HF.out]; rfl, (by repeat (first | with_reducible exact ext_refl _ | with_reducible assumption | with_reducible refine ext_alloc ?_ _ | with_reducible refine ext_trans ?_ (by assumption)))⟩
                      | true =>
                        by_cases ha : a ≤ x.hosts[0].cpu
                        · have hda : decide (x.hosts[0].cpu < a) = false := decide_eq_false (by omega)
                          by_cases hb : b2 ≤ x.hosts[0].mem
                          · have hdb : decide (x.hosts[0].mem < b2) = false := decide_eq_false (by omega)
                            by_cases hl : L ≤ x.hosts[0].slots
                            · have hdl : decide (x.hosts[0].slots < L) = false := decide_eq_false (by omega)
                              as_aux_lemma =>
                                have hp := rowAt0 (ok := hostX x) (less := hostLess) hlt (show hostX x x.hosts[0] = true by unfold hostX; rw [h1, hfo]; simp [ha, hb, hl])
                                have HN := Lib.hid (upto_next hall.out hp)
                                clear hp
                                go_wp2_with fail
                                refine wp_region_grow _ (by kernel_rfl) (by kernel_rfl) (ext_refl _) ?_
                                repeat (first
                                  | (apply inText_skip
                                     case hw => rfl
                                     simp only [Act.put, List.setIfInBounds_toArray, List.set_cons_zero, List.set_cons_succ])
                                  | (apply inText_step
                                     case hw => rfl
                                     case h =>
                                       intro wq hq
                                       have hcq := (cls_cell hq).1
                                       have hfq := (cls_cell hq).2
                                       go_simp
                                       first
                                         | exact ⟨hq, rfl⟩
                                         | exact ⟨cls_alloc hq _, rfl⟩
                                         | (refine (HostOk_spec x.hosts[0] _ _ _ (rd_extT hr3 (by repeat (first | with_reducible exact hq | with_reducible exact hq.out | with_reducible exact ext_refl _ | with_reducible assumption | with_reducible refine ext_alloc ?_ _ | with_reducible refine ext_trans ?_ (by first | exact hq | exact hq.out) | with_reducible refine ext_trans ?_ (by assumption)))) hwk).mono ?_; rw [H1.out]; rintro e w6 ⟨rfl, hb6⟩; exact ⟨rfl, cls_trans hq hb6⟩)
                                         | (simp only [↓IntWalk.iteOmega]; exact ⟨hq, rfl⟩)
                                     simp only [Act.put, List.setIfInBounds_toArray, List.set_cons_zero, List.set_cons_succ]))
                                refine inText_nil ?_
                                intro wn hn
                                replace hn := hn.out
                                obtain ⟨hcn, hfn⟩ := bcell hn
                                have hzn : w.heap.size < wn.heap.size := by have := hn.size; (try simp at this); omega
                                have hyn : b < wn.heap.size := by have := hn.size; (try simp at this); omega
                                try (have hxn : wr.heap.size < wn.heap.size := by have := hn.size; (try simp at this); omega)
                                go_wp2_with (go_at_call 83; refine (UsedOn_spec x _ _ x.hosts[0].name _ (rd_extT h (by repeat (first | with_reducible exact ext_refl _ | with_reducible assumption | with_reducible refine ext_alloc ?_ _ | with_reducible refine ext_trans ?_ (by assumption)))) HPL.out).mono ?_; rw [HU.out]; rintro e w5 ⟨rfl, hb5⟩; obtain ⟨hc5, hf5⟩ := bcell hb5; have hz5 : w.heap.size < w5.heap.size := (by have := hb5.size; (try simp at this); omega); have hy5 : b < w5.heap.size := (by have := hb5.size; (try simp at this); omega); (try have hx5 : wr.heap.size < w5.heap.size := (by have := hb5.size; (try simp at this); omega)))
                                exact ⟨⟨0 + 1, by omega, by go_num, HN.out, (by repeat (first | with_reducible exact ext_refl _ | with_reducible assumption | with_reducible refine ext_alloc ?_ _ | with_reducible refine ext_trans ?_ (by assumption)))⟩, by simp [intOf]; omega⟩
                            · have hdl : decide (x.hosts[0].slots < L) = true := decide_eq_true (by omega)
                              as_aux_lemma =>
                                have hp := rowAt0 (ok := hostX x) (less := hostLess) hlt (show hostX x x.hosts[0] = false by unfold hostX; rw [h1, hfo]; simp [ha, hb, hl])
                                have HF := Lib.hid (clusterR_host hlt hp)
                                clear hp
                                go_wp2_with fail
                                refine wp_region_grow _ (by kernel_rfl) (by kernel_rfl) (ext_refl _) ?_
                                repeat (first
                                  | (apply inText_skip
                                     case hw => rfl
                                     simp only [Act.put, List.setIfInBounds_toArray, List.set_cons_zero, List.set_cons_succ])
                                  | (apply inText_step
                                     case hw => rfl
                                     case h =>
                                       intro wq hq
                                       have hcq := (cls_cell hq).1
                                       have hfq := (cls_cell hq).2
                                       go_simp
                                       first
                                         | exact ⟨hq, rfl⟩
                                         | exact ⟨cls_alloc hq _, rfl⟩
                                         | (refine (HostOk_spec x.hosts[0] _ _ _ (rd_extT hr3 (by repeat (first | with_reducible exact hq | with_reducible exact hq.out | with_reducible exact ext_refl _ | with_reducible assumption | with_reducible refine ext_alloc ?_ _ | with_reducible refine ext_trans ?_ (by first | exact hq | exact hq.out) | with_reducible refine ext_trans ?_ (by assumption)))) hwk).mono ?_; rw [H1.out]; rintro e w6 ⟨rfl, hb6⟩; exact ⟨rfl, cls_trans hq hb6⟩)
                                         | (simp only [↓IntWalk.iteOmega]; exact ⟨hq, rfl⟩)
                                     simp only [Act.put, List.setIfInBounds_toArray, List.set_cons_zero, List.set_cons_succ]))
                                refine inText_nil ?_
                                intro wn hn
                                replace hn := hn.out
                                obtain ⟨hcn, hfn⟩ := bcell hn
                                have hzn : w.heap.size < wn.heap.size := by have := hn.size; (try simp at this); omega
                                have hyn : b < wn.heap.size := by have := hn.size; (try simp at this); omega
                                try (have hxn : wr.heap.size < wn.heap.size := by have := hn.size; (try simp at this); omega)
                                go_wp2_with (go_at_call 83; refine (UsedOn_spec x _ _ x.hosts[0].name _ (rd_extT h (by repeat (first | with_reducible exact ext_refl _ | with_reducible assumption | with_reducible refine ext_alloc ?_ _ | with_reducible refine ext_trans ?_ (by assumption)))) HPL.out).mono ?_; rw [HU.out]; rintro e w5 ⟨rfl, hb5⟩; obtain ⟨hc5, hf5⟩ := bcell hb5; have hz5 : w.heap.size < w5.heap.size := (by have := hb5.size; (try simp at this); omega); have hy5 : b < w5.heap.size := (by have := hb5.size; (try simp at this); omega); (try have hx5 : wr.heap.size < w5.heap.size := (by have := hb5.size; (try simp at this); omega)))
                                go_ret
                                exact ⟨by rw [HF.out]; rfl, (by repeat (first | with_reducible exact ext_refl _ | with_reducible assumption | with_reducible refine ext_alloc ?_ _ | with_reducible refine ext_trans ?_ (by assumption)))⟩
                          · have hdb : decide (x.hosts[0].mem < b2) = true := decide_eq_true (by omega)
                            as_aux_lemma =>
                              have hp := rowAt0 (ok := hostX x) (less := hostLess) hlt (show hostX x x.hosts[0] = false by unfold hostX; rw [h1, hfo]; simp [ha, hb])
                              have HF := Lib.hid (clusterR_host hlt hp)
                              clear hp
                              go_wp2_with fail
                              refine wp_region_grow _ (by kernel_rfl) (by kernel_rfl) (ext_refl _) ?_
                              repeat (first
                                | (apply inText_skip
                                   case hw => rfl
                                   simp only [Act.put, List.setIfInBounds_toArray, List.set_cons_zero, List.set_cons_succ])
                                | (apply inText_step
                                   case hw => rfl
                                   case h =>
                                     intro wq hq
                                     have hcq := (cls_cell hq).1
                                     have hfq := (cls_cell hq).2
                                     go_simp
                                     first
                                       | exact ⟨hq, rfl⟩
                                       | exact ⟨cls_alloc hq _, rfl⟩
                                       | (refine (HostOk_spec x.hosts[0] _ _ _ (rd_extT hr3 (by repeat (first | with_reducible exact hq | with_reducible exact hq.out | with_reducible exact ext_refl _ | with_reducible assumption | with_reducible refine ext_alloc ?_ _ | with_reducible refine ext_trans ?_ (by first | exact hq | exact hq.out) | with_reducible refine ext_trans ?_ (by assumption)))) hwk).mono ?_; rw [H1.out]; rintro e w6 ⟨rfl, hb6⟩; exact ⟨rfl, cls_trans hq hb6⟩)
                                       | (simp only [↓IntWalk.iteOmega]; exact ⟨hq, rfl⟩)
                                   simp only [Act.put, List.setIfInBounds_toArray, List.set_cons_zero, List.set_cons_succ]))
                              refine inText_nil ?_
                              intro wn hn
                              replace hn := hn.out
                              obtain ⟨hcn, hfn⟩ := bcell hn
                              have hzn : w.heap.size < wn.heap.size := by have := hn.size; (try simp at this); omega
                              have hyn : b < wn.heap.size := by have := hn.size; (try simp at this); omega
                              try (have hxn : wr.heap.size < wn.heap.size := by have := hn.size; (try simp at this); omega)
                              go_wp2_with (go_at_call 83; refine (UsedOn_spec x _ _ x.hosts[0].name _ (rd_extT h (by repeat (first | with_reducible exact ext_refl _ | with_reducible assumption | with_reducible refine ext_alloc ?_ _ | with_reducible refine ext_trans ?_ (by assumption)))) HPL.out).mono ?_; rw [HU.out]; rintro e w5 ⟨rfl, hb5⟩; obtain ⟨hc5, hf5⟩ := bcell hb5; have hz5 : w.heap.size < w5.heap.size := (by have := hb5.size; (try simp at this); omega); have hy5 : b < w5.heap.size := (by have := hb5.size; (try simp at this); omega); (try have hx5 : wr.heap.size < w5.heap.size := (by have := hb5.size; (try simp at this); omega)))
                              go_ret
                              exact ⟨by rw [HF.out]; rfl, (by repeat (first | with_reducible exact ext_refl _ | with_reducible assumption | with_reducible refine ext_alloc ?_ _ | with_reducible refine ext_trans ?_ (by assumption)))⟩
                        · have hda : decide (x.hosts[0].cpu < a) = true := decide_eq_true (by omega)
                          as_aux_lemma =>
                            have hp := rowAt0 (ok := hostX x) (less := hostLess) hlt (show hostX x x.hosts[0] = false by unfold hostX; rw [h1, hfo]; simp [ha])
                            have HF := Lib.hid (clusterR_host hlt hp)
                            clear hp
                            go_wp2_with fail
                            refine wp_region_grow _ (by kernel_rfl) (by kernel_rfl) (ext_refl _) ?_
                            repeat (first
                              | (apply inText_skip
                                 case hw => rfl
                                 simp only [Act.put, List.setIfInBounds_toArray, List.set_cons_zero, List.set_cons_succ])
                              | (apply inText_step
                                 case hw => rfl
                                 case h =>
                                   intro wq hq
                                   have hcq := (cls_cell hq).1
                                   have hfq := (cls_cell hq).2
                                   go_simp
                                   first
                                     | exact ⟨hq, rfl⟩
                                     | exact ⟨cls_alloc hq _, rfl⟩
                                     | (refine (HostOk_spec x.hosts[0] _ _ _ (rd_extT hr3 (by repeat (first | with_reducible exact hq | with_reducible exact hq.out | with_reducible exact ext_refl _ | with_reducible assumption | with_reducible refine ext_alloc ?_ _ | with_reducible refine ext_trans ?_ (by first | exact hq | exact hq.out) | with_reducible refine ext_trans ?_ (by assumption)))) hwk).mono ?_; rw [H1.out]; rintro e w6 ⟨rfl, hb6⟩; exact ⟨rfl, cls_trans hq hb6⟩)
                                     | (simp only [↓IntWalk.iteOmega]; exact ⟨hq, rfl⟩)
                                 simp only [Act.put, List.setIfInBounds_toArray, List.set_cons_zero, List.set_cons_succ]))
                            refine inText_nil ?_
                            intro wn hn
                            replace hn := hn.out
                            obtain ⟨hcn, hfn⟩ := bcell hn
                            have hzn : w.heap.size < wn.heap.size := by have := hn.size; (try simp at this); omega
                            have hyn : b < wn.heap.size := by have := hn.size; (try simp at this); omega
                            try (have hxn : wr.heap.size < wn.heap.size := by have := hn.size; (try simp at this); omega)
                            go_wp2_with (go_at_call 83; refine (UsedOn_spec x _ _ x.hosts[0].name _ (rd_extT h (by repeat (first | with_reducible exact ext_refl _ | with_reducible assumption | with_reducible refine ext_alloc ?_ _ | with_reducible refine ext_trans ?_ (by assumption)))) HPL.out).mono ?_; rw [HU.out]; rintro e w5 ⟨rfl, hb5⟩; obtain ⟨hc5, hf5⟩ := bcell hb5; have hz5 : w.heap.size < w5.heap.size := (by have := hb5.size; (try simp at this); omega); have hy5 : b < w5.heap.size := (by have := hb5.size; (try simp at this); omega); (try have hx5 : wr.heap.size < w5.heap.size := (by have := hb5.size; (try simp at this); omega)))
                            go_ret
                            exact ⟨by rw [HF.out]; rfl, (by repeat (first | with_reducible exact ext_refl _ | with_reducible assumption | with_reducible refine ext_alloc ?_ _ | with_reducible refine ext_trans ?_ (by assumption)))⟩
                  · obtain ⟨b, o, ck3, Fk3, rfl, hbF3, hbs3, hr3, hsub3, hc3⟩ := Sl.get (α := Host) (A := Ahosts) (c := chosts) hhosts hlt
                    have hre3 := hr3
                    obtain ⟨Alabels3, clabels3, Flabels3, Ataints3, ctaints3, Ftaints3, hck3, hFk3, hname3, hlabels3, hcpu3, hmem3, hslots3, htaints3⟩ := rd_Host hre3
                    subst hck3
                    have q0 : w.cell? ⟨b, o + (j + 1) * 6, none⟩ = some (.string x.hosts[j + 1].name) := by exact hc3 0 _ rfl
                    have q1 : w.cell? ⟨b, o + (j + 1) * 6 + 1, none⟩ = some (.slice Alabels3 x.hosts[j + 1].labels.length clabels3) := by rw [Nat.add_assoc]; exact hc3 1 _ rfl
                    have q2 : w.cell? ⟨b, o + (j + 1) * 6 + 2, none⟩ = some (.int .i64 x.hosts[j + 1].cpu) := by rw [Nat.add_assoc]; exact hc3 2 _ rfl
                    have q3 : w.cell? ⟨b, o + (j + 1) * 6 + 3, none⟩ = some (.int .i64 x.hosts[j + 1].mem) := by rw [Nat.add_assoc]; exact hc3 3 _ rfl
                    have q4 : w.cell? ⟨b, o + (j + 1) * 6 + 4, none⟩ = some (.int .i64 x.hosts[j + 1].slots) := by rw [Nat.add_assoc]; exact hc3 4 _ rfl
                    have q5 : w.cell? ⟨b, o + (j + 1) * 6 + 5, none⟩ = some (.slice Ataints3 x.hosts[j + 1].taints.length ctaints3) := by rw [Nat.add_assoc]; exact hc3 5 _ rfl
                    clear hc3 hre3 hFk3
                    obtain ⟨b', o', ck4, Fk4, e, hbF4, hbs4, hr4, hsub4, hc4⟩ := Sl.get (α := Host) (c := chosts) hhosts (show j < x.hosts.length by omega)
                    have hre4 := hr4
                    obtain ⟨Alabels4, clabels4, Flabels4, Ataints4, ctaints4, Ftaints4, hck4, hFk4, hname4, hlabels4, hcpu4, hmem4, hslots4, htaints4⟩ := rd_Host hre4
                    subst hck4
                    obtain ⟨rfl, rfl⟩ : b' = b ∧ o' = o := by simpa using e.symm
                    clear e
                    have p0 : w.cell? ⟨b', o' + j * 6, none⟩ = some (.string x.hosts[j].name) := by exact hc4 0 _ rfl
                    have p1 : w.cell? ⟨b', o' + j * 6 + 1, none⟩ = some (.slice Alabels4 x.hosts[j].labels.length clabels4) := by rw [Nat.add_assoc]; exact hc4 1 _ rfl
                    have p2 : w.cell? ⟨b', o' + j * 6 + 2, none⟩ = some (.int .i64 x.hosts[j].cpu) := by rw [Nat.add_assoc]; exact hc4 2 _ rfl
                    have p3 : w.cell? ⟨b', o' + j * 6 + 3, none⟩ = some (.int .i64 x.hosts[j].mem) := by rw [Nat.add_assoc]; exact hc4 3 _ rfl
                    have p4 : w.cell? ⟨b', o' + j * 6 + 4, none⟩ = some (.int .i64 x.hosts[j].slots) := by rw [Nat.add_assoc]; exact hc4 4 _ rfl
                    have p5 : w.cell? ⟨b', o' + j * 6 + 5, none⟩ = some (.slice Ataints4 x.hosts[j].taints.length ctaints4) := by rw [Nat.add_assoc]; exact hc4 5 _ rfl
                    clear hc4 hre4 hFk4
                    have hBr : Below w.heap.size w wr := ext_trans hB0 hbl
                    have hKwr := (bcell hbl).1
                    replace c0 := (hKwr _ _ hz0).trans c0
                    replace c1 := (hKwr _ _ hz0).trans c1
                    replace c2 := (hKwr _ _ hz0).trans c2
                    replace c3 := (hKwr _ _ hz0).trans c3
                    replace c4 := (hKwr _ _ hz0).trans c4
                    replace c5 := (hKwr _ _ hz0).trans c5
                    clear hKwr
                    replace q0 := ((bcell hBr).1 b' _ hbs3).trans q0
                    replace q1 := ((bcell hBr).1 b' _ hbs3).trans q1
                    replace q2 := ((bcell hBr).1 b' _ hbs3).trans q2
                    replace q3 := ((bcell hBr).1 b' _ hbs3).trans q3
                    replace q4 := ((bcell hBr).1 b' _ hbs3).trans q4
                    replace q5 := ((bcell hBr).1 b' _ hbs3).trans q5
                    replace p0 := ((bcell hBr).1 b' _ hbs4).trans p0
                    replace p1 := ((bcell hBr).1 b' _ hbs4).trans p1
                    replace p2 := ((bcell hBr).1 b' _ hbs4).trans p2
                    replace p3 := ((bcell hBr).1 b' _ hbs4).trans p3
                    replace p4 := ((bcell hBr).1 b' _ hbs4).trans p4
                    replace p5 := ((bcell hBr).1 b' _ hbs4).trans p5
                    have hbsr : b' < wr.heap.size := by have := hBr.size; omega
                    have hz0r : w.heap.size < wr.heap.size := by have := hbl.size; omega
                    have hwk := HWH.out (j + 1) hlt
                    have hwj : IntKind.i64.wrap (j : Int) = j := IntWalk.i64_in _ (by omega)
                    have hjl : j < x.hosts.length := by omega
                    clear p1 p2 p3 p4 p5 hlabels4 htaints4 hcpu4 hmem4 hslots4
                    obtain ⟨a, b2, L, okv, hus, hfo, hL0, hL1⟩ := fineOn_used x x.hosts[j + 1]
                    have HU := Lib.hid hus
                    clear hus
                    have hLi : L ≤ 12 := by omega
                    cases h1 : hostR x.hosts[j + 1] with
                    | false =>
                      have H1 := Lib.hid h1
                      obtain ⟨u3, h3⟩ : ∃ u, hostLess x.hosts[j] x.hosts[j + 1] = u := ⟨_, rfl⟩
                      as_aux_lemma =>
                        have hp := rowAtS (ok := hostX x) (less := hostLess) hlt (show hostX x x.hosts[j + 1] = false by unfold hostX; rw [h1]; rfl) (show hostLess x.hosts[j] x.hosts[j + 1] = u3 from h3)
                        try simp only [Bool.and_false, Bool.and_true, Bool.false_and, Bool.and_self] at hp
                        have HF := Lib.hid (clusterR_host hlt hp)
                        clear hp
                        go_wp2_with fail
                        refine wp_region_grow _ (by kernel_rfl) (by kernel_rfl) (ext_refl _) ?_
                        repeat (first
                          | (apply inText_skip
                             case hw => rfl
                             simp only [Act.put, List.setIfInBounds_toArray, List.set_cons_zero, List.set_cons_succ])
                          | (apply inText_step
                             case hw => rfl
                             case h =>
                               intro wq hq
                               have hcq := (cls_cell hq).1
                               have hfq := (cls_cell hq).2
                               go_simp
                               first
                                 | exact ⟨hq, rfl⟩
                                 | exact ⟨cls_alloc hq _, rfl⟩
                                 | (refine (HostOk_spec x.hosts[j + 1] _ _ _ (rd_extT hr3 (by repeat (first | with_reducible exact hq | with_reducible exact hq.out | with_reducible exact ext_refl _ | with_reducible assumption | with_reducible refine ext_alloc ?_ _ | with_reducible refine ext_trans ?_ (by first | exact hq | exact hq.out) | with_reducible refine ext_trans ?_ (by assumption)))) hwk).mono ?_; rw [H1.out]; rintro e w6 ⟨rfl, hb6⟩; exact ⟨rfl, cls_trans hq hb6⟩)
                                 | (simp only [↓IntWalk.iteOmega]; exact ⟨hq, rfl⟩)
                             simp only [Act.put, List.setIfInBounds_toArray, List.set_cons_zero, List.set_cons_succ]))
                        refine inText_nil ?_
                        intro wn hn
                        replace hn := hn.out
                        obtain ⟨hcn, hfn⟩ := bcell hn
                        have hzn : w.heap.size < wn.heap.size := by have := hn.size; (try simp at this); omega
                        have hyn : b' < wn.heap.size := by have := hn.size; (try simp at this); omega
                        try (have hxn : wr.heap.size < wn.heap.size := by have := hn.size; (try simp at this); omega)
                        go_wp2
                        go_ret
                        exact ⟨by rw [HF.out]; rfl, (by repeat (first | with_reducible exact ext_refl _ | with_reducible assumption | with_reducible refine ext_alloc ?_ _ | with_reducible refine ext_trans ?_ (by assumption)))⟩
                    | true =>
                      have H1 := Lib.hid h1
                      cases h3 : Op.bytesLess x.hosts[j].name.toList x.hosts[j + 1].name.toList with
                      | false =>
                        obtain ⟨v, hv⟩ : ∃ v, hostX x x.hosts[j + 1] = v := ⟨_, rfl⟩
                        as_aux_lemma =>
                          have hp := rowAtS (ok := hostX x) (less := hostLess) hlt (show hostX x x.hosts[j + 1] = v by exact hv) (show hostLess x.hosts[j] x.hosts[j + 1] = false from h3)
                          try simp only [Bool.and_false, Bool.and_true, Bool.false_and, Bool.and_self] at hp
                          have HF := Lib.hid (clusterR_host hlt hp)
                          clear hp
                          go_wp2_with fail
                          refine wp_region_grow _ (by kernel_rfl) (by kernel_rfl) (ext_refl _) ?_
                          repeat (first
                            | (apply inText_skip
                               case hw => rfl
                               simp only [Act.put, List.setIfInBounds_toArray, List.set_cons_zero, List.set_cons_succ])
                            | (apply inText_step
                               case hw => rfl
                               case h =>
                                 intro wq hq
                                 have hcq := (cls_cell hq).1
                                 have hfq := (cls_cell hq).2
                                 go_simp
                                 first
                                   | exact ⟨hq, rfl⟩
                                   | exact ⟨cls_alloc hq _, rfl⟩
                                   | (refine (HostOk_spec x.hosts[j + 1] _ _ _ (rd_extT hr3 (by repeat (first | with_reducible exact hq | with_reducible exact hq.out | with_reducible exact ext_refl _ | with_reducible assumption | with_reducible refine ext_alloc ?_ _ | with_reducible refine ext_trans ?_ (by first | exact hq | exact hq.out) | with_reducible refine ext_trans ?_ (by assumption)))) hwk).mono ?_; rw [H1.out]; rintro e w6 ⟨rfl, hb6⟩; exact ⟨rfl, cls_trans hq hb6⟩)
                                   | (simp only [↓IntWalk.iteOmega]; exact ⟨hq, rfl⟩)
                               simp only [Act.put, List.setIfInBounds_toArray, List.set_cons_zero, List.set_cons_succ]))
                          refine inText_nil ?_
                          intro wn hn
                          replace hn := hn.out
                          obtain ⟨hcn, hfn⟩ := bcell hn
                          have hzn : w.heap.size < wn.heap.size := by have := hn.size; (try simp at this); omega
                          have hyn : b' < wn.heap.size := by have := hn.size; (try simp at this); omega
                          try (have hxn : wr.heap.size < wn.heap.size := by have := hn.size; (try simp at this); omega)
                          go_wp2
                          go_ret
                          exact ⟨by rw [HF.out]; rfl, (by repeat (first | with_reducible exact ext_refl _ | with_reducible assumption | with_reducible refine ext_alloc ?_ _ | with_reducible refine ext_trans ?_ (by assumption)))⟩
                      | true =>
                        cases okv with
                        | false =>
                          as_aux_lemma =>
                            have hp := rowAtS (ok := hostX x) (less := hostLess) hlt (show hostX x x.hosts[j + 1] = false by unfold hostX; rw [hfo]; simp) (show hostLess x.hosts[j] x.hosts[j + 1] = true from h3)
                            try simp only [Bool.and_false, Bool.and_true, Bool.false_and, Bool.and_self] at hp
                            have HF := Lib.hid (clusterR_host hlt hp)
                            clear hp
                            go_wp2_with fail
                            refine wp_region_grow _ (by kernel_rfl) (by kernel_rfl) (ext_refl _) ?_
                            repeat (first
                              | (apply inText_skip
                                 case hw => rfl
                                 simp only [Act.put, List.setIfInBounds_toArray, List.set_cons_zero, List.set_cons_succ])
                              | (apply inText_step
                                 case hw => rfl
                                 case h =>
                                   intro wq hq
                                   have hcq := (cls_cell hq).1
                                   have hfq := (cls_cell hq).2
                                   go_simp
                                   first
                                     | exact ⟨hq, rfl⟩
                                     | exact ⟨cls_alloc hq _, rfl⟩
                                     | (refine (HostOk_spec x.hosts[j + 1] _ _ _ (rd_extT hr3 (by repeat (first | with_reducible exact hq | with_reducible exact hq.out | with_reducible exact ext_refl _ | with_reducible assumption | with_reducible refine ext_alloc ?_ _ | with_reducible refine ext_trans ?_ (by first | exact hq | exact hq.out) | with_reducible refine ext_trans ?_ (by assumption)))) hwk).mono ?_; rw [H1.out]; rintro e w6 ⟨rfl, hb6⟩; exact ⟨rfl, cls_trans hq hb6⟩)
                                     | (simp only [↓IntWalk.iteOmega]; exact ⟨hq, rfl⟩)
                                 simp only [Act.put, List.setIfInBounds_toArray, List.set_cons_zero, List.set_cons_succ]))
                            refine inText_nil ?_
                            intro wn hn
                            replace hn := hn.out
                            obtain ⟨hcn, hfn⟩ := bcell hn
                            have hzn : w.heap.size < wn.heap.size := by have := hn.size; (try simp at this); omega
                            have hyn : b' < wn.heap.size := by have := hn.size; (try simp at this); omega
                            try (have hxn : wr.heap.size < wn.heap.size := by have := hn.size; (try simp at this); omega)
                            go_wp2_with (go_at_call 83; refine (UsedOn_spec x _ _ x.hosts[j + 1].name _ (rd_extT h (by repeat (first | with_reducible exact ext_refl _ | with_reducible assumption | with_reducible refine ext_alloc ?_ _ | with_reducible refine ext_trans ?_ (by assumption)))) HPL.out).mono ?_; rw [HU.out]; rintro e w5 ⟨rfl, hb5⟩; obtain ⟨hc5, hf5⟩ := bcell hb5; have hz5 : w.heap.size < w5.heap.size := (by have := hb5.size; (try simp at this); omega); have hy5 : b' < w5.heap.size := (by have := hb5.size; (try simp at this); omega); (try have hx5 : wr.heap.size < w5.heap.size := (by have := hb5.size; (try simp at this); omega)))
                            go_ret
                            exact ⟨by rw [HF.out]; rfl, (by repeat (first | with_reducible exact ext_refl _ | with_reducible assumption | with_reducible refine ext_alloc ?_ _ | with_reducible refine ext_trans ?_ (by assumption)))⟩
                        | true =>
                          by_cases ha : a ≤ x.hosts[j + 1].cpu
                          · have hda : decide (x.hosts[j + 1].cpu < a) = false := decide_eq_false (by omega)
                            by_cases hb : b2 ≤ x.hosts[j + 1].mem
                            · have hdb : decide (x.hosts[j + 1].mem < b2) = false := decide_eq_false (by omega)
                              by_cases hl : L ≤ x.hosts[j + 1].slots
                              · have hdl : decide (x.hosts[j + 1].slots < L) = false := decide_eq_false (by omega)
                                as_aux_lemma =>
                                  have hp := rowAtS (ok := hostX x) (less := hostLess) hlt (show hostX x x.hosts[j + 1] = true by unfold hostX; rw [h1, hfo]; simp [ha, hb, hl]) (show hostLess x.hosts[j] x.hosts[j + 1] = true from h3)
                                  try simp only [Bool.and_false, Bool.and_true, Bool.false_and, Bool.and_self] at hp
                                  have HN := Lib.hid (upto_next hall.out hp)
                                  clear hp
                                  go_wp2_with fail
                                  refine wp_region_grow _ (by kernel_rfl) (by kernel_rfl) (ext_refl _) ?_
                                  repeat (first
                                    | (apply inText_skip
                                       case hw => rfl
                                       simp only [Act.put, List.setIfInBounds_toArray, List.set_cons_zero, List.set_cons_succ])
                                    | (apply inText_step
                                       case hw => rfl
                                       case h =>
                                         intro wq hq
                                         have hcq := (cls_cell hq).1
                                         have hfq := (cls_cell hq).2
                                         go_simp
                                         first
                                           | exact ⟨hq, rfl⟩
                                           | exact ⟨cls_alloc hq _, rfl⟩
                                           | (refine (HostOk_spec x.hosts[j + 1] _ _ _ (rd_extT hr3 (by repeat (first | with_reducible exact hq | with_reducible exact hq.out | with_reducible exact ext_refl _ | with_reducible assumption | with_reducible refine ext_alloc ?_ _ | with_reducible refine ext_trans ?_ (by first | exact hq | exact hq.out) | with_reducible refine ext_trans ?_ (by assumption)))) hwk).mono ?_; rw [H1.out]; rintro e w6 ⟨rfl, hb6⟩; exact ⟨rfl, cls_trans hq hb6⟩)
                                           | (simp only [↓IntWalk.iteOmega]; exact ⟨hq, rfl⟩)
                                       simp only [Act.put, List.setIfInBounds_toArray, List.set_cons_zero, List.set_cons_succ]))
                                  refine inText_nil ?_
                                  intro wn hn
                                  replace hn := hn.out
                                  obtain ⟨hcn, hfn⟩ := bcell hn
                                  have hzn : w.heap.size < wn.heap.size := by have := hn.size; (try simp at this); omega
                                  have hyn : b' < wn.heap.size := by have := hn.size; (try simp at this); omega
                                  try (have hxn : wr.heap.size < wn.heap.size := by have := hn.size; (try simp at this); omega)
                                  go_wp2_with (go_at_call 83; refine (UsedOn_spec x _ _ x.hosts[j + 1].name _ (rd_extT h (by repeat (first | with_reducible exact ext_refl _ | with_reducible assumption | with_reducible refine ext_alloc ?_ _ | with_reducible refine ext_trans ?_ (by assumption)))) HPL.out).mono ?_; rw [HU.out]; rintro e w5 ⟨rfl, hb5⟩; obtain ⟨hc5, hf5⟩ := bcell hb5; have hz5 : w.heap.size < w5.heap.size := (by have := hb5.size; (try simp at this); omega); have hy5 : b' < w5.heap.size := (by have := hb5.size; (try simp at this); omega); (try have hx5 : wr.heap.size < w5.heap.size := (by have := hb5.size; (try simp at this); omega)))
                                  exact ⟨⟨j + 1 + 1, by omega, by go_num, HN.out, (by repeat (first | with_reducible exact ext_refl _ | with_reducible assumption | with_reducible refine ext_alloc ?_ _ | with_reducible refine ext_trans ?_ (by assumption)))⟩, by simp [intOf]; omega⟩
                              · have hdl : decide (x.hosts[j + 1].slots < L) = true := decide_eq_true (by omega)
                                as_aux_lemma =>
                                  have hp := rowAtS (ok := hostX x) (less := hostLess) hlt (show hostX x x.hosts[j + 1] = false by unfold hostX; rw [h1, hfo]; simp [ha, hb, hl]) (show hostLess x.hosts[j] x.hosts[j + 1] = true from h3)
                                  try simp only [Bool.and_false, Bool.and_true, Bool.false_and, Bool.and_self] at hp
                                  have HF := Lib.hid (clusterR_host hlt hp)
                                  clear hp
                                  go_wp2_with fail
                                  refine wp_region_grow _ (by kernel_rfl) (by kernel_rfl) (ext_refl _) ?_
                                  repeat (first
                                    | (apply inText_skip
                                       case hw => rfl
                                       simp only [Act.put, List.setIfInBounds_toArray, List.set_cons_zero, List.set_cons_succ])
                                    | (apply inText_step
                                       case hw => rfl
                                       case h =>
                                         intro wq hq
                                         have hcq := (cls_cell hq).1
                                         have hfq := (cls_cell hq).2
                                         go_simp
                                         first
                                           | exact ⟨hq, rfl⟩
                                           | exact ⟨cls_alloc hq _, rfl⟩
                                           | (refine (HostOk_spec x.hosts[j + 1] _ _ _ (rd_extT hr3 (by repeat (first | with_reducible exact hq | with_reducible exact hq.out | with_reducible exact ext_refl _ | with_reducible assumption | with_reducible refine ext_alloc ?_ _ | with_reducible refine ext_trans ?_ (by first | exact hq | exact hq.out) | with_reducible refine ext_trans ?_ (by assumption)))) hwk).mono ?_; rw [H1.out]; rintro e w6 ⟨rfl, hb6⟩; exact ⟨rfl, cls_trans hq hb6⟩)
                                           | (simp only [↓IntWalk.iteOmega]; exact ⟨hq, rfl⟩)
                                       simp only [Act.put, List.setIfInBounds_toArray, List.set_cons_zero, List.set_cons_succ]))
                                  refine inText_nil ?_
                                  intro wn hn
                                  replace hn := hn.out
                                  obtain ⟨hcn, hfn⟩ := bcell hn
                                  have hzn : w.heap.size < wn.heap.size := by have := hn.size; (try simp at this); omega
                                  have hyn : b' < wn.heap.size := by have := hn.size; (try simp at this); omega
                                  try (have hxn : wr.heap.size < wn.heap.size := by have := hn.size; (try simp at this); omega)
                                  go_wp2_with (go_at_call 83; refine (UsedOn_spec x _ _ x.hosts[j + 1].name _ (rd_extT h (by repeat (first | with_reducible exact ext_refl _ | with_reducible assumption | with_reducible refine ext_alloc ?_ _ | with_reducible refine ext_trans ?_ (by assumption)))) HPL.out).mono ?_; rw [HU.out]; rintro e w5 ⟨rfl, hb5⟩; obtain ⟨hc5, hf5⟩ := bcell hb5; have hz5 : w.heap.size < w5.heap.size := (by have := hb5.size; (try simp at this); omega); have hy5 : b' < w5.heap.size := (by have := hb5.size; (try simp at this); omega); (try have hx5 : wr.heap.size < w5.heap.size := (by have := hb5.size; (try simp at this); omega)))
                                  go_ret
                                  exact ⟨by rw [HF.out]; rfl, (by repeat (first | with_reducible exact ext_refl _ | with_reducible assumption | with_reducible refine ext_alloc ?_ _ | with_reducible refine ext_trans ?_ (by assumption)))⟩
                            · have hdb : decide (x.hosts[j + 1].mem < b2) = true := decide_eq_true (by omega)
                              as_aux_lemma =>
                                have hp := rowAtS (ok := hostX x) (less := hostLess) hlt (show hostX x x.hosts[j + 1] = false by unfold hostX; rw [h1, hfo]; simp [ha, hb]) (show hostLess x.hosts[j] x.hosts[j + 1] = true from h3)
                                try simp only [Bool.and_false, Bool.and_true, Bool.false_and, Bool.and_self] at hp
                                have HF := Lib.hid (clusterR_host hlt hp)
                                clear hp
                                go_wp2_with fail
                                refine wp_region_grow _ (by kernel_rfl) (by kernel_rfl) (ext_refl _) ?_
                                repeat (first
                                  | (apply inText_skip
                                     case hw => rfl
                                     simp only [Act.put, List.setIfInBounds_toArray, List.set_cons_zero, List.set_cons_succ])
                                  | (apply inText_step
                                     case hw => rfl
                                     case h =>
                                       intro wq hq
                                       have hcq := (cls_cell hq).1
                                       have hfq := (cls_cell hq).2
                                       go_simp
                                       first
                                         | exact ⟨hq, rfl⟩
                                         | exact ⟨cls_alloc hq _, rfl⟩
                                         | (refine (HostOk_spec x.hosts[j + 1] _ _ _ (rd_extT hr3 (by repeat (first | with_reducible exact hq | with_reducible exact hq.out | with_reducible exact ext_refl _ | with_reducible assumption | with_reducible refine ext_alloc ?_ _ | with_reducible refine ext_trans ?_ (by first | exact hq | exact hq.out) | with_reducible refine ext_trans ?_ (by assumption)))) hwk).mono ?_; rw [H1.out]; rintro e w6 ⟨rfl, hb6⟩; exact ⟨rfl, cls_trans hq hb6⟩)
                                         | (simp only [↓IntWalk.iteOmega]; exact ⟨hq, rfl⟩)
                                     simp only [Act.put, List.setIfInBounds_toArray, List.set_cons_zero, List.set_cons_succ]))
                                refine inText_nil ?_
                                intro wn hn
                                replace hn := hn.out
                                obtain ⟨hcn, hfn⟩ := bcell hn
                                have hzn : w.heap.size < wn.heap.size := by have := hn.size; (try simp at this); omega
                                have hyn : b' < wn.heap.size := by have := hn.size; (try simp at this); omega
                                try (have hxn : wr.heap.size < wn.heap.size := by have := hn.size; (try simp at this); omega)
                                go_wp2_with (go_at_call 83; refine (UsedOn_spec x _ _ x.hosts[j + 1].name _ (rd_extT h (by repeat (first | with_reducible exact ext_refl _ | with_reducible assumption | with_reducible refine ext_alloc ?_ _ | with_reducible refine ext_trans ?_ (by assumption)))) HPL.out).mono ?_; rw [HU.out]; rintro e w5 ⟨rfl, hb5⟩; obtain ⟨hc5, hf5⟩ := bcell hb5; have hz5 : w.heap.size < w5.heap.size := (by have := hb5.size; (try simp at this); omega); have hy5 : b' < w5.heap.size := (by have := hb5.size; (try simp at this); omega); (try have hx5 : wr.heap.size < w5.heap.size := (by have := hb5.size; (try simp at this); omega)))
                                go_ret
                                exact ⟨by rw [HF.out]; rfl, (by repeat (first | with_reducible exact ext_refl _ | with_reducible assumption | with_reducible refine ext_alloc ?_ _ | with_reducible refine ext_trans ?_ (by assumption)))⟩
                          · have hda : decide (x.hosts[j + 1].cpu < a) = true := decide_eq_true (by omega)
                            as_aux_lemma =>
                              have hp := rowAtS (ok := hostX x) (less := hostLess) hlt (show hostX x x.hosts[j + 1] = false by unfold hostX; rw [h1, hfo]; simp [ha]) (show hostLess x.hosts[j] x.hosts[j + 1] = true from h3)
                              try simp only [Bool.and_false, Bool.and_true, Bool.false_and, Bool.and_self] at hp
                              have HF := Lib.hid (clusterR_host hlt hp)
                              clear hp
                              go_wp2_with fail
                              refine wp_region_grow _ (by kernel_rfl) (by kernel_rfl) (ext_refl _) ?_
                              repeat (first
                                | (apply inText_skip
                                   case hw => rfl
                                   simp only [Act.put, List.setIfInBounds_toArray, List.set_cons_zero, List.set_cons_succ])
                                | (apply inText_step
                                   case hw => rfl
                                   case h =>
                                     intro wq hq
                                     have hcq := (cls_cell hq).1
                                     have hfq := (cls_cell hq).2
                                     go_simp
                                     first
                                       | exact ⟨hq, rfl⟩
                                       | exact ⟨cls_alloc hq _, rfl⟩
                                       | (refine (HostOk_spec x.hosts[j + 1] _ _ _ (rd_extT hr3 (by repeat (first | with_reducible exact hq | with_reducible exact hq.out | with_reducible exact ext_refl _ | with_reducible assumption | with_reducible refine ext_alloc ?_ _ | with_reducible refine ext_trans ?_ (by first | exact hq | exact hq.out) | with_reducible refine ext_trans ?_ (by assumption)))) hwk).mono ?_; rw [H1.out]; rintro e w6 ⟨rfl, hb6⟩; exact ⟨rfl, cls_trans hq hb6⟩)
                                       | (simp only [↓IntWalk.iteOmega]; exact ⟨hq, rfl⟩)
                                   simp only [Act.put, List.setIfInBounds_toArray, List.set_cons_zero, List.set_cons_succ]))
                              refine inText_nil ?_
                              intro wn hn
                              replace hn := hn.out
                              obtain ⟨hcn, hfn⟩ := bcell hn
                              have hzn : w.heap.size < wn.heap.size := by have := hn.size; (try simp at this); omega
                              have hyn : b' < wn.heap.size := by have := hn.size; (try simp at this); omega
                              try (have hxn : wr.heap.size < wn.heap.size := by have := hn.size; (try simp at this); omega)
                              go_wp2_with (go_at_call 83; refine (UsedOn_spec x _ _ x.hosts[j + 1].name _ (rd_extT h (by repeat (first | with_reducible exact ext_refl _ | with_reducible assumption | with_reducible refine ext_alloc ?_ _ | with_reducible refine ext_trans ?_ (by assumption)))) HPL.out).mono ?_; rw [HU.out]; rintro e w5 ⟨rfl, hb5⟩; obtain ⟨hc5, hf5⟩ := bcell hb5; have hz5 : w.heap.size < w5.heap.size := (by have := hb5.size; (try simp at this); omega); have hy5 : b' < w5.heap.size := (by have := hb5.size; (try simp at this); omega); (try have hx5 : wr.heap.size < w5.heap.size := (by have := hb5.size; (try simp at this); omega)))
                              go_ret
                              exact ⟨by rw [HF.out]; rfl, (by repeat (first | with_reducible exact ext_refl _ | with_reducible assumption | with_reducible refine ext_alloc ?_ _ | with_reducible refine ext_trans ?_ (by assumption)))⟩
                · have hkl : k = x.hosts.length := by omega
                  subst hkl
                  have hKwr := (bcell hbl).1
                  have ce0 := (hKwr _ _ hz0).trans c0
                  have ce1 := (hKwr _ _ hz0).trans c1
                  have ce2 := (hKwr _ _ hz0).trans c2
                  have ce3 := (hKwr _ _ hz0).trans c3
                  have ce4 := (hKwr _ _ hz0).trans c4
                  have ce5 := (hKwr _ _ hz0).trans c5
                  clear hKwr
                  have HF := Lib.hid (clusterR_all HHD.out hall.out HPALL.out HPF.out)
                  have hz0r : w.heap.size < wr.heap.size := by have := hbl.size; omega
                  go_wp2
                  go_ret
                  exact ⟨by rw [HF.out]; rfl, ext_trans hB0 hbl⟩
    · have HF := Lib.hid (clusterR_head (x := x) (by unfold headR; simp [hh2]))
      go_enter Tryz.func34, Tryz.ntmps34
      go_wp2_with fail
      rw [HW0.out]
      go_wp2_with (first
        | (go_at_call 80; refine (l01In_any2 x.next 1 1000000000 _).mono ?_; rw [HNX.out]; rintro e w1 ⟨rfl, hw1⟩; simp only [← hw1]; clear hw1 w1)
        | (go_at_call 35; refine (WeightsOk_spec x.weights.pack x.weights.spread x.weights.soft _).mono ?_; rw [HWT.out]; rintro e w2 ⟨rfl, hb2⟩; obtain ⟨hc2, hf2⟩ := bcell hb2; have hz2 : w.heap.size < w2.heap.size := (by have := hb2.size; (try simp at this); omega)))
      go_ret
      exact ⟨by rw [HF.out]; rfl, (by repeat (first | with_reducible exact ext_refl _ | with_reducible assumption | with_reducible refine ext_alloc ?_ _ | with_reducible refine ext_trans ?_ (by assumption)))⟩
  · have HF := Lib.hid (clusterR_head (x := x) (by unfold headR; simp [hh1]))
    go_enter Tryz.func34, Tryz.ntmps34
    go_wp2_with fail
    rw [HW0.out]
    go_wp2_with (first
      | (go_at_call 80; refine (l01In_any2 x.next 1 1000000000 _).mono ?_; rw [HNX.out]; rintro e w1 ⟨rfl, hw1⟩; simp only [← hw1]; clear hw1 w1)
      | (go_at_call 35; refine (WeightsOk_spec x.weights.pack x.weights.spread x.weights.soft _).mono ?_; rw [HWT.out]; rintro e w2 ⟨rfl, hb2⟩; obtain ⟨hc2, hf2⟩ := bcell hb2; have hz2 : w.heap.size < w2.heap.size := (by have := hb2.size; (try simp at this); omega)))
    go_ret
    exact ⟨by rw [HF.out]; rfl, (by repeat (first | with_reducible exact ext_refl _ | with_reducible assumption | with_reducible refine ext_alloc ?_ _ | with_reducible refine ext_trans ?_ (by assumption)))⟩

end Go.Proofs.YtjoclfenghenjaaGreat
