/- slices.EqualFunc over hosts and pods. No condition. -/
import Derived.Test.YtaljcihfkblncaaSameH
namespace Go.Proofs.Ytaljcihfkblncaa
open Go.ChangeShapes Go.WideShapes Go.ChangeAt Go.RowKit
set_option linter.unusedVariables false
set_option linter.unusedSimpArgs false
set_option maxRecDepth 100000 in
set_option maxHeartbeats 4000000 in
theorem SamePlaced_clo (x y : Placed) (cs ds : List Value) (F G : List Nat) (w : World) (h : rd w x cs F) (h' : rd w y ds G) (hwa : (Placed.wt x : Int) ≤ 1048576) (hwb : (Placed.wt y : Int) ≤ 1048576) :
    Calls Try.prog 78 #[.agg cs.toArray, .agg ds.toArray] w fun e w' => e = .returned (.bool (eqPlaced x y)) ∧ Below w.heap.size w w' := by
  have HWA := Lib.hid (show (Pod.wt x.pod : Int) ≤ 1048576 by have e : Placed.wt x = Pod.wt x.pod + x.on.size := rfl; omega)
  have HWB := Lib.hid (show (Pod.wt y.pod : Int) ≤ 1048576 by have e : Placed.wt y = Pod.wt y.pod + y.on.size := rfl; omega)
  have hr4 := h
  have hr5 := h'
  obtain ⟨Apodlabels1, cpodlabels1, Fpodlabels1, Apodneeds1, cpodneeds1, Fpodneeds1, Apodtolerances1, cpodtolerances1, Fpodtolerances1, hck, rfl, hpodname1, hpodlabels1, hpodcpu1, hpodmem1, hpodrank1, hpodneeds1, hpodtolerances1, hon1, hseq1⟩ := rd_Placed h
  subst hck
  obtain ⟨Apodlabels2, cpodlabels2, Fpodlabels2, Apodneeds2, cpodneeds2, Fpodneeds2, Apodtolerances2, cpodtolerances2, Fpodtolerances2, hck, rfl, hpodname2, hpodlabels2, hpodcpu2, hpodmem2, hpodrank2, hpodneeds2, hpodtolerances2, hon2, hseq2⟩ := rd_Placed h'
  subst hck
  obtain ⟨dpod, don, Gpod1, Gon, hdc, hdG, hrpod, _⟩ := hr4
  have hpa : rd w x.pod [.string x.pod.name, .slice Apodlabels1 x.pod.labels.length cpodlabels1, .int .i64 x.pod.cpu, .int .i64 x.pod.mem, .int .i64 x.pod.rank, .slice Apodneeds1 x.pod.needs.length cpodneeds1, .slice Apodtolerances1 x.pod.tolerances.length cpodtolerances1] Gpod1 := by
    have hl7 : dpod.length = 7 := Dat.len hrpod
    have h2 : List.take 7 (dpod ++ don) = dpod := by rw [List.take_append_of_le_length (by omega), List.take_of_length_le (by omega)]
    have h3 := congrArg (List.take 7) hdc
    rw [h2] at h3
    rw [← h3] at hrpod
    exact hrpod
  clear hdc hdG hrpod
  obtain ⟨dpod, don, Gpod2, Gon, hdc, hdG, hrpod, _⟩ := hr5
  have hpb : rd w y.pod [.string y.pod.name, .slice Apodlabels2 y.pod.labels.length cpodlabels2, .int .i64 y.pod.cpu, .int .i64 y.pod.mem, .int .i64 y.pod.rank, .slice Apodneeds2 y.pod.needs.length cpodneeds2, .slice Apodtolerances2 y.pod.tolerances.length cpodtolerances2] Gpod2 := by
    have hl7 : dpod.length = 7 := Dat.len hrpod
    have h2 : List.take 7 (dpod ++ don) = dpod := by rw [List.take_append_of_le_length (by omega), List.take_of_length_le (by omega)]
    have h3 := congrArg (List.take 7) hdc
    rw [h2] at h3
    rw [← h3] at hrpod
    exact hrpod
  clear hdc hdG hrpod
  have HPA := Lib.hid hpa
  have HPB := Lib.hid hpb
  clear hpa hpb hwa hwb
  cases e0 : (x.on.toList == y.on.toList) with
  | false =>
    have HF := Lib.hid (show eqPlaced x y = false by simp only [eqPlaced, e0, Bool.and_false, Bool.false_and, Bool.true_and, Bool.and_true])
    have n0 : (x.on.toList != y.on.toList) = true := by rw [bne, e0]; rfl
    go_enter Try.func78, Try.ntmps78
    go_wp2_with (fail)
    go_ret
    exact ⟨by rw [HF.out]; rfl, (by repeat (first | with_reducible exact ext_refl _ | with_reducible assumption | with_reducible refine ext_alloc ?_ _ | with_reducible refine ext_trans ?_ (by assumption)))⟩
  | true =>
    cases e1 : (x.seq == y.seq) with
    | false =>
      have HF := Lib.hid (show eqPlaced x y = false by simp only [eqPlaced, e0, e1, Bool.and_false, Bool.false_and, Bool.true_and, Bool.and_true])
      have n0 : (x.on.toList != y.on.toList) = false := by rw [bne, e0]; rfl
      have n1 : (x.seq != y.seq) = true := by rw [bne, e1]; rfl
      go_enter Try.func78, Try.ntmps78
      go_wp2_with (fail)
      go_ret
      exact ⟨by rw [HF.out]; rfl, (by repeat (first | with_reducible exact ext_refl _ | with_reducible assumption | with_reducible refine ext_alloc ?_ _ | with_reducible refine ext_trans ?_ (by assumption)))⟩
    | true =>
      cases e2 : eqPod x.pod y.pod with
      | false =>
        have HF := Lib.hid (show eqPlaced x y = false by simp only [eqPlaced, e0, e1, e2, Bool.and_false, Bool.false_and, Bool.true_and, Bool.and_true])
        have n0 : (x.on.toList != y.on.toList) = false := by rw [bne, e0]; rfl
        have n1 : (x.seq != y.seq) = false := by rw [bne, e1]; rfl
        have HE2 := Lib.hid e2
        clear e2
        go_enter Try.func78, Try.ntmps78
        go_wp2_with (go_at_call 79; refine (SamePod_impl x.pod y.pod _ _ _ _ _ (rd_extT HPA.out (by repeat (first | with_reducible exact ext_refl _ | with_reducible assumption | with_reducible refine ext_alloc ?_ _ | with_reducible refine ext_trans ?_ (by assumption)))) (rd_extT HPB.out (by repeat (first | with_reducible exact ext_refl _ | with_reducible assumption | with_reducible refine ext_alloc ?_ _ | with_reducible refine ext_trans ?_ (by assumption)))) HWA.out HWB.out).mono ?_; rw [HE2.out]; rintro e w2 ⟨rfl, hb2⟩)
        go_ret
        exact ⟨by rw [HF.out]; rfl, (by repeat (first | with_reducible exact ext_refl _ | with_reducible assumption | with_reducible refine ext_alloc ?_ _ | with_reducible refine ext_trans ?_ (by assumption)))⟩
      | true =>
        have HF := Lib.hid (show eqPlaced x y = true by simp only [eqPlaced, e0, e1, e2, Bool.and_false, Bool.false_and, Bool.true_and, Bool.and_true])
        have n0 : (x.on.toList != y.on.toList) = false := by rw [bne, e0]; rfl
        have n1 : (x.seq != y.seq) = false := by rw [bne, e1]; rfl
        have HE2 := Lib.hid e2
        clear e2
        go_enter Try.func78, Try.ntmps78
        go_wp2_with (go_at_call 79; refine (SamePod_impl x.pod y.pod _ _ _ _ _ (rd_extT HPA.out (by repeat (first | with_reducible exact ext_refl _ | with_reducible assumption | with_reducible refine ext_alloc ?_ _ | with_reducible refine ext_trans ?_ (by assumption)))) (rd_extT HPB.out (by repeat (first | with_reducible exact ext_refl _ | with_reducible assumption | with_reducible refine ext_alloc ?_ _ | with_reducible refine ext_trans ?_ (by assumption)))) HWA.out HWB.out).mono ?_; rw [HE2.out]; rintro e w2 ⟨rfl, hb2⟩)
        go_ret
        exact ⟨by rw [HF.out]; rfl, (by repeat (first | with_reducible exact ext_refl _ | with_reducible assumption | with_reducible refine ext_alloc ?_ _ | with_reducible refine ext_trans ?_ (by assumption)))⟩
set_option maxRecDepth 100000 in
set_option maxHeartbeats 2000000 in
theorem EqualFuncHost_any (xs ys : List Host) (A B : Option Addr) (c d : Nat) (F G : List Nat) (w : World) (h : Sl w xs A c F) (h' : Sl w ys B d G) (hxs : ∀ l ∈ xs, (Host.wt l : Int) ≤ 1048576) (hys : ∀ l ∈ ys, (Host.wt l : Int) ≤ 1048576) :
    Calls Try.prog 80 #[.slice A xs.length c, .slice B ys.length d, .func (.func 81) #[] #[]] w fun e w' => e = .returned (.bool (same eqHost xs ys)) ∧ Below w.heap.size w w' := by
  have hc := h.cap
  unfold maxLen at hc
  obtain ⟨hc1, hc2⟩ := hc
  have hd := h'.cap
  unfold maxLen at hd
  obtain ⟨hd1, hd2⟩ := hd
  by_cases hl : xs.length = ys.length
  · have HL := Lib.hid hl
    have hb1 : ((xs.length : Int) != (ys.length : Int)) = false := by simp [hl]
    clear hl
    go_enter Try.func80, Try.ntmps80
    go_wp2
    go_loopw [17] (fun i wr => ∃ k : Nat, k ≤ xs.length ∧ i = .int .i64 k ∧ Hid (same eqHost (xs.take k) (ys.take k) = true) ∧ Below w.heap.size w wr) (fun i _ => xs.length - (intOf i).toNat)
    case atStart => exact ⟨0, Nat.zero_le _, rfl, by show _ = true; simp [same], ext_refl _⟩
    case round =>
      obtain ⟨k, hk, rfl, Heq, hbl⟩ := hrel
      by_cases hlt : k < xs.length
      · obtain ⟨b, o, ck, Fk, rfl, hbF, hbs, hr, hsub, hc⟩ := (h.ext hbl).get hlt
        have hlt' : k < ys.length := by rw [← HL.out]; exact hlt
        obtain ⟨b', o', ck', Fk', rfl, hbF', hbs', hr', hsub', hc'⟩ := (h'.ext hbl).get hlt'
        obtain ⟨Alabels1, clabels1, Flabels1, Ataints1, ctaints1, Ftaints1, hck, rfl, hname1, hlabels1, hcpu1, hmem1, hslots1, htaints1⟩ := rd_Host hr
        subst hck
        obtain ⟨Alabels2, clabels2, Flabels2, Ataints2, ctaints2, Ftaints2, hck, rfl, hname2, hlabels2, hcpu2, hmem2, hslots2, htaints2⟩ := rd_Host hr'
        subst hck
        have q0 : wr.cell? ⟨b, o + k * 6, none⟩ = some (.string xs[k].name) := by exact hc 0 _ rfl
        have q1 : wr.cell? ⟨b, o + k * 6 + 1, none⟩ = some (.slice Alabels1 xs[k].labels.length clabels1) := by rw [Nat.add_assoc]; exact hc 1 _ rfl
        have q2 : wr.cell? ⟨b, o + k * 6 + 2, none⟩ = some (.int .i64 xs[k].cpu) := by rw [Nat.add_assoc]; exact hc 2 _ rfl
        have q3 : wr.cell? ⟨b, o + k * 6 + 3, none⟩ = some (.int .i64 xs[k].mem) := by rw [Nat.add_assoc]; exact hc 3 _ rfl
        have q4 : wr.cell? ⟨b, o + k * 6 + 4, none⟩ = some (.int .i64 xs[k].slots) := by rw [Nat.add_assoc]; exact hc 4 _ rfl
        have q5 : wr.cell? ⟨b, o + k * 6 + 5, none⟩ = some (.slice Ataints1 xs[k].taints.length ctaints1) := by rw [Nat.add_assoc]; exact hc 5 _ rfl
        have p0 : wr.cell? ⟨b', o' + k * 6, none⟩ = some (.string ys[k].name) := by exact hc' 0 _ rfl
        have p1 : wr.cell? ⟨b', o' + k * 6 + 1, none⟩ = some (.slice Alabels2 ys[k].labels.length clabels2) := by rw [Nat.add_assoc]; exact hc' 1 _ rfl
        have p2 : wr.cell? ⟨b', o' + k * 6 + 2, none⟩ = some (.int .i64 ys[k].cpu) := by rw [Nat.add_assoc]; exact hc' 2 _ rfl
        have p3 : wr.cell? ⟨b', o' + k * 6 + 3, none⟩ = some (.int .i64 ys[k].mem) := by rw [Nat.add_assoc]; exact hc' 3 _ rfl
        have p4 : wr.cell? ⟨b', o' + k * 6 + 4, none⟩ = some (.int .i64 ys[k].slots) := by rw [Nat.add_assoc]; exact hc' 4 _ rfl
        have p5 : wr.cell? ⟨b', o' + k * 6 + 5, none⟩ = some (.slice Ataints2 ys[k].taints.length ctaints2) := by rw [Nat.add_assoc]; exact hc' 5 _ rfl
        clear hc hc'
        cases he : eqHost xs[k] ys[k] with
        | false =>
          have HE := Lib.hid he
          have HS := Lib.hid (same_drop (k + 1) (by rw [same_take hlt hlt', Heq.out, he]; rfl) HL.out)
          clear he
          go_wp2_with fail
          refine (SameHost_impl xs[k] ys[k] _ _ _ _ _ (rd_extT hr (by repeat (first | with_reducible exact ext_refl _ | with_reducible assumption | with_reducible refine ext_alloc ?_ _ | with_reducible refine ext_trans ?_ (by assumption)))) (rd_extT hr' (by repeat (first | with_reducible exact ext_refl _ | with_reducible assumption | with_reducible refine ext_alloc ?_ _ | with_reducible refine ext_trans ?_ (by assumption)))) (hxs _ (List.getElem_mem ..)) (hys _ (List.getElem_mem ..))).mono ?_
          rw [HE.out]
          rintro e w2 ⟨rfl, hb2⟩
          go_wp2
          go_ret
          exact ⟨by rw [HS.out]; rfl, (by repeat (first | with_reducible exact ext_refl _ | with_reducible assumption | with_reducible refine ext_alloc ?_ _ | with_reducible refine ext_trans ?_ (by assumption)))⟩
        | true =>
          have HE := Lib.hid he
          have HS := Lib.hid (show same eqHost (xs.take (k + 1)) (ys.take (k + 1)) = true by rw [same_take hlt hlt', Heq.out, he]; rfl)
          clear he
          go_wp2_with fail
          refine (SameHost_impl xs[k] ys[k] _ _ _ _ _ (rd_extT hr (by repeat (first | with_reducible exact ext_refl _ | with_reducible assumption | with_reducible refine ext_alloc ?_ _ | with_reducible refine ext_trans ?_ (by assumption)))) (rd_extT hr' (by repeat (first | with_reducible exact ext_refl _ | with_reducible assumption | with_reducible refine ext_alloc ?_ _ | with_reducible refine ext_trans ?_ (by assumption)))) (hxs _ (List.getElem_mem ..)) (hys _ (List.getElem_mem ..))).mono ?_
          rw [HE.out]
          rintro e w2 ⟨rfl, hb2⟩
          go_wp2
          exact ⟨⟨k + 1, by omega, by go_num, HS, (by repeat (first | with_reducible exact ext_refl _ | with_reducible assumption | with_reducible refine ext_alloc ?_ _ | with_reducible refine ext_trans ?_ (by assumption)))⟩, by simp [intOf]; omega⟩
      · have hkl : k = xs.length := by omega
        have HK := Lib.hid hkl
        clear hkl
        go_wp2
        go_ret
        have h1 := Heq.out
        rw [HK.out, List.take_length, HL.out, List.take_length] at h1
        exact ⟨by rw [h1]; rfl, hbl⟩
  · have hb1 : ((xs.length : Int) != (ys.length : Int)) = true := by simp; omega
    have HL := Lib.hid (same_len (eq := eqHost) hl)
    clear hl
    go_enter Try.func80, Try.ntmps80
    go_wp2
    go_ret
    exact ⟨by rw [HL.out]; rfl, ext_refl _⟩
set_option maxRecDepth 100000 in
set_option maxHeartbeats 2000000 in
theorem EqualFuncPlaced_any (xs ys : List Placed) (A B : Option Addr) (c d : Nat) (F G : List Nat) (w : World) (h : Sl w xs A c F) (h' : Sl w ys B d G) (hxs : ∀ l ∈ xs, (Placed.wt l : Int) ≤ 1048576) (hys : ∀ l ∈ ys, (Placed.wt l : Int) ≤ 1048576) :
    Calls Try.prog 82 #[.slice A xs.length c, .slice B ys.length d, .func (.func 78) #[] #[]] w fun e w' => e = .returned (.bool (same eqPlaced xs ys)) ∧ Below w.heap.size w w' := by
  have hc := h.cap
  unfold maxLen at hc
  obtain ⟨hc1, hc2⟩ := hc
  have hd := h'.cap
  unfold maxLen at hd
  obtain ⟨hd1, hd2⟩ := hd
  by_cases hl : xs.length = ys.length
  · have HL := Lib.hid hl
    have hb1 : ((xs.length : Int) != (ys.length : Int)) = false := by simp [hl]
    clear hl
    go_enter Try.func82, Try.ntmps82
    go_wp2
    go_loopw [17] (fun i wr => ∃ k : Nat, k ≤ xs.length ∧ i = .int .i64 k ∧ Hid (same eqPlaced (xs.take k) (ys.take k) = true) ∧ Below w.heap.size w wr) (fun i _ => xs.length - (intOf i).toNat)
    case atStart => exact ⟨0, Nat.zero_le _, rfl, by show _ = true; simp [same], ext_refl _⟩
    case round =>
      obtain ⟨k, hk, rfl, Heq, hbl⟩ := hrel
      by_cases hlt : k < xs.length
      · obtain ⟨b, o, ck, Fk, rfl, hbF, hbs, hr, hsub, hc⟩ := (h.ext hbl).get hlt
        have hlt' : k < ys.length := by rw [← HL.out]; exact hlt
        obtain ⟨b', o', ck', Fk', rfl, hbF', hbs', hr', hsub', hc'⟩ := (h'.ext hbl).get hlt'
        obtain ⟨Apodlabels1, cpodlabels1, Fpodlabels1, Apodneeds1, cpodneeds1, Fpodneeds1, Apodtolerances1, cpodtolerances1, Fpodtolerances1, hck, rfl, hpodname1, hpodlabels1, hpodcpu1, hpodmem1, hpodrank1, hpodneeds1, hpodtolerances1, hon1, hseq1⟩ := rd_Placed hr
        subst hck
        obtain ⟨Apodlabels2, cpodlabels2, Fpodlabels2, Apodneeds2, cpodneeds2, Fpodneeds2, Apodtolerances2, cpodtolerances2, Fpodtolerances2, hck, rfl, hpodname2, hpodlabels2, hpodcpu2, hpodmem2, hpodrank2, hpodneeds2, hpodtolerances2, hon2, hseq2⟩ := rd_Placed hr'
        subst hck
        have q0 : wr.cell? ⟨b, o + k * 9, none⟩ = some (.string xs[k].pod.name) := by exact hc 0 _ rfl
        have q1 : wr.cell? ⟨b, o + k * 9 + 1, none⟩ = some (.slice Apodlabels1 xs[k].pod.labels.length cpodlabels1) := by rw [Nat.add_assoc]; exact hc 1 _ rfl
        have q2 : wr.cell? ⟨b, o + k * 9 + 2, none⟩ = some (.int .i64 xs[k].pod.cpu) := by rw [Nat.add_assoc]; exact hc 2 _ rfl
        have q3 : wr.cell? ⟨b, o + k * 9 + 3, none⟩ = some (.int .i64 xs[k].pod.mem) := by rw [Nat.add_assoc]; exact hc 3 _ rfl
        have q4 : wr.cell? ⟨b, o + k * 9 + 4, none⟩ = some (.int .i64 xs[k].pod.rank) := by rw [Nat.add_assoc]; exact hc 4 _ rfl
        have q5 : wr.cell? ⟨b, o + k * 9 + 5, none⟩ = some (.slice Apodneeds1 xs[k].pod.needs.length cpodneeds1) := by rw [Nat.add_assoc]; exact hc 5 _ rfl
        have q6 : wr.cell? ⟨b, o + k * 9 + 6, none⟩ = some (.slice Apodtolerances1 xs[k].pod.tolerances.length cpodtolerances1) := by rw [Nat.add_assoc]; exact hc 6 _ rfl
        have q7 : wr.cell? ⟨b, o + k * 9 + 7, none⟩ = some (.string xs[k].on) := by rw [Nat.add_assoc]; exact hc 7 _ rfl
        have q8 : wr.cell? ⟨b, o + k * 9 + 8, none⟩ = some (.int .i64 xs[k].seq) := by rw [Nat.add_assoc]; exact hc 8 _ rfl
        have p0 : wr.cell? ⟨b', o' + k * 9, none⟩ = some (.string ys[k].pod.name) := by exact hc' 0 _ rfl
        have p1 : wr.cell? ⟨b', o' + k * 9 + 1, none⟩ = some (.slice Apodlabels2 ys[k].pod.labels.length cpodlabels2) := by rw [Nat.add_assoc]; exact hc' 1 _ rfl
        have p2 : wr.cell? ⟨b', o' + k * 9 + 2, none⟩ = some (.int .i64 ys[k].pod.cpu) := by rw [Nat.add_assoc]; exact hc' 2 _ rfl
        have p3 : wr.cell? ⟨b', o' + k * 9 + 3, none⟩ = some (.int .i64 ys[k].pod.mem) := by rw [Nat.add_assoc]; exact hc' 3 _ rfl
        have p4 : wr.cell? ⟨b', o' + k * 9 + 4, none⟩ = some (.int .i64 ys[k].pod.rank) := by rw [Nat.add_assoc]; exact hc' 4 _ rfl
        have p5 : wr.cell? ⟨b', o' + k * 9 + 5, none⟩ = some (.slice Apodneeds2 ys[k].pod.needs.length cpodneeds2) := by rw [Nat.add_assoc]; exact hc' 5 _ rfl
        have p6 : wr.cell? ⟨b', o' + k * 9 + 6, none⟩ = some (.slice Apodtolerances2 ys[k].pod.tolerances.length cpodtolerances2) := by rw [Nat.add_assoc]; exact hc' 6 _ rfl
        have p7 : wr.cell? ⟨b', o' + k * 9 + 7, none⟩ = some (.string ys[k].on) := by rw [Nat.add_assoc]; exact hc' 7 _ rfl
        have p8 : wr.cell? ⟨b', o' + k * 9 + 8, none⟩ = some (.int .i64 ys[k].seq) := by rw [Nat.add_assoc]; exact hc' 8 _ rfl
        clear hc hc'
        cases he : eqPlaced xs[k] ys[k] with
        | false =>
          have HE := Lib.hid he
          have HS := Lib.hid (same_drop (k + 1) (by rw [same_take hlt hlt', Heq.out, he]; rfl) HL.out)
          clear he
          go_wp2_with fail
          refine (SamePlaced_clo xs[k] ys[k] _ _ _ _ _ (rd_extT hr (by repeat (first | with_reducible exact ext_refl _ | with_reducible assumption | with_reducible refine ext_alloc ?_ _ | with_reducible refine ext_trans ?_ (by assumption)))) (rd_extT hr' (by repeat (first | with_reducible exact ext_refl _ | with_reducible assumption | with_reducible refine ext_alloc ?_ _ | with_reducible refine ext_trans ?_ (by assumption)))) (hxs _ (List.getElem_mem ..)) (hys _ (List.getElem_mem ..))).mono ?_
          rw [HE.out]
          rintro e w2 ⟨rfl, hb2⟩
          go_wp2
          go_ret
          exact ⟨by rw [HS.out]; rfl, (by repeat (first | with_reducible exact ext_refl _ | with_reducible assumption | with_reducible refine ext_alloc ?_ _ | with_reducible refine ext_trans ?_ (by assumption)))⟩
        | true =>
          have HE := Lib.hid he
          have HS := Lib.hid (show same eqPlaced (xs.take (k + 1)) (ys.take (k + 1)) = true by rw [same_take hlt hlt', Heq.out, he]; rfl)
          clear he
          go_wp2_with fail
          refine (SamePlaced_clo xs[k] ys[k] _ _ _ _ _ (rd_extT hr (by repeat (first | with_reducible exact ext_refl _ | with_reducible assumption | with_reducible refine ext_alloc ?_ _ | with_reducible refine ext_trans ?_ (by assumption)))) (rd_extT hr' (by repeat (first | with_reducible exact ext_refl _ | with_reducible assumption | with_reducible refine ext_alloc ?_ _ | with_reducible refine ext_trans ?_ (by assumption)))) (hxs _ (List.getElem_mem ..)) (hys _ (List.getElem_mem ..))).mono ?_
          rw [HE.out]
          rintro e w2 ⟨rfl, hb2⟩
          go_wp2
          exact ⟨⟨k + 1, by omega, by go_num, HS, (by repeat (first | with_reducible exact ext_refl _ | with_reducible assumption | with_reducible refine ext_alloc ?_ _ | with_reducible refine ext_trans ?_ (by assumption)))⟩, by simp [intOf]; omega⟩
      · have hkl : k = xs.length := by omega
        have HK := Lib.hid hkl
        clear hkl
        go_wp2
        go_ret
        have h1 := Heq.out
        rw [HK.out, List.take_length, HL.out, List.take_length] at h1
        exact ⟨by rw [h1]; rfl, hbl⟩
  · have hb1 : ((xs.length : Int) != (ys.length : Int)) = true := by simp; omega
    have HL := Lib.hid (same_len (eq := eqPlaced) hl)
    clear hl
    go_enter Try.func82, Try.ntmps82
    go_wp2
    go_ret
    exact ⟨by rw [HL.out]; rfl, ext_refl _⟩

end Go.Proofs.Ytaljcihfkblncaa
