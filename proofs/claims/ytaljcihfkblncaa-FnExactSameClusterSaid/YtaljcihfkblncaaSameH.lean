/- SameHost, SamePod, of the program. No condition. -/
import Derived.Test.YtaljcihfkblncaaSameN
import Derived.Test.YtaljcihfkblncaaSmalls
namespace Go.Proofs.Ytaljcihfkblncaa
open Go.ChangeShapes Go.WideShapes Go.ChangeAt Go.RowKit
set_option linter.unusedVariables false
set_option linter.unusedSimpArgs false
set_option maxRecDepth 100000 in
set_option maxHeartbeats 4000000 in
theorem SameHost_impl (a b : Host) (cs ds : List Value) (F G : List Nat) (w : World) (h : rd w a cs F) (h' : rd w b ds G) (hwa : (a.wt : Int) ≤ 1048576) (hwb : (b.wt : Int) ≤ 1048576) :
    Calls Try.prog 81 #[.agg cs.toArray, .agg ds.toArray] w fun e w' => e = .returned (.bool (eqHost a b)) ∧ Below w.heap.size w w' := by
  obtain ⟨Alabels1, clabels1, Flabels1, Ataints1, ctaints1, Ftaints1, hck, rfl, hname1, hlabels1, hcpu1, hmem1, hslots1, htaints1⟩ := rd_Host h
  subst hck
  obtain ⟨Alabels2, clabels2, Flabels2, Ataints2, ctaints2, Ftaints2, hck, rfl, hname2, hlabels2, hcpu2, hmem2, hslots2, htaints2⟩ := rd_Host h'
  subst hck
  clear hwa hwb
  cases e0 : (a.name.toList == b.name.toList) with
  | false =>
    have HF := Lib.hid (show eqHost a b = false by simp only [eqHost, e0, Bool.and_false, Bool.false_and, Bool.true_and, Bool.and_true])
    have n0 : (a.name.toList != b.name.toList) = true := by rw [bne, e0]; rfl
    go_enter Try.func81, Try.ntmps81
    go_wp2_with (fail)
    go_ret
    exact ⟨by rw [HF.out]; rfl, (by repeat (first | with_reducible exact ext_refl _ | with_reducible assumption | with_reducible refine ext_alloc ?_ _ | with_reducible refine ext_trans ?_ (by assumption)))⟩
  | true =>
    cases e1 : same eqLabel a.labels b.labels with
    | false =>
      have HF := Lib.hid (show eqHost a b = false by simp only [eqHost, e0, e1, Bool.and_false, Bool.false_and, Bool.true_and, Bool.and_true])
      have n0 : (a.name.toList != b.name.toList) = false := by rw [bne, e0]; rfl
      have HE1 := Lib.hid e1
      clear e1
      go_enter Try.func81, Try.ntmps81
      go_wp2_with (first | (go_at_call 132; refine (SameLabels_impl a.labels b.labels _ _ _ _ _ _ _ (hlabels1.ext (by repeat (first | with_reducible exact ext_refl _ | with_reducible assumption | with_reducible refine ext_alloc ?_ _ | with_reducible refine ext_trans ?_ (by assumption)))) (hlabels2.ext (by repeat (first | with_reducible exact ext_refl _ | with_reducible assumption | with_reducible refine ext_alloc ?_ _ | with_reducible refine ext_trans ?_ (by assumption))))).mono ?_; rw [HE1.out]; rintro e w1 ⟨rfl, hb1⟩; obtain ⟨hc1, hf1⟩ := bcell hb1; have hz10 : w.heap.size < w1.heap.size := (by have := hb1.size; (try simp at this); omega); have hz11 : w.heap.size + 1 < w1.heap.size := (by have := hb1.size; (try simp at this); omega)))
      go_ret
      exact ⟨by rw [HF.out]; rfl, (by repeat (first | with_reducible exact ext_refl _ | with_reducible assumption | with_reducible refine ext_alloc ?_ _ | with_reducible refine ext_trans ?_ (by assumption)))⟩
    | true =>
      cases e2 : (a.cpu == b.cpu) with
      | false =>
        have HF := Lib.hid (show eqHost a b = false by simp only [eqHost, e0, e1, e2, Bool.and_false, Bool.false_and, Bool.true_and, Bool.and_true])
        have n0 : (a.name.toList != b.name.toList) = false := by rw [bne, e0]; rfl
        have HE1 := Lib.hid e1
        clear e1
        have n2 : (a.cpu != b.cpu) = true := by rw [bne, e2]; rfl
        go_enter Try.func81, Try.ntmps81
        go_wp2_with (first | (go_at_call 132; refine (SameLabels_impl a.labels b.labels _ _ _ _ _ _ _ (hlabels1.ext (by repeat (first | with_reducible exact ext_refl _ | with_reducible assumption | with_reducible refine ext_alloc ?_ _ | with_reducible refine ext_trans ?_ (by assumption)))) (hlabels2.ext (by repeat (first | with_reducible exact ext_refl _ | with_reducible assumption | with_reducible refine ext_alloc ?_ _ | with_reducible refine ext_trans ?_ (by assumption))))).mono ?_; rw [HE1.out]; rintro e w1 ⟨rfl, hb1⟩; obtain ⟨hc1, hf1⟩ := bcell hb1; have hz10 : w.heap.size < w1.heap.size := (by have := hb1.size; (try simp at this); omega); have hz11 : w.heap.size + 1 < w1.heap.size := (by have := hb1.size; (try simp at this); omega)))
        go_ret
        exact ⟨by rw [HF.out]; rfl, (by repeat (first | with_reducible exact ext_refl _ | with_reducible assumption | with_reducible refine ext_alloc ?_ _ | with_reducible refine ext_trans ?_ (by assumption)))⟩
      | true =>
        cases e3 : (a.mem == b.mem) with
        | false =>
          have HF := Lib.hid (show eqHost a b = false by simp only [eqHost, e0, e1, e2, e3, Bool.and_false, Bool.false_and, Bool.true_and, Bool.and_true])
          have n0 : (a.name.toList != b.name.toList) = false := by rw [bne, e0]; rfl
          have HE1 := Lib.hid e1
          clear e1
          have n2 : (a.cpu != b.cpu) = false := by rw [bne, e2]; rfl
          have n3 : (a.mem != b.mem) = true := by rw [bne, e3]; rfl
          go_enter Try.func81, Try.ntmps81
          go_wp2_with (first | (go_at_call 132; refine (SameLabels_impl a.labels b.labels _ _ _ _ _ _ _ (hlabels1.ext (by repeat (first | with_reducible exact ext_refl _ | with_reducible assumption | with_reducible refine ext_alloc ?_ _ | with_reducible refine ext_trans ?_ (by assumption)))) (hlabels2.ext (by repeat (first | with_reducible exact ext_refl _ | with_reducible assumption | with_reducible refine ext_alloc ?_ _ | with_reducible refine ext_trans ?_ (by assumption))))).mono ?_; rw [HE1.out]; rintro e w1 ⟨rfl, hb1⟩; obtain ⟨hc1, hf1⟩ := bcell hb1; have hz10 : w.heap.size < w1.heap.size := (by have := hb1.size; (try simp at this); omega); have hz11 : w.heap.size + 1 < w1.heap.size := (by have := hb1.size; (try simp at this); omega)))
          go_ret
          exact ⟨by rw [HF.out]; rfl, (by repeat (first | with_reducible exact ext_refl _ | with_reducible assumption | with_reducible refine ext_alloc ?_ _ | with_reducible refine ext_trans ?_ (by assumption)))⟩
        | true =>
          cases e4 : (a.slots == b.slots) with
          | false =>
            have HF := Lib.hid (show eqHost a b = false by simp only [eqHost, e0, e1, e2, e3, e4, Bool.and_false, Bool.false_and, Bool.true_and, Bool.and_true])
            have n0 : (a.name.toList != b.name.toList) = false := by rw [bne, e0]; rfl
            have HE1 := Lib.hid e1
            clear e1
            have n2 : (a.cpu != b.cpu) = false := by rw [bne, e2]; rfl
            have n3 : (a.mem != b.mem) = false := by rw [bne, e3]; rfl
            have n4 : (a.slots != b.slots) = true := by rw [bne, e4]; rfl
            go_enter Try.func81, Try.ntmps81
            go_wp2_with (first | (go_at_call 132; refine (SameLabels_impl a.labels b.labels _ _ _ _ _ _ _ (hlabels1.ext (by repeat (first | with_reducible exact ext_refl _ | with_reducible assumption | with_reducible refine ext_alloc ?_ _ | with_reducible refine ext_trans ?_ (by assumption)))) (hlabels2.ext (by repeat (first | with_reducible exact ext_refl _ | with_reducible assumption | with_reducible refine ext_alloc ?_ _ | with_reducible refine ext_trans ?_ (by assumption))))).mono ?_; rw [HE1.out]; rintro e w1 ⟨rfl, hb1⟩; obtain ⟨hc1, hf1⟩ := bcell hb1; have hz10 : w.heap.size < w1.heap.size := (by have := hb1.size; (try simp at this); omega); have hz11 : w.heap.size + 1 < w1.heap.size := (by have := hb1.size; (try simp at this); omega)))
            go_ret
            exact ⟨by rw [HF.out]; rfl, (by repeat (first | with_reducible exact ext_refl _ | with_reducible assumption | with_reducible refine ext_alloc ?_ _ | with_reducible refine ext_trans ?_ (by assumption)))⟩
          | true =>
            cases e5 : same eqTaint a.taints b.taints with
            | false =>
              have HF := Lib.hid (show eqHost a b = false by simp only [eqHost, e0, e1, e2, e3, e4, e5, Bool.and_false, Bool.false_and, Bool.true_and, Bool.and_true])
              have n0 : (a.name.toList != b.name.toList) = false := by rw [bne, e0]; rfl
              have HE1 := Lib.hid e1
              clear e1
              have n2 : (a.cpu != b.cpu) = false := by rw [bne, e2]; rfl
              have n3 : (a.mem != b.mem) = false := by rw [bne, e3]; rfl
              have n4 : (a.slots != b.slots) = false := by rw [bne, e4]; rfl
              have HE5 := Lib.hid e5
              clear e5
              go_enter Try.func81, Try.ntmps81
              go_wp2_with (first | (go_at_call 132; refine (SameLabels_impl a.labels b.labels _ _ _ _ _ _ _ (hlabels1.ext (by repeat (first | with_reducible exact ext_refl _ | with_reducible assumption | with_reducible refine ext_alloc ?_ _ | with_reducible refine ext_trans ?_ (by assumption)))) (hlabels2.ext (by repeat (first | with_reducible exact ext_refl _ | with_reducible assumption | with_reducible refine ext_alloc ?_ _ | with_reducible refine ext_trans ?_ (by assumption))))).mono ?_; rw [HE1.out]; rintro e w1 ⟨rfl, hb1⟩; obtain ⟨hc1, hf1⟩ := bcell hb1; have hz10 : w.heap.size < w1.heap.size := (by have := hb1.size; (try simp at this); omega); have hz11 : w.heap.size + 1 < w1.heap.size := (by have := hb1.size; (try simp at this); omega)) | (go_at_call 135; refine (EqualTaint_any a.taints b.taints _ _ _ _ _ _ _ (htaints1.ext (by repeat (first | with_reducible exact ext_refl _ | with_reducible assumption | with_reducible refine ext_alloc ?_ _ | with_reducible refine ext_trans ?_ (by assumption)))) (htaints2.ext (by repeat (first | with_reducible exact ext_refl _ | with_reducible assumption | with_reducible refine ext_alloc ?_ _ | with_reducible refine ext_trans ?_ (by assumption))))).mono ?_; rw [HE5.out]; rintro e w5 ⟨rfl, hb5⟩; obtain ⟨hc5, hf5⟩ := bcell hb5; have hz50 : w.heap.size < w5.heap.size := (by have := hb5.size; (try simp at this); omega); have hz51 : w.heap.size + 1 < w5.heap.size := (by have := hb5.size; (try simp at this); omega)))
              go_ret
              exact ⟨by rw [HF.out]; rfl, (by repeat (first | with_reducible exact ext_refl _ | with_reducible assumption | with_reducible refine ext_alloc ?_ _ | with_reducible refine ext_trans ?_ (by assumption)))⟩
            | true =>
              have HF := Lib.hid (show eqHost a b = true by simp only [eqHost, e0, e1, e2, e3, e4, e5, Bool.and_false, Bool.false_and, Bool.true_and, Bool.and_true])
              have n0 : (a.name.toList != b.name.toList) = false := by rw [bne, e0]; rfl
              have HE1 := Lib.hid e1
              clear e1
              have n2 : (a.cpu != b.cpu) = false := by rw [bne, e2]; rfl
              have n3 : (a.mem != b.mem) = false := by rw [bne, e3]; rfl
              have n4 : (a.slots != b.slots) = false := by rw [bne, e4]; rfl
              have HE5 := Lib.hid e5
              clear e5
              go_enter Try.func81, Try.ntmps81
              go_wp2_with (first | (go_at_call 132; refine (SameLabels_impl a.labels b.labels _ _ _ _ _ _ _ (hlabels1.ext (by repeat (first | with_reducible exact ext_refl _ | with_reducible assumption | with_reducible refine ext_alloc ?_ _ | with_reducible refine ext_trans ?_ (by assumption)))) (hlabels2.ext (by repeat (first | with_reducible exact ext_refl _ | with_reducible assumption | with_reducible refine ext_alloc ?_ _ | with_reducible refine ext_trans ?_ (by assumption))))).mono ?_; rw [HE1.out]; rintro e w1 ⟨rfl, hb1⟩; obtain ⟨hc1, hf1⟩ := bcell hb1; have hz10 : w.heap.size < w1.heap.size := (by have := hb1.size; (try simp at this); omega); have hz11 : w.heap.size + 1 < w1.heap.size := (by have := hb1.size; (try simp at this); omega)) | (go_at_call 135; refine (EqualTaint_any a.taints b.taints _ _ _ _ _ _ _ (htaints1.ext (by repeat (first | with_reducible exact ext_refl _ | with_reducible assumption | with_reducible refine ext_alloc ?_ _ | with_reducible refine ext_trans ?_ (by assumption)))) (htaints2.ext (by repeat (first | with_reducible exact ext_refl _ | with_reducible assumption | with_reducible refine ext_alloc ?_ _ | with_reducible refine ext_trans ?_ (by assumption))))).mono ?_; rw [HE5.out]; rintro e w5 ⟨rfl, hb5⟩; obtain ⟨hc5, hf5⟩ := bcell hb5; have hz50 : w.heap.size < w5.heap.size := (by have := hb5.size; (try simp at this); omega); have hz51 : w.heap.size + 1 < w5.heap.size := (by have := hb5.size; (try simp at this); omega)))
              go_ret
              exact ⟨by rw [HF.out]; rfl, (by repeat (first | with_reducible exact ext_refl _ | with_reducible assumption | with_reducible refine ext_alloc ?_ _ | with_reducible refine ext_trans ?_ (by assumption)))⟩
set_option maxRecDepth 100000 in
set_option maxHeartbeats 4000000 in
theorem SamePod_impl (a b : Pod) (cs ds : List Value) (F G : List Nat) (w : World) (h : rd w a cs F) (h' : rd w b ds G) (hwa : (a.wt : Int) ≤ 1048576) (hwb : (b.wt : Int) ≤ 1048576) :
    Calls Try.prog 79 #[.agg cs.toArray, .agg ds.toArray] w fun e w' => e = .returned (.bool (eqPod a b)) ∧ Below w.heap.size w w' := by
  have HVA := Lib.hid (fun l hl => ((needs_small (xs := a.needs) (by have e : a.wt = a.name.size + wtL Label.wt a.labels + wtL Need.wt a.needs + wtL Tolerance.wt a.tolerances := rfl; omega)).2 l hl).2.1)
  have HVB := Lib.hid (fun l hl => ((needs_small (xs := b.needs) (by have e : b.wt = b.name.size + wtL Label.wt b.labels + wtL Need.wt b.needs + wtL Tolerance.wt b.tolerances := rfl; omega)).2 l hl).2.1)
  obtain ⟨Alabels1, clabels1, Flabels1, Aneeds1, cneeds1, Fneeds1, Atolerances1, ctolerances1, Ftolerances1, hck, rfl, hname1, hlabels1, hcpu1, hmem1, hrank1, hneeds1, htolerances1⟩ := rd_Pod h
  subst hck
  obtain ⟨Alabels2, clabels2, Flabels2, Aneeds2, cneeds2, Fneeds2, Atolerances2, ctolerances2, Ftolerances2, hck, rfl, hname2, hlabels2, hcpu2, hmem2, hrank2, hneeds2, htolerances2⟩ := rd_Pod h'
  subst hck
  clear hwa hwb
  cases e0 : (a.name.toList == b.name.toList) with
  | false =>
    have HF := Lib.hid (show eqPod a b = false by simp only [eqPod, e0, Bool.and_false, Bool.false_and, Bool.true_and, Bool.and_true])
    have n0 : (a.name.toList != b.name.toList) = true := by rw [bne, e0]; rfl
    go_enter Try.func79, Try.ntmps79
    go_wp2_with (fail)
    go_ret
    exact ⟨by rw [HF.out]; rfl, (by repeat (first | with_reducible exact ext_refl _ | with_reducible assumption | with_reducible refine ext_alloc ?_ _ | with_reducible refine ext_trans ?_ (by assumption)))⟩
  | true =>
    cases e1 : same eqLabel a.labels b.labels with
    | false =>
      have HF := Lib.hid (show eqPod a b = false by simp only [eqPod, e0, e1, Bool.and_false, Bool.false_and, Bool.true_and, Bool.and_true])
      have n0 : (a.name.toList != b.name.toList) = false := by rw [bne, e0]; rfl
      have HE1 := Lib.hid e1
      clear e1
      go_enter Try.func79, Try.ntmps79
      go_wp2_with (first | (go_at_call 132; refine (SameLabels_impl a.labels b.labels _ _ _ _ _ _ _ (hlabels1.ext (by repeat (first | with_reducible exact ext_refl _ | with_reducible assumption | with_reducible refine ext_alloc ?_ _ | with_reducible refine ext_trans ?_ (by assumption)))) (hlabels2.ext (by repeat (first | with_reducible exact ext_refl _ | with_reducible assumption | with_reducible refine ext_alloc ?_ _ | with_reducible refine ext_trans ?_ (by assumption))))).mono ?_; rw [HE1.out]; rintro e w1 ⟨rfl, hb1⟩; obtain ⟨hc1, hf1⟩ := bcell hb1; have hz10 : w.heap.size < w1.heap.size := (by have := hb1.size; (try simp at this); omega); have hz11 : w.heap.size + 1 < w1.heap.size := (by have := hb1.size; (try simp at this); omega)))
      go_ret
      exact ⟨by rw [HF.out]; rfl, (by repeat (first | with_reducible exact ext_refl _ | with_reducible assumption | with_reducible refine ext_alloc ?_ _ | with_reducible refine ext_trans ?_ (by assumption)))⟩
    | true =>
      cases e2 : (a.cpu == b.cpu) with
      | false =>
        have HF := Lib.hid (show eqPod a b = false by simp only [eqPod, e0, e1, e2, Bool.and_false, Bool.false_and, Bool.true_and, Bool.and_true])
        have n0 : (a.name.toList != b.name.toList) = false := by rw [bne, e0]; rfl
        have HE1 := Lib.hid e1
        clear e1
        have n2 : (a.cpu != b.cpu) = true := by rw [bne, e2]; rfl
        go_enter Try.func79, Try.ntmps79
        go_wp2_with (first | (go_at_call 132; refine (SameLabels_impl a.labels b.labels _ _ _ _ _ _ _ (hlabels1.ext (by repeat (first | with_reducible exact ext_refl _ | with_reducible assumption | with_reducible refine ext_alloc ?_ _ | with_reducible refine ext_trans ?_ (by assumption)))) (hlabels2.ext (by repeat (first | with_reducible exact ext_refl _ | with_reducible assumption | with_reducible refine ext_alloc ?_ _ | with_reducible refine ext_trans ?_ (by assumption))))).mono ?_; rw [HE1.out]; rintro e w1 ⟨rfl, hb1⟩; obtain ⟨hc1, hf1⟩ := bcell hb1; have hz10 : w.heap.size < w1.heap.size := (by have := hb1.size; (try simp at this); omega); have hz11 : w.heap.size + 1 < w1.heap.size := (by have := hb1.size; (try simp at this); omega)))
        go_ret
        exact ⟨by rw [HF.out]; rfl, (by repeat (first | with_reducible exact ext_refl _ | with_reducible assumption | with_reducible refine ext_alloc ?_ _ | with_reducible refine ext_trans ?_ (by assumption)))⟩
      | true =>
        cases e3 : (a.mem == b.mem) with
        | false =>
          have HF := Lib.hid (show eqPod a b = false by simp only [eqPod, e0, e1, e2, e3, Bool.and_false, Bool.false_and, Bool.true_and, Bool.and_true])
          have n0 : (a.name.toList != b.name.toList) = false := by rw [bne, e0]; rfl
          have HE1 := Lib.hid e1
          clear e1
          have n2 : (a.cpu != b.cpu) = false := by rw [bne, e2]; rfl
          have n3 : (a.mem != b.mem) = true := by rw [bne, e3]; rfl
          go_enter Try.func79, Try.ntmps79
          go_wp2_with (first | (go_at_call 132; refine (SameLabels_impl a.labels b.labels _ _ _ _ _ _ _ (hlabels1.ext (by repeat (first | with_reducible exact ext_refl _ | with_reducible assumption | with_reducible refine ext_alloc ?_ _ | with_reducible refine ext_trans ?_ (by assumption)))) (hlabels2.ext (by repeat (first | with_reducible exact ext_refl _ | with_reducible assumption | with_reducible refine ext_alloc ?_ _ | with_reducible refine ext_trans ?_ (by assumption))))).mono ?_; rw [HE1.out]; rintro e w1 ⟨rfl, hb1⟩; obtain ⟨hc1, hf1⟩ := bcell hb1; have hz10 : w.heap.size < w1.heap.size := (by have := hb1.size; (try simp at this); omega); have hz11 : w.heap.size + 1 < w1.heap.size := (by have := hb1.size; (try simp at this); omega)))
          go_ret
          exact ⟨by rw [HF.out]; rfl, (by repeat (first | with_reducible exact ext_refl _ | with_reducible assumption | with_reducible refine ext_alloc ?_ _ | with_reducible refine ext_trans ?_ (by assumption)))⟩
        | true =>
          cases e4 : (a.rank == b.rank) with
          | false =>
            have HF := Lib.hid (show eqPod a b = false by simp only [eqPod, e0, e1, e2, e3, e4, Bool.and_false, Bool.false_and, Bool.true_and, Bool.and_true])
            have n0 : (a.name.toList != b.name.toList) = false := by rw [bne, e0]; rfl
            have HE1 := Lib.hid e1
            clear e1
            have n2 : (a.cpu != b.cpu) = false := by rw [bne, e2]; rfl
            have n3 : (a.mem != b.mem) = false := by rw [bne, e3]; rfl
            have n4 : (a.rank != b.rank) = true := by rw [bne, e4]; rfl
            go_enter Try.func79, Try.ntmps79
            go_wp2_with (first | (go_at_call 132; refine (SameLabels_impl a.labels b.labels _ _ _ _ _ _ _ (hlabels1.ext (by repeat (first | with_reducible exact ext_refl _ | with_reducible assumption | with_reducible refine ext_alloc ?_ _ | with_reducible refine ext_trans ?_ (by assumption)))) (hlabels2.ext (by repeat (first | with_reducible exact ext_refl _ | with_reducible assumption | with_reducible refine ext_alloc ?_ _ | with_reducible refine ext_trans ?_ (by assumption))))).mono ?_; rw [HE1.out]; rintro e w1 ⟨rfl, hb1⟩; obtain ⟨hc1, hf1⟩ := bcell hb1; have hz10 : w.heap.size < w1.heap.size := (by have := hb1.size; (try simp at this); omega); have hz11 : w.heap.size + 1 < w1.heap.size := (by have := hb1.size; (try simp at this); omega)))
            go_ret
            exact ⟨by rw [HF.out]; rfl, (by repeat (first | with_reducible exact ext_refl _ | with_reducible assumption | with_reducible refine ext_alloc ?_ _ | with_reducible refine ext_trans ?_ (by assumption)))⟩
          | true =>
            cases e5 : same eqNeed a.needs b.needs with
            | false =>
              have HF := Lib.hid (show eqPod a b = false by simp only [eqPod, e0, e1, e2, e3, e4, e5, Bool.and_false, Bool.false_and, Bool.true_and, Bool.and_true])
              have n0 : (a.name.toList != b.name.toList) = false := by rw [bne, e0]; rfl
              have HE1 := Lib.hid e1
              clear e1
              have n2 : (a.cpu != b.cpu) = false := by rw [bne, e2]; rfl
              have n3 : (a.mem != b.mem) = false := by rw [bne, e3]; rfl
              have n4 : (a.rank != b.rank) = false := by rw [bne, e4]; rfl
              have HE5 := Lib.hid e5
              clear e5
              go_enter Try.func79, Try.ntmps79
              go_wp2_with (first | (go_at_call 132; refine (SameLabels_impl a.labels b.labels _ _ _ _ _ _ _ (hlabels1.ext (by repeat (first | with_reducible exact ext_refl _ | with_reducible assumption | with_reducible refine ext_alloc ?_ _ | with_reducible refine ext_trans ?_ (by assumption)))) (hlabels2.ext (by repeat (first | with_reducible exact ext_refl _ | with_reducible assumption | with_reducible refine ext_alloc ?_ _ | with_reducible refine ext_trans ?_ (by assumption))))).mono ?_; rw [HE1.out]; rintro e w1 ⟨rfl, hb1⟩; obtain ⟨hc1, hf1⟩ := bcell hb1; have hz10 : w.heap.size < w1.heap.size := (by have := hb1.size; (try simp at this); omega); have hz11 : w.heap.size + 1 < w1.heap.size := (by have := hb1.size; (try simp at this); omega)) | (go_at_call 133; refine (SameNeeds_impl a.needs b.needs _ _ _ _ _ _ _ (hneeds1.ext (by repeat (first | with_reducible exact ext_refl _ | with_reducible assumption | with_reducible refine ext_alloc ?_ _ | with_reducible refine ext_trans ?_ (by assumption)))) (hneeds2.ext (by repeat (first | with_reducible exact ext_refl _ | with_reducible assumption | with_reducible refine ext_alloc ?_ _ | with_reducible refine ext_trans ?_ (by assumption)))) HVA.out HVB.out).mono ?_; rw [HE5.out]; rintro e w5 ⟨rfl, hb5⟩; obtain ⟨hc5, hf5⟩ := bcell hb5; have hz50 : w.heap.size < w5.heap.size := (by have := hb5.size; (try simp at this); omega); have hz51 : w.heap.size + 1 < w5.heap.size := (by have := hb5.size; (try simp at this); omega)))
              go_ret
              exact ⟨by rw [HF.out]; rfl, (by repeat (first | with_reducible exact ext_refl _ | with_reducible assumption | with_reducible refine ext_alloc ?_ _ | with_reducible refine ext_trans ?_ (by assumption)))⟩
            | true =>
              cases e6 : same eqTolerance a.tolerances b.tolerances with
              | false =>
                have HF := Lib.hid (show eqPod a b = false by simp only [eqPod, e0, e1, e2, e3, e4, e5, e6, Bool.and_false, Bool.false_and, Bool.true_and, Bool.and_true])
                have n0 : (a.name.toList != b.name.toList) = false := by rw [bne, e0]; rfl
                have HE1 := Lib.hid e1
                clear e1
                have n2 : (a.cpu != b.cpu) = false := by rw [bne, e2]; rfl
                have n3 : (a.mem != b.mem) = false := by rw [bne, e3]; rfl
                have n4 : (a.rank != b.rank) = false := by rw [bne, e4]; rfl
                have HE5 := Lib.hid e5
                clear e5
                have HE6 := Lib.hid e6
                clear e6
                go_enter Try.func79, Try.ntmps79
                go_wp2_with (first | (go_at_call 132; refine (SameLabels_impl a.labels b.labels _ _ _ _ _ _ _ (hlabels1.ext (by repeat (first | with_reducible exact ext_refl _ | with_reducible assumption | with_reducible refine ext_alloc ?_ _ | with_reducible refine ext_trans ?_ (by assumption)))) (hlabels2.ext (by repeat (first | with_reducible exact ext_refl _ | with_reducible assumption | with_reducible refine ext_alloc ?_ _ | with_reducible refine ext_trans ?_ (by assumption))))).mono ?_; rw [HE1.out]; rintro e w1 ⟨rfl, hb1⟩; obtain ⟨hc1, hf1⟩ := bcell hb1; have hz10 : w.heap.size < w1.heap.size := (by have := hb1.size; (try simp at this); omega); have hz11 : w.heap.size + 1 < w1.heap.size := (by have := hb1.size; (try simp at this); omega)) | (go_at_call 133; refine (SameNeeds_impl a.needs b.needs _ _ _ _ _ _ _ (hneeds1.ext (by repeat (first | with_reducible exact ext_refl _ | with_reducible assumption | with_reducible refine ext_alloc ?_ _ | with_reducible refine ext_trans ?_ (by assumption)))) (hneeds2.ext (by repeat (first | with_reducible exact ext_refl _ | with_reducible assumption | with_reducible refine ext_alloc ?_ _ | with_reducible refine ext_trans ?_ (by assumption)))) HVA.out HVB.out).mono ?_; rw [HE5.out]; rintro e w5 ⟨rfl, hb5⟩; obtain ⟨hc5, hf5⟩ := bcell hb5; have hz50 : w.heap.size < w5.heap.size := (by have := hb5.size; (try simp at this); omega); have hz51 : w.heap.size + 1 < w5.heap.size := (by have := hb5.size; (try simp at this); omega)) | (go_at_call 134; refine (EqualTolerance_any a.tolerances b.tolerances _ _ _ _ _ _ _ (htolerances1.ext (by repeat (first | with_reducible exact ext_refl _ | with_reducible assumption | with_reducible refine ext_alloc ?_ _ | with_reducible refine ext_trans ?_ (by assumption)))) (htolerances2.ext (by repeat (first | with_reducible exact ext_refl _ | with_reducible assumption | with_reducible refine ext_alloc ?_ _ | with_reducible refine ext_trans ?_ (by assumption))))).mono ?_; rw [HE6.out]; rintro e w6 ⟨rfl, hb6⟩; obtain ⟨hc6, hf6⟩ := bcell hb6; have hz60 : w.heap.size < w6.heap.size := (by have := hb6.size; (try simp at this); omega); have hz61 : w.heap.size + 1 < w6.heap.size := (by have := hb6.size; (try simp at this); omega)))
                go_ret
                exact ⟨by rw [HF.out]; rfl, (by repeat (first | with_reducible exact ext_refl _ | with_reducible assumption | with_reducible refine ext_alloc ?_ _ | with_reducible refine ext_trans ?_ (by assumption)))⟩
              | true =>
                have HF := Lib.hid (show eqPod a b = true by simp only [eqPod, e0, e1, e2, e3, e4, e5, e6, Bool.and_false, Bool.false_and, Bool.true_and, Bool.and_true])
                have n0 : (a.name.toList != b.name.toList) = false := by rw [bne, e0]; rfl
                have HE1 := Lib.hid e1
                clear e1
                have n2 : (a.cpu != b.cpu) = false := by rw [bne, e2]; rfl
                have n3 : (a.mem != b.mem) = false := by rw [bne, e3]; rfl
                have n4 : (a.rank != b.rank) = false := by rw [bne, e4]; rfl
                have HE5 := Lib.hid e5
                clear e5
                have HE6 := Lib.hid e6
                clear e6
                go_enter Try.func79, Try.ntmps79
                go_wp2_with (first | (go_at_call 132; refine (SameLabels_impl a.labels b.labels _ _ _ _ _ _ _ (hlabels1.ext (by repeat (first | with_reducible exact ext_refl _ | with_reducible assumption | with_reducible refine ext_alloc ?_ _ | with_reducible refine ext_trans ?_ (by assumption)))) (hlabels2.ext (by repeat (first | with_reducible exact ext_refl _ | with_reducible assumption | with_reducible refine ext_alloc ?_ _ | with_reducible refine ext_trans ?_ (by assumption))))).mono ?_; rw [HE1.out]; rintro e w1 ⟨rfl, hb1⟩; obtain ⟨hc1, hf1⟩ := bcell hb1; have hz10 : w.heap.size < w1.heap.size := (by have := hb1.size; (try simp at this); omega); have hz11 : w.heap.size + 1 < w1.heap.size := (by have := hb1.size; (try simp at this); omega)) | (go_at_call 133; refine (SameNeeds_impl a.needs b.needs _ _ _ _ _ _ _ (hneeds1.ext (by repeat (first | with_reducible exact ext_refl _ | with_reducible assumption | with_reducible refine ext_alloc ?_ _ | with_reducible refine ext_trans ?_ (by assumption)))) (hneeds2.ext (by repeat (first | with_reducible exact ext_refl _ | with_reducible assumption | with_reducible refine ext_alloc ?_ _ | with_reducible refine ext_trans ?_ (by assumption)))) HVA.out HVB.out).mono ?_; rw [HE5.out]; rintro e w5 ⟨rfl, hb5⟩; obtain ⟨hc5, hf5⟩ := bcell hb5; have hz50 : w.heap.size < w5.heap.size := (by have := hb5.size; (try simp at this); omega); have hz51 : w.heap.size + 1 < w5.heap.size := (by have := hb5.size; (try simp at this); omega)) | (go_at_call 134; refine (EqualTolerance_any a.tolerances b.tolerances _ _ _ _ _ _ _ (htolerances1.ext (by repeat (first | with_reducible exact ext_refl _ | with_reducible assumption | with_reducible refine ext_alloc ?_ _ | with_reducible refine ext_trans ?_ (by assumption)))) (htolerances2.ext (by repeat (first | with_reducible exact ext_refl _ | with_reducible assumption | with_reducible refine ext_alloc ?_ _ | with_reducible refine ext_trans ?_ (by assumption))))).mono ?_; rw [HE6.out]; rintro e w6 ⟨rfl, hb6⟩; obtain ⟨hc6, hf6⟩ := bcell hb6; have hz60 : w.heap.size < w6.heap.size := (by have := hb6.size; (try simp at this); omega); have hz61 : w.heap.size + 1 < w6.heap.size := (by have := hb6.size; (try simp at this); omega)))
                go_ret
                exact ⟨by rw [HF.out]; rfl, (by repeat (first | with_reducible exact ext_refl _ | with_reducible assumption | with_reducible refine ext_alloc ?_ _ | with_reducible refine ext_trans ?_ (by assumption)))⟩

end Go.Proofs.Ytaljcihfkblncaa
