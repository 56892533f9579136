/- SameCluster, of the program. No condition. -/
import Derived.Test.YtaljcihfkblncaaSameE
namespace Go.Proofs.Ytaljcihfkblncaa
open Go.ChangeShapes Go.WideShapes Go.ChangeAt Go.RowKit
set_option linter.unusedVariables false
set_option linter.unusedSimpArgs false
set_option maxRecDepth 100000 in
set_option maxHeartbeats 4000000 in
theorem SameCluster_impl (a b : Cluster) (cs ds : List Value) (F G : List Nat) (w : World) (h : rd w a cs F) (h' : rd w b ds G) (hwa : (a.wt : Int) ≤ 1048576) (hwb : (b.wt : Int) ≤ 1048576) :
    Calls Try.prog 30 #[.agg cs.toArray, .agg ds.toArray] w fun e w' => e = .returned (.bool (eqCluster a b)) ∧ Below w.heap.size w w' := by
  have HXH := Lib.hid (show ∀ l ∈ a.hosts, (Host.wt l : Int) ≤ 1048576 by intro l hl; have := wtL_mem (f := Host.wt) hl; have e : a.wt = wtL Host.wt a.hosts + wtL Placed.wt a.pods := rfl; omega)
  have HYH := Lib.hid (show ∀ l ∈ b.hosts, (Host.wt l : Int) ≤ 1048576 by intro l hl; have := wtL_mem (f := Host.wt) hl; have e : b.wt = wtL Host.wt b.hosts + wtL Placed.wt b.pods := rfl; omega)
  have HXP := Lib.hid (show ∀ l ∈ a.pods, (Placed.wt l : Int) ≤ 1048576 by intro l hl; have := wtL_mem (f := Placed.wt) hl; have e : a.wt = wtL Host.wt a.hosts + wtL Placed.wt a.pods := rfl; omega)
  have HYP := Lib.hid (show ∀ l ∈ b.pods, (Placed.wt l : Int) ≤ 1048576 by intro l hl; have := wtL_mem (f := Placed.wt) hl; have e : b.wt = wtL Host.wt b.hosts + wtL Placed.wt b.pods := rfl; omega)
  obtain ⟨Ahosts1, chosts1, Fhosts1, Apods1, cpods1, Fpods1, hck, rfl, hhosts1, hpods1, hnext1, hweightspack1, hweightsspread1, hweightssoft1⟩ := rd_Cluster h
  subst hck
  obtain ⟨Ahosts2, chosts2, Fhosts2, Apods2, cpods2, Fpods2, hck, rfl, hhosts2, hpods2, hnext2, hweightspack2, hweightsspread2, hweightssoft2⟩ := rd_Cluster h'
  subst hck
  clear hwa hwb
  cases e0 : same eqHost a.hosts b.hosts with
  | false =>
    have HF := Lib.hid (show eqCluster a b = false by simp only [eqCluster, e0, Bool.and_false, Bool.false_and, Bool.true_and, Bool.and_true])
    have HE0 := Lib.hid e0
    clear e0
    go_enter Try.func30, Try.ntmps30
    go_wp2_with (first | (go_at_call 80; refine (EqualFuncHost_any a.hosts b.hosts _ _ _ _ _ _ _ (hhosts1.ext (by repeat (first | with_reducible exact ext_refl _ | with_reducible assumption | with_reducible refine ext_alloc ?_ _ | with_reducible refine ext_trans ?_ (by assumption)))) (hhosts2.ext (by repeat (first | with_reducible exact ext_refl _ | with_reducible assumption | with_reducible refine ext_alloc ?_ _ | with_reducible refine ext_trans ?_ (by assumption)))) HXH.out HYH.out).mono ?_; rw [HE0.out]; rintro e w0 ⟨rfl, hb0⟩; obtain ⟨hc0, hf0⟩ := bcell hb0; have hz00 : w.heap.size < w0.heap.size := (by have := hb0.size; (try simp at this); omega); have hz01 : w.heap.size + 1 < w0.heap.size := (by have := hb0.size; (try simp at this); omega)))
    all_goals go_ret
    all_goals refine ⟨?_, (by repeat (first | with_reducible exact ext_refl _ | with_reducible assumption | with_reducible refine ext_alloc ?_ _ | with_reducible refine ext_trans ?_ (by assumption)))⟩
    all_goals rw [HF.out]
    all_goals rfl
  | true =>
    cases e1 : same eqPlaced a.pods b.pods with
    | false =>
      have HF := Lib.hid (show eqCluster a b = false by simp only [eqCluster, e0, e1, Bool.and_false, Bool.false_and, Bool.true_and, Bool.and_true])
      have HE0 := Lib.hid e0
      clear e0
      have HE1 := Lib.hid e1
      clear e1
      go_enter Try.func30, Try.ntmps30
      go_wp2_with (first | (go_at_call 80; refine (EqualFuncHost_any a.hosts b.hosts _ _ _ _ _ _ _ (hhosts1.ext (by repeat (first | with_reducible exact ext_refl _ | with_reducible assumption | with_reducible refine ext_alloc ?_ _ | with_reducible refine ext_trans ?_ (by assumption)))) (hhosts2.ext (by repeat (first | with_reducible exact ext_refl _ | with_reducible assumption | with_reducible refine ext_alloc ?_ _ | with_reducible refine ext_trans ?_ (by assumption)))) HXH.out HYH.out).mono ?_; rw [HE0.out]; rintro e w0 ⟨rfl, hb0⟩; obtain ⟨hc0, hf0⟩ := bcell hb0; have hz00 : w.heap.size < w0.heap.size := (by have := hb0.size; (try simp at this); omega); have hz01 : w.heap.size + 1 < w0.heap.size := (by have := hb0.size; (try simp at this); omega)) | (go_at_call 82; refine (EqualFuncPlaced_any a.pods b.pods _ _ _ _ _ _ _ (hpods1.ext (by repeat (first | with_reducible exact ext_refl _ | with_reducible assumption | with_reducible refine ext_alloc ?_ _ | with_reducible refine ext_trans ?_ (by assumption)))) (hpods2.ext (by repeat (first | with_reducible exact ext_refl _ | with_reducible assumption | with_reducible refine ext_alloc ?_ _ | with_reducible refine ext_trans ?_ (by assumption)))) HXP.out HYP.out).mono ?_; rw [HE1.out]; rintro e w1 ⟨rfl, hb1⟩; obtain ⟨hc1, hf1⟩ := bcell hb1; have hz10 : w.heap.size < w1.heap.size := (by have := hb1.size; (try simp at this); omega); have hz11 : w.heap.size + 1 < w1.heap.size := (by have := hb1.size; (try simp at this); omega)))
      all_goals go_ret
      all_goals refine ⟨?_, (by repeat (first | with_reducible exact ext_refl _ | with_reducible assumption | with_reducible refine ext_alloc ?_ _ | with_reducible refine ext_trans ?_ (by assumption)))⟩
      all_goals rw [HF.out]
      all_goals rfl
    | true =>
      cases e2 : (a.next == b.next) with
      | false =>
        have HF := Lib.hid (show eqCluster a b = false by simp only [eqCluster, e0, e1, e2, Bool.and_false, Bool.false_and, Bool.true_and, Bool.and_true])
        have n2 : (a.next != b.next) = true := by rw [bne, e2]; rfl
        have HE0 := Lib.hid e0
        clear e0
        have HE1 := Lib.hid e1
        clear e1
        go_enter Try.func30, Try.ntmps30
        go_wp2_with (first | (go_at_call 80; refine (EqualFuncHost_any a.hosts b.hosts _ _ _ _ _ _ _ (hhosts1.ext (by repeat (first | with_reducible exact ext_refl _ | with_reducible assumption | with_reducible refine ext_alloc ?_ _ | with_reducible refine ext_trans ?_ (by assumption)))) (hhosts2.ext (by repeat (first | with_reducible exact ext_refl _ | with_reducible assumption | with_reducible refine ext_alloc ?_ _ | with_reducible refine ext_trans ?_ (by assumption)))) HXH.out HYH.out).mono ?_; rw [HE0.out]; rintro e w0 ⟨rfl, hb0⟩; obtain ⟨hc0, hf0⟩ := bcell hb0; have hz00 : w.heap.size < w0.heap.size := (by have := hb0.size; (try simp at this); omega); have hz01 : w.heap.size + 1 < w0.heap.size := (by have := hb0.size; (try simp at this); omega)) | (go_at_call 82; refine (EqualFuncPlaced_any a.pods b.pods _ _ _ _ _ _ _ (hpods1.ext (by repeat (first | with_reducible exact ext_refl _ | with_reducible assumption | with_reducible refine ext_alloc ?_ _ | with_reducible refine ext_trans ?_ (by assumption)))) (hpods2.ext (by repeat (first | with_reducible exact ext_refl _ | with_reducible assumption | with_reducible refine ext_alloc ?_ _ | with_reducible refine ext_trans ?_ (by assumption)))) HXP.out HYP.out).mono ?_; rw [HE1.out]; rintro e w1 ⟨rfl, hb1⟩; obtain ⟨hc1, hf1⟩ := bcell hb1; have hz10 : w.heap.size < w1.heap.size := (by have := hb1.size; (try simp at this); omega); have hz11 : w.heap.size + 1 < w1.heap.size := (by have := hb1.size; (try simp at this); omega)))
        all_goals go_ret
        all_goals refine ⟨?_, (by repeat (first | with_reducible exact ext_refl _ | with_reducible assumption | with_reducible refine ext_alloc ?_ _ | with_reducible refine ext_trans ?_ (by assumption)))⟩
        all_goals rw [HF.out]
        all_goals rfl
      | true =>
        cases e3 : eqWeights a.weights b.weights with
        | false =>
          have HF := Lib.hid (show eqCluster a b = false by simp only [eqCluster, e0, e1, e2, e3, Bool.and_false, Bool.false_and, Bool.true_and, Bool.and_true])
          have n2 : (a.next != b.next) = false := by rw [bne, e2]; rfl
          have HE0 := Lib.hid e0
          clear e0
          have HE1 := Lib.hid e1
          clear e1
          have HE3 := Lib.hid e3
          clear e3
          go_enter Try.func30, Try.ntmps30
          go_wp2_with (first | (go_at_call 80; refine (EqualFuncHost_any a.hosts b.hosts _ _ _ _ _ _ _ (hhosts1.ext (by repeat (first | with_reducible exact ext_refl _ | with_reducible assumption | with_reducible refine ext_alloc ?_ _ | with_reducible refine ext_trans ?_ (by assumption)))) (hhosts2.ext (by repeat (first | with_reducible exact ext_refl _ | with_reducible assumption | with_reducible refine ext_alloc ?_ _ | with_reducible refine ext_trans ?_ (by assumption)))) HXH.out HYH.out).mono ?_; rw [HE0.out]; rintro e w0 ⟨rfl, hb0⟩; obtain ⟨hc0, hf0⟩ := bcell hb0; have hz00 : w.heap.size < w0.heap.size := (by have := hb0.size; (try simp at this); omega); have hz01 : w.heap.size + 1 < w0.heap.size := (by have := hb0.size; (try simp at this); omega)) | (go_at_call 82; refine (EqualFuncPlaced_any a.pods b.pods _ _ _ _ _ _ _ (hpods1.ext (by repeat (first | with_reducible exact ext_refl _ | with_reducible assumption | with_reducible refine ext_alloc ?_ _ | with_reducible refine ext_trans ?_ (by assumption)))) (hpods2.ext (by repeat (first | with_reducible exact ext_refl _ | with_reducible assumption | with_reducible refine ext_alloc ?_ _ | with_reducible refine ext_trans ?_ (by assumption)))) HXP.out HYP.out).mono ?_; rw [HE1.out]; rintro e w1 ⟨rfl, hb1⟩; obtain ⟨hc1, hf1⟩ := bcell hb1; have hz10 : w.heap.size < w1.heap.size := (by have := hb1.size; (try simp at this); omega); have hz11 : w.heap.size + 1 < w1.heap.size := (by have := hb1.size; (try simp at this); omega)))
          all_goals go_ret
          all_goals refine ⟨?_, (by repeat (first | with_reducible exact ext_refl _ | with_reducible assumption | with_reducible refine ext_alloc ?_ _ | with_reducible refine ext_trans ?_ (by assumption)))⟩
          all_goals rw [HF.out]
          all_goals first | rfl | (exfalso; have hx := HE3.out; simp [eqWeights, *] at hx; done)
        | true =>
          have HF := Lib.hid (show eqCluster a b = true by simp only [eqCluster, e0, e1, e2, e3, Bool.and_false, Bool.false_and, Bool.true_and, Bool.and_true])
          have n2 : (a.next != b.next) = false := by rw [bne, e2]; rfl
          have HE0 := Lib.hid e0
          clear e0
          have HE1 := Lib.hid e1
          clear e1
          have HE3 := Lib.hid e3
          clear e3
          obtain ⟨⟨g1, g2⟩, g3⟩ : (a.weights.pack = b.weights.pack ∧ a.weights.spread = b.weights.spread) ∧ a.weights.soft = b.weights.soft := by have := HE3.out; simpa [eqWeights] using this
          go_enter Try.func30, Try.ntmps30
          go_wp2_with (first | (go_at_call 80; refine (EqualFuncHost_any a.hosts b.hosts _ _ _ _ _ _ _ (hhosts1.ext (by repeat (first | with_reducible exact ext_refl _ | with_reducible assumption | with_reducible refine ext_alloc ?_ _ | with_reducible refine ext_trans ?_ (by assumption)))) (hhosts2.ext (by repeat (first | with_reducible exact ext_refl _ | with_reducible assumption | with_reducible refine ext_alloc ?_ _ | with_reducible refine ext_trans ?_ (by assumption)))) HXH.out HYH.out).mono ?_; rw [HE0.out]; rintro e w0 ⟨rfl, hb0⟩; obtain ⟨hc0, hf0⟩ := bcell hb0; have hz00 : w.heap.size < w0.heap.size := (by have := hb0.size; (try simp at this); omega); have hz01 : w.heap.size + 1 < w0.heap.size := (by have := hb0.size; (try simp at this); omega)) | (go_at_call 82; refine (EqualFuncPlaced_any a.pods b.pods _ _ _ _ _ _ _ (hpods1.ext (by repeat (first | with_reducible exact ext_refl _ | with_reducible assumption | with_reducible refine ext_alloc ?_ _ | with_reducible refine ext_trans ?_ (by assumption)))) (hpods2.ext (by repeat (first | with_reducible exact ext_refl _ | with_reducible assumption | with_reducible refine ext_alloc ?_ _ | with_reducible refine ext_trans ?_ (by assumption)))) HXP.out HYP.out).mono ?_; rw [HE1.out]; rintro e w1 ⟨rfl, hb1⟩; obtain ⟨hc1, hf1⟩ := bcell hb1; have hz10 : w.heap.size < w1.heap.size := (by have := hb1.size; (try simp at this); omega); have hz11 : w.heap.size + 1 < w1.heap.size := (by have := hb1.size; (try simp at this); omega)))
          all_goals go_ret
          all_goals refine ⟨?_, (by repeat (first | with_reducible exact ext_refl _ | with_reducible assumption | with_reducible refine ext_alloc ?_ _ | with_reducible refine ext_trans ?_ (by assumption)))⟩
          all_goals rw [HF.out]
          all_goals first | rfl | (exfalso; have hx := HE3.out; simp [eqWeights, *] at hx; done)

end Go.Proofs.Ytaljcihfkblncaa
