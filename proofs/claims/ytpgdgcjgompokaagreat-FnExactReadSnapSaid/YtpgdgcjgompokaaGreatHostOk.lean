/- HostOk, of the program and of the reference. No condition. -/
import Derived.Test.YtpgdgcjgompokaaGreatSmalls
import Derived.Test.YtpgdgcjgompokaaGreatNames
import Derived.Test.YtpgdgcjgompokaaGreatLabOk
import Derived.Test.YtpgdgcjgompokaaGreatTaintsOk
namespace Go.Proofs.YtpgdgcjgompokaaGreat
open Go.ChangeShapes Go.WideShapes Go.ChangeAt Go.RowKit
set_option linter.unusedVariables false
set_option linter.unusedSimpArgs false

def hostR (x : Host) : Bool := nameR x.name && labelsR x.labels && taintsR x.taints && (decide (0 ≤ x.cpu) && decide (0 ≤ x.mem)) && (decide (1 ≤ x.slots) && decide (x.slots ≤ 20))
set_option maxRecDepth 100000 in
set_option maxHeartbeats 2000000 in
theorem HostOk_impl (x : Host) (cs : List Value) (F : List Nat) (w : World) (h : rd w x cs F) (hw : (x.wt : Int) ≤ 1048576) :
    Calls Tryz.prog 42 #[.agg cs.toArray] w fun e w' => e = .returned (.bool (hostR x)) ∧ Below w.heap.size w w' := by
  have hwx : x.wt = x.name.size + wtL Label.wt x.labels + wtL Taint.wt x.taints := rfl
  obtain ⟨hll, hls⟩ := labels_small (xs := x.labels) (by omega)
  obtain ⟨htl, hts⟩ := taints_small (xs := x.taints) (by omega)
  have hns : (x.name.size : Int) ≤ 1048576 := by omega
  have HLS := Lib.hid hls
  have HTS := Lib.hid hts
  clear hls hts
  have hr := h
  obtain ⟨Alabels, clabels, Flabels, Ataints, ctaints, Ftaints, hck, hF, hname, hlabels, hcpu, hmem, hslots, htaints⟩ := rd_Host hr
  subst hck
  clear hr hF
  go_enter Tryz.func42, Tryz.ntmps42
  go_wp2_with (first
    | (go_at_call 68; refine (NameOk_impl x.name _ hns).mono ?_; rintro e w2 ⟨rfl, hb2⟩; obtain ⟨hc2, hf2⟩ := bcell hb2; have hz2 : w.heap.size < w2.heap.size := (by have := hb2.size; (try simp at this); omega))
    | (go_at_call 67; refine (LabelsOk_impl x.labels _ _ _ _ _ (hlabels.ext (by repeat (first | with_reducible exact ext_refl _ | with_reducible assumption | with_reducible refine ext_alloc ?_ _ | with_reducible refine ext_trans ?_ (by assumption)))) rfl hll HLS.out).mono ?_; rintro e w3 ⟨rfl, hb3⟩; obtain ⟨hc3, hf3⟩ := bcell hb3; have hz3 : w.heap.size < w3.heap.size := (by have := hb3.size; (try simp at this); omega))
    | (go_at_call 69; refine (TaintsOk_impl x.taints _ _ _ _ _ (htaints.ext (by repeat (first | with_reducible exact ext_refl _ | with_reducible assumption | with_reducible refine ext_alloc ?_ _ | with_reducible refine ext_trans ?_ (by assumption)))) rfl htl HTS.out).mono ?_; rintro e w4 ⟨rfl, hb4⟩; obtain ⟨hc4, hf4⟩ := bcell hb4; have hz4 : w.heap.size < w4.heap.size := (by have := hb4.size; (try simp at this); omega))
    | go_in)
  all_goals first
    | (go_ret; refine ⟨?_, (by repeat (first | with_reducible exact ext_refl _ | with_reducible assumption | with_reducible refine ext_alloc ?_ _ | with_reducible refine ext_trans ?_ (by assumption)))⟩; refine congrArg (fun b => Ending.returned (Value.bool b)) ?_; show (_ : Bool) = _; (try clear hc2 hf2); (try clear hc3 hf3); (try clear hc4 hf4); unfold hostR; first | (simp [*]; done) | (simp [*]; omega) | (simp_all; done) | (simp_all; omega))
    | skip
set_option maxRecDepth 100000 in
set_option maxHeartbeats 2000000 in
theorem HostOk_spec (x : Host) (cs : List Value) (F : List Nat) (w : World) (h : rd w x cs F) (hw : (x.wt : Int) ≤ 1048576) :
    Calls Tryz.prog 35 #[.agg cs.toArray] w fun e w' => e = .returned (.bool (hostR x)) ∧ Below w.heap.size w w' := by
  have hwx : x.wt = x.name.size + wtL Label.wt x.labels + wtL Taint.wt x.taints := rfl
  obtain ⟨hll, hls⟩ := labels_small (xs := x.labels) (by omega)
  obtain ⟨htl, hts⟩ := taints_small (xs := x.taints) (by omega)
  have hns : (x.name.size : Int) ≤ 1048576 := by omega
  have HLS := Lib.hid hls
  have HTS := Lib.hid hts
  clear hls hts
  have hr := h
  obtain ⟨Alabels, clabels, Flabels, Ataints, ctaints, Ftaints, hck, hF, hname, hlabels, hcpu, hmem, hslots, htaints⟩ := rd_Host hr
  subst hck
  clear hr hF
  go_enter Tryz.func35, Tryz.ntmps35
  go_wp2_with (first
    | (go_at_call 60; refine (NameOk_spec x.name _ hns).mono ?_; rintro e w2 ⟨rfl, hb2⟩; obtain ⟨hc2, hf2⟩ := bcell hb2; have hz2 : w.heap.size < w2.heap.size := (by have := hb2.size; (try simp at this); omega))
    | (go_at_call 61; refine (LabelsOk_spec x.labels _ _ _ _ _ (hlabels.ext (by repeat (first | with_reducible exact ext_refl _ | with_reducible assumption | with_reducible refine ext_alloc ?_ _ | with_reducible refine ext_trans ?_ (by assumption)))) rfl hll HLS.out).mono ?_; rintro e w3 ⟨rfl, hb3⟩; obtain ⟨hc3, hf3⟩ := bcell hb3; have hz3 : w.heap.size < w3.heap.size := (by have := hb3.size; (try simp at this); omega))
    | (go_at_call 64; refine (TaintsOk_spec x.taints _ _ _ _ _ (htaints.ext (by repeat (first | with_reducible exact ext_refl _ | with_reducible assumption | with_reducible refine ext_alloc ?_ _ | with_reducible refine ext_trans ?_ (by assumption)))) rfl htl HTS.out).mono ?_; rintro e w4 ⟨rfl, hb4⟩; obtain ⟨hc4, hf4⟩ := bcell hb4; have hz4 : w.heap.size < w4.heap.size := (by have := hb4.size; (try simp at this); omega))
    | go_in)
  all_goals first
    | (go_ret; refine ⟨?_, (by repeat (first | with_reducible exact ext_refl _ | with_reducible assumption | with_reducible refine ext_alloc ?_ _ | with_reducible refine ext_trans ?_ (by assumption)))⟩; refine congrArg (fun b => Ending.returned (Value.bool b)) ?_; show (_ : Bool) = _; (try clear hc2 hf2); (try clear hc3 hf3); (try clear hc4 hf4); unfold hostR; first | (simp [*]; done) | (simp [*]; omega) | (simp_all; done) | (simp_all; omega))
    | skip

end Go.Proofs.YtpgdgcjgompokaaGreat
