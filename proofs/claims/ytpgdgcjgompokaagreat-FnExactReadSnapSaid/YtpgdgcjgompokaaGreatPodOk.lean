/- PodOk, of the program and of the reference. No condition. -/
import Derived.Test.YtpgdgcjgompokaaGreatSmalls
import Derived.Test.YtpgdgcjgompokaaGreatNames
import Derived.Test.YtpgdgcjgompokaaGreatLabOk
import Derived.Test.YtpgdgcjgompokaaGreatSelOk
import Derived.Test.YtpgdgcjgompokaaGreatTolsOk
namespace Go.Proofs.YtpgdgcjgompokaaGreat
open Go.ChangeShapes Go.WideShapes Go.ChangeAt Go.RowKit
set_option linter.unusedVariables false
set_option linter.unusedSimpArgs false

def podR (x : Pod) : Bool := nameR x.name && labelsR x.labels && selR x.needs && tolsR x.tolerances && (decide (0 ≤ x.cpu) && decide (0 ≤ x.mem)) && (decide (0 ≤ x.rank) && decide (x.rank ≤ 1000))
set_option maxRecDepth 100000 in
set_option maxHeartbeats 2000000 in
theorem PodOk_impl (x : Pod) (cs : List Value) (F : List Nat) (w : World) (h : rd w x cs F) (hw : (x.wt : Int) ≤ 1048576) :
    Calls Tryz.prog 43 #[.agg cs.toArray] w fun e w' => e = .returned (.bool (podR x)) ∧ Below w.heap.size w w' := by
  have hwx : x.wt = x.name.size + wtL Label.wt x.labels + wtL Need.wt x.needs + wtL Tolerance.wt x.tolerances := rfl
  obtain ⟨hll, hls⟩ := labels_small (xs := x.labels) (by omega)
  obtain ⟨hnl, hnds⟩ := needs_small (xs := x.needs) (by omega)
  obtain ⟨htl, hts⟩ := tols_small (xs := x.tolerances) (by omega)
  have hns : (x.name.size : Int) ≤ 1048576 := by omega
  have HLS := Lib.hid hls
  have HNS := Lib.hid hnds
  have HTS := Lib.hid hts
  clear hls hts hnds
  have hr := h
  obtain ⟨Alabels, clabels, Flabels, Aneeds, cneeds, Fneeds, Atolerances, ctolerances, Ftolerances, hck, hF, hname, hlabels, hcpu, hmem, hrank, hneeds, htolerances⟩ := rd_Pod hr
  subst hck
  clear hr hF
  go_enter Tryz.func43, Tryz.ntmps43
  go_wp2_with (first
    | (go_at_call 68; refine (NameOk_impl x.name _ hns).mono ?_; rintro e w2 ⟨rfl, hb2⟩; obtain ⟨hc2, hf2⟩ := bcell hb2; have hz2 : w.heap.size < w2.heap.size := (by have := hb2.size; (try simp at this); omega))
    | (go_at_call 67; refine (LabelsOk_impl x.labels _ _ _ _ _ (hlabels.ext (by repeat (first | with_reducible exact ext_refl _ | with_reducible assumption | with_reducible refine ext_alloc ?_ _ | with_reducible refine ext_trans ?_ (by assumption)))) rfl hll HLS.out).mono ?_; rintro e w3 ⟨rfl, hb3⟩; obtain ⟨hc3, hf3⟩ := bcell hb3; have hz3 : w.heap.size < w3.heap.size := (by have := hb3.size; (try simp at this); omega))
    | (go_at_call 70; refine (SelectorOk_impl x.needs _ _ _ _ _ (hneeds.ext (by repeat (first | with_reducible exact ext_refl _ | with_reducible assumption | with_reducible refine ext_alloc ?_ _ | with_reducible refine ext_trans ?_ (by assumption)))) rfl hnl HNS.out).mono ?_; rintro e w4 ⟨rfl, hb4⟩; obtain ⟨hc4, hf4⟩ := bcell hb4; have hz4 : w.heap.size < w4.heap.size := (by have := hb4.size; (try simp at this); omega))
    | (go_at_call 71; refine (TolerancesOk_impl x.tolerances _ _ _ _ _ (htolerances.ext (by repeat (first | with_reducible exact ext_refl _ | with_reducible assumption | with_reducible refine ext_alloc ?_ _ | with_reducible refine ext_trans ?_ (by assumption)))) rfl htl HTS.out).mono ?_; rintro e w5 ⟨rfl, hb5⟩; obtain ⟨hc5, hf5⟩ := bcell hb5; have hz5 : w.heap.size < w5.heap.size := (by have := hb5.size; (try simp at this); omega))
    | go_in)
  all_goals first
    | (go_ret; refine ⟨?_, (by repeat (first | with_reducible exact ext_refl _ | with_reducible assumption | with_reducible refine ext_alloc ?_ _ | with_reducible refine ext_trans ?_ (by assumption)))⟩; refine congrArg (fun b => Ending.returned (Value.bool b)) ?_; show (_ : Bool) = _; (try clear hc2 hf2); (try clear hc3 hf3); (try clear hc4 hf4); (try clear hc5 hf5); unfold podR; first | (simp [*]; done) | (simp [*]; omega) | (simp_all; done) | (simp_all; omega))
    | skip
set_option maxRecDepth 100000 in
set_option maxHeartbeats 2000000 in
theorem PodOk_spec (x : Pod) (cs : List Value) (F : List Nat) (w : World) (h : rd w x cs F) (hw : (x.wt : Int) ≤ 1048576) :
    Calls Tryz.prog 33 #[.agg cs.toArray] w fun e w' => e = .returned (.bool (podR x)) ∧ Below w.heap.size w w' := by
  have hwx : x.wt = x.name.size + wtL Label.wt x.labels + wtL Need.wt x.needs + wtL Tolerance.wt x.tolerances := rfl
  obtain ⟨hll, hls⟩ := labels_small (xs := x.labels) (by omega)
  obtain ⟨hnl, hnds⟩ := needs_small (xs := x.needs) (by omega)
  obtain ⟨htl, hts⟩ := tols_small (xs := x.tolerances) (by omega)
  have hns : (x.name.size : Int) ≤ 1048576 := by omega
  have HLS := Lib.hid hls
  have HNS := Lib.hid hnds
  have HTS := Lib.hid hts
  clear hls hts hnds
  have hr := h
  obtain ⟨Alabels, clabels, Flabels, Aneeds, cneeds, Fneeds, Atolerances, ctolerances, Ftolerances, hck, hF, hname, hlabels, hcpu, hmem, hrank, hneeds, htolerances⟩ := rd_Pod hr
  subst hck
  clear hr hF
  go_enter Tryz.func33, Tryz.ntmps33
  go_wp2_with (first
    | (go_at_call 60; refine (NameOk_spec x.name _ hns).mono ?_; rintro e w2 ⟨rfl, hb2⟩; obtain ⟨hc2, hf2⟩ := bcell hb2; have hz2 : w.heap.size < w2.heap.size := (by have := hb2.size; (try simp at this); omega))
    | (go_at_call 61; refine (LabelsOk_spec x.labels _ _ _ _ _ (hlabels.ext (by repeat (first | with_reducible exact ext_refl _ | with_reducible assumption | with_reducible refine ext_alloc ?_ _ | with_reducible refine ext_trans ?_ (by assumption)))) rfl hll HLS.out).mono ?_; rintro e w3 ⟨rfl, hb3⟩; obtain ⟨hc3, hf3⟩ := bcell hb3; have hz3 : w.heap.size < w3.heap.size := (by have := hb3.size; (try simp at this); omega))
    | (go_at_call 62; refine (SelectorOk_spec x.needs _ _ _ _ _ (hneeds.ext (by repeat (first | with_reducible exact ext_refl _ | with_reducible assumption | with_reducible refine ext_alloc ?_ _ | with_reducible refine ext_trans ?_ (by assumption)))) rfl hnl HNS.out).mono ?_; rintro e w4 ⟨rfl, hb4⟩; obtain ⟨hc4, hf4⟩ := bcell hb4; have hz4 : w.heap.size < w4.heap.size := (by have := hb4.size; (try simp at this); omega))
    | (go_at_call 63; refine (TolerancesOk_spec x.tolerances _ _ _ _ _ (htolerances.ext (by repeat (first | with_reducible exact ext_refl _ | with_reducible assumption | with_reducible refine ext_alloc ?_ _ | with_reducible refine ext_trans ?_ (by assumption)))) rfl htl HTS.out).mono ?_; rintro e w5 ⟨rfl, hb5⟩; obtain ⟨hc5, hf5⟩ := bcell hb5; have hz5 : w.heap.size < w5.heap.size := (by have := hb5.size; (try simp at this); omega))
    | go_in)
  all_goals first
    | (go_ret; refine ⟨?_, (by repeat (first | with_reducible exact ext_refl _ | with_reducible assumption | with_reducible refine ext_alloc ?_ _ | with_reducible refine ext_trans ?_ (by assumption)))⟩; refine congrArg (fun b => Ending.returned (Value.bool b)) ?_; show (_ : Bool) = _; (try clear hc2 hf2); (try clear hc3 hf3); (try clear hc4 hf4); (try clear hc5 hf5); unfold podR; first | (simp [*]; done) | (simp [*]; omega) | (simp_all; done) | (simp_all; omega))
    | skip

end Go.Proofs.YtpgdgcjgompokaaGreat
