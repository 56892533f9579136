/- TaintOk, of the program and of the reference. No condition. -/
import Derived.Test.YtjoclfenghenjaaGreatWords0
import Derived.Test.YtjoclfenghenjaaGreatBase0
import Derived.Test.YtjoclfenghenjaaGreatRows2
namespace Go.Proofs.YtjoclfenghenjaaGreat
open Go.ChangeShapes Go.WideShapes Go.ChangeAt Go.RowKit
set_option linter.unusedVariables false
set_option linter.unusedSimpArgs false

theorem valR_empty {s : ByteArray} (h : (s.toList == []) = true) : valR s = true := by
  have h1 : s.toList = [] := by simpa using h
  have h2 : s.size = 0 := by
    have h3 : s.data.toList.length = 0 := by rw [← ByteArray.toList_eq, h1]; rfl
    rw [Array.length_toList] at h3
    exact h3
  unfold valR
  simp [h2]
theorem keyR_empty {s : ByteArray} (h : (s.toList == []) = true) : keyR s = false := by
  have h1 : s.toList = [] := by simpa using h
  have h2 : s.size = 0 := by
    have h3 : s.data.toList.length = 0 := by rw [← ByteArray.toList_eq, h1]; rfl
    rw [Array.length_toList] at h3
    exact h3
  unfold keyR
  rw [wordR_empty (by omega)]
  simp
theorem isEmpty_beq (l : List UInt8) : l.isEmpty = (l == []) := by cases l <;> rfl
def taintR (x : Taint) : Bool := keyR x.key && valR x.value && (decide (1 ≤ x.effect) && decide (x.effect ≤ 2))
set_option maxRecDepth 100000 in
set_option maxHeartbeats 1000000 in
theorem TaintOk_impl (x : Taint) (cs : List Value) (F : List Nat) (w : World) (h : rd w x cs F) (hks : (x.key.size : Int) ≤ 1048576) (hvs : (x.value.size : Int) ≤ 1048576) :
    Calls Tryz.prog 175 #[.agg cs.toArray] w fun e w' => e = .returned (.bool (taintR x)) ∧ Below w.heap.size w w' := by
  obtain ⟨hck, hF0, hkey, hvalue, heffect⟩ := rd_Taint h
  subst hck
  clear hF0 h
  have hve := Lib.hid (valR_empty (s := x.value))
  have hke := Lib.hid (keyR_empty (s := x.key))
  go_enter Tryz.func175, Tryz.ntmps175
  go_wp2_with (first
    | (go_at_call 173; refine (LabelKeyOk_impl x.key _ hks).mono ?_; rintro e w2 ⟨rfl, hb2⟩; obtain ⟨hc2, hf2⟩ := bcell hb2; have hz2 : w.heap.size < w2.heap.size := (by have := hb2.size; (try simp at this); omega))
    | (go_at_call 174; refine (LabelValueOk_impl x.value _ hvs).mono ?_; rintro e w3 ⟨rfl, hb3⟩; obtain ⟨hc3, hf3⟩ := bcell hb3; have hz3 : w.heap.size < w3.heap.size := (by have := hb3.size; (try simp at this); omega))
    | go_in)
  all_goals first
    | (go_ret; refine ⟨?_, (by repeat (first | with_reducible exact ext_refl _ | with_reducible assumption | with_reducible refine ext_alloc ?_ _ | with_reducible refine ext_trans ?_ (by assumption)))⟩; refine congrArg (fun b => Ending.returned (Value.bool b)) ?_; show (_ : Bool) = _; (try clear hc2 hf2); (try clear hc3 hf3); unfold taintR; (try simp only [isEmpty_beq]); first | (simp [*]; done) | (simp [*]; omega) | (have hve1 := hve.out; have hke1 := hke.out; clear hve hke; (try clear hb2); (try clear hb3); simp at hve1 hke1; simp_all; done) | (have hve1 := hve.out; have hke1 := hke.out; clear hve hke; (try clear hb2); (try clear hb3); simp at hve1 hke1; simp_all; omega) | (have hve1 := hve.out; have hke1 := hke.out; clear hve hke; (try clear hb2); (try clear hb3); simp at hve1 hke1; simp_all; exact Bool.or_comm _ _))
    | skip
set_option maxRecDepth 100000 in
set_option maxHeartbeats 1000000 in
theorem TaintOk_spec (x : Taint) (cs : List Value) (F : List Nat) (w : World) (h : rd w x cs F) (hks : (x.key.size : Int) ≤ 1048576) (hvs : (x.value.size : Int) ≤ 1048576) :
    Calls Tryz.prog 164 #[.agg cs.toArray] w fun e w' => e = .returned (.bool (taintR x)) ∧ Below w.heap.size w w' := by
  obtain ⟨hck, hF0, hkey, hvalue, heffect⟩ := rd_Taint h
  subst hck
  clear hF0 h
  have hve := Lib.hid (valR_empty (s := x.value))
  have hke := Lib.hid (keyR_empty (s := x.key))
  go_enter Tryz.func164, Tryz.ntmps164
  go_wp2_with (first
    | (go_at_call 158; refine (LabelKeyOk_spec x.key _ hks).mono ?_; rintro e w2 ⟨rfl, hb2⟩; obtain ⟨hc2, hf2⟩ := bcell hb2; have hz2 : w.heap.size < w2.heap.size := (by have := hb2.size; (try simp at this); omega))
    | (go_at_call 159; refine (LabelValueOk_spec x.value _ hvs).mono ?_; rintro e w3 ⟨rfl, hb3⟩; obtain ⟨hc3, hf3⟩ := bcell hb3; have hz3 : w.heap.size < w3.heap.size := (by have := hb3.size; (try simp at this); omega))
    | go_in)
  all_goals first
    | (go_ret; refine ⟨?_, (by repeat (first | with_reducible exact ext_refl _ | with_reducible assumption | with_reducible refine ext_alloc ?_ _ | with_reducible refine ext_trans ?_ (by assumption)))⟩; refine congrArg (fun b => Ending.returned (Value.bool b)) ?_; show (_ : Bool) = _; (try clear hc2 hf2); (try clear hc3 hf3); unfold taintR; (try simp only [isEmpty_beq]); first | (simp [*]; done) | (simp [*]; omega) | (have hve1 := hve.out; have hke1 := hke.out; clear hve hke; (try clear hb2); (try clear hb3); simp at hve1 hke1; simp_all; done) | (have hve1 := hve.out; have hke1 := hke.out; clear hve hke; (try clear hb2); (try clear hb3); simp at hve1 hke1; simp_all; omega) | (have hve1 := hve.out; have hke1 := hke.out; clear hve hke; (try clear hb2); (try clear hb3); simp at hve1 hke1; simp_all; exact Bool.or_comm _ _))
    | skip

end Go.Proofs.YtjoclfenghenjaaGreat

namespace Go.Proofs.YtjoclfenghenjaaGreat
open Go.ChangeShapes Go.WideShapes Go.ChangeAt Go.RowKit
set_option linter.unusedVariables false
set_option linter.unusedSimpArgs false
def tolR (x : Tolerance) : Bool := (keyR x.key || (x.key.toList == []) && !x.equal) && valR x.value && ((x.value.toList == []) || x.equal) && (decide (0 ≤ x.effect) && decide (x.effect ≤ 2))
def tolerR (t : Tolerance) (x : Taint) : Bool := tolR t && taintR x && ((t.key.toList == []) || t.key.toList == x.key.toList) && (!t.equal || t.value.toList == x.value.toList) && (t.effect == 0 || t.effect == x.effect)
set_option maxRecDepth 100000 in
set_option maxHeartbeats 1000000 in
theorem ToleranceOk_impl (x : Tolerance) (cs : List Value) (F : List Nat) (w : World) (h : rd w x cs F) (hks : (x.key.size : Int) ≤ 1048576) (hvs : (x.value.size : Int) ≤ 1048576) :
    Calls Tryz.prog 179 #[.agg cs.toArray] w fun e w' => e = .returned (.bool (tolR x)) ∧ Below w.heap.size w w' := by
  obtain ⟨hck, hF0, hkey, hvalue, heffect⟩ := rd_Tolerance h
  subst hck
  clear hF0 h
  have hve := Lib.hid (valR_empty (s := x.value))
  have hke := Lib.hid (keyR_empty (s := x.key))
  go_enter Tryz.func179, Tryz.ntmps179
  go_wp2_with (first
    | (go_at_call 173; refine (LabelKeyOk_impl x.key _ hks).mono ?_; rintro e w2 ⟨rfl, hb2⟩; obtain ⟨hc2, hf2⟩ := bcell hb2; have hz2 : w.heap.size < w2.heap.size := (by have := hb2.size; (try simp at this); omega))
    | (go_at_call 174; refine (LabelValueOk_impl x.value _ hvs).mono ?_; rintro e w3 ⟨rfl, hb3⟩; obtain ⟨hc3, hf3⟩ := bcell hb3; have hz3 : w.heap.size < w3.heap.size := (by have := hb3.size; (try simp at this); omega))
    | go_in)
  all_goals first
    | (go_ret; refine ⟨?_, (by repeat (first | with_reducible exact ext_refl _ | with_reducible assumption | with_reducible refine ext_alloc ?_ _ | with_reducible refine ext_trans ?_ (by assumption)))⟩; refine congrArg (fun b => Ending.returned (Value.bool b)) ?_; show (_ : Bool) = _; (try clear hc2 hf2); (try clear hc3 hf3); unfold tolR; (try simp only [isEmpty_beq]); first | (simp [*]; done) | (simp [*]; omega) | (have hve1 := hve.out; have hke1 := hke.out; clear hve hke; (try clear hb2); (try clear hb3); simp at hve1 hke1; simp_all; done) | (have hve1 := hve.out; have hke1 := hke.out; clear hve hke; (try clear hb2); (try clear hb3); simp at hve1 hke1; simp_all; omega) | (have hve1 := hve.out; have hke1 := hke.out; clear hve hke; (try clear hb2); (try clear hb3); simp at hve1 hke1; simp_all; exact Bool.or_comm _ _))
    | skip
set_option maxRecDepth 100000 in
set_option maxHeartbeats 1000000 in
theorem ToleranceOk_spec (x : Tolerance) (cs : List Value) (F : List Nat) (w : World) (h : rd w x cs F) (hks : (x.key.size : Int) ≤ 1048576) (hvs : (x.value.size : Int) ≤ 1048576) :
    Calls Tryz.prog 162 #[.agg cs.toArray] w fun e w' => e = .returned (.bool (tolR x)) ∧ Below w.heap.size w w' := by
  obtain ⟨hck, hF0, hkey, hvalue, heffect⟩ := rd_Tolerance h
  subst hck
  clear hF0 h
  have hve := Lib.hid (valR_empty (s := x.value))
  have hke := Lib.hid (keyR_empty (s := x.key))
  go_enter Tryz.func162, Tryz.ntmps162
  go_wp2_with (first
    | (go_at_call 158; refine (LabelKeyOk_spec x.key _ hks).mono ?_; rintro e w2 ⟨rfl, hb2⟩; obtain ⟨hc2, hf2⟩ := bcell hb2; have hz2 : w.heap.size < w2.heap.size := (by have := hb2.size; (try simp at this); omega))
    | (go_at_call 159; refine (LabelValueOk_spec x.value _ hvs).mono ?_; rintro e w3 ⟨rfl, hb3⟩; obtain ⟨hc3, hf3⟩ := bcell hb3; have hz3 : w.heap.size < w3.heap.size := (by have := hb3.size; (try simp at this); omega))
    | go_in)
  all_goals first
    | (go_ret; refine ⟨?_, (by repeat (first | with_reducible exact ext_refl _ | with_reducible assumption | with_reducible refine ext_alloc ?_ _ | with_reducible refine ext_trans ?_ (by assumption)))⟩; refine congrArg (fun b => Ending.returned (Value.bool b)) ?_; show (_ : Bool) = _; (try clear hc2 hf2); (try clear hc3 hf3); unfold tolR; (try simp only [isEmpty_beq]); first | (simp [*]; done) | (simp [*]; omega) | (have hve1 := hve.out; have hke1 := hke.out; clear hve hke; (try clear hb2); (try clear hb3); simp at hve1 hke1; simp_all; done) | (have hve1 := hve.out; have hke1 := hke.out; clear hve hke; (try clear hb2); (try clear hb3); simp at hve1 hke1; simp_all; omega) | (have hve1 := hve.out; have hke1 := hke.out; clear hve hke; (try clear hb2); (try clear hb3); simp at hve1 hke1; simp_all; exact Bool.or_comm _ _))
    | skip

end Go.Proofs.YtjoclfenghenjaaGreat

namespace Go.Proofs.YtjoclfenghenjaaGreat
open Go.ChangeShapes Go.WideShapes Go.ChangeAt Go.RowKit
set_option linter.unusedVariables false
set_option linter.unusedSimpArgs false
set_option maxRecDepth 100000 in
set_option maxHeartbeats 2000000 in
theorem Tolerates_impl (x : Tolerance) (y : Taint) (cs ds : List Value) (F G : List Nat) (w : World) (h : rd w x cs F) (h' : rd w y ds G) (hks : (x.key.size : Int) ≤ 1048576) (hvs : (x.value.size : Int) ≤ 1048576) (hks' : (y.key.size : Int) ≤ 1048576) (hvs' : (y.value.size : Int) ≤ 1048576) :
    Calls Tryz.prog 192 #[.agg cs.toArray, .agg ds.toArray] w fun e w' => e = .returned (.bool (tolerR x y)) ∧ Below w.heap.size w w' := by
  obtain ⟨hck, hF1, hkey1, hvalue1, heffect1⟩ := rd_Tolerance h
  obtain ⟨hck2, hF2, hkey2, hvalue2, heffect2⟩ := rd_Taint h'
  subst hck hck2
  subst hF1 hF2
  go_enter Tryz.func192, Tryz.ntmps192
  go_wp2_with (first
    | (go_at_call 179; refine (ToleranceOk_impl x _ [] _ (rd_extT h (by repeat (first | with_reducible exact ext_refl _ | with_reducible assumption | with_reducible refine ext_alloc ?_ _ | with_reducible refine ext_trans ?_ (by assumption)))) hks hvs).mono ?_; rintro e w2 ⟨rfl, hb2⟩; obtain ⟨hc2, hf2⟩ := bcell hb2; have hz2 : w.heap.size + 1 < w2.heap.size := (by have := hb2.size; (try simp at this); omega); have hy2 : w.heap.size < w2.heap.size := (by omega))
    | (go_at_call 175; refine (TaintOk_impl y _ [] _ (rd_extT h' (by repeat (first | with_reducible exact ext_refl _ | with_reducible assumption | with_reducible refine ext_alloc ?_ _ | with_reducible refine ext_trans ?_ (by assumption)))) hks' hvs').mono ?_; rintro e w3 ⟨rfl, hb3⟩; obtain ⟨hc3, hf3⟩ := bcell hb3; have hz3 : w.heap.size + 1 < w3.heap.size := (by have := hb3.size; (try simp at this); omega); have hy3 : w.heap.size < w3.heap.size := (by omega)))
  all_goals first
    | (go_ret; refine ⟨?_, (by repeat (first | with_reducible exact ext_refl _ | with_reducible assumption | with_reducible refine ext_alloc ?_ _ | with_reducible refine ext_trans ?_ (by assumption)))⟩; refine congrArg (fun b => Ending.returned (Value.bool b)) ?_; show (_ : Bool) = _; (try clear hc2 hf2 hb2); (try clear hc3 hf3 hb3); unfold tolerR; (try simp only [isEmpty_beq]); first | (simp [*]; done) | (simp_all; done) | (simp_all; omega) | (simp_all; exact Bool.or_comm _ _))
    | skip
set_option maxRecDepth 100000 in
set_option maxHeartbeats 2000000 in
theorem Tolerates_spec (x : Tolerance) (y : Taint) (cs ds : List Value) (F G : List Nat) (w : World) (h : rd w x cs F) (h' : rd w y ds G) (hks : (x.key.size : Int) ≤ 1048576) (hvs : (x.value.size : Int) ≤ 1048576) (hks' : (y.key.size : Int) ≤ 1048576) (hvs' : (y.value.size : Int) ≤ 1048576) :
    Calls Tryz.prog 183 #[.agg cs.toArray, .agg ds.toArray] w fun e w' => e = .returned (.bool (tolerR x y)) ∧ Below w.heap.size w w' := by
  obtain ⟨hck, hF1, hkey1, hvalue1, heffect1⟩ := rd_Tolerance h
  obtain ⟨hck2, hF2, hkey2, hvalue2, heffect2⟩ := rd_Taint h'
  subst hck hck2
  subst hF1 hF2
  go_enter Tryz.func183, Tryz.ntmps183
  go_wp2_with (first
    | (go_at_call 162; refine (ToleranceOk_spec x _ [] _ (rd_extT h (by repeat (first | with_reducible exact ext_refl _ | with_reducible assumption | with_reducible refine ext_alloc ?_ _ | with_reducible refine ext_trans ?_ (by assumption)))) hks hvs).mono ?_; rintro e w2 ⟨rfl, hb2⟩; obtain ⟨hc2, hf2⟩ := bcell hb2; have hz2 : w.heap.size + 1 < w2.heap.size := (by have := hb2.size; (try simp at this); omega); have hy2 : w.heap.size < w2.heap.size := (by omega))
    | (go_at_call 164; refine (TaintOk_spec y _ [] _ (rd_extT h' (by repeat (first | with_reducible exact ext_refl _ | with_reducible assumption | with_reducible refine ext_alloc ?_ _ | with_reducible refine ext_trans ?_ (by assumption)))) hks' hvs').mono ?_; rintro e w3 ⟨rfl, hb3⟩; obtain ⟨hc3, hf3⟩ := bcell hb3; have hz3 : w.heap.size + 1 < w3.heap.size := (by have := hb3.size; (try simp at this); omega); have hy3 : w.heap.size < w3.heap.size := (by omega)))
  all_goals first
    | (go_ret; refine ⟨?_, (by repeat (first | with_reducible exact ext_refl _ | with_reducible assumption | with_reducible refine ext_alloc ?_ _ | with_reducible refine ext_trans ?_ (by assumption)))⟩; refine congrArg (fun b => Ending.returned (Value.bool b)) ?_; show (_ : Bool) = _; (try clear hc2 hf2 hb2); (try clear hc3 hf3 hb3); unfold tolerR; (try simp only [isEmpty_beq]); first | (simp [*]; done) | (simp_all; done) | (simp_all; omega) | (simp_all; exact Bool.or_comm _ _))
    | skip

end Go.Proofs.YtjoclfenghenjaaGreat
