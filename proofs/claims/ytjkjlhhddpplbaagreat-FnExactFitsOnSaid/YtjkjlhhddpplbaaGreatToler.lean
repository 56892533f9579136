/- Tolerates, of the program and of the reference. No condition. -/
import Derived.Test.YtjkjlhhddpplbaaGreatTolOk
import Derived.Test.YtjkjlhhddpplbaaGreatRows2
namespace Go.Proofs.YtjkjlhhddpplbaaGreat
open Go.ChangeShapes Go.WideShapes Go.ChangeAt Go.RowKit
set_option linter.unusedVariables false
set_option linter.unusedSimpArgs false
set_option maxRecDepth 100000 in
set_option maxHeartbeats 2000000 in
theorem Tolerates_impl (x : Tolerance) (y : Taint) (cs ds : List Value) (F G : List Nat) (w : World) (h : rd w x cs F) (h' : rd w y ds G) (hks : (x.key.size : Int) ≤ 1048576) (hvs : (x.value.size : Int) ≤ 1048576) (hks' : (y.key.size : Int) ≤ 1048576) (hvs' : (y.value.size : Int) ≤ 1048576) :
    Calls Tryz.prog 124 #[.agg cs.toArray, .agg ds.toArray] w fun e w' => e = .returned (.bool (tolerR x y)) ∧ Below w.heap.size w w' := by
  obtain ⟨hck, hF1, hkey1, hvalue1, heffect1⟩ := rd_Tolerance h
  obtain ⟨hck2, hF2, hkey2, hvalue2, heffect2⟩ := rd_Taint h'
  subst hck hck2
  subst hF1 hF2
  go_enter Tryz.func124, Tryz.ntmps124
  go_wp2_with (first
    | (go_at_call 148; refine (ToleranceOk_impl x _ [] _ (rd_extT h (by repeat (first | with_reducible exact ext_refl _ | with_reducible assumption | with_reducible refine ext_alloc ?_ _ | with_reducible refine ext_trans ?_ (by assumption)))) hks hvs).mono ?_; rintro e w2 ⟨rfl, hb2⟩; obtain ⟨hc2, hf2⟩ := bcell hb2; have hz2 : w.heap.size + 1 < w2.heap.size := (by have := hb2.size; (try simp at this); omega); have hy2 : w.heap.size < w2.heap.size := (by omega))
    | (go_at_call 144; refine (TaintOk_impl y _ [] _ (rd_extT h' (by repeat (first | with_reducible exact ext_refl _ | with_reducible assumption | with_reducible refine ext_alloc ?_ _ | with_reducible refine ext_trans ?_ (by assumption)))) hks' hvs').mono ?_; rintro e w3 ⟨rfl, hb3⟩; obtain ⟨hc3, hf3⟩ := bcell hb3; have hz3 : w.heap.size + 1 < w3.heap.size := (by have := hb3.size; (try simp at this); omega); have hy3 : w.heap.size < w3.heap.size := (by omega)))
  all_goals first
    | (go_ret; refine ⟨?_, (by repeat (first | with_reducible exact ext_refl _ | with_reducible assumption | with_reducible refine ext_alloc ?_ _ | with_reducible refine ext_trans ?_ (by assumption)))⟩; refine congrArg (fun b => Ending.returned (Value.bool b)) ?_; show (_ : Bool) = _; (try clear hc2 hf2 hb2); (try clear hc3 hf3 hb3); unfold tolerR; (try simp only [isEmpty_beq]); first | (simp [*]; done) | (simp_all; done) | (simp_all; omega) | (simp_all; exact Bool.or_comm _ _))
    | skip
set_option maxRecDepth 100000 in
set_option maxHeartbeats 2000000 in
theorem Tolerates_spec (x : Tolerance) (y : Taint) (cs ds : List Value) (F G : List Nat) (w : World) (h : rd w x cs F) (h' : rd w y ds G) (hks : (x.key.size : Int) ≤ 1048576) (hvs : (x.value.size : Int) ≤ 1048576) (hks' : (y.key.size : Int) ≤ 1048576) (hvs' : (y.value.size : Int) ≤ 1048576) :
    Calls Tryz.prog 118 #[.agg cs.toArray, .agg ds.toArray] w fun e w' => e = .returned (.bool (tolerR x y)) ∧ Below w.heap.size w w' := by
  obtain ⟨hck, hF1, hkey1, hvalue1, heffect1⟩ := rd_Tolerance h
  obtain ⟨hck2, hF2, hkey2, hvalue2, heffect2⟩ := rd_Taint h'
  subst hck hck2
  subst hF1 hF2
  go_enter Tryz.func118, Tryz.ntmps118
  go_wp2_with (first
    | (go_at_call 134; refine (ToleranceOk_spec x _ [] _ (rd_extT h (by repeat (first | with_reducible exact ext_refl _ | with_reducible assumption | with_reducible refine ext_alloc ?_ _ | with_reducible refine ext_trans ?_ (by assumption)))) hks hvs).mono ?_; rintro e w2 ⟨rfl, hb2⟩; obtain ⟨hc2, hf2⟩ := bcell hb2; have hz2 : w.heap.size + 1 < w2.heap.size := (by have := hb2.size; (try simp at this); omega); have hy2 : w.heap.size < w2.heap.size := (by omega))
    | (go_at_call 136; refine (TaintOk_spec y _ [] _ (rd_extT h' (by repeat (first | with_reducible exact ext_refl _ | with_reducible assumption | with_reducible refine ext_alloc ?_ _ | with_reducible refine ext_trans ?_ (by assumption)))) hks' hvs').mono ?_; rintro e w3 ⟨rfl, hb3⟩; obtain ⟨hc3, hf3⟩ := bcell hb3; have hz3 : w.heap.size + 1 < w3.heap.size := (by have := hb3.size; (try simp at this); omega); have hy3 : w.heap.size < w3.heap.size := (by omega)))
  all_goals first
    | (go_ret; refine ⟨?_, (by repeat (first | with_reducible exact ext_refl _ | with_reducible assumption | with_reducible refine ext_alloc ?_ _ | with_reducible refine ext_trans ?_ (by assumption)))⟩; refine congrArg (fun b => Ending.returned (Value.bool b)) ?_; show (_ : Bool) = _; (try clear hc2 hf2 hb2); (try clear hc3 hf3 hb3); unfold tolerR; (try simp only [isEmpty_beq]); first | (simp [*]; done) | (simp_all; done) | (simp_all; omega) | (simp_all; exact Bool.or_comm _ _))
    | skip

end Go.Proofs.YtjkjlhhddpplbaaGreat
