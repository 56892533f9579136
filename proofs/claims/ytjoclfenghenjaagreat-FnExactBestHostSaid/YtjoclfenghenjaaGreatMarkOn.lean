/- MarkOn, of the program and of the reference. No condition. -/
import Derived.Test.YtjoclfenghenjaaGreatPack
import Derived.Test.YtjoclfenghenjaaGreatSpread
import Derived.Test.YtjoclfenghenjaaGreatSoft
import Derived.Test.YtjoclfenghenjaaGreatWeights
namespace Go.Proofs.YtjoclfenghenjaaGreat
open Go.ChangeShapes Go.WideShapes Go.ChangeAt Go.RowKit
set_option linter.unusedVariables false
set_option linter.unusedSimpArgs false

def markR (nm : ByteArray) (x : Cluster) (p : Pod) : Int :=
  if weightsR x.weights.pack x.weights.spread x.weights.soft = true then x.weights.pack * packR nm x p + x.weights.spread * spreadR nm x + x.weights.soft * softR nm x p else 0
theorem softR_range (nm : ByteArray) (x : Cluster) (p : Pod) : 0 ≤ softR nm x p ∧ softR nm x p ≤ 100 := by
  unfold softR
  split
  · omega
  · split <;> omega
theorem mul_range {a b : Int} (ha : 0 ≤ a ∧ a ≤ 10) (hb : 0 ≤ b ∧ b ≤ 100) : 0 ≤ a * b ∧ a * b ≤ 1000 := by
  refine ⟨Int.mul_nonneg ha.1 hb.1, ?_⟩
  have h1 : a * b ≤ 10 * b := Int.mul_le_mul_of_nonneg_right ha.2 hb.1
  omega
theorem weightsR_range {p s f : Int} (h : weightsR p s f = true) : (0 ≤ p ∧ p ≤ 10) ∧ (0 ≤ s ∧ s ≤ 10) ∧ (0 ≤ f ∧ f ≤ 10) := by
  unfold weightsR at h
  simp only [Bool.and_eq_true, decide_eq_true_eq] at h
  omega
theorem wrap_thousands {n : Int} (h : 0 ≤ n ∧ n ≤ 3000) : Value.int .i64 (IntKind.i64.wrap n) = Value.int .i64 n := by
  have e : IntKind.i64.wrap n = n := by rw [IntKind.wrap_i64]; omega
  rw [e]
set_option maxRecDepth 100000 in
set_option maxHeartbeats 4000000 in
theorem MarkOn_impl (x : Cluster) (p : Pod) (cs ps : List Value) (F G : List Nat) (nm : ByteArray) (w : World) (h : rd w x cs F) (h' : rd w p ps G) (hw : (x.wt : Int) ≤ 1048576) (hw' : (p.wt : Int) ≤ 1048576) :
    Calls Tryz.prog 67 #[.agg cs.toArray, .string nm, .agg ps.toArray] w fun e w' => e = .returned (.int .i64 (markR nm x p)) ∧ Below w.heap.size w w' := by
  have HWX := Lib.hid hw
  have HWP := Lib.hid hw'
  clear hw hw'
  have hr := h
  have hr' := h'
  obtain ⟨Ahosts, chosts, Fhosts, Apods, cpods, Fpods, hck, hF, hhosts, hpods, hnext, hweightspack, hweightsspread, hweightssoft⟩ := rd_Cluster hr
  obtain ⟨Alabels2, clabels2, Flabels2, Aneeds2, cneeds2, Fneeds2, Atolerances2, ctolerances2, Ftolerances2, hck2, hG, hname2, hlabels2, hcpu2, hmem2, hrank2, hneeds2, htolerances2⟩ := rd_Pod hr'
  subst hck hck2
  clear hF hG hr hr'
  cases hR : weightsR x.weights.pack x.weights.spread x.weights.soft with
  | false =>
    have HF := Lib.hid (show markR nm x p = 0 by unfold markR; rw [if_neg (by rw [hR]; simp)])
    have HR := Lib.hid hR
    clear hR
    go_enter Tryz.func67, Tryz.ntmps67
    go_wp2_with fail
    refine (WeightsOk_impl _ _ _ _).mono ?_
    rw [HR.out]
    rintro e w2 ⟨rfl, hb2⟩
    go_wp2
    go_ret
    exact ⟨by rw [HF.out]; rfl, (by repeat (first | with_reducible exact ext_refl _ | with_reducible assumption | with_reducible refine ext_alloc ?_ _ | with_reducible refine ext_trans ?_ (by assumption)))⟩
  | true =>
    have hmk : markR nm x p = x.weights.pack * packR nm x p + x.weights.spread * spreadR nm x + x.weights.soft * softR nm x p := by unfold markR; rw [if_pos hR]
    obtain ⟨g1, g2, g3⟩ := weightsR_range hR
    have HR := Lib.hid hR
    clear hR
    obtain ⟨S1, hS1⟩ : ∃ S, packR nm x p = S := ⟨_, rfl⟩
    obtain ⟨S2, hS2⟩ : ∃ S, spreadR nm x = S := ⟨_, rfl⟩
    obtain ⟨S3, hS3⟩ : ∃ S, softR nm x p = S := ⟨_, rfl⟩
    have r1 := packR_range nm x p
    have r2 := spreadR_range nm x
    have r3 := softR_range nm x p
    rw [hS1] at r1 hmk
    rw [hS2] at r2 hmk
    rw [hS3] at r3 hmk
    have m1 := mul_range g1 r1
    have m2 := mul_range g2 r2
    have m3 := mul_range g3 r3
    have e1 := wrap_thousands (n := x.weights.pack * S1) (by omega)
    have e2 := wrap_thousands (n := x.weights.spread * S2) (by omega)
    have e3 := wrap_thousands (n := x.weights.soft * S3) (by omega)
    have e4 := wrap_thousands (n := x.weights.pack * S1 + x.weights.spread * S2) (by omega)
    have e5 := wrap_thousands (n := x.weights.pack * S1 + x.weights.spread * S2 + x.weights.soft * S3) (by omega)
    have HF := Lib.hid hmk
    have H1 := Lib.hid hS1
    have H2 := Lib.hid hS2
    have H3 := Lib.hid hS3
    clear hmk hS1 hS2 hS3 m1 m2 m3
    go_enter Tryz.func67, Tryz.ntmps67
    go_wp2_with fail
    refine (WeightsOk_impl _ _ _ _).mono ?_
    rw [HR.out]
    rintro e w2 ⟨rfl, hb2⟩
    obtain ⟨hc2, hf2⟩ := bcell hb2
    have hz2 : w.heap.size < w2.heap.size := (by have := hb2.size; (try simp at this); omega)
    have hy2 : w.heap.size + 1 < w2.heap.size := (by have := hb2.size; (try simp at this); omega)
    try (have hx2 : w.heap.size + 1 + 1 < w2.heap.size := by have := hb2.size; (try simp at this); omega)
    go_wp2_with fail
    refine wp_region_grow _ (by kernel_rfl) (by kernel_rfl) (ext_refl _) ?_
    repeat (first
      | (apply inText_skip
         case hw => rfl
         simp only [Act.put, List.setIfInBounds_toArray, List.set_cons_zero, List.set_cons_succ])
      | (apply inText_step
         case hw => rfl
         case h =>
           intro wq hq
           have hcq := (cls_cell hq).1
           have hfq := (cls_cell hq).2
           go_simp
           first
             | exact ⟨hq, rfl⟩
             | exact ⟨cls_alloc hq _, rfl⟩
             | (first | (refine (PackMark_impl x p _ _ _ _ nm _ (rd_extT h (ext_trans (by repeat (first | with_reducible exact ext_refl _ | with_reducible assumption | with_reducible refine ext_alloc ?_ _ | with_reducible refine ext_trans ?_ (by assumption))) hq)) (rd_extT h' (ext_trans (by repeat (first | with_reducible exact ext_refl _ | with_reducible assumption | with_reducible refine ext_alloc ?_ _ | with_reducible refine ext_trans ?_ (by assumption))) hq)) HWX.out HWP.out).mono ?_; rw [H1.out]; rintro e wz ⟨rfl, hbz0⟩; exact ⟨rfl, cls_trans hq hbz0⟩) | (refine (SpreadMark_impl x p _ _ _ _ nm _ (rd_extT h (ext_trans (by repeat (first | with_reducible exact ext_refl _ | with_reducible assumption | with_reducible refine ext_alloc ?_ _ | with_reducible refine ext_trans ?_ (by assumption))) hq)) (rd_extT h' (ext_trans (by repeat (first | with_reducible exact ext_refl _ | with_reducible assumption | with_reducible refine ext_alloc ?_ _ | with_reducible refine ext_trans ?_ (by assumption))) hq)) HWX.out HWP.out).mono ?_; rw [H2.out]; rintro e wz ⟨rfl, hbz0⟩; exact ⟨rfl, cls_trans hq hbz0⟩) | (refine (SoftMark_impl x p _ _ _ _ nm _ (rd_extT h (ext_trans (by repeat (first | with_reducible exact ext_refl _ | with_reducible assumption | with_reducible refine ext_alloc ?_ _ | with_reducible refine ext_trans ?_ (by assumption))) hq)) (rd_extT h' (ext_trans (by repeat (first | with_reducible exact ext_refl _ | with_reducible assumption | with_reducible refine ext_alloc ?_ _ | with_reducible refine ext_trans ?_ (by assumption))) hq)) HWX.out HWP.out).mono ?_; rw [H3.out]; rintro e wz ⟨rfl, hbz0⟩; exact ⟨rfl, cls_trans hq hbz0⟩))
             | (simp only [↓IntWalk.iteOmega]; exact ⟨hq, rfl⟩)
         simp only [Act.put, List.setIfInBounds_toArray, List.set_cons_zero, List.set_cons_succ]))
    refine inText_nil ?_
    intro wn hn
    replace hn := hn.out
    go_wp2
    go_ret
    exact ⟨by rw [HF.out]; first | rfl | simp, (by repeat (first | with_reducible exact ext_refl _ | with_reducible assumption | with_reducible refine ext_alloc ?_ _ | with_reducible refine ext_trans ?_ (by assumption)))⟩
set_option maxRecDepth 100000 in
set_option maxHeartbeats 4000000 in
theorem MarkOn_spec (x : Cluster) (p : Pod) (cs ps : List Value) (F G : List Nat) (nm : ByteArray) (w : World) (h : rd w x cs F) (h' : rd w p ps G) (hw : (x.wt : Int) ≤ 1048576) (hw' : (p.wt : Int) ≤ 1048576) :
    Calls Tryz.prog 58 #[.agg cs.toArray, .string nm, .agg ps.toArray] w fun e w' => e = .returned (.int .i64 (markR nm x p)) ∧ Below w.heap.size w w' := by
  have HWX := Lib.hid hw
  have HWP := Lib.hid hw'
  clear hw hw'
  have hr := h
  have hr' := h'
  obtain ⟨Ahosts, chosts, Fhosts, Apods, cpods, Fpods, hck, hF, hhosts, hpods, hnext, hweightspack, hweightsspread, hweightssoft⟩ := rd_Cluster hr
  obtain ⟨Alabels2, clabels2, Flabels2, Aneeds2, cneeds2, Fneeds2, Atolerances2, ctolerances2, Ftolerances2, hck2, hG, hname2, hlabels2, hcpu2, hmem2, hrank2, hneeds2, htolerances2⟩ := rd_Pod hr'
  subst hck hck2
  clear hF hG hr hr'
  cases hR : weightsR x.weights.pack x.weights.spread x.weights.soft with
  | false =>
    have HF := Lib.hid (show markR nm x p = 0 by unfold markR; rw [if_neg (by rw [hR]; simp)])
    have HR := Lib.hid hR
    clear hR
    go_enter Tryz.func58, Tryz.ntmps58
    go_wp2_with fail
    refine (WeightsOk_spec _ _ _ _).mono ?_
    rw [HR.out]
    rintro e w2 ⟨rfl, hb2⟩
    go_wp2
    go_ret
    exact ⟨by rw [HF.out]; rfl, (by repeat (first | with_reducible exact ext_refl _ | with_reducible assumption | with_reducible refine ext_alloc ?_ _ | with_reducible refine ext_trans ?_ (by assumption)))⟩
  | true =>
    have hmk : markR nm x p = x.weights.pack * packR nm x p + x.weights.spread * spreadR nm x + x.weights.soft * softR nm x p := by unfold markR; rw [if_pos hR]
    obtain ⟨g1, g2, g3⟩ := weightsR_range hR
    have HR := Lib.hid hR
    clear hR
    obtain ⟨S1, hS1⟩ : ∃ S, packR nm x p = S := ⟨_, rfl⟩
    obtain ⟨S2, hS2⟩ : ∃ S, spreadR nm x = S := ⟨_, rfl⟩
    obtain ⟨S3, hS3⟩ : ∃ S, softR nm x p = S := ⟨_, rfl⟩
    have r1 := packR_range nm x p
    have r2 := spreadR_range nm x
    have r3 := softR_range nm x p
    rw [hS1] at r1 hmk
    rw [hS2] at r2 hmk
    rw [hS3] at r3 hmk
    have m1 := mul_range g1 r1
    have m2 := mul_range g2 r2
    have m3 := mul_range g3 r3
    have e1 := wrap_thousands (n := x.weights.pack * S1) (by omega)
    have e2 := wrap_thousands (n := x.weights.spread * S2) (by omega)
    have e3 := wrap_thousands (n := x.weights.soft * S3) (by omega)
    have e4 := wrap_thousands (n := x.weights.pack * S1 + x.weights.spread * S2) (by omega)
    have e5 := wrap_thousands (n := x.weights.pack * S1 + x.weights.spread * S2 + x.weights.soft * S3) (by omega)
    have HF := Lib.hid hmk
    have H1 := Lib.hid hS1
    have H2 := Lib.hid hS2
    have H3 := Lib.hid hS3
    clear hmk hS1 hS2 hS3 m1 m2 m3
    go_enter Tryz.func58, Tryz.ntmps58
    go_wp2_with fail
    refine (WeightsOk_spec _ _ _ _).mono ?_
    rw [HR.out]
    rintro e w2 ⟨rfl, hb2⟩
    obtain ⟨hc2, hf2⟩ := bcell hb2
    have hz2 : w.heap.size < w2.heap.size := (by have := hb2.size; (try simp at this); omega)
    have hy2 : w.heap.size + 1 < w2.heap.size := (by have := hb2.size; (try simp at this); omega)
    try (have hx2 : w.heap.size + 1 + 1 < w2.heap.size := by have := hb2.size; (try simp at this); omega)
    go_wp2_with fail
    refine wp_region_grow _ (by kernel_rfl) (by kernel_rfl) (ext_refl _) ?_
    repeat (first
      | (apply inText_skip
         case hw => rfl
         simp only [Act.put, List.setIfInBounds_toArray, List.set_cons_zero, List.set_cons_succ])
      | (apply inText_step
         case hw => rfl
         case h =>
           intro wq hq
           have hcq := (cls_cell hq).1
           have hfq := (cls_cell hq).2
           go_simp
           first
             | exact ⟨hq, rfl⟩
             | exact ⟨cls_alloc hq _, rfl⟩
             | (first | (refine (PackMark_spec x p _ _ _ _ nm _ (rd_extT h (ext_trans (by repeat (first | with_reducible exact ext_refl _ | with_reducible assumption | with_reducible refine ext_alloc ?_ _ | with_reducible refine ext_trans ?_ (by assumption))) hq)) (rd_extT h' (ext_trans (by repeat (first | with_reducible exact ext_refl _ | with_reducible assumption | with_reducible refine ext_alloc ?_ _ | with_reducible refine ext_trans ?_ (by assumption))) hq)) HWX.out HWP.out).mono ?_; rw [H1.out]; rintro e wz ⟨rfl, hbz0⟩; exact ⟨rfl, cls_trans hq hbz0⟩) | (refine (SpreadMark_spec x p _ _ _ _ nm _ (rd_extT h (ext_trans (by repeat (first | with_reducible exact ext_refl _ | with_reducible assumption | with_reducible refine ext_alloc ?_ _ | with_reducible refine ext_trans ?_ (by assumption))) hq)) (rd_extT h' (ext_trans (by repeat (first | with_reducible exact ext_refl _ | with_reducible assumption | with_reducible refine ext_alloc ?_ _ | with_reducible refine ext_trans ?_ (by assumption))) hq)) HWX.out HWP.out).mono ?_; rw [H2.out]; rintro e wz ⟨rfl, hbz0⟩; exact ⟨rfl, cls_trans hq hbz0⟩) | (refine (SoftMark_spec x p _ _ _ _ nm _ (rd_extT h (ext_trans (by repeat (first | with_reducible exact ext_refl _ | with_reducible assumption | with_reducible refine ext_alloc ?_ _ | with_reducible refine ext_trans ?_ (by assumption))) hq)) (rd_extT h' (ext_trans (by repeat (first | with_reducible exact ext_refl _ | with_reducible assumption | with_reducible refine ext_alloc ?_ _ | with_reducible refine ext_trans ?_ (by assumption))) hq)) HWX.out HWP.out).mono ?_; rw [H3.out]; rintro e wz ⟨rfl, hbz0⟩; exact ⟨rfl, cls_trans hq hbz0⟩))
             | (simp only [↓IntWalk.iteOmega]; exact ⟨hq, rfl⟩)
         simp only [Act.put, List.setIfInBounds_toArray, List.set_cons_zero, List.set_cons_succ]))
    refine inText_nil ?_
    intro wn hn
    replace hn := hn.out
    go_wp2
    go_ret
    exact ⟨by rw [HF.out]; first | rfl | simp, (by repeat (first | with_reducible exact ext_refl _ | with_reducible assumption | with_reducible refine ext_alloc ?_ _ | with_reducible refine ext_trans ?_ (by assumption)))⟩

end Go.Proofs.YtjoclfenghenjaaGreat
