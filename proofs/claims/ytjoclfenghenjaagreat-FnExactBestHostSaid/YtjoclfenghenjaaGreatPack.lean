/- PackMark, of the program and of the reference. No condition. -/
import Derived.Test.YtjoclfenghenjaaGreatMarksP
import Derived.Test.YtjoclfenghenjaaGreatShare
namespace Go.Proofs.YtjoclfenghenjaaGreat
open Go.ChangeShapes Go.WideShapes Go.ChangeAt Go.RowKit
set_option linter.unusedVariables false
set_option linter.unusedSimpArgs false
theorem sumOrMost_impl (a b : Int) (w : World) (ha : I64 a) (hb : I64 b) : Calls Tryz.prog 154 #[.int .i64 a, .int .i64 b] w fun e w' => e = .returned (.int .i64 (sumMost a b)) ∧ Below w.heap.size w w' := by
  cases h : addI a b with
  | none =>
    have HF := Lib.hid (show sumMost a b = 9223372036854775807 by unfold sumMost; rw [h]; rfl)
    have HA := Lib.hid h
    go_enter Tryz.func154, Tryz.ntmps154
    go_wp2_with fail
    refine (AddInt_impl a b _ ha hb).mono ?_
    rw [HA.out]
    rintro e w2 ⟨rfl, hb2⟩
    go_wp2
    go_ret
    exact ⟨by rw [HF.out]; rfl, (by repeat (first | with_reducible exact ext_refl _ | with_reducible assumption | with_reducible refine ext_alloc ?_ _ | with_reducible refine ext_trans ?_ (by assumption)))⟩
  | some s =>
    have HF := Lib.hid (show sumMost a b = s by unfold sumMost; rw [h]; rfl)
    have HA := Lib.hid h
    go_enter Tryz.func154, Tryz.ntmps154
    go_wp2_with fail
    refine (AddInt_impl a b _ ha hb).mono ?_
    rw [HA.out]
    rintro e w2 ⟨rfl, hb2⟩
    go_wp2
    go_ret
    exact ⟨by rw [HF.out]; rfl, (by repeat (first | with_reducible exact ext_refl _ | with_reducible assumption | with_reducible refine ext_alloc ?_ _ | with_reducible refine ext_trans ?_ (by assumption)))⟩
set_option maxRecDepth 100000 in
set_option maxHeartbeats 4000000 in
theorem PackMark_impl (x : Cluster) (p : Pod) (cs ps : List Value) (F G : List Nat) (nm : ByteArray) (w : World) (h : rd w x cs F) (h' : rd w p ps G) (hw : (x.wt : Int) ≤ 1048576) (hw' : (p.wt : Int) ≤ 1048576) :
    Calls Tryz.prog 116 #[.agg cs.toArray, .string nm, .agg ps.toArray] w fun e w' => e = .returned (.int .i64 (packR nm x p)) ∧ Below w.heap.size w w' := by
  have hwx : x.wt = wtL Host.wt x.hosts + wtL Placed.wt x.pods := rfl
  have hlen : (x.hosts.length : Int) ≤ 1048576 := by have := wtL_len Host.wt x.hosts; omega
  have hplen : (x.pods.length : Int) ≤ 1048576 := by have := wtL_len Placed.wt x.pods; omega
  have hr := h
  have hr' := h'
  obtain ⟨Ahosts, chosts, Fhosts, Apods, cpods, Fpods, hck, hF, hhosts, hpods, hnext, hweightspack, hweightsspread, hweightssoft⟩ := rd_Cluster hr
  obtain ⟨Alabels2, clabels2, Flabels2, Aneeds2, cneeds2, Fneeds2, Atolerances2, ctolerances2, Ftolerances2, hck2, hG, hname2, hlabels2, hcpu2, hmem2, hrank2, hneeds2, htolerances2⟩ := rd_Pod hr'
  subst hck hck2
  clear hF hG hr hr'
  rcases idxI_ways (hostatP nm) x.hosts with hi | ⟨k, hk, hi⟩
  · have HF := Lib.hid (packR_no (p := p) hi)
    have HI := Lib.hid hi
    clear hi
    cases hs : sumsR (onL nm x.pods) with
    | none =>
      have HU := Lib.hid (usedV_none hs)
      clear hs
      go_enter Tryz.func116, Tryz.ntmps116
      go_wp2_with fail
      refine (HostAt_impl x _ _ nm _ (rd_extT h (by repeat (first | with_reducible exact ext_refl _ | with_reducible assumption | with_reducible refine ext_alloc ?_ _ | with_reducible refine ext_trans ?_ (by assumption)))) hlen).mono ?_
      rw [HI.out]
      rintro e w2 ⟨rfl, hb2⟩
      obtain ⟨hc2, hf2⟩ := bcell hb2
      have hz2 : w.heap.size < w2.heap.size := (by have := hb2.size; (try simp at this); omega)
      have hy2 : w.heap.size + 1 < w2.heap.size := (by have := hb2.size; (try simp at this); omega)
      have hB2 : Below w.heap.size w w2 := (by repeat (first | with_reducible exact ext_refl _ | with_reducible assumption | with_reducible refine ext_alloc ?_ _ | with_reducible refine ext_trans ?_ (by assumption)))
      go_wp2_with fail
      refine (UsedOn_impl x _ _ nm _ (rd_extT h (by repeat (first | with_reducible exact ext_refl _ | with_reducible assumption | with_reducible refine ext_alloc ?_ _ | with_reducible refine ext_trans ?_ (by assumption)))) hplen).mono ?_
      rw [HU.out]
      rintro e w3 ⟨rfl, hb3⟩
      obtain ⟨hc3, hf3⟩ := bcell hb3
      have hz3 : w.heap.size < w3.heap.size := (by have := hb3.size; (try simp at this); omega)
      have hy3 : w.heap.size + 1 < w3.heap.size := (by have := hb3.size; (try simp at this); omega)
      have hB3 : Below w.heap.size w w3 := ext_trans hB2 hb3
      go_wp2
      go_ret
      exact ⟨by rw [HF.out]; rfl, (by repeat (first | with_reducible exact ext_refl _ | with_reducible assumption | with_reducible refine ext_alloc ?_ _ | with_reducible refine ext_trans ?_ (by assumption)))⟩
    | some ab =>
      obtain ⟨a, b⟩ := ab
      have HU := Lib.hid (usedV_some hs)
      clear hs
      go_enter Tryz.func116, Tryz.ntmps116
      go_wp2_with fail
      refine (HostAt_impl x _ _ nm _ (rd_extT h (by repeat (first | with_reducible exact ext_refl _ | with_reducible assumption | with_reducible refine ext_alloc ?_ _ | with_reducible refine ext_trans ?_ (by assumption)))) hlen).mono ?_
      rw [HI.out]
      rintro e w2 ⟨rfl, hb2⟩
      obtain ⟨hc2, hf2⟩ := bcell hb2
      have hz2 : w.heap.size < w2.heap.size := (by have := hb2.size; (try simp at this); omega)
      have hy2 : w.heap.size + 1 < w2.heap.size := (by have := hb2.size; (try simp at this); omega)
      have hB2 : Below w.heap.size w w2 := (by repeat (first | with_reducible exact ext_refl _ | with_reducible assumption | with_reducible refine ext_alloc ?_ _ | with_reducible refine ext_trans ?_ (by assumption)))
      go_wp2_with fail
      refine (UsedOn_impl x _ _ nm _ (rd_extT h (by repeat (first | with_reducible exact ext_refl _ | with_reducible assumption | with_reducible refine ext_alloc ?_ _ | with_reducible refine ext_trans ?_ (by assumption)))) hplen).mono ?_
      rw [HU.out]
      rintro e w3 ⟨rfl, hb3⟩
      obtain ⟨hc3, hf3⟩ := bcell hb3
      have hz3 : w.heap.size < w3.heap.size := (by have := hb3.size; (try simp at this); omega)
      have hy3 : w.heap.size + 1 < w3.heap.size := (by have := hb3.size; (try simp at this); omega)
      have hB3 : Below w.heap.size w w3 := ext_trans hB2 hb3
      go_wp2
      go_ret
      exact ⟨by rw [HF.out]; rfl, (by repeat (first | with_reducible exact ext_refl _ | with_reducible assumption | with_reducible refine ext_alloc ?_ _ | with_reducible refine ext_trans ?_ (by assumption)))⟩
  · cases hs : sumsR (onL nm x.pods) with
    | none =>
      have HF := Lib.hid (packR_none (p := p) hs)
      have HI := Lib.hid hi
      clear hi
      have HU := Lib.hid (usedV_none hs)
      clear hs
      go_enter Tryz.func116, Tryz.ntmps116
      go_wp2_with fail
      refine (HostAt_impl x _ _ nm _ (rd_extT h (by repeat (first | with_reducible exact ext_refl _ | with_reducible assumption | with_reducible refine ext_alloc ?_ _ | with_reducible refine ext_trans ?_ (by assumption)))) hlen).mono ?_
      rw [HI.out]
      rintro e w2 ⟨rfl, hb2⟩
      obtain ⟨hc2, hf2⟩ := bcell hb2
      have hz2 : w.heap.size < w2.heap.size := (by have := hb2.size; (try simp at this); omega)
      have hy2 : w.heap.size + 1 < w2.heap.size := (by have := hb2.size; (try simp at this); omega)
      have hB2 : Below w.heap.size w w2 := (by repeat (first | with_reducible exact ext_refl _ | with_reducible assumption | with_reducible refine ext_alloc ?_ _ | with_reducible refine ext_trans ?_ (by assumption)))
      go_wp2_with fail
      refine (UsedOn_impl x _ _ nm _ (rd_extT h (by repeat (first | with_reducible exact ext_refl _ | with_reducible assumption | with_reducible refine ext_alloc ?_ _ | with_reducible refine ext_trans ?_ (by assumption)))) hplen).mono ?_
      rw [HU.out]
      rintro e w3 ⟨rfl, hb3⟩
      obtain ⟨hc3, hf3⟩ := bcell hb3
      have hz3 : w.heap.size < w3.heap.size := (by have := hb3.size; (try simp at this); omega)
      have hy3 : w.heap.size + 1 < w3.heap.size := (by have := hb3.size; (try simp at this); omega)
      have hB3 : Below w.heap.size w w3 := ext_trans hB2 hb3
      go_wp2
      go_ret
      exact ⟨by rw [HF.out]; rfl, (by repeat (first | with_reducible exact ext_refl _ | with_reducible assumption | with_reducible refine ext_alloc ?_ _ | with_reducible refine ext_trans ?_ (by assumption)))⟩
    | some ab =>
      obtain ⟨a, b⟩ := ab
      have hat := packR_at (p := p) hk hi hs
      obtain ⟨ha, hb⟩ := used_I64 (A := Apods) (c := cpods) hpods hs
      have HI := Lib.hid hi
      clear hi
      have HU := Lib.hid (usedV_some hs)
      clear hs
      have hL := onL_len nm x.pods
      generalize (onL nm x.pods).length = L at hat HU hL
      have hLi : (L : Int) ≤ 1048576 := by omega
      clear hL
      obtain ⟨bh, o, ck, Fk, rfl, hbF, hbs, hr, hsub, hc⟩ := Sl.get (α := Host) (A := Ahosts) (c := chosts) hhosts hk
      obtain ⟨Alabels3, clabels3, Flabels3, Ataints3, ctaints3, Ftaints3, hck, hFk, hname3, hlabels3, hcpu3, hmem3, hslots3, htaints3⟩ := rd_Host hr
      subst hck
      have q0 : w.cell? ⟨bh, o + k * 6, none⟩ = some (.string x.hosts[k].name) := by exact hc 0 _ rfl
      have q1 : w.cell? ⟨bh, o + k * 6 + 1, none⟩ = some (.slice Alabels3 x.hosts[k].labels.length clabels3) := by rw [Nat.add_assoc]; exact hc 1 _ rfl
      have q2 : w.cell? ⟨bh, o + k * 6 + 2, none⟩ = some (.int .i64 x.hosts[k].cpu) := by rw [Nat.add_assoc]; exact hc 2 _ rfl
      have q3 : w.cell? ⟨bh, o + k * 6 + 3, none⟩ = some (.int .i64 x.hosts[k].mem) := by rw [Nat.add_assoc]; exact hc 3 _ rfl
      have q4 : w.cell? ⟨bh, o + k * 6 + 4, none⟩ = some (.int .i64 x.hosts[k].slots) := by rw [Nat.add_assoc]; exact hc 4 _ rfl
      have q5 : w.cell? ⟨bh, o + k * 6 + 5, none⟩ = some (.slice Ataints3 x.hosts[k].taints.length ctaints3) := by rw [Nat.add_assoc]; exact hc 5 _ rfl
      clear hc
      obtain ⟨S1, hS1⟩ : ∃ S, shareR (sumMost a p.cpu) x.hosts[k].cpu = S := ⟨_, rfl⟩
      obtain ⟨S2, hS2⟩ : ∃ S, shareR (sumMost b p.mem) x.hosts[k].mem = S := ⟨_, rfl⟩
      have hr1 := shareR_range (sumMost a p.cpu) x.hosts[k].cpu
      have hr2 := shareR_range (sumMost b p.mem) x.hosts[k].mem
      have hm1 := sumMost_I64 ha hcpu2
      have hm2 := sumMost_I64 hb hmem2
      rw [hS1, hS2] at hat
      rw [hS1] at hr1
      rw [hS2] at hr2
      have HF := Lib.hid hat
      clear hat
      have hsh : IntKind.i64.wrap (S1 + S2) = S1 + S2 := by rw [IntKind.wrap_i64]; omega
      have HW2 := Lib.hid (show IntKind.i64.wrap ((S1 + S2).tdiv 2) = (S1 + S2) / 2 by rw [Int.tdiv_eq_ediv_of_nonneg (by omega), IntKind.wrap_i64]; omega)
      have HS1 := Lib.hid hS1
      have HS2 := Lib.hid hS2
      clear hS1 hS2
      go_enter Tryz.func116, Tryz.ntmps116
      go_wp2_with fail
      refine (HostAt_impl x _ _ nm _ (rd_extT h (by repeat (first | with_reducible exact ext_refl _ | with_reducible assumption | with_reducible refine ext_alloc ?_ _ | with_reducible refine ext_trans ?_ (by assumption)))) hlen).mono ?_
      rw [HI.out]
      rintro e w2 ⟨rfl, hb2⟩
      obtain ⟨hc2, hf2⟩ := bcell hb2
      have hz2 : w.heap.size < w2.heap.size := (by have := hb2.size; (try simp at this); omega)
      have hy2 : w.heap.size + 1 < w2.heap.size := (by have := hb2.size; (try simp at this); omega)
      have hB2 : Below w.heap.size w w2 := (by repeat (first | with_reducible exact ext_refl _ | with_reducible assumption | with_reducible refine ext_alloc ?_ _ | with_reducible refine ext_trans ?_ (by assumption)))
      go_wp2_with fail
      refine (UsedOn_impl x _ _ nm _ (rd_extT h (by repeat (first | with_reducible exact ext_refl _ | with_reducible assumption | with_reducible refine ext_alloc ?_ _ | with_reducible refine ext_trans ?_ (by assumption)))) hplen).mono ?_
      rw [HU.out]
      rintro e w3 ⟨rfl, hb3⟩
      obtain ⟨hc3, hf3⟩ := bcell hb3
      have hz3 : w.heap.size < w3.heap.size := (by have := hb3.size; (try simp at this); omega)
      have hy3 : w.heap.size + 1 < w3.heap.size := (by have := hb3.size; (try simp at this); omega)
      have hB3 : Below w.heap.size w w3 := ext_trans hB2 hb3
      replace q0 := ((bcell hB3).1 bh _ hbs).trans q0
      replace q1 := ((bcell hB3).1 bh _ hbs).trans q1
      replace q2 := ((bcell hB3).1 bh _ hbs).trans q2
      replace q3 := ((bcell hB3).1 bh _ hbs).trans q3
      replace q4 := ((bcell hB3).1 bh _ hbs).trans q4
      replace q5 := ((bcell hB3).1 bh _ hbs).trans q5
      have hbs3 : bh < w3.heap.size := by have := hB3.size; omega
      go_wp2_with fail
      refine wp_region_grow w3 (by kernel_rfl) (by kernel_rfl) (ext_refl _) ?_
      repeat (first
        | (apply inText_skip
           case hw => rfl
           simp only [Act.put, List.setIfInBounds_toArray, List.set_cons_zero, List.set_cons_succ])
        | (apply inText_step
           case hw => rfl
           case h =>
             intro wq hq
             have hcq := (cls_cell hq).1
             have hfq := (cls_cell hq).2
             go_simp
             first
               | exact ⟨hq, rfl⟩
               | exact ⟨cls_alloc hq _, rfl⟩
               | (first | (refine (sumOrMost_impl _ _ _ (by first | assumption | (unfold I64; omega)) (by first | assumption | (unfold I64; omega))).mono ?_; rintro e wz ⟨rfl, hbz0⟩; exact ⟨rfl, cls_trans hq hbz0⟩) | (refine (ShareOf_impl _ _ _ (by first | assumption | (unfold I64; omega)) (by first | assumption | (unfold I64; omega))).mono ?_; (first | rw [HS1.out] | rw [HS2.out]); rintro e wz ⟨rfl, hbz0⟩; exact ⟨rfl, cls_trans hq hbz0⟩))
               | (simp only [↓IntWalk.iteOmega]; exact ⟨hq, rfl⟩)
           simp only [Act.put, List.setIfInBounds_toArray, List.set_cons_zero, List.set_cons_succ]))
      refine inText_nil ?_
      intro wn hn
      replace hn := hn.out
      go_wp2
      go_ret
      exact ⟨by rw [HF.out]; first | rfl | (simp; exact HW2.out), ext_trans hB3 hn⟩
set_option maxRecDepth 100000 in
set_option maxHeartbeats 4000000 in
theorem PackMark_spec (x : Cluster) (p : Pod) (cs ps : List Value) (F G : List Nat) (nm : ByteArray) (w : World) (h : rd w x cs F) (h' : rd w p ps G) (hw : (x.wt : Int) ≤ 1048576) (hw' : (p.wt : Int) ≤ 1048576) :
    Calls Tryz.prog 107 #[.agg cs.toArray, .string nm, .agg ps.toArray] w fun e w' => e = .returned (.int .i64 (packR nm x p)) ∧ Below w.heap.size w w' := by
  have hwx : x.wt = wtL Host.wt x.hosts + wtL Placed.wt x.pods := rfl
  have hlen : (x.hosts.length : Int) ≤ 1048576 := by have := wtL_len Host.wt x.hosts; omega
  have hplen : (x.pods.length : Int) ≤ 1048576 := by have := wtL_len Placed.wt x.pods; omega
  have hr := h
  have hr' := h'
  obtain ⟨Ahosts, chosts, Fhosts, Apods, cpods, Fpods, hck, hF, hhosts, hpods, hnext, hweightspack, hweightsspread, hweightssoft⟩ := rd_Cluster hr
  obtain ⟨Alabels2, clabels2, Flabels2, Aneeds2, cneeds2, Fneeds2, Atolerances2, ctolerances2, Ftolerances2, hck2, hG, hname2, hlabels2, hcpu2, hmem2, hrank2, hneeds2, htolerances2⟩ := rd_Pod hr'
  subst hck hck2
  clear hF hG hr hr'
  rcases idxI_ways (hostatP nm) x.hosts with hi | ⟨k, hk, hi⟩
  · have HF := Lib.hid (packR_no (p := p) hi)
    have HI := Lib.hid hi
    clear hi
    cases hs : sumsR (onL nm x.pods) with
    | none =>
      have HU := Lib.hid (usedV_none hs)
      clear hs
      go_enter Tryz.func107, Tryz.ntmps107
      go_wp2_with fail
      refine (HostAt_spec x _ _ nm _ (rd_extT h (by repeat (first | with_reducible exact ext_refl _ | with_reducible assumption | with_reducible refine ext_alloc ?_ _ | with_reducible refine ext_trans ?_ (by assumption)))) hlen).mono ?_
      rw [HI.out]
      rintro e w2 ⟨rfl, hb2⟩
      obtain ⟨hc2, hf2⟩ := bcell hb2
      have hz2 : w.heap.size < w2.heap.size := (by have := hb2.size; (try simp at this); omega)
      have hy2 : w.heap.size + 1 < w2.heap.size := (by have := hb2.size; (try simp at this); omega)
      have hB2 : Below w.heap.size w w2 := (by repeat (first | with_reducible exact ext_refl _ | with_reducible assumption | with_reducible refine ext_alloc ?_ _ | with_reducible refine ext_trans ?_ (by assumption)))
      go_wp2_with fail
      refine (UsedOn_spec x _ _ nm _ (rd_extT h (by repeat (first | with_reducible exact ext_refl _ | with_reducible assumption | with_reducible refine ext_alloc ?_ _ | with_reducible refine ext_trans ?_ (by assumption)))) hplen).mono ?_
      rw [HU.out]
      rintro e w3 ⟨rfl, hb3⟩
      obtain ⟨hc3, hf3⟩ := bcell hb3
      have hz3 : w.heap.size < w3.heap.size := (by have := hb3.size; (try simp at this); omega)
      have hy3 : w.heap.size + 1 < w3.heap.size := (by have := hb3.size; (try simp at this); omega)
      have hB3 : Below w.heap.size w w3 := ext_trans hB2 hb3
      go_wp2
      go_ret
      exact ⟨by rw [HF.out]; rfl, (by repeat (first | with_reducible exact ext_refl _ | with_reducible assumption | with_reducible refine ext_alloc ?_ _ | with_reducible refine ext_trans ?_ (by assumption)))⟩
    | some ab =>
      obtain ⟨a, b⟩ := ab
      have HU := Lib.hid (usedV_some hs)
      clear hs
      go_enter Tryz.func107, Tryz.ntmps107
      go_wp2_with fail
      refine (HostAt_spec x _ _ nm _ (rd_extT h (by repeat (first | with_reducible exact ext_refl _ | with_reducible assumption | with_reducible refine ext_alloc ?_ _ | with_reducible refine ext_trans ?_ (by assumption)))) hlen).mono ?_
      rw [HI.out]
      rintro e w2 ⟨rfl, hb2⟩
      obtain ⟨hc2, hf2⟩ := bcell hb2
      have hz2 : w.heap.size < w2.heap.size := (by have := hb2.size; (try simp at this); omega)
      have hy2 : w.heap.size + 1 < w2.heap.size := (by have := hb2.size; (try simp at this); omega)
      have hB2 : Below w.heap.size w w2 := (by repeat (first | with_reducible exact ext_refl _ | with_reducible assumption | with_reducible refine ext_alloc ?_ _ | with_reducible refine ext_trans ?_ (by assumption)))
      go_wp2_with fail
      refine (UsedOn_spec x _ _ nm _ (rd_extT h (by repeat (first | with_reducible exact ext_refl _ | with_reducible assumption | with_reducible refine ext_alloc ?_ _ | with_reducible refine ext_trans ?_ (by assumption)))) hplen).mono ?_
      rw [HU.out]
      rintro e w3 ⟨rfl, hb3⟩
      obtain ⟨hc3, hf3⟩ := bcell hb3
      have hz3 : w.heap.size < w3.heap.size := (by have := hb3.size; (try simp at this); omega)
      have hy3 : w.heap.size + 1 < w3.heap.size := (by have := hb3.size; (try simp at this); omega)
      have hB3 : Below w.heap.size w w3 := ext_trans hB2 hb3
      go_wp2
      go_ret
      exact ⟨by rw [HF.out]; rfl, (by repeat (first | with_reducible exact ext_refl _ | with_reducible assumption | with_reducible refine ext_alloc ?_ _ | with_reducible refine ext_trans ?_ (by assumption)))⟩
  · cases hs : sumsR (onL nm x.pods) with
    | none =>
      have HF := Lib.hid (packR_none (p := p) hs)
      have HI := Lib.hid hi
      clear hi
      have HU := Lib.hid (usedV_none hs)
      clear hs
      go_enter Tryz.func107, Tryz.ntmps107
      go_wp2_with fail
      refine (HostAt_spec x _ _ nm _ (rd_extT h (by repeat (first | with_reducible exact ext_refl _ | with_reducible assumption | with_reducible refine ext_alloc ?_ _ | with_reducible refine ext_trans ?_ (by assumption)))) hlen).mono ?_
      rw [HI.out]
      rintro e w2 ⟨rfl, hb2⟩
      obtain ⟨hc2, hf2⟩ := bcell hb2
      have hz2 : w.heap.size < w2.heap.size := (by have := hb2.size; (try simp at this); omega)
      have hy2 : w.heap.size + 1 < w2.heap.size := (by have := hb2.size; (try simp at this); omega)
      have hB2 : Below w.heap.size w w2 := (by repeat (first | with_reducible exact ext_refl _ | with_reducible assumption | with_reducible refine ext_alloc ?_ _ | with_reducible refine ext_trans ?_ (by assumption)))
      go_wp2_with fail
      refine (UsedOn_spec x _ _ nm _ (rd_extT h (by repeat (first | with_reducible exact ext_refl _ | with_reducible assumption | with_reducible refine ext_alloc ?_ _ | with_reducible refine ext_trans ?_ (by assumption)))) hplen).mono ?_
      rw [HU.out]
      rintro e w3 ⟨rfl, hb3⟩
      obtain ⟨hc3, hf3⟩ := bcell hb3
      have hz3 : w.heap.size < w3.heap.size := (by have := hb3.size; (try simp at this); omega)
      have hy3 : w.heap.size + 1 < w3.heap.size := (by have := hb3.size; (try simp at this); omega)
      have hB3 : Below w.heap.size w w3 := ext_trans hB2 hb3
      go_wp2
      go_ret
      exact ⟨by rw [HF.out]; rfl, (by repeat (first | with_reducible exact ext_refl _ | with_reducible assumption | with_reducible refine ext_alloc ?_ _ | with_reducible refine ext_trans ?_ (by assumption)))⟩
    | some ab =>
      obtain ⟨a, b⟩ := ab
      have hat := packR_at (p := p) hk hi hs
      obtain ⟨ha, hb⟩ := used_I64 (A := Apods) (c := cpods) hpods hs
      have HI := Lib.hid hi
      clear hi
      have HU := Lib.hid (usedV_some hs)
      clear hs
      have hL := onL_len nm x.pods
      generalize (onL nm x.pods).length = L at hat HU hL
      have hLi : (L : Int) ≤ 1048576 := by omega
      clear hL
      obtain ⟨bh, o, ck, Fk, rfl, hbF, hbs, hr, hsub, hc⟩ := Sl.get (α := Host) (A := Ahosts) (c := chosts) hhosts hk
      obtain ⟨Alabels3, clabels3, Flabels3, Ataints3, ctaints3, Ftaints3, hck, hFk, hname3, hlabels3, hcpu3, hmem3, hslots3, htaints3⟩ := rd_Host hr
      subst hck
      have q0 : w.cell? ⟨bh, o + k * 6, none⟩ = some (.string x.hosts[k].name) := by exact hc 0 _ rfl
      have q1 : w.cell? ⟨bh, o + k * 6 + 1, none⟩ = some (.slice Alabels3 x.hosts[k].labels.length clabels3) := by rw [Nat.add_assoc]; exact hc 1 _ rfl
      have q2 : w.cell? ⟨bh, o + k * 6 + 2, none⟩ = some (.int .i64 x.hosts[k].cpu) := by rw [Nat.add_assoc]; exact hc 2 _ rfl
      have q3 : w.cell? ⟨bh, o + k * 6 + 3, none⟩ = some (.int .i64 x.hosts[k].mem) := by rw [Nat.add_assoc]; exact hc 3 _ rfl
      have q4 : w.cell? ⟨bh, o + k * 6 + 4, none⟩ = some (.int .i64 x.hosts[k].slots) := by rw [Nat.add_assoc]; exact hc 4 _ rfl
      have q5 : w.cell? ⟨bh, o + k * 6 + 5, none⟩ = some (.slice Ataints3 x.hosts[k].taints.length ctaints3) := by rw [Nat.add_assoc]; exact hc 5 _ rfl
      clear hc
      obtain ⟨S1, hS1⟩ : ∃ S, shareR (sumMost a p.cpu) x.hosts[k].cpu = S := ⟨_, rfl⟩
      obtain ⟨S2, hS2⟩ : ∃ S, shareR (sumMost b p.mem) x.hosts[k].mem = S := ⟨_, rfl⟩
      have hr1 := shareR_range (sumMost a p.cpu) x.hosts[k].cpu
      have hr2 := shareR_range (sumMost b p.mem) x.hosts[k].mem
      have hm1 := sumMost_I64 ha hcpu2
      have hm2 := sumMost_I64 hb hmem2
      rw [hS1, hS2] at hat
      rw [hS1] at hr1
      rw [hS2] at hr2
      have HF := Lib.hid hat
      clear hat
      have hsh : IntKind.i64.wrap (S1 + S2) = S1 + S2 := by rw [IntKind.wrap_i64]; omega
      have HW2 := Lib.hid (show IntKind.i64.wrap ((S1 + S2).tdiv 2) = (S1 + S2) / 2 by rw [Int.tdiv_eq_ediv_of_nonneg (by omega), IntKind.wrap_i64]; omega)
      cases he1 : addI a p.cpu with
      | none =>
        rw [show sumMost a p.cpu = 9223372036854775807 by unfold sumMost; rw [he1]; rfl] at hS1 hm1
        cases he2 : addI b p.mem with
        | none =>
          rw [show sumMost b p.mem = 9223372036854775807 by unfold sumMost; rw [he2]; rfl] at hS2 hm2
          have HS1 := Lib.hid hS1
          have HS2 := Lib.hid hS2
          have H1 := Lib.hid he1
          have H2 := Lib.hid he2
          clear hS1 hS2 he1 he2
          go_enter Tryz.func107, Tryz.ntmps107
          go_wp2_with fail
          refine (HostAt_spec x _ _ nm _ (rd_extT h (by repeat (first | with_reducible exact ext_refl _ | with_reducible assumption | with_reducible refine ext_alloc ?_ _ | with_reducible refine ext_trans ?_ (by assumption)))) hlen).mono ?_
          rw [HI.out]
          rintro e w2 ⟨rfl, hb2⟩
          obtain ⟨hc2, hf2⟩ := bcell hb2
          have hz2 : w.heap.size < w2.heap.size := (by have := hb2.size; (try simp at this); omega)
          have hy2 : w.heap.size + 1 < w2.heap.size := (by have := hb2.size; (try simp at this); omega)
          have hB2 : Below w.heap.size w w2 := (by repeat (first | with_reducible exact ext_refl _ | with_reducible assumption | with_reducible refine ext_alloc ?_ _ | with_reducible refine ext_trans ?_ (by assumption)))
          go_wp2_with fail
          refine (UsedOn_spec x _ _ nm _ (rd_extT h (by repeat (first | with_reducible exact ext_refl _ | with_reducible assumption | with_reducible refine ext_alloc ?_ _ | with_reducible refine ext_trans ?_ (by assumption)))) hplen).mono ?_
          rw [HU.out]
          rintro e w3 ⟨rfl, hb3⟩
          obtain ⟨hc3, hf3⟩ := bcell hb3
          have hz3 : w.heap.size < w3.heap.size := (by have := hb3.size; (try simp at this); omega)
          have hy3 : w.heap.size + 1 < w3.heap.size := (by have := hb3.size; (try simp at this); omega)
          have hB3 : Below w.heap.size w w3 := ext_trans hB2 hb3
          replace q0 := ((bcell hB3).1 bh _ hbs).trans q0
          replace q1 := ((bcell hB3).1 bh _ hbs).trans q1
          replace q2 := ((bcell hB3).1 bh _ hbs).trans q2
          replace q3 := ((bcell hB3).1 bh _ hbs).trans q3
          replace q4 := ((bcell hB3).1 bh _ hbs).trans q4
          replace q5 := ((bcell hB3).1 bh _ hbs).trans q5
          have hbs3 : bh < w3.heap.size := by have := hB3.size; omega
          go_wp2_with fail
          refine (AddInt_spec a p.cpu _ ha hcpu2).mono ?_
          rw [H1.out]
          rintro e w4 ⟨rfl, hb4⟩
          obtain ⟨hc4, hf4⟩ := bcell hb4
          have hz4 : w.heap.size < w4.heap.size := (by have := hb4.size; (try simp at this); omega)
          have hy4 : w.heap.size + 1 < w4.heap.size := (by have := hb4.size; (try simp at this); omega)
          go_wp2_with fail
          refine (AddInt_spec b p.mem _ hb hmem2).mono ?_
          rw [H2.out]
          rintro e w5 ⟨rfl, hb5⟩
          obtain ⟨hc5, hf5⟩ := bcell hb5
          have hz5 : w.heap.size < w5.heap.size := (by have := hb5.size; (try simp at this); omega)
          have hy5 : w.heap.size + 1 < w5.heap.size := (by have := hb5.size; (try simp at this); omega)
          have hB5 : Below w3.heap.size w3 w5 := ext_trans hb4 hb5
          replace q0 := ((bcell hB5).1 bh _ hbs3).trans q0
          replace q1 := ((bcell hB5).1 bh _ hbs3).trans q1
          replace q2 := ((bcell hB5).1 bh _ hbs3).trans q2
          replace q3 := ((bcell hB5).1 bh _ hbs3).trans q3
          replace q4 := ((bcell hB5).1 bh _ hbs3).trans q4
          replace q5 := ((bcell hB5).1 bh _ hbs3).trans q5
          have hbs5 : bh < w5.heap.size := by have := hB5.size; omega
          go_wp2_with fail
          refine wp_region_grow w5 (by kernel_rfl) (by kernel_rfl) (ext_refl _) ?_
          repeat (first
            | (apply inText_skip
               case hw => rfl
               simp only [Act.put, List.setIfInBounds_toArray, List.set_cons_zero, List.set_cons_succ])
            | (apply inText_step
               case hw => rfl
               case h =>
                 intro wq hq
                 have hcq := (cls_cell hq).1
                 have hfq := (cls_cell hq).2
                 go_simp
                 first
                   | exact ⟨hq, rfl⟩
                   | exact ⟨cls_alloc hq _, rfl⟩
                   | ((refine (ShareOf_spec _ _ _ (by first | assumption | (unfold I64; omega)) (by first | assumption | (unfold I64; omega))).mono ?_; (first | rw [HS1.out] | rw [HS2.out]); rintro e wz ⟨rfl, hbz0⟩; exact ⟨rfl, cls_trans hq hbz0⟩))
                   | (simp only [↓IntWalk.iteOmega]; exact ⟨hq, rfl⟩)
               simp only [Act.put, List.setIfInBounds_toArray, List.set_cons_zero, List.set_cons_succ]))
          refine inText_nil ?_
          intro wn hn
          replace hn := hn.out
          go_wp2
          go_ret
          exact ⟨by rw [HF.out]; first | rfl | (simp; exact HW2.out), ext_trans hB3 (ext_trans hB5 hn)⟩
        | some s2 =>
          rw [show sumMost b p.mem = s2 by unfold sumMost; rw [he2]; rfl] at hS2 hm2
          have HS1 := Lib.hid hS1
          have HS2 := Lib.hid hS2
          have H1 := Lib.hid he1
          have H2 := Lib.hid he2
          clear hS1 hS2 he1 he2
          go_enter Tryz.func107, Tryz.ntmps107
          go_wp2_with fail
          refine (HostAt_spec x _ _ nm _ (rd_extT h (by repeat (first | with_reducible exact ext_refl _ | with_reducible assumption | with_reducible refine ext_alloc ?_ _ | with_reducible refine ext_trans ?_ (by assumption)))) hlen).mono ?_
          rw [HI.out]
          rintro e w2 ⟨rfl, hb2⟩
          obtain ⟨hc2, hf2⟩ := bcell hb2
          have hz2 : w.heap.size < w2.heap.size := (by have := hb2.size; (try simp at this); omega)
          have hy2 : w.heap.size + 1 < w2.heap.size := (by have := hb2.size; (try simp at this); omega)
          have hB2 : Below w.heap.size w w2 := (by repeat (first | with_reducible exact ext_refl _ | with_reducible assumption | with_reducible refine ext_alloc ?_ _ | with_reducible refine ext_trans ?_ (by assumption)))
          go_wp2_with fail
          refine (UsedOn_spec x _ _ nm _ (rd_extT h (by repeat (first | with_reducible exact ext_refl _ | with_reducible assumption | with_reducible refine ext_alloc ?_ _ | with_reducible refine ext_trans ?_ (by assumption)))) hplen).mono ?_
          rw [HU.out]
          rintro e w3 ⟨rfl, hb3⟩
          obtain ⟨hc3, hf3⟩ := bcell hb3
          have hz3 : w.heap.size < w3.heap.size := (by have := hb3.size; (try simp at this); omega)
          have hy3 : w.heap.size + 1 < w3.heap.size := (by have := hb3.size; (try simp at this); omega)
          have hB3 : Below w.heap.size w w3 := ext_trans hB2 hb3
          replace q0 := ((bcell hB3).1 bh _ hbs).trans q0
          replace q1 := ((bcell hB3).1 bh _ hbs).trans q1
          replace q2 := ((bcell hB3).1 bh _ hbs).trans q2
          replace q3 := ((bcell hB3).1 bh _ hbs).trans q3
          replace q4 := ((bcell hB3).1 bh _ hbs).trans q4
          replace q5 := ((bcell hB3).1 bh _ hbs).trans q5
          have hbs3 : bh < w3.heap.size := by have := hB3.size; omega
          go_wp2_with fail
          refine (AddInt_spec a p.cpu _ ha hcpu2).mono ?_
          rw [H1.out]
          rintro e w4 ⟨rfl, hb4⟩
          obtain ⟨hc4, hf4⟩ := bcell hb4
          have hz4 : w.heap.size < w4.heap.size := (by have := hb4.size; (try simp at this); omega)
          have hy4 : w.heap.size + 1 < w4.heap.size := (by have := hb4.size; (try simp at this); omega)
          go_wp2_with fail
          refine (AddInt_spec b p.mem _ hb hmem2).mono ?_
          rw [H2.out]
          rintro e w5 ⟨rfl, hb5⟩
          obtain ⟨hc5, hf5⟩ := bcell hb5
          have hz5 : w.heap.size < w5.heap.size := (by have := hb5.size; (try simp at this); omega)
          have hy5 : w.heap.size + 1 < w5.heap.size := (by have := hb5.size; (try simp at this); omega)
          have hB5 : Below w3.heap.size w3 w5 := ext_trans hb4 hb5
          replace q0 := ((bcell hB5).1 bh _ hbs3).trans q0
          replace q1 := ((bcell hB5).1 bh _ hbs3).trans q1
          replace q2 := ((bcell hB5).1 bh _ hbs3).trans q2
          replace q3 := ((bcell hB5).1 bh _ hbs3).trans q3
          replace q4 := ((bcell hB5).1 bh _ hbs3).trans q4
          replace q5 := ((bcell hB5).1 bh _ hbs3).trans q5
          have hbs5 : bh < w5.heap.size := by have := hB5.size; omega
          go_wp2_with fail
          refine wp_region_grow w5 (by kernel_rfl) (by kernel_rfl) (ext_refl _) ?_
          repeat (first
            | (apply inText_skip
               case hw => rfl
               simp only [Act.put, List.setIfInBounds_toArray, List.set_cons_zero, List.set_cons_succ])
            | (apply inText_step
               case hw => rfl
               case h =>
                 intro wq hq
                 have hcq := (cls_cell hq).1
                 have hfq := (cls_cell hq).2
                 go_simp
                 first
                   | exact ⟨hq, rfl⟩
                   | exact ⟨cls_alloc hq _, rfl⟩
                   | ((refine (ShareOf_spec _ _ _ (by first | assumption | (unfold I64; omega)) (by first | assumption | (unfold I64; omega))).mono ?_; (first | rw [HS1.out] | rw [HS2.out]); rintro e wz ⟨rfl, hbz0⟩; exact ⟨rfl, cls_trans hq hbz0⟩))
                   | (simp only [↓IntWalk.iteOmega]; exact ⟨hq, rfl⟩)
               simp only [Act.put, List.setIfInBounds_toArray, List.set_cons_zero, List.set_cons_succ]))
          refine inText_nil ?_
          intro wn hn
          replace hn := hn.out
          go_wp2
          go_ret
          exact ⟨by rw [HF.out]; first | rfl | (simp; exact HW2.out), ext_trans hB3 (ext_trans hB5 hn)⟩
      | some s1 =>
        rw [show sumMost a p.cpu = s1 by unfold sumMost; rw [he1]; rfl] at hS1 hm1
        cases he2 : addI b p.mem with
        | none =>
          rw [show sumMost b p.mem = 9223372036854775807 by unfold sumMost; rw [he2]; rfl] at hS2 hm2
          have HS1 := Lib.hid hS1
          have HS2 := Lib.hid hS2
          have H1 := Lib.hid he1
          have H2 := Lib.hid he2
          clear hS1 hS2 he1 he2
          go_enter Tryz.func107, Tryz.ntmps107
          go_wp2_with fail
          refine (HostAt_spec x _ _ nm _ (rd_extT h (by repeat (first | with_reducible exact ext_refl _ | with_reducible assumption | with_reducible refine ext_alloc ?_ _ | with_reducible refine ext_trans ?_ (by assumption)))) hlen).mono ?_
          rw [HI.out]
          rintro e w2 ⟨rfl, hb2⟩
          obtain ⟨hc2, hf2⟩ := bcell hb2
          have hz2 : w.heap.size < w2.heap.size := (by have := hb2.size; (try simp at this); omega)
          have hy2 : w.heap.size + 1 < w2.heap.size := (by have := hb2.size; (try simp at this); omega)
          have hB2 : Below w.heap.size w w2 := (by repeat (first | with_reducible exact ext_refl _ | with_reducible assumption | with_reducible refine ext_alloc ?_ _ | with_reducible refine ext_trans ?_ (by assumption)))
          go_wp2_with fail
          refine (UsedOn_spec x _ _ nm _ (rd_extT h (by repeat (first | with_reducible exact ext_refl _ | with_reducible assumption | with_reducible refine ext_alloc ?_ _ | with_reducible refine ext_trans ?_ (by assumption)))) hplen).mono ?_
          rw [HU.out]
          rintro e w3 ⟨rfl, hb3⟩
          obtain ⟨hc3, hf3⟩ := bcell hb3
          have hz3 : w.heap.size < w3.heap.size := (by have := hb3.size; (try simp at this); omega)
          have hy3 : w.heap.size + 1 < w3.heap.size := (by have := hb3.size; (try simp at this); omega)
          have hB3 : Below w.heap.size w w3 := ext_trans hB2 hb3
          replace q0 := ((bcell hB3).1 bh _ hbs).trans q0
          replace q1 := ((bcell hB3).1 bh _ hbs).trans q1
          replace q2 := ((bcell hB3).1 bh _ hbs).trans q2
          replace q3 := ((bcell hB3).1 bh _ hbs).trans q3
          replace q4 := ((bcell hB3).1 bh _ hbs).trans q4
          replace q5 := ((bcell hB3).1 bh _ hbs).trans q5
          have hbs3 : bh < w3.heap.size := by have := hB3.size; omega
          go_wp2_with fail
          refine (AddInt_spec a p.cpu _ ha hcpu2).mono ?_
          rw [H1.out]
          rintro e w4 ⟨rfl, hb4⟩
          obtain ⟨hc4, hf4⟩ := bcell hb4
          have hz4 : w.heap.size < w4.heap.size := (by have := hb4.size; (try simp at this); omega)
          have hy4 : w.heap.size + 1 < w4.heap.size := (by have := hb4.size; (try simp at this); omega)
          go_wp2_with fail
          refine (AddInt_spec b p.mem _ hb hmem2).mono ?_
          rw [H2.out]
          rintro e w5 ⟨rfl, hb5⟩
          obtain ⟨hc5, hf5⟩ := bcell hb5
          have hz5 : w.heap.size < w5.heap.size := (by have := hb5.size; (try simp at this); omega)
          have hy5 : w.heap.size + 1 < w5.heap.size := (by have := hb5.size; (try simp at this); omega)
          have hB5 : Below w3.heap.size w3 w5 := ext_trans hb4 hb5
          replace q0 := ((bcell hB5).1 bh _ hbs3).trans q0
          replace q1 := ((bcell hB5).1 bh _ hbs3).trans q1
          replace q2 := ((bcell hB5).1 bh _ hbs3).trans q2
          replace q3 := ((bcell hB5).1 bh _ hbs3).trans q3
          replace q4 := ((bcell hB5).1 bh _ hbs3).trans q4
          replace q5 := ((bcell hB5).1 bh _ hbs3).trans q5
          have hbs5 : bh < w5.heap.size := by have := hB5.size; omega
          go_wp2_with fail
          refine wp_region_grow w5 (by kernel_rfl) (by kernel_rfl) (ext_refl _) ?_
          repeat (first
            | (apply inText_skip
               case hw => rfl
               simp only [Act.put, List.setIfInBounds_toArray, List.set_cons_zero, List.set_cons_succ])
            | (apply inText_step
               case hw => rfl
               case h =>
                 intro wq hq
                 have hcq := (cls_cell hq).1
                 have hfq := (cls_cell hq).2
                 go_simp
                 first
                   | exact ⟨hq, rfl⟩
                   | exact ⟨cls_alloc hq _, rfl⟩
                   | ((refine (ShareOf_spec _ _ _ (by first | assumption | (unfold I64; omega)) (by first | assumption | (unfold I64; omega))).mono ?_; (first | rw [HS1.out] | rw [HS2.out]); rintro e wz ⟨rfl, hbz0⟩; exact ⟨rfl, cls_trans hq hbz0⟩))
                   | (simp only [↓IntWalk.iteOmega]; exact ⟨hq, rfl⟩)
               simp only [Act.put, List.setIfInBounds_toArray, List.set_cons_zero, List.set_cons_succ]))
          refine inText_nil ?_
          intro wn hn
          replace hn := hn.out
          go_wp2
          go_ret
          exact ⟨by rw [HF.out]; first | rfl | (simp; exact HW2.out), ext_trans hB3 (ext_trans hB5 hn)⟩
        | some s2 =>
          rw [show sumMost b p.mem = s2 by unfold sumMost; rw [he2]; rfl] at hS2 hm2
          have HS1 := Lib.hid hS1
          have HS2 := Lib.hid hS2
          have H1 := Lib.hid he1
          have H2 := Lib.hid he2
          clear hS1 hS2 he1 he2
          go_enter Tryz.func107, Tryz.ntmps107
          go_wp2_with fail
          refine (HostAt_spec x _ _ nm _ (rd_extT h (by repeat (first | with_reducible exact ext_refl _ | with_reducible assumption | with_reducible refine ext_alloc ?_ _ | with_reducible refine ext_trans ?_ (by assumption)))) hlen).mono ?_
          rw [HI.out]
          rintro e w2 ⟨rfl, hb2⟩
          obtain ⟨hc2, hf2⟩ := bcell hb2
          have hz2 : w.heap.size < w2.heap.size := (by have := hb2.size; (try simp at this); omega)
          have hy2 : w.heap.size + 1 < w2.heap.size := (by have := hb2.size; (try simp at this); omega)
          have hB2 : Below w.heap.size w w2 := (by repeat (first | with_reducible exact ext_refl _ | with_reducible assumption | with_reducible refine ext_alloc ?_ _ | with_reducible refine ext_trans ?_ (by assumption)))
          go_wp2_with fail
          refine (UsedOn_spec x _ _ nm _ (rd_extT h (by repeat (first | with_reducible exact ext_refl _ | with_reducible assumption | with_reducible refine ext_alloc ?_ _ | with_reducible refine ext_trans ?_ (by assumption)))) hplen).mono ?_
          rw [HU.out]
          rintro e w3 ⟨rfl, hb3⟩
          obtain ⟨hc3, hf3⟩ := bcell hb3
          have hz3 : w.heap.size < w3.heap.size := (by have := hb3.size; (try simp at this); omega)
          have hy3 : w.heap.size + 1 < w3.heap.size := (by have := hb3.size; (try simp at this); omega)
          have hB3 : Below w.heap.size w w3 := ext_trans hB2 hb3
          replace q0 := ((bcell hB3).1 bh _ hbs).trans q0
          replace q1 := ((bcell hB3).1 bh _ hbs).trans q1
          replace q2 := ((bcell hB3).1 bh _ hbs).trans q2
          replace q3 := ((bcell hB3).1 bh _ hbs).trans q3
          replace q4 := ((bcell hB3).1 bh _ hbs).trans q4
          replace q5 := ((bcell hB3).1 bh _ hbs).trans q5
          have hbs3 : bh < w3.heap.size := by have := hB3.size; omega
          go_wp2_with fail
          refine (AddInt_spec a p.cpu _ ha hcpu2).mono ?_
          rw [H1.out]
          rintro e w4 ⟨rfl, hb4⟩
          obtain ⟨hc4, hf4⟩ := bcell hb4
          have hz4 : w.heap.size < w4.heap.size := (by have := hb4.size; (try simp at this); omega)
          have hy4 : w.heap.size + 1 < w4.heap.size := (by have := hb4.size; (try simp at this); omega)
          go_wp2_with fail
          refine (AddInt_spec b p.mem _ hb hmem2).mono ?_
          rw [H2.out]
          rintro e w5 ⟨rfl, hb5⟩
          obtain ⟨hc5, hf5⟩ := bcell hb5
          have hz5 : w.heap.size < w5.heap.size := (by have := hb5.size; (try simp at this); omega)
          have hy5 : w.heap.size + 1 < w5.heap.size := (by have := hb5.size; (try simp at this); omega)
          have hB5 : Below w3.heap.size w3 w5 := ext_trans hb4 hb5
          replace q0 := ((bcell hB5).1 bh _ hbs3).trans q0
          replace q1 := ((bcell hB5).1 bh _ hbs3).trans q1
          replace q2 := ((bcell hB5).1 bh _ hbs3).trans q2
          replace q3 := ((bcell hB5).1 bh _ hbs3).trans q3
          replace q4 := ((bcell hB5).1 bh _ hbs3).trans q4
          replace q5 := ((bcell hB5).1 bh _ hbs3).trans q5
          have hbs5 : bh < w5.heap.size := by have := hB5.size; omega
          go_wp2_with fail
          refine wp_region_grow w5 (by kernel_rfl) (by kernel_rfl) (ext_refl _) ?_
          repeat (first
            | (apply inText_skip
               case hw => rfl
               simp only [Act.put, List.setIfInBounds_toArray, List.set_cons_zero, List.set_cons_succ])
            | (apply inText_step
               case hw => rfl
               case h =>
                 intro wq hq
                 have hcq := (cls_cell hq).1
                 have hfq := (cls_cell hq).2
                 go_simp
                 first
                   | exact ⟨hq, rfl⟩
                   | exact ⟨cls_alloc hq _, rfl⟩
                   | ((refine (ShareOf_spec _ _ _ (by first | assumption | (unfold I64; omega)) (by first | assumption | (unfold I64; omega))).mono ?_; (first | rw [HS1.out] | rw [HS2.out]); rintro e wz ⟨rfl, hbz0⟩; exact ⟨rfl, cls_trans hq hbz0⟩))
                   | (simp only [↓IntWalk.iteOmega]; exact ⟨hq, rfl⟩)
               simp only [Act.put, List.setIfInBounds_toArray, List.set_cons_zero, List.set_cons_succ]))
          refine inText_nil ?_
          intro wn hn
          replace hn := hn.out
          go_wp2
          go_ret
          exact ⟨by rw [HF.out]; first | rfl | (simp; exact HW2.out), ext_trans hB3 (ext_trans hB5 hn)⟩

end Go.Proofs.YtjoclfenghenjaaGreat
