/- placeBytes, l26Places. No condition. -/
import Derived.Test.YtomffjhadgelkaaGreatSnapP
namespace Go.Proofs.YtomffjhadgelkaaGreat
open Go.ChangeShapes Go.WideShapes Go.ChangeAt Go.RowKit
set_option linter.unusedVariables false
set_option linter.unusedSimpArgs false
set_option maxRecDepth 100000 in
set_option maxHeartbeats 2000000 in
theorem placeBytes_impl (x : Cluster) (cs : List Value) (F : List Nat) (p : Placed) (ds : List Value) (G : List Nat) (w : World) (h : rd w x cs F) (hp : rd w p ds G) (hl : (x.hosts.length : Int) ≤ 1048576) :
    Calls Tryz.prog 53 #[.agg cs.toArray, .agg ds.toArray] w fun e w' => e = .returned (.string (placeB x p)) ∧ Below w.heap.size w w' := by
  have hI := idx_I64 (hostatP p.on) x.hosts hl
  have hlt := idxI_lt (p := hostatP p.on) x.hosts
  have hv1 := varText_size _ hI
  have hwr : IntKind.i64.wrap (1 + idxI (hostatP p.on) x.hosts) = 1 + idxI (hostatP p.on) x.hosts := by rw [IntKind.wrap_i64]; omega
  have hwr2 : IntKind.i64.wrap (idxI (hostatP p.on) x.hosts + 1) = 1 + idxI (hostatP p.on) x.hosts := by rw [IntKind.wrap_i64]; omega
  have hr := h
  have hpr := hp
  obtain ⟨Ahosts, chosts, Fhosts, Apods, cpods, Fpods, hck, hF, hhosts, hpods, hnext, hweightspack, hweightsspread, hweightssoft⟩ := rd_Cluster hr
  subst hck
  obtain ⟨Apodlabels2, cpodlabels2, Fpodlabels2, Apodneeds2, cpodneeds2, Fpodneeds2, Apodtolerances2, cpodtolerances2, Fpodtolerances2, hck, hF2, hpodname2, hpodlabels2, hpodcpu2, hpodmem2, hpodrank2, hpodneeds2, hpodtolerances2, hon2, hseq2⟩ := rd_Placed hpr
  subst hck
  clear hr hF hpr hF2
  have hv2 := varText_size p.seq hseq2
  go_enter Tryz.func53, Tryz.ntmps53
  go_wp2_with fail
  refine wp_region_grow _ (by kernel_rfl) (by kernel_rfl) (ext_refl _) ?_
  repeat (first
    | (apply inText_skip
       case hw => rfl
       simp only [Act.put, List.setIfInBounds_toArray, List.set_cons_zero, List.set_cons_succ])
    | (apply inText_step
       case hw => rfl
       case h =>
         intro wq hq
         have hcq := (cls_cell hq).1
         have hfq := (cls_cell hq).2
         go_simp
         first
           | exact ⟨hq, rfl⟩
           | exact ⟨cls_alloc hq _, rfl⟩
           | (first | (refine (HostAt_impl x _ _ p.on _ (rd_extT h (ext_trans (by repeat (first | with_reducible exact ext_refl _ | with_reducible assumption | with_reducible refine ext_alloc ?_ _ | with_reducible refine ext_trans ?_ (by assumption))) hq)) hl).mono ?_; rintro e wz ⟨rfl, hbz0⟩; exact ⟨rfl, cls_trans hq hbz0⟩) | ((try rw [hwr]); (try rw [hwr2]); refine (VarText_impl _ _ (by first | assumption | (unfold I64; omega))).mono ?_; rintro e wz ⟨rfl, hbz0⟩; exact ⟨rfl, cls_trans hq hbz0⟩))
           | (simp only [↓IntWalk.iteOmega]; exact ⟨hq, rfl⟩)
       simp only [Act.put, List.setIfInBounds_toArray, List.set_cons_zero, List.set_cons_succ]))
  refine inText_nil ?_
  intro wn hn
  replace hn := hn.out
  go_wp2
  go_ret
  exact ⟨rfl, (by repeat (first | with_reducible exact ext_refl _ | with_reducible assumption | with_reducible refine ext_alloc ?_ _ | with_reducible refine ext_trans ?_ (by assumption)))⟩
set_option maxRecDepth 100000 in
set_option maxHeartbeats 2000000 in
theorem l26Places_spec (x : Cluster) (cs : List Value) (F : List Nat) (p : Placed) (ds : List Value) (G : List Nat) (w : World) (h : rd w x cs F) (hp : rd w p ds G) (hl : (x.hosts.length : Int) ≤ 1048576) (hc : clusterR x = true) :
    Calls Tryz.prog 48 #[.agg cs.toArray, .agg ds.toArray] w fun e w' => e = .returned (.string (placeB x p)) ∧ Below w.heap.size w w' := by
  have hI := idx_I64 (hostatP p.on) x.hosts hl
  have hlt := idxI_lt (p := hostatP p.on) x.hosts
  have hv1 := varText_size _ hI
  have hwr : IntKind.i64.wrap (1 + idxI (hostatP p.on) x.hosts) = 1 + idxI (hostatP p.on) x.hosts := by rw [IntKind.wrap_i64]; omega
  have hwr2 : IntKind.i64.wrap (idxI (hostatP p.on) x.hosts + 1) = 1 + idxI (hostatP p.on) x.hosts := by rw [IntKind.wrap_i64]; omega
  have hr := h
  have hpr := hp
  obtain ⟨Ahosts, chosts, Fhosts, Apods, cpods, Fpods, hck, hF, hhosts, hpods, hnext, hweightspack, hweightsspread, hweightssoft⟩ := rd_Cluster hr
  subst hck
  obtain ⟨Apodlabels2, cpodlabels2, Fpodlabels2, Apodneeds2, cpodneeds2, Fpodneeds2, Apodtolerances2, cpodtolerances2, Fpodtolerances2, hck, hF2, hpodname2, hpodlabels2, hpodcpu2, hpodmem2, hpodrank2, hpodneeds2, hpodtolerances2, hon2, hseq2⟩ := rd_Placed hpr
  subst hck
  clear hr hF hpr hF2
  have hv2 := varText_size p.seq hseq2
  have HC := Lib.hid hc
  clear hc
  cases hon : (p.on.toList == []) with
  | true =>
    have hm := idx_empty HC.out hon
    have HPB := Lib.hid (show placeB x p = varText 0 ++ varText p.seq by unfold placeB; rw [hm]; rfl)
    have hv0 := varText_size 0 (by unfold I64; omega)
    clear hm
    go_enter Tryz.func48, Tryz.ntmps48
    go_wp2_with fail
    refine wp_region_grow _ (by kernel_rfl) (by kernel_rfl) (ext_refl _) ?_
    repeat (first
      | (apply inText_skip
         case hw => rfl
         simp only [Act.put, List.setIfInBounds_toArray, List.set_cons_zero, List.set_cons_succ])
      | (apply inText_step
         case hw => rfl
         case h =>
           intro wq hq
           have hcq := (cls_cell hq).1
           have hfq := (cls_cell hq).2
           go_simp
           first
             | exact ⟨hq, rfl⟩
             | exact ⟨cls_alloc hq _, rfl⟩
             | (first | (refine (HostAt_spec x _ _ p.on _ (rd_extT h (ext_trans (by repeat (first | with_reducible exact ext_refl _ | with_reducible assumption | with_reducible refine ext_alloc ?_ _ | with_reducible refine ext_trans ?_ (by assumption))) hq)) hl).mono ?_; rintro e wz ⟨rfl, hbz0⟩; exact ⟨rfl, cls_trans hq hbz0⟩) | ((try rw [hwr]); (try rw [hwr2]); refine (VarText_spec _ _ (by first | assumption | (unfold I64; omega))).mono ?_; rintro e wz ⟨rfl, hbz0⟩; exact ⟨rfl, cls_trans hq hbz0⟩))
             | (simp only [↓IntWalk.iteOmega]; exact ⟨hq, rfl⟩)
         simp only [Act.put, List.setIfInBounds_toArray, List.set_cons_zero, List.set_cons_succ]))
    refine inText_nil ?_
    intro wn hn
    replace hn := hn.out
    go_wp2
    go_ret
    exact ⟨by rw [HPB.out]; rfl, (by repeat (first | with_reducible exact ext_refl _ | with_reducible assumption | with_reducible refine ext_alloc ?_ _ | with_reducible refine ext_trans ?_ (by assumption)))⟩
  | false =>
    go_enter Tryz.func48, Tryz.ntmps48
    go_wp2_with fail
    refine (HostAt_spec x _ _ p.on _ (rd_extT h (by repeat (first | with_reducible exact ext_refl _ | with_reducible assumption | with_reducible refine ext_alloc ?_ _ | with_reducible refine ext_trans ?_ (by assumption)))) hl).mono ?_
    rintro e w2 ⟨rfl, hb2⟩
    obtain ⟨hc2, hf2⟩ := bcell hb2; have hz2 : w.heap.size < w2.heap.size := (by have := hb2.size; (try simp at this); omega)
    have hy2 : w.heap.size + 1 < w2.heap.size := by have := hb2.size; simp at this; omega
    have kb : w2.cell? ⟨w.heap.size + 1, 8, none⟩ = some (.int .i64 p.seq) := by rw [hc2 _ _ (by simp)]; rw [cell_of_row _ _ _ _ _ _ (by have e := heap_alloc_new (w.alloc (.cells #[.slice Ahosts x.hosts.length chosts, .slice Apods x.pods.length cpods, .int .i64 x.next, .int .i64 x.weights.pack, .int .i64 x.weights.spread, .int .i64 x.weights.soft] 41)); simpa using e _)]; rfl
    go_wp2_with fail
    refine wp_region_grow _ (by kernel_rfl) (by kernel_rfl) (ext_refl _) ?_
    repeat (first
      | (apply inText_skip
         case hw => rfl
         simp only [Act.put, List.setIfInBounds_toArray, List.set_cons_zero, List.set_cons_succ])
      | (apply inText_step
         case hw => rfl
         case h =>
           intro wq hq
           have hcq := (cls_cell hq).1
           have hfq := (cls_cell hq).2
           have kq := (hcq _ 8 hy2).trans kb
           go_simp
           first
             | exact ⟨hq, rfl⟩
             | exact ⟨cls_alloc hq _, rfl⟩
             | (first | (refine (HostAt_spec x _ _ p.on _ (rd_extT h (ext_trans (by repeat (first | with_reducible exact ext_refl _ | with_reducible assumption | with_reducible refine ext_alloc ?_ _ | with_reducible refine ext_trans ?_ (by assumption))) hq)) hl).mono ?_; rintro e wz ⟨rfl, hbz0⟩; exact ⟨rfl, cls_trans hq hbz0⟩) | ((try rw [hwr]); (try rw [hwr2]); refine (VarText_spec _ _ (by first | assumption | (unfold I64; omega))).mono ?_; rintro e wz ⟨rfl, hbz0⟩; exact ⟨rfl, cls_trans hq hbz0⟩))
             | (simp only [↓IntWalk.iteOmega]; exact ⟨hq, rfl⟩)
         simp only [Act.put, List.setIfInBounds_toArray, List.set_cons_zero, List.set_cons_succ]))
    refine inText_nil ?_
    intro wn hn
    replace hn := hn.out
    go_wp2
    go_ret
    exact ⟨rfl, (by repeat (first | with_reducible exact ext_refl _ | with_reducible assumption | with_reducible refine ext_alloc ?_ _ | with_reducible refine ext_trans ?_ (by assumption)))⟩

end Go.Proofs.YtomffjhadgelkaaGreat
