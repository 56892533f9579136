/- FnExactBestHost: for every cluster and pod the program's BestHost and the reference's answer the same host, and the program leaves the cluster and the pod as they were. No condition. -/
import Derived.Test.YtjoclfenghenjaaGreatBest
import Derived.Test.YtjoclfenghenjaaGreatToDeep
import Derived.Test.YtjoclfenghenjaaGreatOpenAll
import Derived.Test.YtjoclfenghenjaaGreatLaw1
import Derived.Test.YtjoclfenghenjaaGreatReg0
import Derived.StillTailTactics
namespace Go.Proofs.YtjoclfenghenjaaGreat.fnExactBestHost
open Go.ChangeShapes Go.WideShapes Go.ChangeAt Go.RowKit
set_option linter.unusedVariables false
set_option linter.unusedSimpArgs false
set_option maxRecDepth 100000 in
set_option maxHeartbeats 8000000 in
theorem walk (x : Cluster) (p : Pod) (cs ps : List Value) (F G : List Nat) (w : World) (h : rd w x cs F) (h' : rd w p ps G) :
    Calls Tryz.prog 7 #[.agg cs.toArray, .agg ps.toArray] w fun e w' => e = .returned (.bool true) ∧ Below w.heap.size w w' := by
  by_cases hw : (x.wt : Int) ≤ 1048576
  · have hsz : szR x.wt 1048576 = 1048576 - x.wt := by have := szR_spec x.wt 1048576; omega
    have HSZ := Lib.hid hsz
    have hb0 : (0 : Int) ≤ 1048576 - x.wt := by omega
    have HWTCluster := Lib.hid hw
    clear hsz
    by_cases hwp : (p.wt : Int) ≤ 1048576 - x.wt
    · have hszp : szR p.wt (1048576 - x.wt) = 1048576 - x.wt - p.wt := by have := szR_spec p.wt (1048576 - x.wt); omega
      have HSZP := Lib.hid hszp
      have hb00 : (0 : Int) ≤ 1048576 - x.wt - p.wt := by omega
      have HWTPod := Lib.hid (show (p.wt : Int) ≤ 1048576 by omega)
      have HSAMECluster := Lib.hid ((eqCluster_iff x x).2 rfl)
      have HSAMEPod := Lib.hid ((eqPod_iff p p).2 rfl)
      have HSP := Lib.hid (fun (cs ps : List Value) (F G : List Nat) (wq : World) (h1 : rd wq x cs F) (h2 : rd wq p ps G) => BestHost_spec x p cs ps F G wq h1 h2 HWTCluster.out HWTPod.out)
      have HIM := Lib.hid (fun (cs ps : List Value) (F G : List Nat) (wq : World) (h1 : rd wq x cs F) (h2 : rd wq p ps G) => BestHost_impl x p cs ps F G wq h1 h2 HWTCluster.out HWTPod.out)
      generalize bestS x p = vs at HSP HIM
      generalize bestB x p = vb at HSP HIM
      clear hszp hwp hw
      have hr := h
      have hr' := h'
      obtain ⟨Ahosts, chosts, Fhosts, Apods, cpods, Fpods, hck, hF0, hhosts, hpods, hnext, hweightspack, hweightsspread, hweightssoft⟩ := rd_Cluster hr
      obtain ⟨Alabels2, clabels2, Flabels2, Aneeds2, cneeds2, Fneeds2, Atolerances2, ctolerances2, Ftolerances2, hck2, hG0, hname2, hlabels2, hcpu2, hmem2, hrank2, hneeds2, htolerances2⟩ := rd_Pod hr'
      subst hck hck2
      clear hF0 hG0 hr hr'
      go_enter Tryz.func7, Tryz.ntmps7
      go_wp2_with fail
      refine (szCluster_any x _ _ _ _ (rd_ext h (by repeat (first | with_reducible exact ext_refl _ | with_reducible assumption | with_reducible refine ext_alloc ?_ _ | with_reducible refine ext_drew ?_ | with_reducible refine ext_trans ?_ (by assumption)))) (by omega) (by omega)).mono ?_
      rw [HSZ.out]
      rintro e w1 ⟨rfl, hb1⟩
      obtain ⟨hc1, hf1⟩ := bcell hb1
      have hB1 : Below w.heap.size w w1 := ext_trans (by repeat (first | with_reducible exact ext_refl _ | with_reducible assumption | with_reducible refine ext_alloc ?_ _ | with_reducible refine ext_drew ?_ | with_reducible refine ext_trans ?_ (by assumption))) hb1
      have hzw0_1 : w.heap.size < w1.heap.size := by have := hb1.size; (try simp at this); omega
      have hzw1_1 : w.heap.size + 1 < w1.heap.size := by have := hb1.size; (try simp at this); omega
      go_wp2_with fail
      refine (szPod_any p _ _ _ _ (rd_ext h' (by repeat (first | with_reducible exact ext_refl _ | with_reducible assumption | with_reducible refine ext_alloc ?_ _ | with_reducible refine ext_drew ?_ | with_reducible refine ext_trans ?_ (by assumption)))) (by omega) (by omega)).mono ?_
      rw [HSZP.out]
      rintro e w2 ⟨rfl, hb2⟩
      obtain ⟨hc2, hf2⟩ := bcell hb2
      have hB2 : Below w.heap.size w w2 := ext_trans (by repeat (first | with_reducible exact ext_refl _ | with_reducible assumption | with_reducible refine ext_alloc ?_ _ | with_reducible refine ext_drew ?_ | with_reducible refine ext_trans ?_ (by assumption))) hb2
      have hzw0_2 : w.heap.size < w2.heap.size := by have := hb2.size; (try simp at this); omega
      have hzw1_2 : w.heap.size + 1 < w2.heap.size := by have := hb2.size; (try simp at this); omega
      go_wp2_with fail
      refine wp_region_anyH w2 10 (by kernel_rfl) (by kernel_rfl) (ext_refl _) ?_
      have hbx : Below w2.heap.size w2 w2.drew := ext_drew (ext_refl _)
      refine anyH_take 0 _ (by rfl) (by kernel_rfl) (fun _ _ d _ _ h => by cases d <;> exact h) hbx (Or.inl ⟨rfl, fun wq hq => by
        have hcq := (cls_cell hq).1
        go_simp
        try rfl⟩) ?_
      try simp only [Act.put, List.setIfInBounds_toArray, List.set_cons_zero, List.set_cons_succ]
      refine anyH_take 2 _ (by rfl) (by kernel_rfl) (fun _ _ d _ _ h => by cases d <;> exact h) hbx (Or.inl ⟨rfl, fun wq hq => by
        have hcq := (cls_cell hq).1
        go_simp
        try rfl⟩) ?_
      try simp only [Act.put, List.setIfInBounds_toArray, List.set_cons_zero, List.set_cons_succ]
      refine anyH_one 1 (by rfl) (by kernel_rfl) (by rfl) (fun K hK => ?_)
      go_simp
      refine (toCluster_any x _ _ _ (rd_ext h (by repeat (first | with_reducible exact ext_refl _ | with_reducible assumption | with_reducible refine ext_alloc ?_ _ | with_reducible refine ext_drew ?_ | with_reducible refine ext_trans ?_ (by assumption)))) HWTCluster.out).mono ?_
      rintro e w3 ⟨cs3, G3, rfl, hO3, hb3⟩
      have hR3 := hO3.rd
      obtain ⟨Ahosts3, chosts3, Fhosts3, Apods3, cpods3, Fpods3, hck, hG3, hhosts3, hpods3, hnext3, hweightspack3, hweightsspread3, hweightssoft3⟩ := rd_Cluster hR3
      subst hck
      clear hG3 hR3
      have hB3 : Below w.heap.size w w3 := ext_trans hB2 (ext_trans hbx hb3)
      replace hbx := ext_trans hbx hb3
      refine hK _ _ hbx ?_
      try simp only [Act.put, List.setIfInBounds_toArray, List.set_cons_zero, List.set_cons_succ]
      clear hK K
      refine anyH_one 3 (by rfl) (by kernel_rfl) (by rfl) (fun K hK => ?_)
      go_simp
      refine (toPod_any p _ _ _ (rd_ext h' (by repeat (first | with_reducible exact ext_refl _ | with_reducible assumption | with_reducible refine ext_alloc ?_ _ | with_reducible refine ext_drew ?_ | with_reducible refine ext_trans ?_ (by assumption)))) HWTPod.out).mono ?_
      rintro e w4 ⟨cs4, G4, rfl, hO4, hb4⟩
      have hR4 := hO4.rd
      obtain ⟨Alabels4, clabels4, Flabels4, Aneeds4, cneeds4, Fneeds4, Atolerances4, ctolerances4, Ftolerances4, hck, hG4, hname4, hlabels4, hcpu4, hmem4, hrank4, hneeds4, htolerances4⟩ := rd_Pod hR4
      subst hck
      clear hG4 hR4
      replace hbx := ext_trans hbx hb4
      refine hK _ _ hbx ?_
      try simp only [Act.put, List.setIfInBounds_toArray, List.set_cons_zero, List.set_cons_succ]
      clear hK K
      refine anyH_one 4 (by rfl) (by kernel_rfl) (by rfl) (fun K hK => ?_)
      go_simp
      refine (HSP.out _ _ _ _ _ (hO3.ext hb4).rd hO4.rd).mono ?_
      rintro e w5 ⟨rfl, hb5⟩

      replace hbx := ext_trans hbx hb5
      refine hK _ _ hbx ?_
      try simp only [Act.put, List.setIfInBounds_toArray, List.set_cons_zero, List.set_cons_succ]
      clear hK K
      refine anyH_take 5 _ (by rfl) (by kernel_rfl) (fun _ _ d _ _ h => by cases d <;> exact h) hbx (Or.inl ⟨rfl, fun wq hq => by
        have hcq := (cls_cell hq).1
        go_simp
        try rfl⟩) ?_
      try simp only [Act.put, List.setIfInBounds_toArray, List.set_cons_zero, List.set_cons_succ]
      refine anyH_take 6 _ (by rfl) (by kernel_rfl) (fun _ _ d _ _ h => by cases d <;> exact h) hbx (Or.inl ⟨rfl, fun wq hq => by
        have hcq := (cls_cell hq).1
        go_simp
        try rfl⟩) ?_
      try simp only [Act.put, List.setIfInBounds_toArray, List.set_cons_zero, List.set_cons_succ]
      refine anyH_take 7 _ (by rfl) (by kernel_rfl) (fun _ _ d _ _ h => by cases d <;> exact h) hbx (Or.inl ⟨rfl, fun wq hq => by
        have hcq := (cls_cell hq).1
        go_simp
        try rfl⟩) ?_
      try simp only [Act.put, List.setIfInBounds_toArray, List.set_cons_zero, List.set_cons_succ]
      refine anyH_take 8 _ (by rfl) (by kernel_rfl) (fun _ _ d _ _ h => by cases d <;> exact h) hbx (Or.inl ⟨rfl, fun wq hq => by
        have hcq := (cls_cell hq).1
        go_simp
        try rfl⟩) ?_
      try simp only [Act.put, List.setIfInBounds_toArray, List.set_cons_zero, List.set_cons_succ]
      refine anyH_take 9 _ (by rfl) (by kernel_rfl) (fun _ _ d _ _ h => by cases d <;> exact h) hbx (Or.inl ⟨rfl, fun wq hq => by
        have hcq := (cls_cell hq).1
        go_simp
        try rfl⟩) ?_
      try simp only [Act.put, List.setIfInBounds_toArray, List.set_cons_zero, List.set_cons_succ]
      refine anyH_done (by kernel_rfl) ?_
      replace hb5 := hbx
      clear hbx
      obtain ⟨hc5, hf5⟩ := bcell hb5
      have hB5 : Below w.heap.size w w5 := ext_trans hB2 hb5
      have hzw0_5 : w.heap.size < w5.heap.size := by have := hb5.size; (try simp at this); omega
      have hzw1_5 : w.heap.size + 1 < w5.heap.size := by have := hb5.size; (try simp at this); omega
      go_wp2_with fail
      refine (toCluster_any x _ _ _ (rd_ext h (by repeat (first | with_reducible exact ext_refl _ | with_reducible assumption | with_reducible refine ext_alloc ?_ _ | with_reducible refine ext_drew ?_ | with_reducible refine ext_trans ?_ (by assumption)))) HWTCluster.out).mono ?_
      rintro e w6 ⟨cs6, G6, rfl, hO6, hb6⟩
      obtain ⟨hc6, hf6⟩ := bcell hb6
      have hB6 : Below w.heap.size w w6 := ext_trans (by repeat (first | with_reducible exact ext_refl _ | with_reducible assumption | with_reducible refine ext_alloc ?_ _ | with_reducible refine ext_drew ?_ | with_reducible refine ext_trans ?_ (by assumption))) hb6
      have hzw0_6 : w.heap.size < w6.heap.size := by have := hb6.size; (try simp at this); omega
      have hzw1_6 : w.heap.size + 1 < w6.heap.size := by have := hb6.size; (try simp at this); omega
      have hR6 := hO6.rd
      obtain ⟨Ahosts6, chosts6, Fhosts6, Apods6, cpods6, Fpods6, hck, hG6, hhosts6, hpods6, hnext6, hweightspack6, hweightsspread6, hweightssoft6⟩ := rd_Cluster hR6
      subst hck
      clear hG6 hR6
      go_wp2_with fail
      refine (toPod_any p _ _ _ (rd_ext h' (by repeat (first | with_reducible exact ext_refl _ | with_reducible assumption | with_reducible refine ext_alloc ?_ _ | with_reducible refine ext_drew ?_ | with_reducible refine ext_trans ?_ (by assumption)))) HWTPod.out).mono ?_
      rintro e w7 ⟨cs7, G7, rfl, hO7, hb7⟩
      obtain ⟨hc7, hf7⟩ := bcell hb7
      have hB7 : Below w.heap.size w w7 := ext_trans (by repeat (first | with_reducible exact ext_refl _ | with_reducible assumption | with_reducible refine ext_alloc ?_ _ | with_reducible refine ext_drew ?_ | with_reducible refine ext_trans ?_ (by assumption))) hb7
      have hzw0_7 : w.heap.size < w7.heap.size := by have := hb7.size; (try simp at this); omega
      have hzw1_7 : w.heap.size + 1 < w7.heap.size := by have := hb7.size; (try simp at this); omega
      have hzw60_7 : w6.heap.size < w7.heap.size := by have := hb7.size; (try simp at this); omega
      first | replace hO6 := Own.ext hO6 hb7 | replace hO6 := Own.ext (hO6.alloc _) hb7 | replace hO6 := Own.ext ((hO6.alloc _).alloc _) hb7
      have hR7 := hO7.rd
      obtain ⟨Alabels7, clabels7, Flabels7, Aneeds7, cneeds7, Fneeds7, Atolerances7, ctolerances7, Ftolerances7, hck, hG7, hname7, hlabels7, hcpu7, hmem7, hrank7, hneeds7, htolerances7⟩ := rd_Pod hR7
      subst hck
      clear hG7 hR7
      go_wp2_with fail
      refine (HIM.out _ _ _ _ _ (hO6.alloc _).rd (hO7.alloc _).rd).mono ?_
      rintro e w8 ⟨rfl, hb8⟩
      obtain ⟨hc8, hf8⟩ := bcell hb8
      have hB8 : Below w.heap.size w w8 := ext_trans (by repeat (first | with_reducible exact ext_refl _ | with_reducible assumption | with_reducible refine ext_alloc ?_ _ | with_reducible refine ext_drew ?_ | with_reducible refine ext_trans ?_ (by assumption))) hb8
      have hzw0_8 : w.heap.size < w8.heap.size := by have := hb8.size; (try simp at this); omega
      have hzw1_8 : w.heap.size + 1 < w8.heap.size := by have := hb8.size; (try simp at this); omega
      have hzw60_8 : w6.heap.size < w8.heap.size := by have := hb8.size; (try simp at this); omega
      have hzw70_8 : w7.heap.size < w8.heap.size := by have := hb8.size; (try simp at this); omega
      first | replace hO6 := Own.ext hO6 hb8 | replace hO6 := Own.ext (hO6.alloc _) hb8 | replace hO6 := Own.ext ((hO6.alloc _).alloc _) hb8
      first | replace hO7 := Own.ext hO7 hb8 | replace hO7 := Own.ext (hO7.alloc _) hb8 | replace hO7 := Own.ext ((hO7.alloc _).alloc _) hb8
      go_wp2_with fail
      refine wp_region_head w8 2 (by kernel_rfl) (by kernel_rfl) (fun _ _ d _ _ h => by cases d <;> exact h) (ext_refl _) ?_
      simp only [List.take_succ_cons, List.take_zero, List.drop_succ_cons, List.drop_zero]
      iterate 2
        (apply headC_step
         case hy =>
           refine Or.inl ⟨rfl, fun wq hq => ?_⟩
           have hcq := (cls_cell hq).1
           go_simp
           try rfl
         simp only [Act.put, List.setIfInBounds_toArray, List.set_cons_zero, List.set_cons_succ])
      refine headC_nil ?_
      refine wpListC_step rfl (fun K hK => ?_)
      go_simp
      refine (toCluster_any x _ _ _ (rd_ext h (by repeat (first | with_reducible exact ext_refl _ | with_reducible assumption | with_reducible refine ext_alloc ?_ _ | with_reducible refine ext_drew ?_ | with_reducible refine ext_trans ?_ (by assumption)))) HWTCluster.out).mono ?_
      rintro e w9 ⟨cs9, G9, rfl, hO9, hb9⟩
      have hR9 := hO9.rd
      obtain ⟨Ahosts9, chosts9, Fhosts9, Apods9, cpods9, Fpods9, hck, hG9, hhosts9, hpods9, hnext9, hweightspack9, hweightsspread9, hweightssoft9⟩ := rd_Cluster hR9
      subst hck
      clear hG9 hR9
      have hbx : Below w8.heap.size w8 w9 := ext_trans (ext_drew (ext_refl _)) hb9
      refine hK _ _ hbx (fun _ => ?_)
      try simp only [Act.put, List.setIfInBounds_toArray, List.set_cons_zero, List.set_cons_succ]
      clear hK K
      refine wpListC_step rfl (fun K hK => ?_)
      go_simp
      refine (eqCluster_any x x _ _ _ _ _ (hO6.ext hbx).rd hO9.rd).mono ?_
      rw [HSAMECluster.out]
      rintro e w10 ⟨rfl, hb10⟩
      replace hbx := ext_trans hbx hb10
      refine hK _ _ hbx (fun _ => ?_)
      try simp only [Act.put, List.setIfInBounds_toArray, List.set_cons_zero, List.set_cons_succ]
      clear hK K
      refine wpListC_step rfl (fun K hK => ?_)
      go_simp
      refine hK _ _ hbx (fun _ => ?_)
      try simp only [Act.put, List.setIfInBounds_toArray, List.set_cons_zero, List.set_cons_succ]
      clear hK K
      refine wpListC_nil ?_
      replace hb10 := hbx
      clear hbx hb9 hO9
      obtain ⟨hc10, hf10⟩ := bcell hb10
      have hB10 : Below w.heap.size w w10 := ext_trans hB8 hb10
      have hzw0_10 : w.heap.size < w10.heap.size := by have := hb10.size; (try simp at this); omega
      have hzw1_10 : w.heap.size + 1 < w10.heap.size := by have := hb10.size; (try simp at this); omega
      have hzw60_10 : w6.heap.size < w10.heap.size := by have := hb10.size; (try simp at this); omega
      have hzw70_10 : w7.heap.size < w10.heap.size := by have := hb10.size; (try simp at this); omega
      first | replace hO6 := Own.ext hO6 hb10 | replace hO6 := Own.ext (hO6.alloc _) hb10 | replace hO6 := Own.ext ((hO6.alloc _).alloc _) hb10
      first | replace hO7 := Own.ext hO7 hb10 | replace hO7 := Own.ext (hO7.alloc _) hb10 | replace hO7 := Own.ext ((hO7.alloc _).alloc _) hb10
      go_wp2_with fail
      refine wp_region_head w10 2 (by kernel_rfl) (by kernel_rfl) (fun _ _ d _ _ h => by cases d <;> exact h) (ext_refl _) ?_
      simp only [List.take_succ_cons, List.take_zero, List.drop_succ_cons, List.drop_zero]
      iterate 2
        (apply headC_step
         case hy =>
           refine Or.inl ⟨rfl, fun wq hq => ?_⟩
           have hcq := (cls_cell hq).1
           go_simp
           try rfl
         simp only [Act.put, List.setIfInBounds_toArray, List.set_cons_zero, List.set_cons_succ])
      refine headC_nil ?_
      refine wpListC_step rfl (fun K hK => ?_)
      go_simp
      refine (toPod_any p _ _ _ (rd_ext h' (by repeat (first | with_reducible exact ext_refl _ | with_reducible assumption | with_reducible refine ext_alloc ?_ _ | with_reducible refine ext_drew ?_ | with_reducible refine ext_trans ?_ (by assumption)))) HWTPod.out).mono ?_
      rintro e w11 ⟨cs11, G11, rfl, hO11, hb11⟩
      have hR11 := hO11.rd
      obtain ⟨Alabels11, clabels11, Flabels11, Aneeds11, cneeds11, Fneeds11, Atolerances11, ctolerances11, Ftolerances11, hck, hG11, hname11, hlabels11, hcpu11, hmem11, hrank11, hneeds11, htolerances11⟩ := rd_Pod hR11
      subst hck
      clear hG11 hR11
      have hbx : Below w10.heap.size w10 w11 := ext_trans (ext_drew (ext_refl _)) hb11
      refine hK _ _ hbx (fun _ => ?_)
      try simp only [Act.put, List.setIfInBounds_toArray, List.set_cons_zero, List.set_cons_succ]
      clear hK K
      refine wpListC_step rfl (fun K hK => ?_)
      go_simp
      refine (eqPod_any p p _ _ _ _ _ (hO7.ext hbx).rd hO11.rd).mono ?_
      rw [HSAMEPod.out]
      rintro e w12 ⟨rfl, hb12⟩
      replace hbx := ext_trans hbx hb12
      refine hK _ _ hbx (fun _ => ?_)
      try simp only [Act.put, List.setIfInBounds_toArray, List.set_cons_zero, List.set_cons_succ]
      clear hK K
      refine wpListC_step rfl (fun K hK => ?_)
      go_simp
      refine hK _ _ hbx (fun _ => ?_)
      try simp only [Act.put, List.setIfInBounds_toArray, List.set_cons_zero, List.set_cons_succ]
      clear hK K
      refine wpListC_nil ?_
      replace hb12 := hbx
      clear hbx hb11 hO11
      obtain ⟨hc12, hf12⟩ := bcell hb12
      have hB12 : Below w.heap.size w w12 := ext_trans hB10 hb12
      have hzw0_12 : w.heap.size < w12.heap.size := by have := hb12.size; (try simp at this); omega
      have hzw1_12 : w.heap.size + 1 < w12.heap.size := by have := hb12.size; (try simp at this); omega
      have hzw60_12 : w6.heap.size < w12.heap.size := by have := hb12.size; (try simp at this); omega
      have hzw70_12 : w7.heap.size < w12.heap.size := by have := hb12.size; (try simp at this); omega
      first | replace hO6 := Own.ext hO6 hb12 | replace hO6 := Own.ext (hO6.alloc _) hb12 | replace hO6 := Own.ext ((hO6.alloc _).alloc _) hb12
      first | replace hO7 := Own.ext hO7 hb12 | replace hO7 := Own.ext (hO7.alloc _) hb12 | replace hO7 := Own.ext ((hO7.alloc _).alloc _) hb12
      go_wp2
      go_ret
      exact ⟨rfl, hB12⟩
    · have hszp : szR p.wt (1048576 - x.wt) = -1 := by have := szR_spec p.wt (1048576 - x.wt); omega
      have HSZP := Lib.hid hszp
      clear hszp hwp
      have hr := h
      have hr' := h'
      obtain ⟨Ahosts, chosts, Fhosts, Apods, cpods, Fpods, hck, hF0, hhosts, hpods, hnext, hweightspack, hweightsspread, hweightssoft⟩ := rd_Cluster hr
      obtain ⟨Alabels2, clabels2, Flabels2, Aneeds2, cneeds2, Fneeds2, Atolerances2, ctolerances2, Ftolerances2, hck2, hG0, hname2, hlabels2, hcpu2, hmem2, hrank2, hneeds2, htolerances2⟩ := rd_Pod hr'
      subst hck hck2
      clear hF0 hG0 hr hr'
      go_enter Tryz.func7, Tryz.ntmps7
      go_wp2_with fail
      refine (szCluster_any x _ _ _ _ (rd_ext h (by repeat (first | with_reducible exact ext_refl _ | with_reducible assumption | with_reducible refine ext_alloc ?_ _ | with_reducible refine ext_drew ?_ | with_reducible refine ext_trans ?_ (by assumption)))) (by omega) (by omega)).mono ?_
      rw [HSZ.out]
      rintro e w1 ⟨rfl, hb1⟩
      obtain ⟨hc1, hf1⟩ := bcell hb1
      have hz1 : w.heap.size + 1 < w1.heap.size := by have := hb1.size; (try simp at this); omega
      have hy1 : w.heap.size < w1.heap.size := by omega
      go_wp2_with fail
      refine (szPod_any p _ _ _ _ (rd_ext h' (by repeat (first | with_reducible exact ext_refl _ | with_reducible assumption | with_reducible refine ext_alloc ?_ _ | with_reducible refine ext_drew ?_ | with_reducible refine ext_trans ?_ (by assumption)))) (by omega) (by omega)).mono ?_
      rw [HSZP.out]
      rintro e w2 ⟨rfl, hb2⟩
      go_wp2
      go_ret
      exact ⟨rfl, (by repeat (first | with_reducible exact ext_refl _ | with_reducible assumption | with_reducible refine ext_alloc ?_ _ | with_reducible refine ext_drew ?_ | with_reducible refine ext_trans ?_ (by assumption)))⟩
  · have hsz : szR x.wt 1048576 = -1 := by have := szR_spec x.wt 1048576; omega
    have HSZ := Lib.hid hsz
    clear hsz hw
    have hr := h
    have hr' := h'
    obtain ⟨Ahosts, chosts, Fhosts, Apods, cpods, Fpods, hck, hF0, hhosts, hpods, hnext, hweightspack, hweightsspread, hweightssoft⟩ := rd_Cluster hr
    obtain ⟨Alabels2, clabels2, Flabels2, Aneeds2, cneeds2, Fneeds2, Atolerances2, ctolerances2, Ftolerances2, hck2, hG0, hname2, hlabels2, hcpu2, hmem2, hrank2, hneeds2, htolerances2⟩ := rd_Pod hr'
    subst hck hck2
    clear hF0 hG0 hr hr'
    go_enter Tryz.func7, Tryz.ntmps7
    go_wp2_with fail
    refine (szCluster_any x _ _ _ _ (rd_ext h (by repeat (first | with_reducible exact ext_refl _ | with_reducible assumption | with_reducible refine ext_alloc ?_ _ | with_reducible refine ext_drew ?_ | with_reducible refine ext_trans ?_ (by assumption)))) (by omega) (by omega)).mono ?_
    rw [HSZ.out]
    rintro e w1 ⟨rfl, hb1⟩
    go_wp2
    go_ret
    exact ⟨rfl, (by repeat (first | with_reducible exact ext_refl _ | with_reducible assumption | with_reducible refine ext_alloc ?_ _ | with_reducible refine ext_drew ?_ | with_reducible refine ext_trans ?_ (by assumption)))⟩

set_option maxRecDepth 100000 in
theorem law_walk {H : Type} {enc : TypeId × Value → H} (W : World) (base : Nat) (args : Array Value) (ds : List (DataW H)) (p : List MemPlace)
    (hval : ∀ (j : Nat) t v, Tryz.f7.params[j]? = some t → args[j]? = some v → Value.okWide Tryz.prog W .any base t v)
    (hA : DataW.TrodAll enc Tryz.prog W 0 (fun _ => true) true Tryz.f7.params.toList args.toList ds p) (hlt : ∀ x ∈ p, x.block < W.heap.size) :
    Calls Tryz.prog 7 args W fun e W' => e = .returned (.bool true) ∧ Below W.heap.size W W' := by
  rw [Tryz.params7] at hA hval
  obtain ⟨v0, vs0, d0, ds0, p0, q0, hargs, rfl, rfl, h0, r0⟩ := trodAll_cons hA
  obtain ⟨v1, vs1, d1, ds1, p1, q1, rfl, rfl, rfl, h1, r1⟩ := trodAll_cons r0
  obtain ⟨rfl, rfl, rfl⟩ := trodAll_nil r1
  obtain rfl : args = #[v0, v1] := by cases args; simp_all
  have hv0 := hval 0 27 v0 rfl rfl
  obtain ⟨cs, rfl, _⟩ := okWide_struct Tryz.underlying27 hv0
  clear hv0
  have hv1 := hval 1 47 v1 rfl rfl
  obtain ⟨ps, rfl, _⟩ := okWide_struct Tryz.underlying47 hv1
  clear hv1
  obtain ⟨fuel, hf⟩ := h0
  obtain ⟨x, F, hr⟩ := opens_Cluster H enc W 0 fuel _ _ _ _ hf
  obtain ⟨fuel2, hf2⟩ := h1
  obtain ⟨p, G, hr2⟩ := opens_Pod H enc W 0 fuel2 _ _ _ _ hf2
  exact walk x p cs.toList ps.toList F G W hr hr2

theorem own : ownKnob Tryz.prog.godebug = none := by kernel_rfl
theorem laid : laidOutB Tryz.prog = true := by kernel_rfl
theorem readable : ∀ t ∈ Tryz.f7.params.toList, Tryz.prog.readableRec t = true ∧ t < Tryz.prog.types.size := by
  have h : (Tryz.f7.params.toList.all fun t => Tryz.prog.readableRec t && decide (t < Tryz.prog.types.size)) = true := by kernel_rfl
  intro t ht
  have := List.all_eq_true.1 h t ht
  simpa using this

theorem law_shape {H : Type} {enc : TypeId × Value → H} {W : World} {args : List Value} {ds : List (DataW H)} {p : List MemPlace}
    (h : DataW.TrodAll enc Tryz.prog W 0 (fun _ => true) true Tryz.f7.params.toList args ds p) : ∃ d0 d1, ds = [d0, d1] := by
  rw [Tryz.params7] at h
  obtain ⟨v0, vs0, d0, ds0, p0, q0, _, rfl, _, _, r0⟩ := trodAll_cons h
  obtain ⟨v1, vs1, d1, ds1, p1, q1, _, rfl, _, _, r1⟩ := trodAll_cons r0
  obtain ⟨_, rfl, _⟩ := trodAll_nil r1
  exact ⟨d0, d1, rfl⟩

set_option maxRecDepth 100000 in
theorem lifted (os : Os) (started : os.Started) (H : Type) (enc : TypeId × Value → H) :
    ReturnsInHanded {} Tryz.checked os 7 .any (Rows.fnExactBestHostSpec.pre6 enc Tryz.prog Tryz.f7 Rows.fnExactBestHostRow.domain false) (Rows.fnExactBestHostSpec.post enc Tryz.prog Tryz.f7 false true false false) := by
  refine returnsInHanded_of_change (C := Tryz.checked) own started (by kernel_rfl) Tryz.func7
    (ChangeSpec.witness6 (enc := enc) (C := Tryz.checked) false ⟨#[], #[.agg #[.slice none 0 0, .slice none 0 0, .int .i64 0, .int .i64 0, .int .i64 0, .int .i64 0], .agg #[.string ⟨#[]⟩, .slice none 0 0, .int .i64 0, .int .i64 0, .int .i64 0, .slice none 0 0, .slice none 0 0]], []⟩ 8 (by kernel_rfl) (by kernel_rfl) (by kernel_rfl) (by kernel_rfl)) ?_
  intro W base args ds gs before hval0 hW hcnd _
  have hlt : ∀ x ∈ before, x.block < W.heap.size := fun x hx => hW.lt x hx
  have hW' := hW
  obtain ⟨p, q, hA, hV, rfl, _, _⟩ := hW'
  exact (law_walk W base args ds p hval0 hA (fun x hx => hlt x (List.mem_append_left _ hx))).mono fun e W' ⟨he, hb⟩ =>
    ⟨_, he, law_post laid readable rfl Tryz.underlying4 rfl (by obtain ⟨d0, d1, hs⟩ := law_shape hA; rw [hs]; rfl) hW hb⟩

theorem over : Rows.fnExactBestHostRow.holds Tryz.pinned (OpenSpec.ofChange Rows.fnExactBestHostSpec) :=
  OpenClaim.holds_of_wide 7 Tryz.f7 rfl rfl rfl rfl rfl rfl rfl ⟨rfl, rfl, rfl, rfl, rfl⟩ rfl rfl rfl rfl rfl (by kernel_rfl) Tryz.func7 (by kernel_rfl)
    (of_decide_eq_true (by kernel_rfl)) (by unfold Func.isWrapper; first | (rw [if_pos (by decide +kernel)]; kernel_rfl) | (rw [if_neg (by decide +kernel)]; exact ⟨rfl, rfl⟩))
    (fun os started H enc _ => lifted os started H enc)

theorem proved : Rows.FnExactBestHostSaid :=
  over
#print axioms proved
end Go.Proofs.YtjoclfenghenjaaGreat.fnExactBestHost
