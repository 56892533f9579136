/- FnExactRankingOf: for every cluster and pod the program's RankingOf and the reference's answer the same names in the same order, in memory of its own; the cluster and the pod stay as they were. No condition. -/
import Derived.Test.YtjoclfenghenjaaGreatRank1
import Derived.Test.YtjoclfenghenjaaGreatRankZ
import Derived.Test.YtjoclfenghenjaaGreatToDeep
import Derived.Test.YtjoclfenghenjaaGreatOpenAll
import Derived.Test.YtjoclfenghenjaaGreatLaw1
import Derived.Test.YtjoclfenghenjaaGreatMtTop
import Derived.Test.YtjoclfenghenjaaGreatMarks0
import Derived.StillTailTactics
namespace Go.Proofs.YtjoclfenghenjaaGreat.fnExactRankingOf
open Go.ChangeShapes Go.WideShapes Go.ChangeAt Go.RowKit
set_option linter.unusedVariables false
set_option linter.unusedSimpArgs false
set_option maxRecDepth 100000 in
set_option maxHeartbeats 8000000 in
theorem walk (x : Cluster) (p : Pod) (cs ps : List Value) (F G : List Nat) (w : World) (h : rd w x cs F) (h' : rd w p ps G) :
    Calls Tryz.prog 6 #[.agg cs.toArray, .agg ps.toArray] w fun e w' => e = .returned (.bool true) ∧ Below w.heap.size w w' := by
  by_cases hw : (x.wt : Int) ≤ 1048576
  · have hsz : szR x.wt 1048576 = 1048576 - x.wt := by have := szR_spec x.wt 1048576; omega
    have HSZ := Lib.hid hsz
    have hb0 : (0 : Int) ≤ 1048576 - x.wt := by omega
    have HWTCluster := Lib.hid hw
    clear hsz
    by_cases hwp : (p.wt : Int) ≤ 1048576 - x.wt
    · have hszp : szR p.wt (1048576 - x.wt) = 1048576 - x.wt - p.wt := by have := szR_spec p.wt (1048576 - x.wt); omega
      have HSZP := Lib.hid hszp
      have hb00 : (0 : Int) ≤ 1048576 - x.wt - p.wt := by omega
      have HWTPod := Lib.hid (show (p.wt : Int) ≤ 1048576 by omega)
      have HSAMECluster := Lib.hid ((eqCluster_iff x x).2 rfl)
      have HSAMEPod := Lib.hid ((eqPod_iff p p).2 rfl)
      have hcnt : (cntTopCluster x : Int) ≤ 6291456 := by have := cntTopCluster_le x; omega
      have hcntp : (cntTopPod p : Int) ≤ 6291456 := by have := cntTopPod_le p; omega
      have hl : (x.hosts.length : Int) ≤ 1048576 := by
        have h1 := wtL_len Host.wt x.hosts
        have h2 : x.wt = wtL Host.wt x.hosts + wtL Placed.wt x.pods := rfl
        omega
      have hrl : ((rankL x p).length : Int) ≤ 1048576 := by have := rankL_len x p; have := feasL_len x p x.hosts; omega
      have HSP := Lib.hid (fun (cs ps : List Value) (F G : List Nat) (wq : World) (h1 : rd wq x cs F) (h2 : rd wq p ps G) => RankingOf_spec x p cs ps F G wq h1 h2 HWTCluster.out HWTPod.out)
      have HIM := Lib.hid (fun (cs ps : List Value) (F G : List Nat) (wq : World) (h1 : rd wq x cs F) (h2 : rd wq p ps G) => RankingOf_impl x p cs ps F G wq h1 h2 HWTCluster.out HWTPod.out)
      generalize (rankL x p) = vs at hrl HSP HIM
      have HSL := Lib.hid (same_str vs)
      clear hszp hwp hw hl
      have hr := h
      have hr' := h'
      obtain ⟨Ahosts, chosts, Fhosts, Apods, cpods, Fpods, hck, hF0, hhosts, hpods, hnext, hweightspack, hweightsspread, hweightssoft⟩ := rd_Cluster hr
      obtain ⟨Alabels2, clabels2, Flabels2, Aneeds2, cneeds2, Fneeds2, Atolerances2, ctolerances2, Ftolerances2, hck2, hG0, hname2, hlabels2, hcpu2, hmem2, hrank2, hneeds2, htolerances2⟩ := rd_Pod hr'
      subst hck hck2
      clear hF0 hG0 hr hr'
      go_enter Tryz.func6, Tryz.ntmps6
      go_wp2_with fail
      refine (szCluster_any x _ _ _ _ (rd_ext h (by repeat (first | with_reducible exact ext_refl _ | with_reducible assumption | with_reducible refine ext_alloc ?_ _ | with_reducible refine ext_drew ?_ | with_reducible refine ext_trans ?_ (by assumption)))) (by omega) (by omega)).mono ?_
      rw [HSZ.out]
      rintro e w1 ⟨rfl, hb1⟩
      obtain ⟨hc1, hf1⟩ := bcell hb1
      have hB1 : Below w.heap.size w w1 := ext_trans (by repeat (first | with_reducible exact ext_refl _ | with_reducible assumption | with_reducible refine ext_alloc ?_ _ | with_reducible refine ext_drew ?_ | with_reducible refine ext_trans ?_ (by assumption))) hb1
      have hzw0_1 : w.heap.size < w1.heap.size := by have := hb1.size; (try simp at this); omega
      have hzw1_1 : w.heap.size + 1 < w1.heap.size := by have := hb1.size; (try simp at this); omega
      go_wp2_with fail
      refine (szPod_any p _ _ _ _ (rd_ext h' (by repeat (first | with_reducible exact ext_refl _ | with_reducible assumption | with_reducible refine ext_alloc ?_ _ | with_reducible refine ext_drew ?_ | with_reducible refine ext_trans ?_ (by assumption)))) (by omega) (by omega)).mono ?_
      rw [HSZP.out]
      rintro e w2 ⟨rfl, hb2⟩
      obtain ⟨hc2, hf2⟩ := bcell hb2
      have hB2 : Below w.heap.size w w2 := ext_trans (by repeat (first | with_reducible exact ext_refl _ | with_reducible assumption | with_reducible refine ext_alloc ?_ _ | with_reducible refine ext_drew ?_ | with_reducible refine ext_trans ?_ (by assumption))) hb2
      have hzw0_2 : w.heap.size < w2.heap.size := by have := hb2.size; (try simp at this); omega
      have hzw1_2 : w.heap.size + 1 < w2.heap.size := by have := hb2.size; (try simp at this); omega
      go_wp2_with fail
      refine wp_region_ix w2 [0, 2] [1, 3, 4, 5] (by kernel_rfl) (by kernel_rfl) (fun _ _ d _ _ h => by cases d <;> exact h) (ext_refl _) ?_
      simp only [pick, List.getElem?_cons_succ, List.getElem?_cons_zero]
      iterate 2
        (apply headC_step
         case hy =>
           refine Or.inl ⟨rfl, fun wq hq => ?_⟩
           have hcq := (cls_cell hq).1
           go_simp
           try rfl
         simp only [Act.put, List.setIfInBounds_toArray, List.set_cons_zero, List.set_cons_succ])
      refine headC_nil ?_
      have hbx : Below w2.heap.size w2 w2.drew := ext_drew (ext_refl _)
      refine wpListC_step rfl (fun K hK => ?_)
      go_simp
      refine (toCluster_any x _ _ _ (rd_ext h (by repeat (first | with_reducible exact ext_refl _ | with_reducible assumption | with_reducible refine ext_alloc ?_ _ | with_reducible refine ext_drew ?_ | with_reducible refine ext_trans ?_ (by assumption)))) HWTCluster.out).mono ?_
      rintro e w3 ⟨cs3, G3, rfl, hO3, hb3⟩
      have hR3 := hO3.rd
      obtain ⟨Ahosts3, chosts3, Fhosts3, Apods3, cpods3, Fpods3, hck, hG3, hhosts3, hpods3, hnext3, hweightspack3, hweightsspread3, hweightssoft3⟩ := rd_Cluster hR3
      subst hck
      clear hG3 hR3
      have hB3 : Below w.heap.size w w3 := ext_trans hB2 (ext_trans hbx hb3)
      replace hbx := ext_trans hbx hb3
      refine hK _ _ hbx (fun _ => ?_)
      try simp only [Act.put, List.setIfInBounds_toArray, List.set_cons_zero, List.set_cons_succ]
      clear hK K
      refine wpListC_step rfl (fun K hK => ?_)
      go_simp
      refine (toPod_any p _ _ _ (rd_ext h' (by repeat (first | with_reducible exact ext_refl _ | with_reducible assumption | with_reducible refine ext_alloc ?_ _ | with_reducible refine ext_drew ?_ | with_reducible refine ext_trans ?_ (by assumption)))) HWTPod.out).mono ?_
      rintro e w4 ⟨cs4, G4, rfl, hO4, hb4⟩
      have hR4 := hO4.rd
      obtain ⟨Alabels4, clabels4, Flabels4, Aneeds4, cneeds4, Fneeds4, Atolerances4, ctolerances4, Ftolerances4, hck, hG4, hname4, hlabels4, hcpu4, hmem4, hrank4, hneeds4, htolerances4⟩ := rd_Pod hR4
      subst hck
      clear hG4 hR4
      replace hbx := ext_trans hbx hb4
      refine hK _ _ hbx (fun _ => ?_)
      try simp only [Act.put, List.setIfInBounds_toArray, List.set_cons_zero, List.set_cons_succ]
      clear hK K
      refine wpListC_step rfl (fun K hK => ?_)
      go_simp
      refine (HSP.out _ _ _ _ _ (hO3.ext hb4).rd hO4.rd).mono ?_
      rintro e w5 ⟨A5, c5, G5, rfl, hO5, hb5⟩
      have hlt5 := hO5.lt
      clear hO3 hO4
      replace hbx := ext_trans hbx hb5
      refine hK _ _ hbx (fun _ => ?_)
      try simp only [Act.put, List.setIfInBounds_toArray, List.set_cons_zero, List.set_cons_succ]
      clear hK K
      refine wpListC_step rfl (fun K hK => ?_)
      go_simp
      refine hK _ _ hbx (fun _ => ?_)
      try simp only [Act.put, List.setIfInBounds_toArray, List.set_cons_zero, List.set_cons_succ]
      clear hK K
      refine wpListC_nil ?_
      replace hb5 := hbx
      clear hbx
      obtain ⟨hc5, hf5⟩ := bcell hb5
      have hB5 : Below w.heap.size w w5 := ext_trans hB2 hb5
      have hzw0_5 : w.heap.size < w5.heap.size := by have := hb5.size; (try simp at this); omega
      have hzw1_5 : w.heap.size + 1 < w5.heap.size := by have := hb5.size; (try simp at this); omega
      go_wp2_with fail
      refine (toCluster_any x _ _ _ (rd_ext h (by repeat (first | with_reducible exact ext_refl _ | with_reducible assumption | with_reducible refine ext_alloc ?_ _ | with_reducible refine ext_drew ?_ | with_reducible refine ext_trans ?_ (by assumption)))) HWTCluster.out).mono ?_
      rintro e w6 ⟨cs6, G6, rfl, hO6, hb6⟩
      obtain ⟨hc6, hf6⟩ := bcell hb6
      have hB6 : Below w.heap.size w w6 := ext_trans (by repeat (first | with_reducible exact ext_refl _ | with_reducible assumption | with_reducible refine ext_alloc ?_ _ | with_reducible refine ext_drew ?_ | with_reducible refine ext_trans ?_ (by assumption))) hb6
      have hzw0_6 : w.heap.size < w6.heap.size := by have := hb6.size; (try simp at this); omega
      have hzw1_6 : w.heap.size + 1 < w6.heap.size := by have := hb6.size; (try simp at this); omega
      first | replace hO5 := Own.ext hO5 hb6 | replace hO5 := Own.ext (hO5.alloc _) hb6 | replace hO5 := Own.ext ((hO5.alloc _).alloc _) hb6
      have hR6 := hO6.rd
      obtain ⟨Ahosts6, chosts6, Fhosts6, Apods6, cpods6, Fpods6, hck, hG6, hhosts6, hpods6, hnext6, hweightspack6, hweightsspread6, hweightssoft6⟩ := rd_Cluster hR6
      subst hck
      clear hG6 hR6
      have hlt6 := hO6.lt
      have hbs6 := hO6.base
      go_wp2_with fail
      refine (toPod_any p _ _ _ (rd_ext h' (by repeat (first | with_reducible exact ext_refl _ | with_reducible assumption | with_reducible refine ext_alloc ?_ _ | with_reducible refine ext_drew ?_ | with_reducible refine ext_trans ?_ (by assumption)))) HWTPod.out).mono ?_
      rintro e w7 ⟨cs7, G7, rfl, hO7, hb7⟩
      obtain ⟨hc7, hf7⟩ := bcell hb7
      have hB7 : Below w.heap.size w w7 := ext_trans (by repeat (first | with_reducible exact ext_refl _ | with_reducible assumption | with_reducible refine ext_alloc ?_ _ | with_reducible refine ext_drew ?_ | with_reducible refine ext_trans ?_ (by assumption))) hb7
      have hzw0_7 : w.heap.size < w7.heap.size := by have := hb7.size; (try simp at this); omega
      have hzw1_7 : w.heap.size + 1 < w7.heap.size := by have := hb7.size; (try simp at this); omega
      have hzw60_7 : w6.heap.size < w7.heap.size := by have := hb7.size; (try simp at this); omega
      first | replace hO5 := Own.ext hO5 hb7 | replace hO5 := Own.ext (hO5.alloc _) hb7 | replace hO5 := Own.ext ((hO5.alloc _).alloc _) hb7
      first | replace hO6 := Own.ext hO6 hb7 | replace hO6 := Own.ext (hO6.alloc _) hb7 | replace hO6 := Own.ext ((hO6.alloc _).alloc _) hb7
      have hR7 := hO7.rd
      obtain ⟨Alabels7, clabels7, Flabels7, Aneeds7, cneeds7, Fneeds7, Atolerances7, ctolerances7, Ftolerances7, hck, hG7, hname7, hlabels7, hcpu7, hmem7, hrank7, hneeds7, htolerances7⟩ := rd_Pod hR7
      subst hck
      clear hG7 hR7
      have hlt7 := hO7.lt
      have hbs7 := hO7.base
      go_wp2_with fail
      refine (HIM.out _ _ _ _ _ (hO6.alloc _).rd (hO7.alloc _).rd).mono ?_
      rintro e w8 ⟨A8, c8, G8, rfl, hO8, hb8⟩
      obtain ⟨hc8, hf8⟩ := bcell hb8
      have hB8 : Below w.heap.size w w8 := ext_trans (by repeat (first | with_reducible exact ext_refl _ | with_reducible assumption | with_reducible refine ext_alloc ?_ _ | with_reducible refine ext_drew ?_ | with_reducible refine ext_trans ?_ (by assumption))) hb8
      have hzw0_8 : w.heap.size < w8.heap.size := by have := hb8.size; (try simp at this); omega
      have hzw1_8 : w.heap.size + 1 < w8.heap.size := by have := hb8.size; (try simp at this); omega
      have hzw60_8 : w6.heap.size < w8.heap.size := by have := hb8.size; (try simp at this); omega
      have hzw70_8 : w7.heap.size < w8.heap.size := by have := hb8.size; (try simp at this); omega
      first | replace hO5 := Own.ext hO5 hb8 | replace hO5 := Own.ext (hO5.alloc _) hb8 | replace hO5 := Own.ext ((hO5.alloc _).alloc _) hb8
      first | replace hO6 := Own.ext hO6 hb8 | replace hO6 := Own.ext (hO6.alloc _) hb8 | replace hO6 := Own.ext ((hO6.alloc _).alloc _) hb8
      first | replace hO7 := Own.ext hO7 hb8 | replace hO7 := Own.ext (hO7.alloc _) hb8 | replace hO7 := Own.ext ((hO7.alloc _).alloc _) hb8
      have hlt8 := hO8.lt
      have hbs8 := hO8.base
      go_wp2_with fail
      refine (eqStringS_any vs vs A8 A5 _ _ _ _ _ hO8.rd hO5.rd).mono ?_
      rw [HSL.out]
      rintro e w9 ⟨rfl, hb9⟩
      obtain ⟨hc9, hf9⟩ := bcell hb9
      have hB9 : Below w.heap.size w w9 := ext_trans (by repeat (first | with_reducible exact ext_refl _ | with_reducible assumption | with_reducible refine ext_alloc ?_ _ | with_reducible refine ext_drew ?_ | with_reducible refine ext_trans ?_ (by assumption))) hb9
      have hzw0_9 : w.heap.size < w9.heap.size := by have := hb9.size; (try simp at this); omega
      have hzw1_9 : w.heap.size + 1 < w9.heap.size := by have := hb9.size; (try simp at this); omega
      have hzw60_9 : w6.heap.size < w9.heap.size := by have := hb9.size; (try simp at this); omega
      have hzw70_9 : w7.heap.size < w9.heap.size := by have := hb9.size; (try simp at this); omega
      first | replace hO5 := Own.ext hO5 hb9 | replace hO5 := Own.ext (hO5.alloc _) hb9 | replace hO5 := Own.ext ((hO5.alloc _).alloc _) hb9
      first | replace hO6 := Own.ext hO6 hb9 | replace hO6 := Own.ext (hO6.alloc _) hb9 | replace hO6 := Own.ext ((hO6.alloc _).alloc _) hb9
      first | replace hO7 := Own.ext hO7 hb9 | replace hO7 := Own.ext (hO7.alloc _) hb9 | replace hO7 := Own.ext ((hO7.alloc _).alloc _) hb9
      first | replace hO8 := Own.ext hO8 hb9 | replace hO8 := Own.ext (hO8.alloc _) hb9 | replace hO8 := Own.ext ((hO8.alloc _).alloc _) hb9
      go_wp2_with fail
      refine wp_region_head w9 2 (by kernel_rfl) (by kernel_rfl) (fun _ _ d _ _ h => by cases d <;> exact h) (ext_refl _) ?_
      simp only [List.take_succ_cons, List.take_zero, List.drop_succ_cons, List.drop_zero]
      iterate 2
        (apply headC_step
         case hy =>
           refine Or.inl ⟨rfl, fun wq hq => ?_⟩
           have hcq := (cls_cell hq).1
           go_simp
           try rfl
         simp only [Act.put, List.setIfInBounds_toArray, List.set_cons_zero, List.set_cons_succ])
      refine headC_nil ?_
      refine wpListC_step rfl (fun K hK => ?_)
      go_simp
      refine (toCluster_any x _ _ _ (rd_ext h (by repeat (first | with_reducible exact ext_refl _ | with_reducible assumption | with_reducible refine ext_alloc ?_ _ | with_reducible refine ext_drew ?_ | with_reducible refine ext_trans ?_ (by assumption)))) HWTCluster.out).mono ?_
      rintro e w10 ⟨cs10, G10, rfl, hO10, hb10⟩
      have hR10 := hO10.rd
      obtain ⟨Ahosts10, chosts10, Fhosts10, Apods10, cpods10, Fpods10, hck, hG10, hhosts10, hpods10, hnext10, hweightspack10, hweightsspread10, hweightssoft10⟩ := rd_Cluster hR10
      subst hck
      clear hG10 hR10
      have hbx : Below w9.heap.size w9 w10 := ext_trans (ext_drew (ext_refl _)) hb10
      refine hK _ _ hbx (fun _ => ?_)
      try simp only [Act.put, List.setIfInBounds_toArray, List.set_cons_zero, List.set_cons_succ]
      clear hK K
      refine wpListC_step rfl (fun K hK => ?_)
      go_simp
      refine (eqCluster_any x x _ _ _ _ _ (hO6.ext hbx).rd hO10.rd).mono ?_
      rw [HSAMECluster.out]
      rintro e w11 ⟨rfl, hb11⟩
      replace hbx := ext_trans hbx hb11
      refine hK _ _ hbx (fun _ => ?_)
      try simp only [Act.put, List.setIfInBounds_toArray, List.set_cons_zero, List.set_cons_succ]
      clear hK K
      refine wpListC_step rfl (fun K hK => ?_)
      go_simp
      refine hK _ _ hbx (fun _ => ?_)
      try simp only [Act.put, List.setIfInBounds_toArray, List.set_cons_zero, List.set_cons_succ]
      clear hK K
      refine wpListC_nil ?_
      replace hb11 := hbx
      clear hbx hb10 hO10
      obtain ⟨hc11, hf11⟩ := bcell hb11
      have hB11 : Below w.heap.size w w11 := ext_trans hB9 hb11
      have hzw0_11 : w.heap.size < w11.heap.size := by have := hb11.size; (try simp at this); omega
      have hzw1_11 : w.heap.size + 1 < w11.heap.size := by have := hb11.size; (try simp at this); omega
      have hzw60_11 : w6.heap.size < w11.heap.size := by have := hb11.size; (try simp at this); omega
      have hzw70_11 : w7.heap.size < w11.heap.size := by have := hb11.size; (try simp at this); omega
      first | replace hO5 := Own.ext hO5 hb11 | replace hO5 := Own.ext (hO5.alloc _) hb11 | replace hO5 := Own.ext ((hO5.alloc _).alloc _) hb11
      first | replace hO6 := Own.ext hO6 hb11 | replace hO6 := Own.ext (hO6.alloc _) hb11 | replace hO6 := Own.ext ((hO6.alloc _).alloc _) hb11
      first | replace hO7 := Own.ext hO7 hb11 | replace hO7 := Own.ext (hO7.alloc _) hb11 | replace hO7 := Own.ext ((hO7.alloc _).alloc _) hb11
      first | replace hO8 := Own.ext hO8 hb11 | replace hO8 := Own.ext (hO8.alloc _) hb11 | replace hO8 := Own.ext ((hO8.alloc _).alloc _) hb11
      go_wp2_with fail
      refine wp_region_head w11 2 (by kernel_rfl) (by kernel_rfl) (fun _ _ d _ _ h => by cases d <;> exact h) (ext_refl _) ?_
      simp only [List.take_succ_cons, List.take_zero, List.drop_succ_cons, List.drop_zero]
      iterate 2
        (apply headC_step
         case hy =>
           refine Or.inl ⟨rfl, fun wq hq => ?_⟩
           have hcq := (cls_cell hq).1
           go_simp
           try rfl
         simp only [Act.put, List.setIfInBounds_toArray, List.set_cons_zero, List.set_cons_succ])
      refine headC_nil ?_
      refine wpListC_step rfl (fun K hK => ?_)
      go_simp
      refine (toPod_any p _ _ _ (rd_ext h' (by repeat (first | with_reducible exact ext_refl _ | with_reducible assumption | with_reducible refine ext_alloc ?_ _ | with_reducible refine ext_drew ?_ | with_reducible refine ext_trans ?_ (by assumption)))) HWTPod.out).mono ?_
      rintro e w12 ⟨cs12, G12, rfl, hO12, hb12⟩
      have hR12 := hO12.rd
      obtain ⟨Alabels12, clabels12, Flabels12, Aneeds12, cneeds12, Fneeds12, Atolerances12, ctolerances12, Ftolerances12, hck, hG12, hname12, hlabels12, hcpu12, hmem12, hrank12, hneeds12, htolerances12⟩ := rd_Pod hR12
      subst hck
      clear hG12 hR12
      have hbx : Below w11.heap.size w11 w12 := ext_trans (ext_drew (ext_refl _)) hb12
      refine hK _ _ hbx (fun _ => ?_)
      try simp only [Act.put, List.setIfInBounds_toArray, List.set_cons_zero, List.set_cons_succ]
      clear hK K
      refine wpListC_step rfl (fun K hK => ?_)
      go_simp
      refine (eqPod_any p p _ _ _ _ _ (hO7.ext hbx).rd hO12.rd).mono ?_
      rw [HSAMEPod.out]
      rintro e w13 ⟨rfl, hb13⟩
      replace hbx := ext_trans hbx hb13
      refine hK _ _ hbx (fun _ => ?_)
      try simp only [Act.put, List.setIfInBounds_toArray, List.set_cons_zero, List.set_cons_succ]
      clear hK K
      refine wpListC_step rfl (fun K hK => ?_)
      go_simp
      refine hK _ _ hbx (fun _ => ?_)
      try simp only [Act.put, List.setIfInBounds_toArray, List.set_cons_zero, List.set_cons_succ]
      clear hK K
      refine wpListC_nil ?_
      replace hb13 := hbx
      clear hbx hb12 hO12
      obtain ⟨hc13, hf13⟩ := bcell hb13
      have hB13 : Below w.heap.size w w13 := ext_trans hB11 hb13
      have hzw0_13 : w.heap.size < w13.heap.size := by have := hb13.size; (try simp at this); omega
      have hzw1_13 : w.heap.size + 1 < w13.heap.size := by have := hb13.size; (try simp at this); omega
      have hzw60_13 : w6.heap.size < w13.heap.size := by have := hb13.size; (try simp at this); omega
      have hzw70_13 : w7.heap.size < w13.heap.size := by have := hb13.size; (try simp at this); omega
      first | replace hO5 := Own.ext hO5 hb13 | replace hO5 := Own.ext (hO5.alloc _) hb13 | replace hO5 := Own.ext ((hO5.alloc _).alloc _) hb13
      first | replace hO6 := Own.ext hO6 hb13 | replace hO6 := Own.ext (hO6.alloc _) hb13 | replace hO6 := Own.ext ((hO6.alloc _).alloc _) hb13
      first | replace hO7 := Own.ext hO7 hb13 | replace hO7 := Own.ext (hO7.alloc _) hb13 | replace hO7 := Own.ext ((hO7.alloc _).alloc _) hb13
      first | replace hO8 := Own.ext hO8 hb13 | replace hO8 := Own.ext (hO8.alloc _) hb13 | replace hO8 := Own.ext ((hO8.alloc _).alloc _) hb13
      have hs56 : w5.heap.size ≤ w6.heap.size := by have := hb6.size; (try simp at this); omega
      have hs67 : w6.heap.size < w7.heap.size := hzw60_7
      have hs78 : w7.heap.size < w8.heap.size := hzw70_8
      have hs813 : w8.heap.size ≤ w13.heap.size := by have := hb9.size; have := hb11.size; have := hb13.size; (try simp at *); omega
      replace hbs6 : ∀ b ∈ G6, w5.heap.size ≤ b := fun b hb => by have := hbs6 b hb; (try simp at this); omega
      replace hbs7 : ∀ b ∈ G7, w6.heap.size < b := fun b hb => by have := hbs7 b hb; (try simp at this); omega
      replace hbs8 : ∀ b ∈ G8, w7.heap.size < b := fun b hb => by have := hbs8 b hb; (try simp at this); omega
      go_wp2_with fail
      refine (markCluster_any x _ _ _ 1 _ hO6 (by omega) (by omega)).mono ?_
      rintro e w14 ⟨rfl, hO14, hU14⟩
      have hb14 : Below w5.heap.size w13 w14 := hU14.below hbs6 (by omega)
      obtain ⟨hc14, hf14⟩ := bcellB hb14
      have hB14 : Below w.heap.size w w14 := hB13.trans (hb14.mono (by have := hB5.size; omega))
      have hx14 : ∀ o, w14.cell? ⟨w7.heap.size, o, none⟩ = w13.cell? ⟨w7.heap.size, o, none⟩ := fun o => World.cell?_of_block (hU14.block _ (by omega) (fun hg => by have h99 : w7.heap.size < w6.heap.size := hlt6 _ hg; omega))
      replace hO5 := hU14.own hO5 (fun b hb hg => by have := hlt5 b hb; have := hbs6 b hg; omega)
      replace hO7 := hU14.own hO7 (fun b hb hg => by have := hbs7 b hb; have := hlt6 b hg; omega)
      replace hO8 := hU14.own hO8 (fun b hb hg => by have := hbs8 b hb; have := hlt6 b hg; omega)
      clear hO14
      have hs1314 : w13.heap.size ≤ w14.heap.size := hb14.size
      have hzw0_14 : w.heap.size < w14.heap.size := by omega
      have hzw1_14 : w.heap.size + 1 < w14.heap.size := by omega
      have hzw70_14 : w7.heap.size < w14.heap.size := by omega
      go_wp2_with fail
      refine (markPod_any p _ _ _ _ _ hO7 (by omega) (by omega)).mono ?_
      rintro e w15 ⟨rfl, hO15, hU15⟩
      have hb15 : Below w5.heap.size w14 w15 := hU15.below (fun b hb => by have := hbs7 b hb; omega) (by omega)
      obtain ⟨hc15, hf15⟩ := bcellB hb15
      have hB15 : Below w.heap.size w w15 := hB14.trans (hb15.mono (by have := hB5.size; omega))
      replace hO5 := hU15.own hO5 (fun b hb hg => by have := hlt5 b hb; have := hbs7 b hg; omega)
      replace hO8 := hU15.own hO8 (fun b hb hg => by have := hbs8 b hb; have := hlt7 b hg; omega)
      clear hO15
      have hs1415 : w14.heap.size ≤ w15.heap.size := hb15.size
      have hzw0_15 : w.heap.size < w15.heap.size := by omega
      have hzw1_15 : w.heap.size + 1 < w15.heap.size := by omega
      go_wp2_with fail
      refine (eqStringS_any vs vs A8 A5 _ _ _ _ _ hO8.rd hO5.rd).mono ?_
      rw [HSL.out]
      rintro e w16 ⟨rfl, hb16⟩
      obtain ⟨hc16, hf16⟩ := bcell hb16
      have hB16 : Below w.heap.size w w16 := ext_trans (by repeat (first | with_reducible exact ext_refl _ | with_reducible assumption | with_reducible refine ext_alloc ?_ _ | with_reducible refine ext_drew ?_ | with_reducible refine ext_trans ?_ (by assumption))) hb16
      have hzw0_16 : w.heap.size < w16.heap.size := by have := hb16.size; (try simp at this); omega
      have hzw1_16 : w.heap.size + 1 < w16.heap.size := by have := hb16.size; (try simp at this); omega
      first | replace hO5 := Own.ext hO5 hb16 | replace hO5 := Own.ext (hO5.alloc _) hb16 | replace hO5 := Own.ext ((hO5.alloc _).alloc _) hb16
      first | replace hO8 := Own.ext hO8 hb16 | replace hO8 := Own.ext (hO8.alloc _) hb16 | replace hO8 := Own.ext ((hO8.alloc _).alloc _) hb16
      have hs1516 : w15.heap.size ≤ w16.heap.size := hb16.size
      go_wp2_with fail
      refine (markStringS_any vs A8 _ _ G8 _ 1 _ hO8 rfl (by omega) (by rw [cntL_str]; omega)).mono ?_
      rw [cntL_str]
      rintro e w17 ⟨rfl, hO17, hU17⟩
      have hb17 : Below w5.heap.size w16 w17 := hU17.below (fun b hb => by have := hbs8 b hb; omega) (by omega)
      obtain ⟨hc17, hf17⟩ := bcellB hb17
      have hB17 : Below w.heap.size w w17 := hB16.trans (hb17.mono (by have := hB5.size; omega))
      replace hO5 := hU17.own hO5 (fun b hb hg => by have := hlt5 b hb; have := hbs8 b hg; omega)
      have hs1617 : w16.heap.size ≤ w17.heap.size := hb17.size
      have hzw0_17 : w.heap.size < w17.heap.size := by omega
      have hzw1_17 : w.heap.size + 1 < w17.heap.size := by omega
      go_wp2_with fail
      refine (heldStringS_any (mkL mkStr cntStr vs 1) A8 _ _ G8 1 _ hO17.rd (by rw [mkL_len]) (mkL_idem cntStr_mk mkStr_idem _ _) (by omega) (by rw [cntL_mkL cntStr_mk, cntL_str]; omega)).mono ?_
      rw [cntL_mkL cntStr_mk, cntL_str]
      rintro e w18 ⟨rfl, hb18⟩
      obtain ⟨hc18, hf18⟩ := bcell hb18
      have hB18 : Below w.heap.size w w18 := ext_trans (by repeat (first | with_reducible exact ext_refl _ | with_reducible assumption | with_reducible refine ext_alloc ?_ _ | with_reducible refine ext_drew ?_ | with_reducible refine ext_trans ?_ (by assumption))) hb18
      have hzw0_18 : w.heap.size < w18.heap.size := by have := hb18.size; (try simp at this); omega
      have hzw1_18 : w.heap.size + 1 < w18.heap.size := by have := hb18.size; (try simp at this); omega
      first | replace hO5 := Own.ext hO5 hb18 | replace hO5 := Own.ext (hO5.alloc _) hb18 | replace hO5 := Own.ext ((hO5.alloc _).alloc _) hb18
      first | replace hO17 := Own.ext hO17 hb18 | replace hO17 := Own.ext (hO17.alloc _) hb18 | replace hO17 := Own.ext ((hO17.alloc _).alloc _) hb18
      go_wp2_with fail
      refine wp_region_ix w18 [0, 2] [1, 3, 4, 5] (by kernel_rfl) (by kernel_rfl) (fun _ _ d _ _ h => by cases d <;> exact h) (ext_refl _) ?_
      simp only [pick, List.getElem?_cons_succ, List.getElem?_cons_zero]
      iterate 2
        (apply headC_step
         case hy =>
           refine Or.inl ⟨rfl, fun wq hq => ?_⟩
           have hcq := (cls_cell hq).1
           go_simp
           try rfl
         simp only [Act.put, List.setIfInBounds_toArray, List.set_cons_zero, List.set_cons_succ])
      refine headC_nil ?_
      have hbx : Below w18.heap.size w18 w18.drew := ext_drew (ext_refl _)
      refine wpListC_step rfl (fun K hK => ?_)
      go_simp
      refine (toCluster_any x _ _ _ (rd_ext h (by repeat (first | with_reducible exact ext_refl _ | with_reducible assumption | with_reducible refine ext_alloc ?_ _ | with_reducible refine ext_drew ?_ | with_reducible refine ext_trans ?_ (by assumption)))) HWTCluster.out).mono ?_
      rintro e w19 ⟨cs19, G19, rfl, hO19, hb19⟩
      have hR19 := hO19.rd
      obtain ⟨Ahosts19, chosts19, Fhosts19, Apods19, cpods19, Fpods19, hck, hG19, hhosts19, hpods19, hnext19, hweightspack19, hweightsspread19, hweightssoft19⟩ := rd_Cluster hR19
      subst hck
      clear hG19 hR19
      have hB19 : Below w.heap.size w w19 := ext_trans hB18 (ext_trans hbx hb19)
      replace hbx := ext_trans hbx hb19
      refine hK _ _ hbx (fun _ => ?_)
      try simp only [Act.put, List.setIfInBounds_toArray, List.set_cons_zero, List.set_cons_succ]
      clear hK K
      refine wpListC_step rfl (fun K hK => ?_)
      go_simp
      refine (toPod_any p _ _ _ (rd_ext h' (by repeat (first | with_reducible exact ext_refl _ | with_reducible assumption | with_reducible refine ext_alloc ?_ _ | with_reducible refine ext_drew ?_ | with_reducible refine ext_trans ?_ (by assumption)))) HWTPod.out).mono ?_
      rintro e w20 ⟨cs20, G20, rfl, hO20, hb20⟩
      have hR20 := hO20.rd
      obtain ⟨Alabels20, clabels20, Flabels20, Aneeds20, cneeds20, Fneeds20, Atolerances20, ctolerances20, Ftolerances20, hck, hG20, hname20, hlabels20, hcpu20, hmem20, hrank20, hneeds20, htolerances20⟩ := rd_Pod hR20
      subst hck
      clear hG20 hR20
      replace hbx := ext_trans hbx hb20
      refine hK _ _ hbx (fun _ => ?_)
      try simp only [Act.put, List.setIfInBounds_toArray, List.set_cons_zero, List.set_cons_succ]
      clear hK K
      refine wpListC_step rfl (fun K hK => ?_)
      go_simp
      refine (HIM.out _ _ _ _ _ (hO19.ext hb20).rd hO20.rd).mono ?_
      rintro e w21 ⟨A21, c21, G21, rfl, hO21, hb21⟩
      clear hO19 hO20
      replace hbx := ext_trans hbx hb21
      refine hK _ _ hbx (fun _ => ?_)
      try simp only [Act.put, List.setIfInBounds_toArray, List.set_cons_zero, List.set_cons_succ]
      clear hK K
      refine wpListC_step rfl (fun K hK => ?_)
      go_simp
      refine hK _ _ hbx (fun _ => ?_)
      try simp only [Act.put, List.setIfInBounds_toArray, List.set_cons_zero, List.set_cons_succ]
      clear hK K
      refine wpListC_nil ?_
      replace hb21 := hbx
      clear hbx
      obtain ⟨hc21, hf21⟩ := bcell hb21
      have hB21 : Below w.heap.size w w21 := ext_trans hB18 hb21
      have hzw0_21 : w.heap.size < w21.heap.size := by have := hb21.size; (try simp at this); omega
      have hzw1_21 : w.heap.size + 1 < w21.heap.size := by have := hb21.size; (try simp at this); omega
      first | replace hO5 := Own.ext hO5 hb21 | replace hO5 := Own.ext (hO5.alloc _) hb21 | replace hO5 := Own.ext ((hO5.alloc _).alloc _) hb21
      first | replace hO17 := Own.ext hO17 hb21 | replace hO17 := Own.ext (hO17.alloc _) hb21 | replace hO17 := Own.ext ((hO17.alloc _).alloc _) hb21
      go_wp2_with fail
      refine (eqStringS_any vs vs A21 A5 _ _ _ _ _ hO21.rd hO5.rd).mono ?_
      rw [HSL.out]
      rintro e w22 ⟨rfl, hb22⟩
      obtain ⟨hc22, hf22⟩ := bcell hb22
      have hB22 : Below w.heap.size w w22 := ext_trans (by repeat (first | with_reducible exact ext_refl _ | with_reducible assumption | with_reducible refine ext_alloc ?_ _ | with_reducible refine ext_drew ?_ | with_reducible refine ext_trans ?_ (by assumption))) hb22
      have hzw0_22 : w.heap.size < w22.heap.size := by have := hb22.size; (try simp at this); omega
      have hzw1_22 : w.heap.size + 1 < w22.heap.size := by have := hb22.size; (try simp at this); omega
      first | replace hO5 := Own.ext hO5 hb22 | replace hO5 := Own.ext (hO5.alloc _) hb22 | replace hO5 := Own.ext ((hO5.alloc _).alloc _) hb22
      first | replace hO17 := Own.ext hO17 hb22 | replace hO17 := Own.ext (hO17.alloc _) hb22 | replace hO17 := Own.ext ((hO17.alloc _).alloc _) hb22
      first | replace hO21 := Own.ext hO21 hb22 | replace hO21 := Own.ext (hO21.alloc _) hb22 | replace hO21 := Own.ext ((hO21.alloc _).alloc _) hb22
      go_wp2_with fail
      refine (heldStringS_any (mkL mkStr cntStr vs 1) A8 _ _ G8 1 _ hO17.rd (by rw [mkL_len]) (mkL_idem cntStr_mk mkStr_idem _ _) (by omega) (by rw [cntL_mkL cntStr_mk, cntL_str]; omega)).mono ?_
      rw [cntL_mkL cntStr_mk, cntL_str]
      rintro e w23 ⟨rfl, hb23⟩
      obtain ⟨hc23, hf23⟩ := bcell hb23
      have hB23 : Below w.heap.size w w23 := ext_trans (by repeat (first | with_reducible exact ext_refl _ | with_reducible assumption | with_reducible refine ext_alloc ?_ _ | with_reducible refine ext_drew ?_ | with_reducible refine ext_trans ?_ (by assumption))) hb23
      have hzw0_23 : w.heap.size < w23.heap.size := by have := hb23.size; (try simp at this); omega
      have hzw1_23 : w.heap.size + 1 < w23.heap.size := by have := hb23.size; (try simp at this); omega
      first | replace hO5 := Own.ext hO5 hb23 | replace hO5 := Own.ext (hO5.alloc _) hb23 | replace hO5 := Own.ext ((hO5.alloc _).alloc _) hb23
      first | replace hO17 := Own.ext hO17 hb23 | replace hO17 := Own.ext (hO17.alloc _) hb23 | replace hO17 := Own.ext ((hO17.alloc _).alloc _) hb23
      first | replace hO21 := Own.ext hO21 hb23 | replace hO21 := Own.ext (hO21.alloc _) hb23 | replace hO21 := Own.ext ((hO21.alloc _).alloc _) hb23
      go_wp2
      go_ret
      exact ⟨rfl, hB23⟩
    · have hszp : szR p.wt (1048576 - x.wt) = -1 := by have := szR_spec p.wt (1048576 - x.wt); omega
      have HSZP := Lib.hid hszp
      clear hszp hwp
      have hr := h
      have hr' := h'
      obtain ⟨Ahosts, chosts, Fhosts, Apods, cpods, Fpods, hck, hF0, hhosts, hpods, hnext, hweightspack, hweightsspread, hweightssoft⟩ := rd_Cluster hr
      obtain ⟨Alabels2, clabels2, Flabels2, Aneeds2, cneeds2, Fneeds2, Atolerances2, ctolerances2, Ftolerances2, hck2, hG0, hname2, hlabels2, hcpu2, hmem2, hrank2, hneeds2, htolerances2⟩ := rd_Pod hr'
      subst hck hck2
      clear hF0 hG0 hr hr'
      go_enter Tryz.func6, Tryz.ntmps6
      go_wp2_with fail
      refine (szCluster_any x _ _ _ _ (rd_ext h (by repeat (first | with_reducible exact ext_refl _ | with_reducible assumption | with_reducible refine ext_alloc ?_ _ | with_reducible refine ext_drew ?_ | with_reducible refine ext_trans ?_ (by assumption)))) (by omega) (by omega)).mono ?_
      rw [HSZ.out]
      rintro e w1 ⟨rfl, hb1⟩
      obtain ⟨hc1, hf1⟩ := bcell hb1
      have hz1 : w.heap.size + 1 < w1.heap.size := by have := hb1.size; (try simp at this); omega
      have hy1 : w.heap.size < w1.heap.size := by omega
      go_wp2_with fail
      refine (szPod_any p _ _ _ _ (rd_ext h' (by repeat (first | with_reducible exact ext_refl _ | with_reducible assumption | with_reducible refine ext_alloc ?_ _ | with_reducible refine ext_drew ?_ | with_reducible refine ext_trans ?_ (by assumption)))) (by omega) (by omega)).mono ?_
      rw [HSZP.out]
      rintro e w2 ⟨rfl, hb2⟩
      go_wp2
      go_ret
      exact ⟨rfl, (by repeat (first | with_reducible exact ext_refl _ | with_reducible assumption | with_reducible refine ext_alloc ?_ _ | with_reducible refine ext_drew ?_ | with_reducible refine ext_trans ?_ (by assumption)))⟩
  · have hsz : szR x.wt 1048576 = -1 := by have := szR_spec x.wt 1048576; omega
    have HSZ := Lib.hid hsz
    clear hsz hw
    have hr := h
    have hr' := h'
    obtain ⟨Ahosts, chosts, Fhosts, Apods, cpods, Fpods, hck, hF0, hhosts, hpods, hnext, hweightspack, hweightsspread, hweightssoft⟩ := rd_Cluster hr
    obtain ⟨Alabels2, clabels2, Flabels2, Aneeds2, cneeds2, Fneeds2, Atolerances2, ctolerances2, Ftolerances2, hck2, hG0, hname2, hlabels2, hcpu2, hmem2, hrank2, hneeds2, htolerances2⟩ := rd_Pod hr'
    subst hck hck2
    clear hF0 hG0 hr hr'
    go_enter Tryz.func6, Tryz.ntmps6
    go_wp2_with fail
    refine (szCluster_any x _ _ _ _ (rd_ext h (by repeat (first | with_reducible exact ext_refl _ | with_reducible assumption | with_reducible refine ext_alloc ?_ _ | with_reducible refine ext_drew ?_ | with_reducible refine ext_trans ?_ (by assumption)))) (by omega) (by omega)).mono ?_
    rw [HSZ.out]
    rintro e w1 ⟨rfl, hb1⟩
    go_wp2
    go_ret
    exact ⟨rfl, (by repeat (first | with_reducible exact ext_refl _ | with_reducible assumption | with_reducible refine ext_alloc ?_ _ | with_reducible refine ext_drew ?_ | with_reducible refine ext_trans ?_ (by assumption)))⟩

set_option maxRecDepth 100000 in
theorem law_walk {H : Type} {enc : TypeId × Value → H} (W : World) (base : Nat) (args : Array Value) (ds : List (DataW H)) (p : List MemPlace)
    (hval : ∀ (j : Nat) t v, Tryz.f6.params[j]? = some t → args[j]? = some v → Value.okWide Tryz.prog W .any base t v)
    (hA : DataW.TrodAll enc Tryz.prog W 0 (fun _ => true) true Tryz.f6.params.toList args.toList ds p) (hlt : ∀ x ∈ p, x.block < W.heap.size) :
    Calls Tryz.prog 6 args W fun e W' => e = .returned (.bool true) ∧ Below W.heap.size W W' := by
  rw [Tryz.params6] at hA hval
  obtain ⟨v0, vs0, d0, ds0, p0, q0, hargs, rfl, rfl, h0, r0⟩ := trodAll_cons hA
  obtain ⟨v1, vs1, d1, ds1, p1, q1, rfl, rfl, rfl, h1, r1⟩ := trodAll_cons r0
  obtain ⟨rfl, rfl, rfl⟩ := trodAll_nil r1
  obtain rfl : args = #[v0, v1] := by cases args; simp_all
  have hv0 := hval 0 27 v0 rfl rfl
  obtain ⟨cs, rfl, _⟩ := okWide_struct Tryz.underlying27 hv0
  clear hv0
  have hv1 := hval 1 47 v1 rfl rfl
  obtain ⟨ps, rfl, _⟩ := okWide_struct Tryz.underlying47 hv1
  clear hv1
  obtain ⟨fuel, hf⟩ := h0
  obtain ⟨x, F, hr⟩ := opens_Cluster H enc W 0 fuel _ _ _ _ hf
  obtain ⟨fuel2, hf2⟩ := h1
  obtain ⟨p, G, hr2⟩ := opens_Pod H enc W 0 fuel2 _ _ _ _ hf2
  exact walk x p cs.toList ps.toList F G W hr hr2

theorem own : ownKnob Tryz.prog.godebug = none := by kernel_rfl
theorem laid : laidOutB Tryz.prog = true := by kernel_rfl
theorem readable : ∀ t ∈ Tryz.f6.params.toList, Tryz.prog.readableRec t = true ∧ t < Tryz.prog.types.size := by
  have h : (Tryz.f6.params.toList.all fun t => Tryz.prog.readableRec t && decide (t < Tryz.prog.types.size)) = true := by kernel_rfl
  intro t ht
  have := List.all_eq_true.1 h t ht
  simpa using this

theorem law_shape {H : Type} {enc : TypeId × Value → H} {W : World} {args : List Value} {ds : List (DataW H)} {p : List MemPlace}
    (h : DataW.TrodAll enc Tryz.prog W 0 (fun _ => true) true Tryz.f6.params.toList args ds p) : ∃ d0 d1, ds = [d0, d1] := by
  rw [Tryz.params6] at h
  obtain ⟨v0, vs0, d0, ds0, p0, q0, _, rfl, _, _, r0⟩ := trodAll_cons h
  obtain ⟨v1, vs1, d1, ds1, p1, q1, _, rfl, _, _, r1⟩ := trodAll_cons r0
  obtain ⟨_, rfl, _⟩ := trodAll_nil r1
  exact ⟨d0, d1, rfl⟩

set_option maxRecDepth 100000 in
theorem lifted (os : Os) (started : os.Started) (H : Type) (enc : TypeId × Value → H) :
    ReturnsInHanded {} Tryz.checked os 6 .any (Rows.fnExactRankingOfSpec.pre6 enc Tryz.prog Tryz.f6 Rows.fnExactRankingOfRow.domain false) (Rows.fnExactRankingOfSpec.post enc Tryz.prog Tryz.f6 false true false false) := by
  refine returnsInHanded_of_change (C := Tryz.checked) own started (by kernel_rfl) Tryz.func6
    (ChangeSpec.witness6 (enc := enc) (C := Tryz.checked) false ⟨#[], #[.agg #[.slice none 0 0, .slice none 0 0, .int .i64 0, .int .i64 0, .int .i64 0, .int .i64 0], .agg #[.string ⟨#[]⟩, .slice none 0 0, .int .i64 0, .int .i64 0, .int .i64 0, .slice none 0 0, .slice none 0 0]], []⟩ 8 (by kernel_rfl) (by kernel_rfl) (by kernel_rfl) (by kernel_rfl)) ?_
  intro W base args ds gs before hval0 hW hcnd _
  have hlt : ∀ x ∈ before, x.block < W.heap.size := fun x hx => hW.lt x hx
  have hW' := hW
  obtain ⟨p, q, hA, hV, rfl, _, _⟩ := hW'
  exact (law_walk W base args ds p hval0 hA (fun x hx => hlt x (List.mem_append_left _ hx))).mono fun e W' ⟨he, hb⟩ =>
    ⟨_, he, law_post laid readable rfl Tryz.underlying4 rfl (by obtain ⟨d0, d1, hs⟩ := law_shape hA; rw [hs]; rfl) hW hb⟩

theorem over : Rows.fnExactRankingOfRow.holds Tryz.pinned (OpenSpec.ofChange Rows.fnExactRankingOfSpec) :=
  OpenClaim.holds_of_wide 6 Tryz.f6 rfl rfl rfl rfl rfl rfl rfl ⟨rfl, rfl, rfl, rfl, rfl⟩ rfl rfl rfl rfl rfl (by kernel_rfl) Tryz.func6 (by kernel_rfl)
    (of_decide_eq_true (by kernel_rfl)) (by unfold Func.isWrapper; first | (rw [if_pos (by decide +kernel)]; kernel_rfl) | (rw [if_neg (by decide +kernel)]; exact ⟨rfl, rfl⟩))
    (fun os started H enc _ => lifted os started H enc)

theorem proved : Rows.FnExactRankingOfSaid :=
  over
#print axioms proved
end Go.Proofs.YtjoclfenghenjaaGreat.fnExactRankingOf
