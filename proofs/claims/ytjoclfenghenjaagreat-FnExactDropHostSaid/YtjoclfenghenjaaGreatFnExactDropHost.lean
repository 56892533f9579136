/- FnExactDropHost: for every cluster and name the program's DropHost and the reference's answer alike, the result in memory of its own, and the program leaves the cluster as it was. No condition. -/
import Derived.Test.YtjoclfenghenjaaGreatOpsH0
import Derived.Test.YtjoclfenghenjaaGreatReg0
import Derived.Test.YtjoclfenghenjaaGreatToCluster
import Derived.Test.YtjoclfenghenjaaGreatOpenAll
import Derived.Test.YtjoclfenghenjaaGreatLaw1
import Derived.Test.YtjoclfenghenjaaGreatMtTop
import Derived.StillTailTactics
namespace Go.Proofs.YtjoclfenghenjaaGreat.fnExactDropHost
open Go.ChangeShapes Go.WideShapes Go.ChangeAt Go.RowKit
set_option linter.unusedVariables false
set_option linter.unusedSimpArgs false
theorem ownNe {α : Type} [Dat α] {w : World} {B c i : Nat} {u : Value} {x : α} {cs : List Value} {F : List Nat} (h : Own w B x cs F) (hF : ∀ y ∈ F, y ≠ c) : Own (w.setCell ⟨c, i, none⟩ u) B x cs F :=
  h.keep (fun y hy => Below.heap_setCell _ _ _ _ (by have := hF y hy; dsimp only; omega)) (by simp [World.setCell])
set_option maxRecDepth 100000 in
set_option maxHeartbeats 8000000 in
theorem walk (x : Cluster) (cs : List Value) (F : List Nat) (nm : ByteArray) (w : World) (h : rd w x cs F) :
    Calls Tryz.prog 4 #[.agg cs.toArray, .string nm] w fun e w' => e = .returned (.bool true) ∧ Below w.heap.size w w' := by
  by_cases hnm : (1048576 : Int) < nm.size
  · go_enter Tryz.func4, Tryz.ntmps4
    go_wp2
    go_ret
    exact ⟨rfl, (by repeat (first | with_reducible exact ext_refl _ | with_reducible assumption | with_reducible refine ext_alloc ?_ _ | with_reducible refine ext_drew ?_ | with_reducible refine ext_trans ?_ (by assumption)))⟩
  have hnm2 : (nm.size : Int) ≤ 1048576 := by omega
  by_cases hw : (x.wt : Int) ≤ 1048576
  · have hsz : szR x.wt 1048576 = 1048576 - x.wt := by have := szR_spec x.wt 1048576; omega
    have HSZ := Lib.hid hsz
    have hb0 : (0 : Int) ≤ 1048576 - x.wt := by omega
    have hcx : (cntTopCluster x : Int) ≤ 6291456 := by have := cntTopCluster_le x; omega
    have hcr : (cntTopCluster (dropH x nm).1 : Int) ≤ 6291456 := by have := dropH_cnt x nm; omega
    have HSAMEx := Lib.hid ((eqCluster_iff x x).2 rfl)
    have HWT := Lib.hid hw
    have HSP := Lib.hid (fun cs F wq a => DropHost_spec x cs F nm wq a hw)
    have HIM := Lib.hid (fun cs F wq a => DropHost_impl x cs F nm wq a hw)
    clear hsz hw
    generalize dropH x nm = R at *
    obtain ⟨r, cd⟩ := R
    dsimp only at *
    have HSL := Lib.hid ((eqCluster_iff r r).2 rfl)
    have hnn : (cd != cd) = false := by simp
    have hr := h
    obtain ⟨Ahosts, chosts, Fhosts, Apods, cpods, Fpods, hck, hF0, hhosts, hpods, hnext, hweightspack, hweightsspread, hweightssoft⟩ := rd_Cluster hr
    subst hck
    clear hF0 hr
    go_enter Tryz.func4, Tryz.ntmps4
    go_wp2_with fail
    refine (szCluster_any x _ _ _ _ (rd_ext h (by repeat (first | with_reducible exact ext_refl _ | with_reducible assumption | with_reducible refine ext_alloc ?_ _ | with_reducible refine ext_drew ?_ | with_reducible refine ext_trans ?_ (by assumption)))) (by omega) (by omega)).mono ?_
    rw [HSZ.out]
    rintro e w1 ⟨rfl, hb1⟩
    obtain ⟨hc1, hf1⟩ := bcell hb1
    have hB1 : Below w.heap.size w w1 := ext_trans (by repeat (first | with_reducible exact ext_refl _ | with_reducible assumption | with_reducible refine ext_alloc ?_ _ | with_reducible refine ext_drew ?_ | with_reducible refine ext_trans ?_ (by assumption))) hb1
    have hz0_1 : w.heap.size < w1.heap.size := by have := hb1.size; (try simp at this); omega
    go_wp2_with fail
    refine (toCluster_any x _ _ _ (rd_ext h (by repeat (first | with_reducible exact ext_refl _ | with_reducible assumption | with_reducible refine ext_alloc ?_ _ | with_reducible refine ext_drew ?_ | with_reducible refine ext_trans ?_ (by assumption)))) HWT.out).mono ?_
    rintro e w2 ⟨cs2, G2, rfl, hO2, hb2⟩
    obtain ⟨hc2, hf2⟩ := bcell hb2
    have hB2 : Below w.heap.size w w2 := ext_trans (by repeat (first | with_reducible exact ext_refl _ | with_reducible assumption | with_reducible refine ext_alloc ?_ _ | with_reducible refine ext_drew ?_ | with_reducible refine ext_trans ?_ (by assumption))) hb2
    have hz0_2 : w.heap.size < w2.heap.size := by have := hb2.size; (try simp at this); omega
    have hR2 := hO2.rd
    obtain ⟨Ahosts2, chosts2, Fhosts2, Apods2, cpods2, Fpods2, hck, hG2, hhosts2, hpods2, hnext2, hweightspack2, hweightsspread2, hweightssoft2⟩ := rd_Cluster hR2
    subst hck
    clear hG2 hR2
    go_wp2_with fail
    refine (HSP.out _ _ _ hO2.rd).mono ?_
    rintro e w4 ⟨cs4, G4, rfl, hO4, hb4⟩
    obtain ⟨hc4, hf4⟩ := bcell hb4
    have hB4 : Below w.heap.size w w4 := ext_trans (by repeat (first | with_reducible exact ext_refl _ | with_reducible assumption | with_reducible refine ext_alloc ?_ _ | with_reducible refine ext_drew ?_ | with_reducible refine ext_trans ?_ (by assumption))) hb4
    have hz0_4 : w.heap.size < w4.heap.size := by have := hb4.size; (try simp at this); omega
    have hR4 := hO4.rd
    obtain ⟨Ahosts4, chosts4, Fhosts4, Apods4, cpods4, Fpods4, hck, hG4, hhosts4, hpods4, hnext4, hweightspack4, hweightsspread4, hweightssoft4⟩ := rd_Cluster hR4
    subst hck
    clear hG4 hR4
    have HG4 := Lib.hid (show ∀ y ∈ G4, w.heap.size < y ∧ y < w4.heap.size from fun y hy => ⟨by have := hO4.base y hy; have := hb4.size; omega, hO4.lt y hy⟩)
    go_wp2_with fail
    refine (toCluster_any x _ _ _ (rd_ext h (by repeat (first | with_reducible exact ext_refl _ | with_reducible assumption | with_reducible refine ext_alloc ?_ _ | with_reducible refine ext_drew ?_ | with_reducible refine ext_trans ?_ (by assumption)))) HWT.out).mono ?_
    rintro e w5 ⟨cs5, G5, rfl, hO5, hb5⟩
    obtain ⟨hc5, hf5⟩ := bcell hb5
    have hB5 : Below w.heap.size w w5 := ext_trans (by repeat (first | with_reducible exact ext_refl _ | with_reducible assumption | with_reducible refine ext_alloc ?_ _ | with_reducible refine ext_drew ?_ | with_reducible refine ext_trans ?_ (by assumption))) hb5
    have hz0_5 : w.heap.size < w5.heap.size := by have := hb5.size; (try simp at this); omega
    have hz1_5 : w4.heap.size < w5.heap.size := by have := hb5.size; (try simp at this); omega
    first | replace hO4 := Own.ext hO4 hb5 | replace hO4 := Own.ext (hO4.alloc _) hb5 | replace hO4 := Own.ext ((hO4.alloc _).alloc _) hb5
    have hR5 := hO5.rd
    obtain ⟨Ahosts5, chosts5, Fhosts5, Apods5, cpods5, Fpods5, hck, hG5, hhosts5, hpods5, hnext5, hweightspack5, hweightsspread5, hweightssoft5⟩ := rd_Cluster hR5
    subst hck
    clear hG5 hR5
    have h45 : w4.heap.size ≤ w5.heap.size := by have := hb5.size; (try simp at this); omega
    have HG5 := Lib.hid (show ∀ y ∈ G5, w4.heap.size ≤ y ∧ y < w5.heap.size ∧ y ≠ w4.heap.size from fun y hy => ⟨by have := hO5.base y hy; (try simp at this); omega, hO5.lt y hy, by have := hO5.base y hy; (try simp at this); omega⟩)
    go_wp2_with fail
    refine (HIM.out _ _ _ (hO5.alloc _).rd).mono ?_
    rintro e w7 ⟨cs7, G7, rfl, hO7, hb7⟩
    obtain ⟨hc7, hf7⟩ := bcell hb7
    have hB7 : Below w.heap.size w w7 := ext_trans (by repeat (first | with_reducible exact ext_refl _ | with_reducible assumption | with_reducible refine ext_alloc ?_ _ | with_reducible refine ext_drew ?_ | with_reducible refine ext_trans ?_ (by assumption))) hb7
    have hz0_7 : w.heap.size < w7.heap.size := by have := hb7.size; (try simp at this); omega
    have hz1_7 : w4.heap.size < w7.heap.size := by have := hb7.size; (try simp at this); omega
    have hz2_7 : w5.heap.size < w7.heap.size := by have := hb7.size; (try simp at this); omega
    first | replace hO4 := Own.ext hO4 hb7 | replace hO4 := Own.ext (hO4.alloc _) hb7 | replace hO4 := Own.ext ((hO4.alloc _).alloc _) hb7
    first | replace hO5 := Own.ext hO5 hb7 | replace hO5 := Own.ext (hO5.alloc _) hb7 | replace hO5 := Own.ext ((hO5.alloc _).alloc _) hb7
    have hR7 := hO7.rd
    obtain ⟨Ahosts7, chosts7, Fhosts7, Apods7, cpods7, Fpods7, hck, hG7, hhosts7, hpods7, hnext7, hweightspack7, hweightsspread7, hweightssoft7⟩ := rd_Cluster hR7
    subst hck
    clear hG7 hR7
    have HG7 := Lib.hid (show ∀ y ∈ G7, w5.heap.size < y ∧ y ≠ w7.heap.size from fun y hy => ⟨by have := hO7.base y hy; (try simp at this); omega, by have := hO7.lt y hy; omega⟩)
    have hP7 : w5.heap.size < w7.heap.size := by omega
    go_wp2_with fail
    refine (eqCluster_any r r _ _ _ _ _ (hO7.alloc _).rd (hO4.alloc _).rd).mono ?_
    rw [HSL.out]
    rintro e w8 ⟨rfl, hb8⟩
    obtain ⟨hc8, hf8⟩ := bcell hb8
    have hB8 : Below w.heap.size w w8 := ext_trans (by repeat (first | with_reducible exact ext_refl _ | with_reducible assumption | with_reducible refine ext_alloc ?_ _ | with_reducible refine ext_drew ?_ | with_reducible refine ext_trans ?_ (by assumption))) hb8
    have hz0_8 : w.heap.size < w8.heap.size := by have := hb8.size; (try simp at this); omega
    have hz1_8 : w4.heap.size < w8.heap.size := by have := hb8.size; (try simp at this); omega
    have hz2_8 : w5.heap.size < w8.heap.size := by have := hb8.size; (try simp at this); omega
    have hz3_8 : w7.heap.size < w8.heap.size := by have := hb8.size; (try simp at this); omega
    first | replace hO4 := Own.ext hO4 hb8 | replace hO4 := Own.ext (hO4.alloc _) hb8 | replace hO4 := Own.ext ((hO4.alloc _).alloc _) hb8
    first | replace hO5 := Own.ext hO5 hb8 | replace hO5 := Own.ext (hO5.alloc _) hb8 | replace hO5 := Own.ext ((hO5.alloc _).alloc _) hb8
    first | replace hO7 := Own.ext hO7 hb8 | replace hO7 := Own.ext (hO7.alloc _) hb8 | replace hO7 := Own.ext ((hO7.alloc _).alloc _) hb8
    go_wp2_with fail
    refine wp_region_head w8 2 (by kernel_rfl) (by kernel_rfl) (fun _ _ d _ _ h => by cases d <;> exact h) (ext_refl _) ?_
    simp only [List.take_succ_cons, List.take_zero, List.drop_succ_cons, List.drop_zero]
    iterate 2
      (apply headC_step
       case hy =>
         refine Or.inl ⟨rfl, fun wq hq => ?_⟩
         have hcq := (cls_cell hq).1
         go_simp
         try rfl
       simp only [Act.put, List.setIfInBounds_toArray, List.set_cons_zero, List.set_cons_succ])
    refine headC_nil ?_
    refine wpListC_step rfl (fun K hK => ?_)
    go_simp
    refine (toCluster_any x _ _ _ (rd_ext h (by repeat (first | with_reducible exact ext_refl _ | with_reducible assumption | with_reducible refine ext_alloc ?_ _ | with_reducible refine ext_drew ?_ | with_reducible refine ext_trans ?_ (by assumption)))) HWT.out).mono ?_
    rintro e w9 ⟨cs9, G9, rfl, hO9, hb9⟩
    have hR9 := hO9.rd
    obtain ⟨Ahosts9, chosts9, Fhosts9, Apods9, cpods9, Fpods9, hck, hG9, hhosts9, hpods9, hnext9, hweightspack9, hweightsspread9, hweightssoft9⟩ := rd_Cluster hR9
    subst hck
    clear hG9 hR9
    have hbx : Below w8.heap.size w8 w9 := ext_trans (ext_drew (ext_refl _)) hb9
    refine hK _ _ hbx (fun _ => ?_)
    try simp only [Act.put, List.setIfInBounds_toArray, List.set_cons_zero, List.set_cons_succ]
    clear hK K
    refine wpListC_step rfl (fun K hK => ?_)
    go_simp
    refine (eqCluster_any x x _ _ _ _ _ (hO5.ext hbx).rd hO9.rd).mono ?_
    rw [HSAMEx.out]
    rintro e w10 ⟨rfl, hb10⟩
    replace hbx := ext_trans hbx hb10
    refine hK _ _ hbx (fun _ => ?_)
    try simp only [Act.put, List.setIfInBounds_toArray, List.set_cons_zero, List.set_cons_succ]
    clear hK K
    refine wpListC_step rfl (fun K hK => ?_)
    go_simp
    refine hK _ _ hbx (fun _ => ?_)
    try simp only [Act.put, List.setIfInBounds_toArray, List.set_cons_zero, List.set_cons_succ]
    clear hK K
    refine wpListC_nil ?_
    replace hb10 := hbx
    clear hbx hb9 hO9
    obtain ⟨hc10, hf10⟩ := bcell hb10
    have hB10 : Below w.heap.size w w10 := ext_trans hB8 hb10
    have hz0_10 : w.heap.size < w10.heap.size := by have := hb10.size; (try simp at this); omega
    have hz1_10 : w4.heap.size < w10.heap.size := by have := hb10.size; (try simp at this); omega
    have hz2_10 : w5.heap.size < w10.heap.size := by have := hb10.size; (try simp at this); omega
    have hz3_10 : w7.heap.size < w10.heap.size := by have := hb10.size; (try simp at this); omega
    first | replace hO4 := Own.ext hO4 hb10 | replace hO4 := Own.ext (hO4.alloc _) hb10 | replace hO4 := Own.ext ((hO4.alloc _).alloc _) hb10
    first | replace hO5 := Own.ext hO5 hb10 | replace hO5 := Own.ext (hO5.alloc _) hb10 | replace hO5 := Own.ext ((hO5.alloc _).alloc _) hb10
    first | replace hO7 := Own.ext hO7 hb10 | replace hO7 := Own.ext (hO7.alloc _) hb10 | replace hO7 := Own.ext ((hO7.alloc _).alloc _) hb10
    go_wp2_with fail
    refine (markCluster_any x _ _ _ 1 _ hO5 (by omega) (by omega)).mono ?_
    rintro e w11 ⟨rfl, hO11, hU11⟩
    have hx0_11 : ∀ o, w11.cell? ⟨w.heap.size, o, none⟩ = w10.cell? ⟨w.heap.size, o, none⟩ := fun o => World.cell?_of_block (hU11.block _ (by omega) (fun hg => by have := HG5.out (w.heap.size) hg; omega))
    have hz0_11 : w.heap.size < w11.heap.size := by have := hU11.size; omega
    have hx1_11 : ∀ o, w11.cell? ⟨w4.heap.size, o, none⟩ = w10.cell? ⟨w4.heap.size, o, none⟩ := fun o => World.cell?_of_block (hU11.block _ (by omega) (fun hg => by have := HG5.out (w4.heap.size) hg; omega))
    have hz1_11 : w4.heap.size < w11.heap.size := by have := hU11.size; omega
    have hx2_11 : ∀ o, w11.cell? ⟨w7.heap.size, o, none⟩ = w10.cell? ⟨w7.heap.size, o, none⟩ := fun o => World.cell?_of_block (hU11.block _ (by omega) (fun hg => by have := HG5.out (w7.heap.size) hg; omega))
    have hz2_11 : w7.heap.size < w11.heap.size := by have := hU11.size; omega
    have hB11 : Below w.heap.size w w11 := hB10.trans (hU11.below (fun y hy => by have := HG5.out y hy; omega) (by omega))
    replace hO4 := hU11.own hO4 (fun y hy hg => by have := HG4.out y hy; have := HG5.out y hg; omega)
    replace hO7 := hU11.own hO7 (fun y hy hg => by have := HG7.out y hy; have := HG5.out y hg; omega)
    clear hO11
    go_wp2_with fail
    refine (eqCluster_any r r _ _ _ _ _ hO7.rd hO4.rd).mono ?_
    rw [HSL.out]
    rintro e w12 ⟨rfl, hb12⟩
    obtain ⟨hc12, hf12⟩ := bcell hb12
    have hB12 : Below w.heap.size w w12 := ext_trans (by repeat (first | with_reducible exact ext_refl _ | with_reducible assumption | with_reducible refine ext_alloc ?_ _ | with_reducible refine ext_drew ?_ | with_reducible refine ext_trans ?_ (by assumption))) hb12
    have hz0_12 : w.heap.size < w12.heap.size := by have := hb12.size; (try simp at this); omega
    have hz1_12 : w4.heap.size < w12.heap.size := by have := hb12.size; (try simp at this); omega
    have hz2_12 : w7.heap.size < w12.heap.size := by have := hb12.size; (try simp at this); omega
    first | replace hO4 := Own.ext hO4 hb12 | replace hO4 := Own.ext (hO4.alloc _) hb12 | replace hO4 := Own.ext ((hO4.alloc _).alloc _) hb12
    first | replace hO7 := Own.ext hO7 hb12 | replace hO7 := Own.ext (hO7.alloc _) hb12 | replace hO7 := Own.ext ((hO7.alloc _).alloc _) hb12
    go_wp2_with fail
    refine (markCluster_any r _ _ _ 1 _ hO7 (by omega) (by omega)).mono ?_
    rintro e w13 ⟨rfl, hO13, hU13⟩
    have hx0_13 : ∀ o, w13.cell? ⟨w.heap.size, o, none⟩ = w12.cell? ⟨w.heap.size, o, none⟩ := fun o => World.cell?_of_block (hU13.block _ (by omega) (fun hg => by have := HG7.out (w.heap.size) hg; omega))
    have hz0_13 : w.heap.size < w13.heap.size := by have := hU13.size; omega
    have hx1_13 : ∀ o, w13.cell? ⟨w4.heap.size, o, none⟩ = w12.cell? ⟨w4.heap.size, o, none⟩ := fun o => World.cell?_of_block (hU13.block _ (by omega) (fun hg => by have := HG7.out (w4.heap.size) hg; omega))
    have hz1_13 : w4.heap.size < w13.heap.size := by have := hU13.size; omega
    have hx2_13 : ∀ o, w13.cell? ⟨w7.heap.size, o, none⟩ = w12.cell? ⟨w7.heap.size, o, none⟩ := fun o => World.cell?_of_block (hU13.block _ (by omega) (fun hg => by have := HG7.out (w7.heap.size) hg; omega))
    have hz2_13 : w7.heap.size < w13.heap.size := by have := hU13.size; omega
    have hB13 : Below w.heap.size w w13 := hB12.trans (hU13.below (fun y hy => by have := HG7.out y hy; omega) (by omega))
    replace hO4 := hU13.own hO4 (fun y hy hg => by have := HG4.out y hy; have := HG7.out y hg; omega)
    go_wp2_with fail
    refine (heldCluster_any (mkTopCluster r 1) _ G7 1 _ hO13.rd (mkTopCluster_idem _ _) (by omega) (by rw [cntTopCluster_mk]; omega)).mono ?_
    rw [cntTopCluster_mk]
    rintro e w14 ⟨rfl, hb14⟩
    obtain ⟨hc14, hf14⟩ := bcell hb14
    have hB14 : Below w.heap.size w w14 := ext_trans (by repeat (first | with_reducible exact ext_refl _ | with_reducible assumption | with_reducible refine ext_alloc ?_ _ | with_reducible refine ext_drew ?_ | with_reducible refine ext_trans ?_ (by assumption))) hb14
    have hz0_14 : w.heap.size < w14.heap.size := by have := hb14.size; (try simp at this); omega
    have hz1_14 : w4.heap.size < w14.heap.size := by have := hb14.size; (try simp at this); omega
    have hz2_14 : w7.heap.size < w14.heap.size := by have := hb14.size; (try simp at this); omega
    first | replace hO4 := Own.ext hO4 hb14 | replace hO4 := Own.ext (hO4.alloc _) hb14 | replace hO4 := Own.ext ((hO4.alloc _).alloc _) hb14
    first | replace hO13 := Own.ext hO13 hb14 | replace hO13 := Own.ext (hO13.alloc _) hb14 | replace hO13 := Own.ext ((hO13.alloc _).alloc _) hb14
    go_wp2_with fail
    refine (toCluster_any x _ _ _ (rd_ext h (by repeat (first | with_reducible exact ext_refl _ | with_reducible assumption | with_reducible refine ext_alloc ?_ _ | with_reducible refine ext_drew ?_ | with_reducible refine ext_trans ?_ (by assumption)))) HWT.out).mono ?_
    rintro e w16 ⟨cs16, G16, rfl, hO16, hb16⟩
    obtain ⟨hc16, hf16⟩ := bcell hb16
    have hB16 : Below w.heap.size w w16 := ext_trans (by repeat (first | with_reducible exact ext_refl _ | with_reducible assumption | with_reducible refine ext_alloc ?_ _ | with_reducible refine ext_drew ?_ | with_reducible refine ext_trans ?_ (by assumption))) hb16
    have hz0_16 : w.heap.size < w16.heap.size := by have := hb16.size; (try simp at this); omega
    have hz1_16 : w4.heap.size < w16.heap.size := by have := hb16.size; (try simp at this); omega
    have hz2_16 : w7.heap.size < w16.heap.size := by have := hb16.size; (try simp at this); omega
    first | replace hO4 := Own.ext hO4 hb16 | replace hO4 := Own.ext (hO4.alloc _) hb16 | replace hO4 := Own.ext ((hO4.alloc _).alloc _) hb16
    first | replace hO13 := Own.ext hO13 hb16 | replace hO13 := Own.ext (hO13.alloc _) hb16 | replace hO13 := Own.ext ((hO13.alloc _).alloc _) hb16
    have hR16 := hO16.rd
    obtain ⟨Ahosts16, chosts16, Fhosts16, Apods16, cpods16, Fpods16, hck, hG16, hhosts16, hpods16, hnext16, hweightspack16, hweightsspread16, hweightssoft16⟩ := rd_Cluster hR16
    subst hck
    clear hG16 hR16
    go_wp2_with fail
    refine (HIM.out _ _ _ hO16.rd).mono ?_
    rintro e w17 ⟨cs17, G17, rfl, hO17, hb17⟩
    obtain ⟨hc17, hf17⟩ := bcell hb17
    have hB17 : Below w.heap.size w w17 := ext_trans (by repeat (first | with_reducible exact ext_refl _ | with_reducible assumption | with_reducible refine ext_alloc ?_ _ | with_reducible refine ext_drew ?_ | with_reducible refine ext_trans ?_ (by assumption))) hb17
    have hz0_17 : w.heap.size < w17.heap.size := by have := hb17.size; (try simp at this); omega
    have hz1_17 : w4.heap.size < w17.heap.size := by have := hb17.size; (try simp at this); omega
    have hz2_17 : w7.heap.size < w17.heap.size := by have := hb17.size; (try simp at this); omega
    first | replace hO4 := Own.ext hO4 hb17 | replace hO4 := Own.ext (hO4.alloc _) hb17 | replace hO4 := Own.ext ((hO4.alloc _).alloc _) hb17
    first | replace hO13 := Own.ext hO13 hb17 | replace hO13 := Own.ext (hO13.alloc _) hb17 | replace hO13 := Own.ext ((hO13.alloc _).alloc _) hb17
    have hR17 := hO17.rd
    obtain ⟨Ahosts17, chosts17, Fhosts17, Apods17, cpods17, Fpods17, hck, hG17, hhosts17, hpods17, hnext17, hweightspack17, hweightsspread17, hweightssoft17⟩ := rd_Cluster hR17
    subst hck
    clear hG17 hR17
    go_wp2_with fail
    refine (eqCluster_any r r _ _ _ _ _ (hO17.alloc _).rd (hO4.alloc _).rd).mono ?_
    rw [HSL.out]
    rintro e w18 ⟨rfl, hb18⟩
    obtain ⟨hc18, hf18⟩ := bcell hb18
    have hB18 : Below w.heap.size w w18 := ext_trans (by repeat (first | with_reducible exact ext_refl _ | with_reducible assumption | with_reducible refine ext_alloc ?_ _ | with_reducible refine ext_drew ?_ | with_reducible refine ext_trans ?_ (by assumption))) hb18
    have hz0_18 : w.heap.size < w18.heap.size := by have := hb18.size; (try simp at this); omega
    have hz1_18 : w4.heap.size < w18.heap.size := by have := hb18.size; (try simp at this); omega
    have hz2_18 : w7.heap.size < w18.heap.size := by have := hb18.size; (try simp at this); omega
    first | replace hO4 := Own.ext hO4 hb18 | replace hO4 := Own.ext (hO4.alloc _) hb18 | replace hO4 := Own.ext ((hO4.alloc _).alloc _) hb18
    first | replace hO13 := Own.ext hO13 hb18 | replace hO13 := Own.ext (hO13.alloc _) hb18 | replace hO13 := Own.ext ((hO13.alloc _).alloc _) hb18
    first | replace hO17 := Own.ext hO17 hb18 | replace hO17 := Own.ext (hO17.alloc _) hb18 | replace hO17 := Own.ext ((hO17.alloc _).alloc _) hb18
    go_wp2_with fail
    refine (heldCluster_any (mkTopCluster r 1) _ G7 1 _ hO13.rd (mkTopCluster_idem _ _) (by omega) (by rw [cntTopCluster_mk]; omega)).mono ?_
    rw [cntTopCluster_mk]
    rintro e w19 ⟨rfl, hb19⟩
    obtain ⟨hc19, hf19⟩ := bcell hb19
    have hB19 : Below w.heap.size w w19 := ext_trans (by repeat (first | with_reducible exact ext_refl _ | with_reducible assumption | with_reducible refine ext_alloc ?_ _ | with_reducible refine ext_drew ?_ | with_reducible refine ext_trans ?_ (by assumption))) hb19
    have hz0_19 : w.heap.size < w19.heap.size := by have := hb19.size; (try simp at this); omega
    have hz1_19 : w4.heap.size < w19.heap.size := by have := hb19.size; (try simp at this); omega
    have hz2_19 : w7.heap.size < w19.heap.size := by have := hb19.size; (try simp at this); omega
    first | replace hO4 := Own.ext hO4 hb19 | replace hO4 := Own.ext (hO4.alloc _) hb19 | replace hO4 := Own.ext ((hO4.alloc _).alloc _) hb19
    first | replace hO13 := Own.ext hO13 hb19 | replace hO13 := Own.ext (hO13.alloc _) hb19 | replace hO13 := Own.ext ((hO13.alloc _).alloc _) hb19
    first | replace hO17 := Own.ext hO17 hb19 | replace hO17 := Own.ext (hO17.alloc _) hb19 | replace hO17 := Own.ext ((hO17.alloc _).alloc _) hb19
    go_wp2
    go_ret
    exact ⟨rfl, hB19⟩
  · have hsz : szR x.wt 1048576 = -1 := by have := szR_spec x.wt 1048576; omega
    have HSZ := Lib.hid hsz
    clear hsz hw
    have hr := h
    obtain ⟨Ahosts, chosts, Fhosts, Apods, cpods, Fpods, hck, hF0, hhosts, hpods, hnext, hweightspack, hweightsspread, hweightssoft⟩ := rd_Cluster hr
    subst hck
    clear hF0 hr
    go_enter Tryz.func4, Tryz.ntmps4
    go_wp2_with fail
    refine (szCluster_any x _ _ _ _ (rd_ext h (by repeat (first | with_reducible exact ext_refl _ | with_reducible assumption | with_reducible refine ext_alloc ?_ _ | with_reducible refine ext_drew ?_ | with_reducible refine ext_trans ?_ (by assumption)))) (by omega) (by omega)).mono ?_
    rw [HSZ.out]
    rintro e w1 ⟨rfl, hb1⟩
    go_wp2
    go_ret
    exact ⟨rfl, (by repeat (first | with_reducible exact ext_refl _ | with_reducible assumption | with_reducible refine ext_alloc ?_ _ | with_reducible refine ext_drew ?_ | with_reducible refine ext_trans ?_ (by assumption)))⟩

set_option maxRecDepth 100000 in
theorem law_walk {H : Type} {enc : TypeId × Value → H} (W : World) (base : Nat) (args : Array Value) (ds : List (DataW H)) (p : List MemPlace)
    (hval : ∀ (j : Nat) t v, Tryz.f4.params[j]? = some t → args[j]? = some v → Value.okWide Tryz.prog W .any base t v)
    (hA : DataW.TrodAll enc Tryz.prog W 0 (fun _ => true) true Tryz.f4.params.toList args.toList ds p) (hlt : ∀ x ∈ p, x.block < W.heap.size) :
    Calls Tryz.prog 4 args W fun e W' => e = .returned (.bool true) ∧ Below W.heap.size W W' := by
  rw [Tryz.params4] at hA hval
  obtain ⟨v0, vs0, d0, ds0, p0, q0, hargs, rfl, rfl, h0, r0⟩ := trodAll_cons hA
  obtain ⟨v1, vs1, d1, ds1, p1, q1, rfl, rfl, rfl, h1, r1⟩ := trodAll_cons r0
  obtain ⟨rfl, rfl, rfl⟩ := trodAll_nil r1
  obtain rfl : args = #[v0, v1] := by cases args; simp_all
  have hv0 := hval 0 27 v0 rfl rfl
  obtain ⟨cs, rfl, _⟩ := okWide_struct Tryz.underlying27 hv0
  clear hv0
  obtain ⟨nm, rfl⟩ := okWide_string Tryz.underlying9 (hval 1 9 v1 rfl rfl)
  obtain ⟨fuel, hf⟩ := h0
  obtain ⟨x, F, hr⟩ := opens_Cluster H enc W 0 fuel _ _ _ _ hf
  exact walk x cs.toList F nm W hr

theorem own : ownKnob Tryz.prog.godebug = none := by kernel_rfl
theorem laid : laidOutB Tryz.prog = true := by kernel_rfl
theorem readable : ∀ t ∈ Tryz.f4.params.toList, Tryz.prog.readableRec t = true ∧ t < Tryz.prog.types.size := by
  have h : (Tryz.f4.params.toList.all fun t => Tryz.prog.readableRec t && decide (t < Tryz.prog.types.size)) = true := by kernel_rfl
  intro t ht
  have := List.all_eq_true.1 h t ht
  simpa using this

theorem law_shape {H : Type} {enc : TypeId × Value → H} {W : World} {args : List Value} {ds : List (DataW H)} {p : List MemPlace}
    (h : DataW.TrodAll enc Tryz.prog W 0 (fun _ => true) true Tryz.f4.params.toList args ds p) : ∃ d0 d1, ds = [d0, d1] := by
  rw [Tryz.params4] at h
  obtain ⟨v0, vs0, d0, ds0, p0, q0, _, rfl, _, _, r0⟩ := trodAll_cons h
  obtain ⟨v1, vs1, d1, ds1, p1, q1, _, rfl, _, _, r1⟩ := trodAll_cons r0
  obtain ⟨_, rfl, _⟩ := trodAll_nil r1
  exact ⟨d0, d1, rfl⟩

set_option maxRecDepth 100000 in
theorem lifted (os : Os) (started : os.Started) (H : Type) (enc : TypeId × Value → H) :
    ReturnsInHanded {} Tryz.checked os 4 .any (Rows.fnExactDropHostSpec.pre6 enc Tryz.prog Tryz.f4 Rows.fnExactDropHostRow.domain false) (Rows.fnExactDropHostSpec.post enc Tryz.prog Tryz.f4 false true false false) := by
  refine returnsInHanded_of_change (C := Tryz.checked) own started (by kernel_rfl) Tryz.func4
    (ChangeSpec.witness6 (enc := enc) (C := Tryz.checked) false ⟨#[], #[.agg #[.slice none 0 0, .slice none 0 0, .int .i64 0, .int .i64 0, .int .i64 0, .int .i64 0], .string ⟨#[]⟩], []⟩ 8 (by kernel_rfl) (by kernel_rfl) (by kernel_rfl) (by kernel_rfl)) ?_
  intro W base args ds gs before hval0 hW hcnd _
  have hlt : ∀ x ∈ before, x.block < W.heap.size := fun x hx => hW.lt x hx
  have hW' := hW
  obtain ⟨p, q, hA, hV, rfl, _, _⟩ := hW'
  exact (law_walk W base args ds p hval0 hA (fun x hx => hlt x (List.mem_append_left _ hx))).mono fun e W' ⟨he, hb⟩ =>
    ⟨_, he, law_post laid readable rfl Tryz.underlying4 rfl (by obtain ⟨d0, d1, hs⟩ := law_shape hA; rw [hs]; rfl) hW hb⟩

theorem over : Rows.fnExactDropHostRow.holds Tryz.pinned (OpenSpec.ofChange Rows.fnExactDropHostSpec) :=
  OpenClaim.holds_of_wide 4 Tryz.f4 rfl rfl rfl rfl rfl rfl rfl ⟨rfl, rfl, rfl, rfl, rfl⟩ rfl rfl rfl rfl rfl (by kernel_rfl) Tryz.func4 (by kernel_rfl)
    (of_decide_eq_true (by kernel_rfl)) (by unfold Func.isWrapper; first | (rw [if_pos (by decide +kernel)]; kernel_rfl) | (rw [if_neg (by decide +kernel)]; exact ⟨rfl, rfl⟩))
    (fun os started H enc _ => lifted os started H enc)

theorem proved : Rows.FnExactDropHostSaid :=
  over
#print axioms proved
end Go.Proofs.YtjoclfenghenjaaGreat.fnExactDropHost
