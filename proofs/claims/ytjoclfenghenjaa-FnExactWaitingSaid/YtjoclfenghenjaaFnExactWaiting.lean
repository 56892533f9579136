/- FnExactWaiting: for every cluster the program's Waiting and the reference's answer the same names in the same order, in memory of its own; the cluster stays as it was. No condition. -/
import Derived.Test.YtjoclfenghenjaaWaitS
import Derived.Test.YtjoclfenghenjaaToCluster
import Derived.Test.YtjoclfenghenjaaOpenAll
import Derived.Test.YtjoclfenghenjaaLaw
import Derived.Test.YtjoclfenghenjaaMwTopCluster
import Derived.Test.YtjoclfenghenjaaMiStr
import Derived.StillTailTactics
namespace Go.Proofs.Ytjoclfenghenjaa.fnExactWaiting
open Go.ChangeShapes Go.WideShapes Go.ChangeAt Go.RowKit
set_option linter.unusedVariables false
set_option linter.unusedSimpArgs false
set_option maxRecDepth 100000 in
set_option maxHeartbeats 4000000 in
theorem walk (x : Cluster) (cs : List Value) (F : List Nat) (w : World) (h : rd w x cs F) :
    Calls Try.prog 3 #[.agg cs.toArray] w fun e w' => e = .returned (.bool true) ∧ Below w.heap.size w w' := by
  by_cases hw : (x.wt : Int) ≤ 1048576
  · have hsz : szR x.wt 1048576 = 1048576 - x.wt := by have := szR_spec x.wt 1048576; omega
    have HSZ := Lib.hid hsz
    have hb0 : (0 : Int) ≤ 1048576 - x.wt := by omega
    have hlen : (x.pods.length : Int) ≤ 1048576 := by
      have h1 := wtL_len Placed.wt x.pods
      have h2 : x.wt = wtL Host.wt x.hosts + wtL Placed.wt x.pods := rfl
      omega
    have hcnt : (cntTopCluster x : Int) ≤ 6291456 := by have := cntTopCluster_le x; omega
    have hrl : ((waitL x.pods).length : Int) ≤ 1048576 := by have := waitL_len x.pods; omega
    have hsame := (eqCluster_iff x x).2 rfl
    have HSAME := Lib.hid hsame
    have HSL := Lib.hid (same_str (waitL x.pods))
    clear hsame hsz
    have HWT := Lib.hid hw
    have HLEN := Lib.hid hlen
    clear hw hlen
    have hr := h
    obtain ⟨Ahosts, chosts, Fhosts, Apods, cpods, Fpods, hck, hF0, hhosts, hpods, hnext, hweightspack, hweightsspread, hweightssoft⟩ := rd_Cluster hr
    subst hck
    clear hF0 hr
    go_enter Try.func3, Try.ntmps3
    go_wp2_with fail
    refine (szCluster_any x _ _ _ _ (rd_ext h (by repeat (first | with_reducible exact ext_refl _ | with_reducible assumption | with_reducible refine ext_alloc ?_ _ | with_reducible refine ext_drew ?_ | with_reducible refine ext_trans ?_ (by assumption)))) (by omega) (by omega)).mono ?_
    rw [HSZ.out]
    rintro e w1 ⟨rfl, hb1⟩
    obtain ⟨hc1, hf1⟩ := bcell hb1
    have hB1 : Below w.heap.size w w1 := ext_trans (by repeat (first | with_reducible exact ext_refl _ | with_reducible assumption | with_reducible refine ext_alloc ?_ _ | with_reducible refine ext_drew ?_ | with_reducible refine ext_trans ?_ (by assumption))) hb1
    have hzw_1 : w.heap.size < w1.heap.size := by have := hb1.size; (try simp at this); omega
    go_wp2_with fail
    refine (toCluster_any x _ _ _ (rd_ext h (by repeat (first | with_reducible exact ext_refl _ | with_reducible assumption | with_reducible refine ext_alloc ?_ _ | with_reducible refine ext_drew ?_ | with_reducible refine ext_trans ?_ (by assumption)))) HWT.out).mono ?_
    rintro e w2 ⟨cs2, G2, rfl, hO2, hb2⟩
    obtain ⟨hc2, hf2⟩ := bcell hb2
    have hB2 : Below w.heap.size w w2 := ext_trans (by repeat (first | with_reducible exact ext_refl _ | with_reducible assumption | with_reducible refine ext_alloc ?_ _ | with_reducible refine ext_drew ?_ | with_reducible refine ext_trans ?_ (by assumption))) hb2
    have hzw_2 : w.heap.size < w2.heap.size := by have := hb2.size; (try simp at this); omega
    have hR2 := hO2.rd
    obtain ⟨Ahosts2, chosts2, Fhosts2, Apods2, cpods2, Fpods2, hck, hG2, hhosts2, hpods2, hnext2, hweightspack2, hweightsspread2, hweightssoft2⟩ := rd_Cluster hR2
    subst hck
    clear hG2 hR2
    go_wp2_with fail
    refine (Waiting_spec x _ _ _ hO2.rd HLEN.out).mono ?_
    rintro e w3 ⟨A3, c3, G3, rfl, hO3, hb3⟩
    obtain ⟨hc3, hf3⟩ := bcell hb3
    have hB3 : Below w.heap.size w w3 := ext_trans (by repeat (first | with_reducible exact ext_refl _ | with_reducible assumption | with_reducible refine ext_alloc ?_ _ | with_reducible refine ext_drew ?_ | with_reducible refine ext_trans ?_ (by assumption))) hb3
    have hzw_3 : w.heap.size < w3.heap.size := by have := hb3.size; (try simp at this); omega
    have hlt3 := hO3.lt
    go_wp2_with fail
    refine (toCluster_any x _ _ _ (rd_ext h (by repeat (first | with_reducible exact ext_refl _ | with_reducible assumption | with_reducible refine ext_alloc ?_ _ | with_reducible refine ext_drew ?_ | with_reducible refine ext_trans ?_ (by assumption)))) HWT.out).mono ?_
    rintro e w4 ⟨cs4, G4, rfl, hO4, hb4⟩
    obtain ⟨hc4, hf4⟩ := bcell hb4
    have hB4 : Below w.heap.size w w4 := ext_trans (by repeat (first | with_reducible exact ext_refl _ | with_reducible assumption | with_reducible refine ext_alloc ?_ _ | with_reducible refine ext_drew ?_ | with_reducible refine ext_trans ?_ (by assumption))) hb4
    have hzw_4 : w.heap.size < w4.heap.size := by have := hb4.size; (try simp at this); omega
    first | replace hO3 := Own.ext hO3 hb4 | replace hO3 := Own.ext (hO3.alloc _) hb4 | replace hO3 := Own.ext ((hO3.alloc _).alloc _) hb4
    have hR4 := hO4.rd
    obtain ⟨Ahosts4, chosts4, Fhosts4, Apods4, cpods4, Fpods4, hck, hG4, hhosts4, hpods4, hnext4, hweightspack4, hweightsspread4, hweightssoft4⟩ := rd_Cluster hR4
    subst hck
    clear hG4 hR4
    have hlt4 := hO4.lt
    have hbs4 := hO4.base
    go_wp2_with fail
    refine (Waiting_impl x _ _ _ (hO4.alloc _).rd HLEN.out).mono ?_
    rintro e w5 ⟨A5, c5, G5, rfl, hO5, hb5⟩
    obtain ⟨hc5, hf5⟩ := bcell hb5
    have hB5 : Below w.heap.size w w5 := ext_trans (by repeat (first | with_reducible exact ext_refl _ | with_reducible assumption | with_reducible refine ext_alloc ?_ _ | with_reducible refine ext_drew ?_ | with_reducible refine ext_trans ?_ (by assumption))) hb5
    have hzw_5 : w.heap.size < w5.heap.size := by have := hb5.size; (try simp at this); omega
    have hzw4_5 : w4.heap.size < w5.heap.size := by have := hb5.size; (try simp at this); omega
    first | replace hO3 := Own.ext hO3 hb5 | replace hO3 := Own.ext (hO3.alloc _) hb5 | replace hO3 := Own.ext ((hO3.alloc _).alloc _) hb5
    first | replace hO4 := Own.ext hO4 hb5 | replace hO4 := Own.ext (hO4.alloc _) hb5 | replace hO4 := Own.ext ((hO4.alloc _).alloc _) hb5
    have hbs5 := hO5.base
    have hlt5 := hO5.lt
    go_wp2_with fail
    refine (eqStringS_any (waitL x.pods) (waitL x.pods) A5 A3 _ _ _ _ _ hO5.rd hO3.rd).mono ?_
    rw [HSL.out]
    rintro e w6 ⟨rfl, hb6⟩
    obtain ⟨hc6, hf6⟩ := bcell hb6
    have hB6 : Below w.heap.size w w6 := ext_trans (by repeat (first | with_reducible exact ext_refl _ | with_reducible assumption | with_reducible refine ext_alloc ?_ _ | with_reducible refine ext_drew ?_ | with_reducible refine ext_trans ?_ (by assumption))) hb6
    have hzw_6 : w.heap.size < w6.heap.size := by have := hb6.size; (try simp at this); omega
    have hzw4_6 : w4.heap.size < w6.heap.size := by have := hb6.size; (try simp at this); omega
    first | replace hO3 := Own.ext hO3 hb6 | replace hO3 := Own.ext (hO3.alloc _) hb6 | replace hO3 := Own.ext ((hO3.alloc _).alloc _) hb6
    first | replace hO4 := Own.ext hO4 hb6 | replace hO4 := Own.ext (hO4.alloc _) hb6 | replace hO4 := Own.ext ((hO4.alloc _).alloc _) hb6
    first | replace hO5 := Own.ext hO5 hb6 | replace hO5 := Own.ext (hO5.alloc _) hb6 | replace hO5 := Own.ext ((hO5.alloc _).alloc _) hb6
    go_wp2_with fail
    refine wp_region_head w6 2 (by kernel_rfl) (by kernel_rfl) (fun _ _ d _ _ h => by cases d <;> exact h) (ext_refl _) ?_
    simp only [List.take_succ_cons, List.take_zero, List.drop_succ_cons, List.drop_zero]
    iterate 2
      (apply headC_step
       case hy =>
         refine Or.inl ⟨rfl, fun wq hq => ?_⟩
         have hcq := (cls_cell hq).1
         go_simp
         try rfl
       simp only [Act.put, List.setIfInBounds_toArray, List.set_cons_zero, List.set_cons_succ])
    refine headC_nil ?_
    refine wpListC_step rfl (fun K hK => ?_)
    go_simp
    refine (toCluster_any x _ _ _ (rd_ext h (by repeat (first | with_reducible exact ext_refl _ | with_reducible assumption | with_reducible refine ext_alloc ?_ _ | with_reducible refine ext_drew ?_ | with_reducible refine ext_trans ?_ (by assumption)))) HWT.out).mono ?_
    rintro e w7 ⟨cs7, G7, rfl, hO7, hb7⟩
    have hR7 := hO7.rd
    obtain ⟨Ahosts7, chosts7, Fhosts7, Apods7, cpods7, Fpods7, hck, hG7, hhosts7, hpods7, hnext7, hweightspack7, hweightsspread7, hweightssoft7⟩ := rd_Cluster hR7
    subst hck
    clear hG7 hR7
    have hb67 : Below w6.heap.size w6 w7 := ext_trans (ext_drew (ext_refl _)) hb7
    refine hK _ _ hb67 (fun _ => ?_)
    try simp only [Act.put, List.setIfInBounds_toArray, List.set_cons_zero, List.set_cons_succ]
    clear hK K
    refine wpListC_step rfl (fun K hK => ?_)
    go_simp
    refine (eqCluster_any x x _ _ _ _ _ (hO4.ext hb67).rd hO7.rd).mono ?_
    rw [HSAME.out]
    rintro e w8 ⟨rfl, hb8⟩
    have hb68 := ext_trans hb67 hb8
    refine hK _ _ hb68 (fun _ => ?_)
    try simp only [Act.put, List.setIfInBounds_toArray, List.set_cons_zero, List.set_cons_succ]
    clear hK K
    refine wpListC_step rfl (fun K hK => ?_)
    go_simp
    refine hK _ _ hb68 (fun _ => ?_)
    try simp only [Act.put, List.setIfInBounds_toArray, List.set_cons_zero, List.set_cons_succ]
    clear hK K
    refine wpListC_nil ?_
    replace hb8 := hb68
    clear hb68 hb67 hb7 hO7
    obtain ⟨hc8, hf8⟩ := bcell hb8
    have hB8 : Below w.heap.size w w8 := ext_trans hB6 hb8
    have hzw_8 : w.heap.size < w8.heap.size := by have := hb8.size; (try simp at this); omega
    have hzw4_8 : w4.heap.size < w8.heap.size := by have := hb8.size; (try simp at this); omega
    first | replace hO3 := Own.ext hO3 hb8 | replace hO3 := Own.ext (hO3.alloc _) hb8 | replace hO3 := Own.ext ((hO3.alloc _).alloc _) hb8
    first | replace hO4 := Own.ext hO4 hb8 | replace hO4 := Own.ext (hO4.alloc _) hb8 | replace hO4 := Own.ext ((hO4.alloc _).alloc _) hb8
    first | replace hO5 := Own.ext hO5 hb8 | replace hO5 := Own.ext (hO5.alloc _) hb8 | replace hO5 := Own.ext ((hO5.alloc _).alloc _) hb8
    go_wp2_with fail
    refine (markCluster_any x _ _ _ 1 _ hO4 (by omega) (by omega)).mono ?_
    rintro e w9 ⟨rfl, hO9, hU9⟩
    have hb9 : Below w3.heap.size w8 w9 := hU9.below hbs4 (by have := hb8.size; have := hb6.size; have := hb5.size; have := hb4.size; (try simp at *); omega)
    obtain ⟨hc9, hf9⟩ := bcellB hb9
    have hB9 : Below w.heap.size w w9 := hB8.trans (hb9.mono (by have := hB3.size; omega))
    replace hO3 := hU9.own hO3 (fun b hb hg => by have := hlt3 b hb; have := hbs4 b hg; omega)
    replace hO5 := hU9.own hO5 (fun b hb hg => by have := hbs5 b hb; have := hlt4 b hg; (try simp at *); omega)
    clear hO9
    have hzw_9 : w.heap.size < w9.heap.size := by have := hb9.size; omega
    have hz93 : w.heap.size < w3.heap.size := hzw_3
    go_wp2_with fail
    refine (eqStringS_any (waitL x.pods) (waitL x.pods) A5 A3 _ _ _ _ _ hO5.rd hO3.rd).mono ?_
    rw [HSL.out]
    rintro e w10 ⟨rfl, hb10⟩
    obtain ⟨hc10, hf10⟩ := bcell hb10
    have hB10 : Below w.heap.size w w10 := ext_trans (by repeat (first | with_reducible exact ext_refl _ | with_reducible assumption | with_reducible refine ext_alloc ?_ _ | with_reducible refine ext_drew ?_ | with_reducible refine ext_trans ?_ (by assumption))) hb10
    have hzw_10 : w.heap.size < w10.heap.size := by have := hb10.size; (try simp at this); omega
    first | replace hO3 := Own.ext hO3 hb10 | replace hO3 := Own.ext (hO3.alloc _) hb10 | replace hO3 := Own.ext ((hO3.alloc _).alloc _) hb10
    first | replace hO5 := Own.ext hO5 hb10 | replace hO5 := Own.ext (hO5.alloc _) hb10 | replace hO5 := Own.ext ((hO5.alloc _).alloc _) hb10
    go_wp2_with fail
    refine (markStringS_any (waitL x.pods) A5 _ _ G5 _ 1 _ hO5 rfl (by omega) (by rw [cntL_str]; omega)).mono ?_
    rw [cntL_str]
    rintro e w11 ⟨rfl, hO11, hU11⟩
    have hb11 : Below w3.heap.size w10 w11 := hU11.below (fun b hb => by have := hbs5 b hb; have := hb4.size; (try simp at *); omega) (by have := hb10.size; have := hb9.size; have := hb8.size; have := hb6.size; have := hb5.size; have := hb4.size; (try simp at *); omega)
    obtain ⟨hc11, hf11⟩ := bcellB hb11
    have hB11 : Below w.heap.size w w11 := hB10.trans (hb11.mono (by have := hB3.size; omega))
    replace hO3 := hU11.own hO3 (fun b hb hg => by have := hlt3 b hb; have := hbs5 b hg; have := hb4.size; (try simp at *); omega)
    have hzw_11 : w.heap.size < w11.heap.size := by have := hb11.size; omega
    go_wp2_with fail
    refine (heldStringS_any (mkL mkStr cntStr (waitL x.pods) 1) A5 _ _ G5 1 _ hO11.rd (by rw [mkL_len]) (mkL_idem cntStr_mk mkStr_idem _ _) (by omega) (by rw [cntL_mkL cntStr_mk, cntL_str]; omega)).mono ?_
    rw [cntL_mkL cntStr_mk, cntL_str]
    rintro e w12 ⟨rfl, hb12⟩
    obtain ⟨hc12, hf12⟩ := bcell hb12
    have hB12 : Below w.heap.size w w12 := ext_trans (by repeat (first | with_reducible exact ext_refl _ | with_reducible assumption | with_reducible refine ext_alloc ?_ _ | with_reducible refine ext_drew ?_ | with_reducible refine ext_trans ?_ (by assumption))) hb12
    have hzw_12 : w.heap.size < w12.heap.size := by have := hb12.size; (try simp at this); omega
    first | replace hO3 := Own.ext hO3 hb12 | replace hO3 := Own.ext (hO3.alloc _) hb12 | replace hO3 := Own.ext ((hO3.alloc _).alloc _) hb12
    first | replace hO11 := Own.ext hO11 hb12 | replace hO11 := Own.ext (hO11.alloc _) hb12 | replace hO11 := Own.ext ((hO11.alloc _).alloc _) hb12
    go_wp2_with fail
    refine (toCluster_any x _ _ _ (rd_ext h (by repeat (first | with_reducible exact ext_refl _ | with_reducible assumption | with_reducible refine ext_alloc ?_ _ | with_reducible refine ext_drew ?_ | with_reducible refine ext_trans ?_ (by assumption)))) HWT.out).mono ?_
    rintro e w13 ⟨cs13, G13, rfl, hO13, hb13⟩
    obtain ⟨hc13, hf13⟩ := bcell hb13
    have hB13 : Below w.heap.size w w13 := ext_trans (by repeat (first | with_reducible exact ext_refl _ | with_reducible assumption | with_reducible refine ext_alloc ?_ _ | with_reducible refine ext_drew ?_ | with_reducible refine ext_trans ?_ (by assumption))) hb13
    have hzw_13 : w.heap.size < w13.heap.size := by have := hb13.size; (try simp at this); omega
    first | replace hO3 := Own.ext hO3 hb13 | replace hO3 := Own.ext (hO3.alloc _) hb13 | replace hO3 := Own.ext ((hO3.alloc _).alloc _) hb13
    first | replace hO11 := Own.ext hO11 hb13 | replace hO11 := Own.ext (hO11.alloc _) hb13 | replace hO11 := Own.ext ((hO11.alloc _).alloc _) hb13
    have hR13 := hO13.rd
    obtain ⟨Ahosts13, chosts13, Fhosts13, Apods13, cpods13, Fpods13, hck, hG13, hhosts13, hpods13, hnext13, hweightspack13, hweightsspread13, hweightssoft13⟩ := rd_Cluster hR13
    subst hck
    clear hG13 hR13
    go_wp2_with fail
    refine (Waiting_impl x _ _ _ hO13.rd HLEN.out).mono ?_
    rintro e w14 ⟨A14, c14, G14, rfl, hO14, hb14⟩
    obtain ⟨hc14, hf14⟩ := bcell hb14
    have hB14 : Below w.heap.size w w14 := ext_trans (by repeat (first | with_reducible exact ext_refl _ | with_reducible assumption | with_reducible refine ext_alloc ?_ _ | with_reducible refine ext_drew ?_ | with_reducible refine ext_trans ?_ (by assumption))) hb14
    have hzw_14 : w.heap.size < w14.heap.size := by have := hb14.size; (try simp at this); omega
    first | replace hO3 := Own.ext hO3 hb14 | replace hO3 := Own.ext (hO3.alloc _) hb14 | replace hO3 := Own.ext ((hO3.alloc _).alloc _) hb14
    first | replace hO11 := Own.ext hO11 hb14 | replace hO11 := Own.ext (hO11.alloc _) hb14 | replace hO11 := Own.ext ((hO11.alloc _).alloc _) hb14
    go_wp2_with fail
    refine (eqStringS_any (waitL x.pods) (waitL x.pods) A14 A3 _ _ _ _ _ hO14.rd hO3.rd).mono ?_
    rw [HSL.out]
    rintro e w15 ⟨rfl, hb15⟩
    obtain ⟨hc15, hf15⟩ := bcell hb15
    have hB15 : Below w.heap.size w w15 := ext_trans (by repeat (first | with_reducible exact ext_refl _ | with_reducible assumption | with_reducible refine ext_alloc ?_ _ | with_reducible refine ext_drew ?_ | with_reducible refine ext_trans ?_ (by assumption))) hb15
    have hzw_15 : w.heap.size < w15.heap.size := by have := hb15.size; (try simp at this); omega
    first | replace hO3 := Own.ext hO3 hb15 | replace hO3 := Own.ext (hO3.alloc _) hb15 | replace hO3 := Own.ext ((hO3.alloc _).alloc _) hb15
    first | replace hO11 := Own.ext hO11 hb15 | replace hO11 := Own.ext (hO11.alloc _) hb15 | replace hO11 := Own.ext ((hO11.alloc _).alloc _) hb15
    first | replace hO14 := Own.ext hO14 hb15 | replace hO14 := Own.ext (hO14.alloc _) hb15 | replace hO14 := Own.ext ((hO14.alloc _).alloc _) hb15
    go_wp2_with fail
    refine (heldStringS_any (mkL mkStr cntStr (waitL x.pods) 1) A5 _ _ G5 1 _ hO11.rd (by rw [mkL_len]) (mkL_idem cntStr_mk mkStr_idem _ _) (by omega) (by rw [cntL_mkL cntStr_mk, cntL_str]; omega)).mono ?_
    rw [cntL_mkL cntStr_mk, cntL_str]
    rintro e w16 ⟨rfl, hb16⟩
    obtain ⟨hc16, hf16⟩ := bcell hb16
    have hB16 : Below w.heap.size w w16 := ext_trans (by repeat (first | with_reducible exact ext_refl _ | with_reducible assumption | with_reducible refine ext_alloc ?_ _ | with_reducible refine ext_drew ?_ | with_reducible refine ext_trans ?_ (by assumption))) hb16
    have hzw_16 : w.heap.size < w16.heap.size := by have := hb16.size; (try simp at this); omega
    first | replace hO3 := Own.ext hO3 hb16 | replace hO3 := Own.ext (hO3.alloc _) hb16 | replace hO3 := Own.ext ((hO3.alloc _).alloc _) hb16
    first | replace hO11 := Own.ext hO11 hb16 | replace hO11 := Own.ext (hO11.alloc _) hb16 | replace hO11 := Own.ext ((hO11.alloc _).alloc _) hb16
    first | replace hO14 := Own.ext hO14 hb16 | replace hO14 := Own.ext (hO14.alloc _) hb16 | replace hO14 := Own.ext ((hO14.alloc _).alloc _) hb16
    go_wp2
    go_ret
    exact ⟨rfl, hB16⟩
  · have hsz : szR x.wt 1048576 = -1 := by have := szR_spec x.wt 1048576; omega
    have HSZ := Lib.hid hsz
    clear hsz hw
    have hr := h
    obtain ⟨Ahosts, chosts, Fhosts, Apods, cpods, Fpods, hck, hF0, hhosts, hpods, hnext, hweightspack, hweightsspread, hweightssoft⟩ := rd_Cluster hr
    subst hck
    clear hF0 hr
    go_enter Try.func3, Try.ntmps3
    go_wp2_with fail
    refine (szCluster_any x _ _ _ _ (rd_ext h (by repeat (first | with_reducible exact ext_refl _ | with_reducible assumption | with_reducible refine ext_alloc ?_ _ | with_reducible refine ext_drew ?_ | with_reducible refine ext_trans ?_ (by assumption)))) (by omega) (by omega)).mono ?_
    rw [HSZ.out]
    rintro e w1 ⟨rfl, hb1⟩
    go_wp2
    go_ret
    exact ⟨rfl, (by repeat (first | with_reducible exact ext_refl _ | with_reducible assumption | with_reducible refine ext_alloc ?_ _ | with_reducible refine ext_drew ?_ | with_reducible refine ext_trans ?_ (by assumption)))⟩

set_option maxRecDepth 100000 in
theorem law_walk {H : Type} {enc : TypeId × Value → H} (W : World) (base : Nat) (args : Array Value) (ds : List (DataW H)) (p : List MemPlace)
    (hval : ∀ (j : Nat) t v, Try.f3.params[j]? = some t → args[j]? = some v → Value.okWide Try.prog W .any base t v)
    (hA : DataW.TrodAll enc Try.prog W 0 (fun _ => true) true Try.f3.params.toList args.toList ds p) (hlt : ∀ x ∈ p, x.block < W.heap.size) :
    Calls Try.prog 3 args W fun e W' => e = .returned (.bool true) ∧ Below W.heap.size W W' := by
  rw [Try.params3] at hA hval
  obtain ⟨v0, vs0, d0, ds0, p0, q0, hargs, rfl, rfl, h0, r0⟩ := trodAll_cons hA
  obtain ⟨rfl, rfl, rfl⟩ := trodAll_nil r0
  obtain rfl : args = #[v0] := by cases args; simp_all
  have hv0 := hval 0 27 v0 rfl rfl
  obtain ⟨cs, rfl, _⟩ := okWide_struct Try.underlying27 hv0
  clear hv0
  obtain ⟨fuel, hf⟩ := h0
  obtain ⟨x, F, hr⟩ := opens_Cluster H enc W 0 fuel _ _ _ _ hf
  exact walk x cs.toList F W hr

theorem own : ownKnob Try.prog.godebug = none := by kernel_rfl
theorem laid : laidOutB Try.prog = true := by kernel_rfl
theorem readable : ∀ t ∈ Try.f3.params.toList, Try.prog.readableRec t = true ∧ t < Try.prog.types.size := by
  have h : (Try.f3.params.toList.all fun t => Try.prog.readableRec t && decide (t < Try.prog.types.size)) = true := by kernel_rfl
  intro t ht
  have := List.all_eq_true.1 h t ht
  simpa using this

theorem law_shape {H : Type} {enc : TypeId × Value → H} {W : World} {args : List Value} {ds : List (DataW H)} {p : List MemPlace}
    (h : DataW.TrodAll enc Try.prog W 0 (fun _ => true) true Try.f3.params.toList args ds p) : ∃ d0, ds = [d0] := by
  rw [Try.params3] at h
  obtain ⟨v0, vs0, d0, ds0, p0, q0, _, rfl, _, _, r0⟩ := trodAll_cons h
  obtain ⟨_, rfl, _⟩ := trodAll_nil r0
  exact ⟨d0, rfl⟩

set_option maxRecDepth 100000 in
theorem lifted (os : Os) (started : os.Started) (H : Type) (enc : TypeId × Value → H) :
    ReturnsInHanded {} Try.checked os 3 .any (Rows.fnExactWaitingSpec.pre6 enc Try.prog Try.f3 Rows.fnExactWaitingRow.domain false) (Rows.fnExactWaitingSpec.post enc Try.prog Try.f3 false true false false) := by
  refine returnsInHanded_of_change (C := Try.checked) own started (by kernel_rfl) Try.func3
    (ChangeSpec.witness6 (enc := enc) (C := Try.checked) false ⟨#[], #[.agg #[.slice none 0 0, .slice none 0 0, .int .i64 0, .int .i64 0, .int .i64 0, .int .i64 0]], []⟩ 8 (by kernel_rfl) (by kernel_rfl) (by kernel_rfl) (by kernel_rfl)) ?_
  intro W base args ds gs before hval0 hW hcnd _
  have hlt : ∀ x ∈ before, x.block < W.heap.size := fun x hx => hW.lt x hx
  have hW' := hW
  obtain ⟨p, q, hA, hV, rfl, _, _⟩ := hW'
  exact (law_walk W base args ds p hval0 hA (fun x hx => hlt x (List.mem_append_left _ hx))).mono fun e W' ⟨he, hb⟩ =>
    ⟨_, he, law_post laid readable rfl Try.underlying4 rfl (by obtain ⟨d0, hs⟩ := law_shape hA; rw [hs]; rfl) hW hb⟩

theorem over : Rows.fnExactWaitingRow.holds Try.pinned (OpenSpec.ofChange Rows.fnExactWaitingSpec) :=
  OpenClaim.holds_of_wide 3 Try.f3 rfl rfl rfl rfl rfl rfl rfl ⟨rfl, rfl, rfl, rfl, rfl⟩ rfl rfl rfl rfl rfl (by kernel_rfl) Try.func3 (by kernel_rfl)
    (of_decide_eq_true (by kernel_rfl)) (by unfold Func.isWrapper; first | (rw [if_pos (by decide +kernel)]; kernel_rfl) | (rw [if_neg (by decide +kernel)]; exact ⟨rfl, rfl⟩))
    (fun os started H enc _ => lifted os started H enc)

theorem proved : Rows.FnExactWaitingSaid :=
  over
#print axioms proved
end Go.Proofs.Ytjoclfenghenjaa.fnExactWaiting
