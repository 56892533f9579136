/- FnExactSetWeights: for every cluster and weights the program's SetWeights and the reference's answer alike, the result in memory of its own, and the program leaves the cluster as it was. No condition. -/
import Derived.Test.YtjoclfenghenjaaGreatOpsW
import Derived.Test.YtjoclfenghenjaaGreatReg0
import Derived.Test.YtjoclfenghenjaaGreatToCluster
import Derived.Test.YtjoclfenghenjaaGreatOpenAll
import Derived.Test.YtjoclfenghenjaaGreatLaw1
import Derived.Test.YtjoclfenghenjaaGreatMtTop
import Derived.StillTailTactics
namespace Go.Proofs.YtjoclfenghenjaaGreat.fnExactSetWeights
open Go.ChangeShapes Go.WideShapes Go.ChangeAt Go.RowKit
set_option linter.unusedVariables false
set_option linter.unusedSimpArgs false
theorem ownNe {α : Type} [Dat α] {w : World} {B c i : Nat} {u : Value} {x : α} {cs : List Value} {F : List Nat} (h : Own w B x cs F) (hF : ∀ y ∈ F, y ≠ c) : Own (w.setCell ⟨c, i, none⟩ u) B x cs F :=
  h.keep (fun y hy => Below.heap_setCell _ _ _ _ (by have := hF y hy; dsimp only; omega)) (by simp [World.setCell])
set_option maxRecDepth 100000 in
set_option maxHeartbeats 8000000 in
theorem walk (x : Cluster) (cs : List Value) (F : List Nat) (u : Weights) (us : List Value) (Fu : List Nat) (w : World) (h : rd w x cs F) (h' : rd w u us Fu) :
    Calls Tryz.prog 3 #[.agg cs.toArray, .agg us.toArray] w fun e w' => e = .returned (.bool true) ∧ Below w.heap.size w w' := by
  by_cases hw : (x.wt : Int) ≤ 1048576
  · have hsz : szR x.wt 1048576 = 1048576 - x.wt := by have := szR_spec x.wt 1048576; omega
    have HSZ := Lib.hid hsz
    have hb0 : (0 : Int) ≤ 1048576 - x.wt := by omega
    have hcx : (cntTopCluster x : Int) ≤ 6291456 := by have := cntTopCluster_le x; omega
    have hcr : (cntTopCluster (setW x u).1 : Int) ≤ 6291456 := by rw [setW_cnt]; exact hcx
    have HSAMEx := Lib.hid ((eqCluster_iff x x).2 rfl)
    have HWT := Lib.hid hw
    have HSP := Lib.hid (fun cs F us Fu wq a b => SetWeights_spec x cs F u us Fu wq a b hw)
    have HIM := Lib.hid (fun cs F us Fu wq a b => SetWeights_impl x cs F u us Fu wq a b hw)
    clear hsz hw
    generalize setW x u = R at *
    obtain ⟨r, cd⟩ := R
    dsimp only at *
    have HSL := Lib.hid ((eqCluster_iff r r).2 rfl)
    have hnn : (cd != cd) = false := by simp
    have hr := h
    obtain ⟨Ahosts, chosts, Fhosts, Apods, cpods, Fpods, hck, hF0, hhosts, hpods, hnext, hweightspack, hweightsspread, hweightssoft⟩ := rd_Cluster hr
    subst hck
    clear hF0 hr
    have hr' := h'
    obtain ⟨hck, hF0, hpack2, hspread2, hsoft2⟩ := rd_Weights hr'
    subst hck
    clear hF0 hr'
    go_enter Tryz.func3, Tryz.ntmps3
    go_wp2_with fail
    refine (szCluster_any x _ _ _ _ (rd_ext h (by repeat (first | with_reducible exact ext_refl _ | with_reducible assumption | with_reducible refine ext_alloc ?_ _ | with_reducible refine ext_drew ?_ | with_reducible refine ext_trans ?_ (by assumption)))) (by omega) (by omega)).mono ?_
    rw [HSZ.out]
    rintro e w1 ⟨rfl, hb1⟩
    obtain ⟨hc1, hf1⟩ := bcell hb1
    have hB1 : Below w.heap.size w w1 := ext_trans (by repeat (first | with_reducible exact ext_refl _ | with_reducible assumption | with_reducible refine ext_alloc ?_ _ | with_reducible refine ext_drew ?_ | with_reducible refine ext_trans ?_ (by assumption))) hb1
    have hz0_1 : w.heap.size < w1.heap.size := by have := hb1.size; (try simp at this); omega
    have hz1_1 : w.heap.size + 1 < w1.heap.size := by have := hb1.size; (try simp at this); omega
    go_wp2_with fail
    refine wp_region_anyH w1 11 (by kernel_rfl) (by kernel_rfl) (ext_refl _) ?_
    refine anyH_to (fun a0 a' w' => ∃ (p4 : Nat) (Ahosts4 Apods4 : Option Addr) (chosts4 cpods4 : Nat) (G4 : List Nat) (v4_0 v4_1 v4_2 v4_3 v4_4 v4_5 v4_6 v4_7 : Value), a' = (Act.put (Act.put (Act.put (Act.put (Act.put (Act.put (Act.put (Act.put (Act.put (Act.put a0 (some 22) (v4_0)) (some 23) (v4_1)) (some 24) (v4_2)) (some 25) (v4_3)) (some 26) (v4_4)) (some 21) (v4_5)) (some 27) (v4_6)) (some 28) (v4_7)) (some 6) (.pointer (some ⟨p4, 0, none⟩))) (some 7) (.int .i64 cd)) ∧ Below w1.heap.size w1 w' ∧ w1.heap.size ≤ p4 ∧ Blk w' p4 [.slice Ahosts4 r.hosts.length chosts4, .slice Apods4 r.pods.length cpods4, .int .i64 r.next, .int .i64 r.weights.pack, .int .i64 r.weights.spread, .int .i64 r.weights.soft] ∧ (∀ y ∈ G4, y ≠ p4 ∧ w1.heap.size ≤ y) ∧ Own w' w1.heap.size r [.slice Ahosts4 r.hosts.length chosts4, .slice Apods4 r.pods.length cpods4, .int .i64 r.next, .int .i64 r.weights.pack, .int .i64 r.weights.spread, .int .i64 r.weights.soft] G4) ?_ ?_
    rotate_left
    · intro HK
      have hbx : Below w1.heap.size w1 w1.drew := ext_drew (ext_refl _)
      refine anyH_take 0 _ (by rfl) (by kernel_rfl) (fun _ _ d _ _ h => by cases d <;> exact h) (by first | exact hbx | exact ext_refl _) (Or.inl ⟨rfl, fun wq hq => by
        have hcq := (cls_cell hq).1
        go_simp
        try rfl⟩) ?_
      try simp only [Act.put, List.setIfInBounds_toArray, List.set_cons_zero, List.set_cons_succ]
      refine anyH_take 2 _ (by rfl) (by kernel_rfl) (fun _ _ d _ _ h => by cases d <;> exact h) (by first | exact hbx | exact ext_refl _) (Or.inl ⟨rfl, fun wq hq => by
        have hcq := (cls_cell hq).1
        go_simp
        try rfl⟩) ?_
      try simp only [Act.put, List.setIfInBounds_toArray, List.set_cons_zero, List.set_cons_succ]
      refine anyH_two 1 8 (by rfl) (by rfl) (by kernel_rfl) (by rfl) (by rfl) (fun K hK => ?_) (fun K hK => ?_)
      · go_simp
        refine (toCluster_any x _ _ _ (rd_ext h (ext_trans hB1 hbx)) HWT.out).mono ?_
        rintro e w40 ⟨csa, Ga, rfl, hOa, hb40⟩
        have hRa := hOa.rd
        obtain ⟨Ahostsa, chostsa, Fhostsa, Apodsa, cpodsa, Fpodsa, hck, hGa, hhostsa, hpodsa, hnexta, hweightspacka, hweightsspreada, hweightssofta⟩ := rd_Cluster hRa
        subst hck
        clear hGa hRa
        replace hbx := ext_trans hbx hb40
        refine hK _ _ hbx ?_
        try simp only [Act.put, List.setIfInBounds_toArray, List.set_cons_zero, List.set_cons_succ]
        clear hK K
        refine anyH_two 3 8 (by rfl) (by rfl) (by kernel_rfl) (by rfl) (by rfl) (fun K hK => ?_) (fun K hK => ?_)
        · go_simp
          refine (toWeights_any u _ _ _ (rd_ext h' (ext_trans hB1 hbx))).mono ?_
          rintro e w41 ⟨csb, Gb, rfl, hOb, hb41⟩
          replace hOa := hOa.ext hb41
          have hRb := hOb.rd
          obtain ⟨hck, hGb, hpackb, hspreadb, hsoftb⟩ := rd_Weights hRb
          subst hck
          clear hGb hRb
          replace hbx := ext_trans hbx hb41
          refine hK _ _ hbx ?_
          try simp only [Act.put, List.setIfInBounds_toArray, List.set_cons_zero, List.set_cons_succ]
          clear hK K
          refine anyH_two 4 8 (by rfl) (by rfl) (by kernel_rfl) (by rfl) (by rfl) (fun K hK => ?_) (fun K hK => ?_)
          · go_simp
            refine (HSP.out _ _ _ _ _ hOa.rd hOb.rd).mono ?_
            rintro e w42 ⟨_, GR, rfl, hOr, hb42⟩
            replace hOa := hOa.ext hb42
            replace hOb := hOb.ext hb42
            have hRr := hOr.rd
            obtain ⟨Ahostsr, chostsr, Fhostsr, Apodsr, cpodsr, Fpodsr, hck, hGr, hhostsr, hpodsr, hnextr, hweightspackr, hweightsspreadr, hweightssoftr⟩ := rd_Cluster hRr
            subst hck
            clear hGr hRr
            have hwB : w1.heap.size ≤ _ := hbx.size
            replace hbx := ext_trans hbx hb42
            refine hK _ _ hbx ?_
            try simp only [Act.put, List.setIfInBounds_toArray, List.set_cons_zero, List.set_cons_succ]
            clear hK K
            replace hOr := hOr.mono (B' := w1.heap.size) hwB
            refine anyH_take 5 _ (by rfl) (by kernel_rfl) (fun _ _ d _ _ h => by cases d <;> exact h) (by first | exact hbx | exact ext_refl _) (Or.inl ⟨rfl, fun wq hq => by
              have hcq := (cls_cell hq).1
              go_simp
              try rfl⟩) ?_
            try simp only [Act.put, List.setIfInBounds_toArray, List.set_cons_zero, List.set_cons_succ]
            refine anyH_take 6 _ (by rfl) (by kernel_rfl) (fun _ _ d _ _ h => by cases d <;> exact h) (by first | exact hbx | exact ext_refl _) (Or.inl ⟨rfl, fun wq hq => by
              have hcq := (cls_cell hq).1
              go_simp
              try rfl⟩) ?_
            try simp only [Act.put, List.setIfInBounds_toArray, List.set_cons_zero, List.set_cons_succ]
            refine anyH_take 7 _ (by rfl) (by kernel_rfl) (fun _ _ d _ _ h => by cases d <;> exact h) (by first | exact hbx | exact ext_refl _) (Or.inl ⟨rfl, fun wq hq => by
              have hcq := (cls_cell hq).1
              go_simp
              try rfl⟩) ?_
            try simp only [Act.put, List.setIfInBounds_toArray, List.set_cons_zero, List.set_cons_succ]
            refine anyH_one 8 (by rfl) (by kernel_rfl) (by rfl) (fun K hK => ?_)
            go_simp
            refine hK _ _ (ext_alloc hbx _) ?_
            try simp only [Act.put, List.setIfInBounds_toArray, List.set_cons_zero, List.set_cons_succ]
            clear hK K
            have hpb : w1.heap.size ≤ w42.heap.size := hbx.size
            have HP : Blk (w42.alloc (.cells ([.slice none 0 0, .slice none 0 0, .int .i64 0, .int .i64 0, .int .i64 0, .int .i64 0] : List Value).toArray 33)) w42.heap.size [.slice none 0 0, .slice none 0 0, .int .i64 0, .int .i64 0, .int .i64 0, .int .i64 0] := Blk.new w42 [.slice none 0 0, .slice none 0 0, .int .i64 0, .int .i64 0, .int .i64 0, .int .i64 0] 33
            have hbx0 := hbx
            have hOr0 := hOr
            replace hbx := ext_alloc hbx (.cells ([.slice none 0 0, .slice none 0 0, .int .i64 0, .int .i64 0, .int .i64 0, .int .i64 0] : List Value).toArray 33)
            replace hOa := hOa.alloc (.cells ([.slice none 0 0, .slice none 0 0, .int .i64 0, .int .i64 0, .int .i64 0, .int .i64 0] : List Value).toArray 33)
            replace hOb := hOb.alloc (.cells ([.slice none 0 0, .slice none 0 0, .int .i64 0, .int .i64 0, .int .i64 0, .int .i64 0] : List Value).toArray 33)
            have hGp : ∀ y ∈ GR, y ≠ w42.heap.size := fun y hy => by have := hOr.lt y hy; omega
            replace hOr := hOr.alloc (.cells ([.slice none 0 0, .slice none 0 0, .int .i64 0, .int .i64 0, .int .i64 0, .int .i64 0] : List Value).toArray 33)
            have kl := HP.lt
            have kf := HP.fz
            have k0 := HP.cell (i := 0) (u := .slice none 0 0) rfl
            have k1 := HP.cell (i := 1) (u := .slice none 0 0) rfl
            have k2 := HP.cell (i := 2) (u := .int .i64 0) rfl
            have k3 := HP.cell (i := 3) (u := .int .i64 0) rfl
            have k4 := HP.cell (i := 4) (u := .int .i64 0) rfl
            have k5 := HP.cell (i := 5) (u := .int .i64 0) rfl
            have hpG : ∀ y ∈ GR, y ≠ w42.heap.size := hGp
            refine anyH_one 9 (by rfl) (by kernel_rfl) (by rfl) (fun K hK => ?_)
            go_simp
            refine hK _ _ (by unfold Cls; with_reducible exact (ext_alloc hbx0 _)) ?_
            try simp only [Act.put, List.setIfInBounds_toArray, List.set_cons_zero, List.set_cons_succ]
            clear hK K
            refine anyH_one 10 (by rfl) (by kernel_rfl) (by rfl) (fun K hK => ?_)
            go_simp
            refine hK _ _ (by unfold Cls; with_reducible exact (ext_alloc hbx0 _)) ?_
            try simp only [Act.put, List.setIfInBounds_toArray, List.set_cons_zero, List.set_cons_succ]
            clear hK K
            refine anyH_done (by kernel_rfl) ?_
            exact HK _ _ ⟨w42.heap.size, _, _, _, _, GR, _, _, _, _, _, _, _, _, (by simp only [Act.put, List.setIfInBounds_toArray, List.set_cons_zero, List.set_cons_succ]; rfl), (ext_alloc hbx0 _), hpb, (Blk.new w42 [.slice Ahostsr r.hosts.length chostsr, .slice Apodsr r.pods.length cpodsr, .int .i64 r.next, .int .i64 r.weights.pack, .int .i64 r.weights.spread, .int .i64 r.weights.soft] 33), (fun y hy => ⟨hpG y hy, hOr.base y hy⟩), (hOr0.alloc _)⟩
          · go_simp
            refine hK _ _ (ext_alloc hbx _) ?_
            try simp only [Act.put, List.setIfInBounds_toArray, List.set_cons_zero, List.set_cons_succ]
            clear hK K
            have hpb : w1.heap.size ≤ w41.heap.size := hbx.size
            have HP : Blk (w41.alloc (.cells ([.slice none 0 0, .slice none 0 0, .int .i64 0, .int .i64 0, .int .i64 0, .int .i64 0] : List Value).toArray 33)) w41.heap.size [.slice none 0 0, .slice none 0 0, .int .i64 0, .int .i64 0, .int .i64 0, .int .i64 0] := Blk.new w41 [.slice none 0 0, .slice none 0 0, .int .i64 0, .int .i64 0, .int .i64 0, .int .i64 0] 33
            replace hbx := ext_alloc hbx (.cells ([.slice none 0 0, .slice none 0 0, .int .i64 0, .int .i64 0, .int .i64 0, .int .i64 0] : List Value).toArray 33)
            replace hOa := hOa.alloc (.cells ([.slice none 0 0, .slice none 0 0, .int .i64 0, .int .i64 0, .int .i64 0, .int .i64 0] : List Value).toArray 33)
            replace hOb := hOb.alloc (.cells ([.slice none 0 0, .slice none 0 0, .int .i64 0, .int .i64 0, .int .i64 0, .int .i64 0] : List Value).toArray 33)
            refine anyH_one 4 (by rfl) (by kernel_rfl) (by rfl) (fun K hK => ?_)
            go_simp
            have hpl42 := HP.lt
            refine (HSP.out _ _ _ _ _ hOa.rd hOb.rd).mono ?_
            rintro e w42 ⟨_, GR, rfl, hOr, hb42⟩
            replace HP := HP.ext hb42
            replace hOa := hOa.ext hb42
            replace hOb := hOb.ext hb42
            have hRr := hOr.rd
            obtain ⟨Ahostsr, chostsr, Fhostsr, Apodsr, cpodsr, Fpodsr, hck, hGr, hhostsr, hpodsr, hnextr, hweightspackr, hweightsspreadr, hweightssoftr⟩ := rd_Cluster hRr
            subst hck
            clear hGr hRr
            have hwB : w1.heap.size ≤ _ := hbx.size
            replace hbx := ext_trans hbx hb42
            refine hK _ _ hbx ?_
            try simp only [Act.put, List.setIfInBounds_toArray, List.set_cons_zero, List.set_cons_succ]
            clear hK K
            have hGp : ∀ y ∈ GR, y ≠ w41.heap.size := fun y hy => by have := hOr.base y hy; omega
            replace hOr := hOr.mono (B' := w1.heap.size) hwB
            refine anyH_take 5 _ (by rfl) (by kernel_rfl) (fun _ _ d _ _ h => by cases d <;> exact h) (by first | exact hbx | exact ext_refl _) (Or.inl ⟨rfl, fun wq hq => by
              have hcq := (cls_cell hq).1
              go_simp
              try rfl⟩) ?_
            try simp only [Act.put, List.setIfInBounds_toArray, List.set_cons_zero, List.set_cons_succ]
            refine anyH_take 6 _ (by rfl) (by kernel_rfl) (fun _ _ d _ _ h => by cases d <;> exact h) (by first | exact hbx | exact ext_refl _) (Or.inl ⟨rfl, fun wq hq => by
              have hcq := (cls_cell hq).1
              go_simp
              try rfl⟩) ?_
            try simp only [Act.put, List.setIfInBounds_toArray, List.set_cons_zero, List.set_cons_succ]
            refine anyH_take 7 _ (by rfl) (by kernel_rfl) (fun _ _ d _ _ h => by cases d <;> exact h) (by first | exact hbx | exact ext_refl _) (Or.inl ⟨rfl, fun wq hq => by
              have hcq := (cls_cell hq).1
              go_simp
              try rfl⟩) ?_
            try simp only [Act.put, List.setIfInBounds_toArray, List.set_cons_zero, List.set_cons_succ]
            have kl := HP.lt
            have kf := HP.fz
            have k0 := HP.cell (i := 0) (u := .slice none 0 0) rfl
            have k1 := HP.cell (i := 1) (u := .slice none 0 0) rfl
            have k2 := HP.cell (i := 2) (u := .int .i64 0) rfl
            have k3 := HP.cell (i := 3) (u := .int .i64 0) rfl
            have k4 := HP.cell (i := 4) (u := .int .i64 0) rfl
            have k5 := HP.cell (i := 5) (u := .int .i64 0) rfl
            have hpG : ∀ y ∈ GR, y ≠ w41.heap.size := hGp
            refine anyH_one 9 (by rfl) (by kernel_rfl) (by rfl) (fun K hK => ?_)
            go_simp
            refine hK _ _ (by unfold Cls; with_reducible exact (ext_setCell (p := ⟨w41.heap.size, 5, none⟩) (ext_setCell (p := ⟨w41.heap.size, 4, none⟩) (ext_setCell (p := ⟨w41.heap.size, 3, none⟩) (ext_setCell (p := ⟨w41.heap.size, 2, none⟩) (ext_setCell (p := ⟨w41.heap.size, 1, none⟩) (ext_setCell (p := ⟨w41.heap.size, 0, none⟩) hbx hpb (.slice Ahostsr r.hosts.length chostsr)) hpb (.slice Apodsr r.pods.length cpodsr)) hpb (.int .i64 r.next)) hpb (.int .i64 r.weights.pack)) hpb (.int .i64 r.weights.spread)) hpb (.int .i64 r.weights.soft))) ?_
            try simp only [Act.put, List.setIfInBounds_toArray, List.set_cons_zero, List.set_cons_succ]
            clear hK K
            refine anyH_one 10 (by rfl) (by kernel_rfl) (by rfl) (fun K hK => ?_)
            go_simp
            refine hK _ _ (by unfold Cls; with_reducible exact (ext_setCell (p := ⟨w41.heap.size, 5, none⟩) (ext_setCell (p := ⟨w41.heap.size, 4, none⟩) (ext_setCell (p := ⟨w41.heap.size, 3, none⟩) (ext_setCell (p := ⟨w41.heap.size, 2, none⟩) (ext_setCell (p := ⟨w41.heap.size, 1, none⟩) (ext_setCell (p := ⟨w41.heap.size, 0, none⟩) hbx hpb (.slice Ahostsr r.hosts.length chostsr)) hpb (.slice Apodsr r.pods.length cpodsr)) hpb (.int .i64 r.next)) hpb (.int .i64 r.weights.pack)) hpb (.int .i64 r.weights.spread)) hpb (.int .i64 r.weights.soft))) ?_
            try simp only [Act.put, List.setIfInBounds_toArray, List.set_cons_zero, List.set_cons_succ]
            clear hK K
            refine anyH_done (by kernel_rfl) ?_
            exact HK _ _ ⟨w41.heap.size, _, _, _, _, GR, _, _, _, _, _, _, _, _, (by simp only [Act.put, List.setIfInBounds_toArray, List.set_cons_zero, List.set_cons_succ]; rfl), (ext_setCell (p := ⟨w41.heap.size, 5, none⟩) (ext_setCell (p := ⟨w41.heap.size, 4, none⟩) (ext_setCell (p := ⟨w41.heap.size, 3, none⟩) (ext_setCell (p := ⟨w41.heap.size, 2, none⟩) (ext_setCell (p := ⟨w41.heap.size, 1, none⟩) (ext_setCell (p := ⟨w41.heap.size, 0, none⟩) hbx hpb (.slice Ahostsr r.hosts.length chostsr)) hpb (.slice Apodsr r.pods.length cpodsr)) hpb (.int .i64 r.next)) hpb (.int .i64 r.weights.pack)) hpb (.int .i64 r.weights.spread)) hpb (.int .i64 r.weights.soft)), hpb, ((((((HP.put 0 (.slice Ahostsr r.hosts.length chostsr)).put 1 (.slice Apodsr r.pods.length cpodsr)).put 2 (.int .i64 r.next)).put 3 (.int .i64 r.weights.pack)).put 4 (.int .i64 r.weights.spread)).put 5 (.int .i64 r.weights.soft)), (fun y hy => ⟨hpG y hy, hOr.base y hy⟩), (ownNe (c := w41.heap.size) (i := 5) (u := .int .i64 r.weights.soft) (ownNe (c := w41.heap.size) (i := 4) (u := .int .i64 r.weights.spread) (ownNe (c := w41.heap.size) (i := 3) (u := .int .i64 r.weights.pack) (ownNe (c := w41.heap.size) (i := 2) (u := .int .i64 r.next) (ownNe (c := w41.heap.size) (i := 1) (u := .slice Apodsr r.pods.length cpodsr) (ownNe (c := w41.heap.size) (i := 0) (u := .slice Ahostsr r.hosts.length chostsr) hOr hpG) hpG) hpG) hpG) hpG) hpG)⟩
        · go_simp
          refine hK _ _ (ext_alloc hbx _) ?_
          try simp only [Act.put, List.setIfInBounds_toArray, List.set_cons_zero, List.set_cons_succ]
          clear hK K
          have hpb : w1.heap.size ≤ w40.heap.size := hbx.size
          have HP : Blk (w40.alloc (.cells ([.slice none 0 0, .slice none 0 0, .int .i64 0, .int .i64 0, .int .i64 0, .int .i64 0] : List Value).toArray 33)) w40.heap.size [.slice none 0 0, .slice none 0 0, .int .i64 0, .int .i64 0, .int .i64 0, .int .i64 0] := Blk.new w40 [.slice none 0 0, .slice none 0 0, .int .i64 0, .int .i64 0, .int .i64 0, .int .i64 0] 33
          replace hbx := ext_alloc hbx (.cells ([.slice none 0 0, .slice none 0 0, .int .i64 0, .int .i64 0, .int .i64 0, .int .i64 0] : List Value).toArray 33)
          replace hOa := hOa.alloc (.cells ([.slice none 0 0, .slice none 0 0, .int .i64 0, .int .i64 0, .int .i64 0, .int .i64 0] : List Value).toArray 33)
          refine anyH_one 3 (by rfl) (by kernel_rfl) (by rfl) (fun K hK => ?_)
          go_simp
          have hpl41 := HP.lt
          refine (toWeights_any u _ _ _ (rd_ext h' (ext_trans hB1 hbx))).mono ?_
          rintro e w41 ⟨csb, Gb, rfl, hOb, hb41⟩
          replace HP := HP.ext hb41
          replace hOa := hOa.ext hb41
          have hRb := hOb.rd
          obtain ⟨hck, hGb, hpackb, hspreadb, hsoftb⟩ := rd_Weights hRb
          subst hck
          clear hGb hRb
          replace hbx := ext_trans hbx hb41
          refine hK _ _ hbx ?_
          try simp only [Act.put, List.setIfInBounds_toArray, List.set_cons_zero, List.set_cons_succ]
          clear hK K
          refine anyH_one 4 (by rfl) (by kernel_rfl) (by rfl) (fun K hK => ?_)
          go_simp
          have hpl42 := HP.lt
          refine (HSP.out _ _ _ _ _ hOa.rd hOb.rd).mono ?_
          rintro e w42 ⟨_, GR, rfl, hOr, hb42⟩
          replace HP := HP.ext hb42
          replace hOa := hOa.ext hb42
          replace hOb := hOb.ext hb42
          have hRr := hOr.rd
          obtain ⟨Ahostsr, chostsr, Fhostsr, Apodsr, cpodsr, Fpodsr, hck, hGr, hhostsr, hpodsr, hnextr, hweightspackr, hweightsspreadr, hweightssoftr⟩ := rd_Cluster hRr
          subst hck
          clear hGr hRr
          have hwB : w1.heap.size ≤ _ := hbx.size
          replace hbx := ext_trans hbx hb42
          refine hK _ _ hbx ?_
          try simp only [Act.put, List.setIfInBounds_toArray, List.set_cons_zero, List.set_cons_succ]
          clear hK K
          have hGp : ∀ y ∈ GR, y ≠ w40.heap.size := fun y hy => by have := hOr.base y hy; omega
          replace hOr := hOr.mono (B' := w1.heap.size) hwB
          refine anyH_take 5 _ (by rfl) (by kernel_rfl) (fun _ _ d _ _ h => by cases d <;> exact h) (by first | exact hbx | exact ext_refl _) (Or.inl ⟨rfl, fun wq hq => by
            have hcq := (cls_cell hq).1
            go_simp
            try rfl⟩) ?_
          try simp only [Act.put, List.setIfInBounds_toArray, List.set_cons_zero, List.set_cons_succ]
          refine anyH_take 6 _ (by rfl) (by kernel_rfl) (fun _ _ d _ _ h => by cases d <;> exact h) (by first | exact hbx | exact ext_refl _) (Or.inl ⟨rfl, fun wq hq => by
            have hcq := (cls_cell hq).1
            go_simp
            try rfl⟩) ?_
          try simp only [Act.put, List.setIfInBounds_toArray, List.set_cons_zero, List.set_cons_succ]
          refine anyH_take 7 _ (by rfl) (by kernel_rfl) (fun _ _ d _ _ h => by cases d <;> exact h) (by first | exact hbx | exact ext_refl _) (Or.inl ⟨rfl, fun wq hq => by
            have hcq := (cls_cell hq).1
            go_simp
            try rfl⟩) ?_
          try simp only [Act.put, List.setIfInBounds_toArray, List.set_cons_zero, List.set_cons_succ]
          have kl := HP.lt
          have kf := HP.fz
          have k0 := HP.cell (i := 0) (u := .slice none 0 0) rfl
          have k1 := HP.cell (i := 1) (u := .slice none 0 0) rfl
          have k2 := HP.cell (i := 2) (u := .int .i64 0) rfl
          have k3 := HP.cell (i := 3) (u := .int .i64 0) rfl
          have k4 := HP.cell (i := 4) (u := .int .i64 0) rfl
          have k5 := HP.cell (i := 5) (u := .int .i64 0) rfl
          have hpG : ∀ y ∈ GR, y ≠ w40.heap.size := hGp
          refine anyH_one 9 (by rfl) (by kernel_rfl) (by rfl) (fun K hK => ?_)
          go_simp
          refine hK _ _ (by unfold Cls; with_reducible exact (ext_setCell (p := ⟨w40.heap.size, 5, none⟩) (ext_setCell (p := ⟨w40.heap.size, 4, none⟩) (ext_setCell (p := ⟨w40.heap.size, 3, none⟩) (ext_setCell (p := ⟨w40.heap.size, 2, none⟩) (ext_setCell (p := ⟨w40.heap.size, 1, none⟩) (ext_setCell (p := ⟨w40.heap.size, 0, none⟩) hbx hpb (.slice Ahostsr r.hosts.length chostsr)) hpb (.slice Apodsr r.pods.length cpodsr)) hpb (.int .i64 r.next)) hpb (.int .i64 r.weights.pack)) hpb (.int .i64 r.weights.spread)) hpb (.int .i64 r.weights.soft))) ?_
          try simp only [Act.put, List.setIfInBounds_toArray, List.set_cons_zero, List.set_cons_succ]
          clear hK K
          refine anyH_one 10 (by rfl) (by kernel_rfl) (by rfl) (fun K hK => ?_)
          go_simp
          refine hK _ _ (by unfold Cls; with_reducible exact (ext_setCell (p := ⟨w40.heap.size, 5, none⟩) (ext_setCell (p := ⟨w40.heap.size, 4, none⟩) (ext_setCell (p := ⟨w40.heap.size, 3, none⟩) (ext_setCell (p := ⟨w40.heap.size, 2, none⟩) (ext_setCell (p := ⟨w40.heap.size, 1, none⟩) (ext_setCell (p := ⟨w40.heap.size, 0, none⟩) hbx hpb (.slice Ahostsr r.hosts.length chostsr)) hpb (.slice Apodsr r.pods.length cpodsr)) hpb (.int .i64 r.next)) hpb (.int .i64 r.weights.pack)) hpb (.int .i64 r.weights.spread)) hpb (.int .i64 r.weights.soft))) ?_
          try simp only [Act.put, List.setIfInBounds_toArray, List.set_cons_zero, List.set_cons_succ]
          clear hK K
          refine anyH_done (by kernel_rfl) ?_
          exact HK _ _ ⟨w40.heap.size, _, _, _, _, GR, _, _, _, _, _, _, _, _, (by simp only [Act.put, List.setIfInBounds_toArray, List.set_cons_zero, List.set_cons_succ]; rfl), (ext_setCell (p := ⟨w40.heap.size, 5, none⟩) (ext_setCell (p := ⟨w40.heap.size, 4, none⟩) (ext_setCell (p := ⟨w40.heap.size, 3, none⟩) (ext_setCell (p := ⟨w40.heap.size, 2, none⟩) (ext_setCell (p := ⟨w40.heap.size, 1, none⟩) (ext_setCell (p := ⟨w40.heap.size, 0, none⟩) hbx hpb (.slice Ahostsr r.hosts.length chostsr)) hpb (.slice Apodsr r.pods.length cpodsr)) hpb (.int .i64 r.next)) hpb (.int .i64 r.weights.pack)) hpb (.int .i64 r.weights.spread)) hpb (.int .i64 r.weights.soft)), hpb, ((((((HP.put 0 (.slice Ahostsr r.hosts.length chostsr)).put 1 (.slice Apodsr r.pods.length cpodsr)).put 2 (.int .i64 r.next)).put 3 (.int .i64 r.weights.pack)).put 4 (.int .i64 r.weights.spread)).put 5 (.int .i64 r.weights.soft)), (fun y hy => ⟨hpG y hy, hOr.base y hy⟩), (ownNe (c := w40.heap.size) (i := 5) (u := .int .i64 r.weights.soft) (ownNe (c := w40.heap.size) (i := 4) (u := .int .i64 r.weights.spread) (ownNe (c := w40.heap.size) (i := 3) (u := .int .i64 r.weights.pack) (ownNe (c := w40.heap.size) (i := 2) (u := .int .i64 r.next) (ownNe (c := w40.heap.size) (i := 1) (u := .slice Apodsr r.pods.length cpodsr) (ownNe (c := w40.heap.size) (i := 0) (u := .slice Ahostsr r.hosts.length chostsr) hOr hpG) hpG) hpG) hpG) hpG) hpG)⟩
      · go_simp
        refine hK _ _ (ext_alloc hbx _) ?_
        try simp only [Act.put, List.setIfInBounds_toArray, List.set_cons_zero, List.set_cons_succ]
        clear hK K
        have hpb : w1.heap.size ≤ w1.heap.size := hbx.size
        have HP : Blk (w1.drew.alloc (.cells ([.slice none 0 0, .slice none 0 0, .int .i64 0, .int .i64 0, .int .i64 0, .int .i64 0] : List Value).toArray 33)) w1.heap.size [.slice none 0 0, .slice none 0 0, .int .i64 0, .int .i64 0, .int .i64 0, .int .i64 0] := Blk.new w1.drew [.slice none 0 0, .slice none 0 0, .int .i64 0, .int .i64 0, .int .i64 0, .int .i64 0] 33
        replace hbx := ext_alloc hbx (.cells ([.slice none 0 0, .slice none 0 0, .int .i64 0, .int .i64 0, .int .i64 0, .int .i64 0] : List Value).toArray 33)
        refine anyH_one 1 (by rfl) (by kernel_rfl) (by rfl) (fun K hK => ?_)
        go_simp
        have hpl40 := HP.lt
        refine (toCluster_any x _ _ _ (rd_ext h (ext_trans hB1 hbx)) HWT.out).mono ?_
        rintro e w40 ⟨csa, Ga, rfl, hOa, hb40⟩
        replace HP := HP.ext hb40
        have hRa := hOa.rd
        obtain ⟨Ahostsa, chostsa, Fhostsa, Apodsa, cpodsa, Fpodsa, hck, hGa, hhostsa, hpodsa, hnexta, hweightspacka, hweightsspreada, hweightssofta⟩ := rd_Cluster hRa
        subst hck
        clear hGa hRa
        replace hbx := ext_trans hbx hb40
        refine hK _ _ hbx ?_
        try simp only [Act.put, List.setIfInBounds_toArray, List.set_cons_zero, List.set_cons_succ]
        clear hK K
        refine anyH_one 3 (by rfl) (by kernel_rfl) (by rfl) (fun K hK => ?_)
        go_simp
        have hpl41 := HP.lt
        refine (toWeights_any u _ _ _ (rd_ext h' (ext_trans hB1 hbx))).mono ?_
        rintro e w41 ⟨csb, Gb, rfl, hOb, hb41⟩
        replace HP := HP.ext hb41
        replace hOa := hOa.ext hb41
        have hRb := hOb.rd
        obtain ⟨hck, hGb, hpackb, hspreadb, hsoftb⟩ := rd_Weights hRb
        subst hck
        clear hGb hRb
        replace hbx := ext_trans hbx hb41
        refine hK _ _ hbx ?_
        try simp only [Act.put, List.setIfInBounds_toArray, List.set_cons_zero, List.set_cons_succ]
        clear hK K
        refine anyH_one 4 (by rfl) (by kernel_rfl) (by rfl) (fun K hK => ?_)
        go_simp
        have hpl42 := HP.lt
        refine (HSP.out _ _ _ _ _ hOa.rd hOb.rd).mono ?_
        rintro e w42 ⟨_, GR, rfl, hOr, hb42⟩
        replace HP := HP.ext hb42
        replace hOa := hOa.ext hb42
        replace hOb := hOb.ext hb42
        have hRr := hOr.rd
        obtain ⟨Ahostsr, chostsr, Fhostsr, Apodsr, cpodsr, Fpodsr, hck, hGr, hhostsr, hpodsr, hnextr, hweightspackr, hweightsspreadr, hweightssoftr⟩ := rd_Cluster hRr
        subst hck
        clear hGr hRr
        have hwB : w1.heap.size ≤ _ := hbx.size
        replace hbx := ext_trans hbx hb42
        refine hK _ _ hbx ?_
        try simp only [Act.put, List.setIfInBounds_toArray, List.set_cons_zero, List.set_cons_succ]
        clear hK K
        have hGp : ∀ y ∈ GR, y ≠ w1.heap.size := fun y hy => by have := hOr.base y hy; omega
        replace hOr := hOr.mono (B' := w1.heap.size) hwB
        refine anyH_take 5 _ (by rfl) (by kernel_rfl) (fun _ _ d _ _ h => by cases d <;> exact h) (by first | exact hbx | exact ext_refl _) (Or.inl ⟨rfl, fun wq hq => by
          have hcq := (cls_cell hq).1
          go_simp
          try rfl⟩) ?_
        try simp only [Act.put, List.setIfInBounds_toArray, List.set_cons_zero, List.set_cons_succ]
        refine anyH_take 6 _ (by rfl) (by kernel_rfl) (fun _ _ d _ _ h => by cases d <;> exact h) (by first | exact hbx | exact ext_refl _) (Or.inl ⟨rfl, fun wq hq => by
          have hcq := (cls_cell hq).1
          go_simp
          try rfl⟩) ?_
        try simp only [Act.put, List.setIfInBounds_toArray, List.set_cons_zero, List.set_cons_succ]
        refine anyH_take 7 _ (by rfl) (by kernel_rfl) (fun _ _ d _ _ h => by cases d <;> exact h) (by first | exact hbx | exact ext_refl _) (Or.inl ⟨rfl, fun wq hq => by
          have hcq := (cls_cell hq).1
          go_simp
          try rfl⟩) ?_
        try simp only [Act.put, List.setIfInBounds_toArray, List.set_cons_zero, List.set_cons_succ]
        have kl := HP.lt
        have kf := HP.fz
        have k0 := HP.cell (i := 0) (u := .slice none 0 0) rfl
        have k1 := HP.cell (i := 1) (u := .slice none 0 0) rfl
        have k2 := HP.cell (i := 2) (u := .int .i64 0) rfl
        have k3 := HP.cell (i := 3) (u := .int .i64 0) rfl
        have k4 := HP.cell (i := 4) (u := .int .i64 0) rfl
        have k5 := HP.cell (i := 5) (u := .int .i64 0) rfl
        have hpG : ∀ y ∈ GR, y ≠ w1.heap.size := hGp
        refine anyH_one 9 (by rfl) (by kernel_rfl) (by rfl) (fun K hK => ?_)
        go_simp
        refine hK _ _ (by unfold Cls; with_reducible exact (ext_setCell (p := ⟨w1.heap.size, 5, none⟩) (ext_setCell (p := ⟨w1.heap.size, 4, none⟩) (ext_setCell (p := ⟨w1.heap.size, 3, none⟩) (ext_setCell (p := ⟨w1.heap.size, 2, none⟩) (ext_setCell (p := ⟨w1.heap.size, 1, none⟩) (ext_setCell (p := ⟨w1.heap.size, 0, none⟩) hbx hpb (.slice Ahostsr r.hosts.length chostsr)) hpb (.slice Apodsr r.pods.length cpodsr)) hpb (.int .i64 r.next)) hpb (.int .i64 r.weights.pack)) hpb (.int .i64 r.weights.spread)) hpb (.int .i64 r.weights.soft))) ?_
        try simp only [Act.put, List.setIfInBounds_toArray, List.set_cons_zero, List.set_cons_succ]
        clear hK K
        refine anyH_one 10 (by rfl) (by kernel_rfl) (by rfl) (fun K hK => ?_)
        go_simp
        refine hK _ _ (by unfold Cls; with_reducible exact (ext_setCell (p := ⟨w1.heap.size, 5, none⟩) (ext_setCell (p := ⟨w1.heap.size, 4, none⟩) (ext_setCell (p := ⟨w1.heap.size, 3, none⟩) (ext_setCell (p := ⟨w1.heap.size, 2, none⟩) (ext_setCell (p := ⟨w1.heap.size, 1, none⟩) (ext_setCell (p := ⟨w1.heap.size, 0, none⟩) hbx hpb (.slice Ahostsr r.hosts.length chostsr)) hpb (.slice Apodsr r.pods.length cpodsr)) hpb (.int .i64 r.next)) hpb (.int .i64 r.weights.pack)) hpb (.int .i64 r.weights.spread)) hpb (.int .i64 r.weights.soft))) ?_
        try simp only [Act.put, List.setIfInBounds_toArray, List.set_cons_zero, List.set_cons_succ]
        clear hK K
        refine anyH_done (by kernel_rfl) ?_
        exact HK _ _ ⟨w1.heap.size, _, _, _, _, GR, _, _, _, _, _, _, _, _, (by simp only [Act.put, List.setIfInBounds_toArray, List.set_cons_zero, List.set_cons_succ]; rfl), (ext_setCell (p := ⟨w1.heap.size, 5, none⟩) (ext_setCell (p := ⟨w1.heap.size, 4, none⟩) (ext_setCell (p := ⟨w1.heap.size, 3, none⟩) (ext_setCell (p := ⟨w1.heap.size, 2, none⟩) (ext_setCell (p := ⟨w1.heap.size, 1, none⟩) (ext_setCell (p := ⟨w1.heap.size, 0, none⟩) hbx hpb (.slice Ahostsr r.hosts.length chostsr)) hpb (.slice Apodsr r.pods.length cpodsr)) hpb (.int .i64 r.next)) hpb (.int .i64 r.weights.pack)) hpb (.int .i64 r.weights.spread)) hpb (.int .i64 r.weights.soft)), hpb, ((((((HP.put 0 (.slice Ahostsr r.hosts.length chostsr)).put 1 (.slice Apodsr r.pods.length cpodsr)).put 2 (.int .i64 r.next)).put 3 (.int .i64 r.weights.pack)).put 4 (.int .i64 r.weights.spread)).put 5 (.int .i64 r.weights.soft)), (fun y hy => ⟨hpG y hy, hOr.base y hy⟩), (ownNe (c := w1.heap.size) (i := 5) (u := .int .i64 r.weights.soft) (ownNe (c := w1.heap.size) (i := 4) (u := .int .i64 r.weights.spread) (ownNe (c := w1.heap.size) (i := 3) (u := .int .i64 r.weights.pack) (ownNe (c := w1.heap.size) (i := 2) (u := .int .i64 r.next) (ownNe (c := w1.heap.size) (i := 1) (u := .slice Apodsr r.pods.length cpodsr) (ownNe (c := w1.heap.size) (i := 0) (u := .slice Ahostsr r.hosts.length chostsr) hOr hpG) hpG) hpG) hpG) hpG) hpG)⟩
    rintro a' w4 ⟨p4, Ahosts4, Apods4, chosts4, cpods4, G4, v4_0, v4_1, v4_2, v4_3, v4_4, v4_5, v4_6, v4_7, ha, hb4, hpb4, HBX4, hGp4, hO4⟩
    subst ha
    try simp only [Act.put, List.setIfInBounds_toArray, List.set_cons_zero, List.set_cons_succ]
    obtain ⟨hc4, hf4⟩ := bcell hb4
    have hB4 : Below w.heap.size w w4 := ext_trans hB1 hb4
    have hz0_4 : w.heap.size < w4.heap.size := by have := hb4.size; (try simp at this); omega
    have hz1_4 : w.heap.size + 1 < w4.heap.size := by have := hb4.size; (try simp at this); omega
    have hlp4 : p4 < w4.heap.size := HBX4.lt
    have bx4_0 := HBX4.cell (i := 0) (u := .slice Ahosts4 r.hosts.length chosts4) rfl
    have bx4_1 := HBX4.cell (i := 1) (u := .slice Apods4 r.pods.length cpods4) rfl
    have bx4_2 := HBX4.cell (i := 2) (u := .int .i64 r.next) rfl
    have bx4_3 := HBX4.cell (i := 3) (u := .int .i64 r.weights.pack) rfl
    have bx4_4 := HBX4.cell (i := 4) (u := .int .i64 r.weights.spread) rfl
    have bx4_5 := HBX4.cell (i := 5) (u := .int .i64 r.weights.soft) rfl
    have HG4 := Lib.hid (show ∀ y ∈ G4, w.heap.size < y ∧ y < w4.heap.size from fun y hy => ⟨by have := (hGp4 y hy).2; omega, hO4.lt y hy⟩)
    have hP4 : w.heap.size + 1 < p4 := by omega
    clear HBX4 hGp4
    go_wp2_with fail
    refine (toCluster_any x _ _ _ (rd_ext h (by repeat (first | with_reducible exact ext_refl _ | with_reducible assumption | with_reducible refine ext_alloc ?_ _ | with_reducible refine ext_drew ?_ | with_reducible refine ext_trans ?_ (by assumption)))) HWT.out).mono ?_
    rintro e w5 ⟨cs5, G5, rfl, hO5, hb5⟩
    obtain ⟨hc5, hf5⟩ := bcell hb5
    have hB5 : Below w.heap.size w w5 := ext_trans (by repeat (first | with_reducible exact ext_refl _ | with_reducible assumption | with_reducible refine ext_alloc ?_ _ | with_reducible refine ext_drew ?_ | with_reducible refine ext_trans ?_ (by assumption))) hb5
    have hz0_5 : w.heap.size < w5.heap.size := by have := hb5.size; (try simp at this); omega
    have hz1_5 : w.heap.size + 1 < w5.heap.size := by have := hb5.size; (try simp at this); omega
    have hz2_5 : p4 < w5.heap.size := by have := hb5.size; (try simp at this); omega
    first | replace hO4 := Own.ext hO4 hb5 | replace hO4 := Own.ext (hO4.alloc _) hb5 | replace hO4 := Own.ext ((hO4.alloc _).alloc _) hb5
    have hR5 := hO5.rd
    obtain ⟨Ahosts5, chosts5, Fhosts5, Apods5, cpods5, Fpods5, hck, hG5, hhosts5, hpods5, hnext5, hweightspack5, hweightsspread5, hweightssoft5⟩ := rd_Cluster hR5
    subst hck
    clear hG5 hR5
    have h45 : w4.heap.size ≤ w5.heap.size := by have := hb5.size; (try simp at this); omega
    have HG5 := Lib.hid (show ∀ y ∈ G5, w4.heap.size ≤ y ∧ y < w5.heap.size ∧ True from fun y hy => ⟨by have := hO5.base y hy; (try simp at this); omega, hO5.lt y hy, trivial⟩)
    have HB8 := Blk.new w5 [.slice Ahosts5 x.hosts.length chosts5, .slice Apods5 x.pods.length cpods5, .int .i64 x.next, .int .i64 x.weights.pack, .int .i64 x.weights.spread, .int .i64 x.weights.soft] 33
    have hbb : Below w5.heap.size w5 (w5.alloc (.cells ([.slice Ahosts5 x.hosts.length chosts5, .slice Apods5 x.pods.length cpods5, .int .i64 x.next, .int .i64 x.weights.pack, .int .i64 x.weights.spread, .int .i64 x.weights.soft] : List Value).toArray 33)) := ext_alloc (ext_refl _) _
    replace hO4 := hO4.alloc (.cells ([.slice Ahosts5 x.hosts.length chosts5, .slice Apods5 x.pods.length cpods5, .int .i64 x.next, .int .i64 x.weights.pack, .int .i64 x.weights.spread, .int .i64 x.weights.soft] : List Value).toArray 33)
    replace hO5 := hO5.alloc (.cells ([.slice Ahosts5 x.hosts.length chosts5, .slice Apods5 x.pods.length cpods5, .int .i64 x.next, .int .i64 x.weights.pack, .int .i64 x.weights.spread, .int .i64 x.weights.soft] : List Value).toArray 33)
    go_wp2_with fail
    generalize (w5.alloc (.cells ([.slice Ahosts5 x.hosts.length chosts5, .slice Apods5 x.pods.length cpods5, .int .i64 x.next, .int .i64 x.weights.pack, .int .i64 x.weights.spread, .int .i64 x.weights.soft] : List Value).toArray 33)) = wb at *
    obtain ⟨hcb, hfb⟩ := bcell hbb
    have hBb : Below w.heap.size w wb := ext_trans hB5 hbb
    have hl8 : w5.heap.size < wb.heap.size := HB8.lt
    have hz0_b : w.heap.size < wb.heap.size := by omega
    have hz1_b : w.heap.size + 1 < wb.heap.size := by omega
    have hz2_b : p4 < wb.heap.size := by omega
    have bx8_0 := HB8.cell (i := 0) (u := .slice Ahosts5 x.hosts.length chosts5) rfl
    have bx8_1 := HB8.cell (i := 1) (u := .slice Apods5 x.pods.length cpods5) rfl
    have bx8_2 := HB8.cell (i := 2) (u := .int .i64 x.next) rfl
    have bx8_3 := HB8.cell (i := 3) (u := .int .i64 x.weights.pack) rfl
    have bx8_4 := HB8.cell (i := 4) (u := .int .i64 x.weights.spread) rfl
    have bx8_5 := HB8.cell (i := 5) (u := .int .i64 x.weights.soft) rfl
    clear HB8
    refine wp_region_anyH wb 10 (by kernel_rfl) (by kernel_rfl) (ext_refl _) ?_
    refine anyH_to (fun a0 a' w' => ∃ (p7 : Nat) (Ahosts7 Apods7 : Option Addr) (chosts7 cpods7 : Nat) (G7 : List Nat) (v7_0 v7_1 v7_2 v7_3 v7_4 v7_5 v7_6 : Value), a' = (Act.put (Act.put (Act.put (Act.put (Act.put (Act.put (Act.put (Act.put (Act.put a0 (some 32) (v7_0)) (some 33) (v7_1)) (some 34) (v7_2)) (some 35) (v7_3)) (some 31) (v7_4)) (some 36) (v7_5)) (some 37) (v7_6)) (some 9) (.pointer (some ⟨p7, 0, none⟩))) (some 10) (.int .i64 cd)) ∧ Below wb.heap.size wb w' ∧ wb.heap.size ≤ p7 ∧ Blk w' p7 [.slice Ahosts7 r.hosts.length chosts7, .slice Apods7 r.pods.length cpods7, .int .i64 r.next, .int .i64 r.weights.pack, .int .i64 r.weights.spread, .int .i64 r.weights.soft] ∧ (∀ y ∈ G7, y ≠ p7 ∧ wb.heap.size ≤ y) ∧ Own w' wb.heap.size r [.slice Ahosts7 r.hosts.length chosts7, .slice Apods7 r.pods.length cpods7, .int .i64 r.next, .int .i64 r.weights.pack, .int .i64 r.weights.spread, .int .i64 r.weights.soft] G7) ?_ ?_
    rotate_left
    · intro HK
      have hbx : Below wb.heap.size wb wb.drew := ext_drew (ext_refl _)
      refine anyH_take 0 _ (by rfl) (by kernel_rfl) (fun _ _ d _ _ h => by cases d <;> exact h) (by first | exact hbx | exact ext_refl _) (Or.inl ⟨rfl, fun wq hq => by
        have hcq := (cls_cell hq).1
        go_simp
        try rfl⟩) ?_
      try simp only [Act.put, List.setIfInBounds_toArray, List.set_cons_zero, List.set_cons_succ]
      refine anyH_take 1 _ (by rfl) (by kernel_rfl) (fun _ _ d _ _ h => by cases d <;> exact h) (by first | exact hbx | exact ext_refl _) (Or.inl ⟨rfl, fun wq hq => by
        have hcq := (cls_cell hq).1
        go_simp
        try rfl⟩) ?_
      try simp only [Act.put, List.setIfInBounds_toArray, List.set_cons_zero, List.set_cons_succ]
      refine anyH_two 2 7 (by rfl) (by rfl) (by kernel_rfl) (by rfl) (by rfl) (fun K hK => ?_) (fun K hK => ?_)
      · go_simp
        refine (toWeights_any u _ _ _ (rd_ext h' (ext_trans hBb hbx))).mono ?_
        rintro e w70 ⟨csb, Gb, rfl, hOb, hb70⟩
        have hRb := hOb.rd
        obtain ⟨hck, hGb, hpackb, hspreadb, hsoftb⟩ := rd_Weights hRb
        subst hck
        clear hGb hRb
        replace hbx := ext_trans hbx hb70
        refine hK _ _ hbx ?_
        try simp only [Act.put, List.setIfInBounds_toArray, List.set_cons_zero, List.set_cons_succ]
        clear hK K
        refine anyH_two 3 7 (by rfl) (by rfl) (by kernel_rfl) (by rfl) (by rfl) (fun K hK => ?_) (fun K hK => ?_)
        · go_simp
          refine (HIM.out _ _ _ _ _ (rd_ext hO5.rd hbx) hOb.rd).mono ?_
          rintro e w71 ⟨_, GR, rfl, hOr, hb71⟩
          replace hOb := hOb.ext hb71
          have hRr := hOr.rd
          obtain ⟨Ahostsr, chostsr, Fhostsr, Apodsr, cpodsr, Fpodsr, hck, hGr, hhostsr, hpodsr, hnextr, hweightspackr, hweightsspreadr, hweightssoftr⟩ := rd_Cluster hRr
          subst hck
          clear hGr hRr
          have hwB : wb.heap.size ≤ _ := hbx.size
          replace hbx := ext_trans hbx hb71
          refine hK _ _ hbx ?_
          try simp only [Act.put, List.setIfInBounds_toArray, List.set_cons_zero, List.set_cons_succ]
          clear hK K
          replace hOr := hOr.mono (B' := wb.heap.size) hwB
          refine anyH_take 4 _ (by rfl) (by kernel_rfl) (fun _ _ d _ _ h => by cases d <;> exact h) (by first | exact hbx | exact ext_refl _) (Or.inl ⟨rfl, fun wq hq => by
            have hcq := (cls_cell hq).1
            go_simp
            try rfl⟩) ?_
          try simp only [Act.put, List.setIfInBounds_toArray, List.set_cons_zero, List.set_cons_succ]
          refine anyH_take 5 _ (by rfl) (by kernel_rfl) (fun _ _ d _ _ h => by cases d <;> exact h) (by first | exact hbx | exact ext_refl _) (Or.inl ⟨rfl, fun wq hq => by
            have hcq := (cls_cell hq).1
            go_simp
            try rfl⟩) ?_
          try simp only [Act.put, List.setIfInBounds_toArray, List.set_cons_zero, List.set_cons_succ]
          refine anyH_take 6 _ (by rfl) (by kernel_rfl) (fun _ _ d _ _ h => by cases d <;> exact h) (by first | exact hbx | exact ext_refl _) (Or.inl ⟨rfl, fun wq hq => by
            have hcq := (cls_cell hq).1
            go_simp
            try rfl⟩) ?_
          try simp only [Act.put, List.setIfInBounds_toArray, List.set_cons_zero, List.set_cons_succ]
          refine anyH_one 7 (by rfl) (by kernel_rfl) (by rfl) (fun K hK => ?_)
          go_simp
          refine hK _ _ (ext_alloc hbx _) ?_
          try simp only [Act.put, List.setIfInBounds_toArray, List.set_cons_zero, List.set_cons_succ]
          clear hK K
          have hpb : wb.heap.size ≤ w71.heap.size := hbx.size
          have HP : Blk (w71.alloc (.cells ([.slice none 0 0, .slice none 0 0, .int .i64 0, .int .i64 0, .int .i64 0, .int .i64 0] : List Value).toArray 33)) w71.heap.size [.slice none 0 0, .slice none 0 0, .int .i64 0, .int .i64 0, .int .i64 0, .int .i64 0] := Blk.new w71 [.slice none 0 0, .slice none 0 0, .int .i64 0, .int .i64 0, .int .i64 0, .int .i64 0] 33
          have hbx0 := hbx
          have hOr0 := hOr
          replace hbx := ext_alloc hbx (.cells ([.slice none 0 0, .slice none 0 0, .int .i64 0, .int .i64 0, .int .i64 0, .int .i64 0] : List Value).toArray 33)
          replace hOb := hOb.alloc (.cells ([.slice none 0 0, .slice none 0 0, .int .i64 0, .int .i64 0, .int .i64 0, .int .i64 0] : List Value).toArray 33)
          have hGp : ∀ y ∈ GR, y ≠ w71.heap.size := fun y hy => by have := hOr.lt y hy; omega
          replace hOr := hOr.alloc (.cells ([.slice none 0 0, .slice none 0 0, .int .i64 0, .int .i64 0, .int .i64 0, .int .i64 0] : List Value).toArray 33)
          have kl := HP.lt
          have kf := HP.fz
          have k0 := HP.cell (i := 0) (u := .slice none 0 0) rfl
          have k1 := HP.cell (i := 1) (u := .slice none 0 0) rfl
          have k2 := HP.cell (i := 2) (u := .int .i64 0) rfl
          have k3 := HP.cell (i := 3) (u := .int .i64 0) rfl
          have k4 := HP.cell (i := 4) (u := .int .i64 0) rfl
          have k5 := HP.cell (i := 5) (u := .int .i64 0) rfl
          have hpG : ∀ y ∈ GR, y ≠ w71.heap.size := hGp
          refine anyH_one 8 (by rfl) (by kernel_rfl) (by rfl) (fun K hK => ?_)
          go_simp
          refine hK _ _ (by unfold Cls; with_reducible exact (ext_alloc hbx0 _)) ?_
          try simp only [Act.put, List.setIfInBounds_toArray, List.set_cons_zero, List.set_cons_succ]
          clear hK K
          refine anyH_one 9 (by rfl) (by kernel_rfl) (by rfl) (fun K hK => ?_)
          go_simp
          refine hK _ _ (by unfold Cls; with_reducible exact (ext_alloc hbx0 _)) ?_
          try simp only [Act.put, List.setIfInBounds_toArray, List.set_cons_zero, List.set_cons_succ]
          clear hK K
          refine anyH_done (by kernel_rfl) ?_
          exact HK _ _ ⟨w71.heap.size, _, _, _, _, GR, _, _, _, _, _, _, _, (by simp only [Act.put, List.setIfInBounds_toArray, List.set_cons_zero, List.set_cons_succ]; rfl), (ext_alloc hbx0 _), hpb, (Blk.new w71 [.slice Ahostsr r.hosts.length chostsr, .slice Apodsr r.pods.length cpodsr, .int .i64 r.next, .int .i64 r.weights.pack, .int .i64 r.weights.spread, .int .i64 r.weights.soft] 33), (fun y hy => ⟨hpG y hy, hOr.base y hy⟩), (hOr0.alloc _)⟩
        · go_simp
          refine hK _ _ (ext_alloc hbx _) ?_
          try simp only [Act.put, List.setIfInBounds_toArray, List.set_cons_zero, List.set_cons_succ]
          clear hK K
          have hpb : wb.heap.size ≤ w70.heap.size := hbx.size
          have HP : Blk (w70.alloc (.cells ([.slice none 0 0, .slice none 0 0, .int .i64 0, .int .i64 0, .int .i64 0, .int .i64 0] : List Value).toArray 33)) w70.heap.size [.slice none 0 0, .slice none 0 0, .int .i64 0, .int .i64 0, .int .i64 0, .int .i64 0] := Blk.new w70 [.slice none 0 0, .slice none 0 0, .int .i64 0, .int .i64 0, .int .i64 0, .int .i64 0] 33
          replace hbx := ext_alloc hbx (.cells ([.slice none 0 0, .slice none 0 0, .int .i64 0, .int .i64 0, .int .i64 0, .int .i64 0] : List Value).toArray 33)
          replace hOb := hOb.alloc (.cells ([.slice none 0 0, .slice none 0 0, .int .i64 0, .int .i64 0, .int .i64 0, .int .i64 0] : List Value).toArray 33)
          refine anyH_one 3 (by rfl) (by kernel_rfl) (by rfl) (fun K hK => ?_)
          go_simp
          have hpl71 := HP.lt
          refine (HIM.out _ _ _ _ _ (rd_ext hO5.rd hbx) hOb.rd).mono ?_
          rintro e w71 ⟨_, GR, rfl, hOr, hb71⟩
          replace HP := HP.ext hb71
          replace hOb := hOb.ext hb71
          have hRr := hOr.rd
          obtain ⟨Ahostsr, chostsr, Fhostsr, Apodsr, cpodsr, Fpodsr, hck, hGr, hhostsr, hpodsr, hnextr, hweightspackr, hweightsspreadr, hweightssoftr⟩ := rd_Cluster hRr
          subst hck
          clear hGr hRr
          have hwB : wb.heap.size ≤ _ := hbx.size
          replace hbx := ext_trans hbx hb71
          refine hK _ _ hbx ?_
          try simp only [Act.put, List.setIfInBounds_toArray, List.set_cons_zero, List.set_cons_succ]
          clear hK K
          have hGp : ∀ y ∈ GR, y ≠ w70.heap.size := fun y hy => by have := hOr.base y hy; omega
          replace hOr := hOr.mono (B' := wb.heap.size) hwB
          refine anyH_take 4 _ (by rfl) (by kernel_rfl) (fun _ _ d _ _ h => by cases d <;> exact h) (by first | exact hbx | exact ext_refl _) (Or.inl ⟨rfl, fun wq hq => by
            have hcq := (cls_cell hq).1
            go_simp
            try rfl⟩) ?_
          try simp only [Act.put, List.setIfInBounds_toArray, List.set_cons_zero, List.set_cons_succ]
          refine anyH_take 5 _ (by rfl) (by kernel_rfl) (fun _ _ d _ _ h => by cases d <;> exact h) (by first | exact hbx | exact ext_refl _) (Or.inl ⟨rfl, fun wq hq => by
            have hcq := (cls_cell hq).1
            go_simp
            try rfl⟩) ?_
          try simp only [Act.put, List.setIfInBounds_toArray, List.set_cons_zero, List.set_cons_succ]
          refine anyH_take 6 _ (by rfl) (by kernel_rfl) (fun _ _ d _ _ h => by cases d <;> exact h) (by first | exact hbx | exact ext_refl _) (Or.inl ⟨rfl, fun wq hq => by
            have hcq := (cls_cell hq).1
            go_simp
            try rfl⟩) ?_
          try simp only [Act.put, List.setIfInBounds_toArray, List.set_cons_zero, List.set_cons_succ]
          have kl := HP.lt
          have kf := HP.fz
          have k0 := HP.cell (i := 0) (u := .slice none 0 0) rfl
          have k1 := HP.cell (i := 1) (u := .slice none 0 0) rfl
          have k2 := HP.cell (i := 2) (u := .int .i64 0) rfl
          have k3 := HP.cell (i := 3) (u := .int .i64 0) rfl
          have k4 := HP.cell (i := 4) (u := .int .i64 0) rfl
          have k5 := HP.cell (i := 5) (u := .int .i64 0) rfl
          have hpG : ∀ y ∈ GR, y ≠ w70.heap.size := hGp
          refine anyH_one 8 (by rfl) (by kernel_rfl) (by rfl) (fun K hK => ?_)
          go_simp
          refine hK _ _ (by unfold Cls; with_reducible exact (ext_setCell (p := ⟨w70.heap.size, 5, none⟩) (ext_setCell (p := ⟨w70.heap.size, 4, none⟩) (ext_setCell (p := ⟨w70.heap.size, 3, none⟩) (ext_setCell (p := ⟨w70.heap.size, 2, none⟩) (ext_setCell (p := ⟨w70.heap.size, 1, none⟩) (ext_setCell (p := ⟨w70.heap.size, 0, none⟩) hbx hpb (.slice Ahostsr r.hosts.length chostsr)) hpb (.slice Apodsr r.pods.length cpodsr)) hpb (.int .i64 r.next)) hpb (.int .i64 r.weights.pack)) hpb (.int .i64 r.weights.spread)) hpb (.int .i64 r.weights.soft))) ?_
          try simp only [Act.put, List.setIfInBounds_toArray, List.set_cons_zero, List.set_cons_succ]
          clear hK K
          refine anyH_one 9 (by rfl) (by kernel_rfl) (by rfl) (fun K hK => ?_)
          go_simp
          refine hK _ _ (by unfold Cls; with_reducible exact (ext_setCell (p := ⟨w70.heap.size, 5, none⟩) (ext_setCell (p := ⟨w70.heap.size, 4, none⟩) (ext_setCell (p := ⟨w70.heap.size, 3, none⟩) (ext_setCell (p := ⟨w70.heap.size, 2, none⟩) (ext_setCell (p := ⟨w70.heap.size, 1, none⟩) (ext_setCell (p := ⟨w70.heap.size, 0, none⟩) hbx hpb (.slice Ahostsr r.hosts.length chostsr)) hpb (.slice Apodsr r.pods.length cpodsr)) hpb (.int .i64 r.next)) hpb (.int .i64 r.weights.pack)) hpb (.int .i64 r.weights.spread)) hpb (.int .i64 r.weights.soft))) ?_
          try simp only [Act.put, List.setIfInBounds_toArray, List.set_cons_zero, List.set_cons_succ]
          clear hK K
          refine anyH_done (by kernel_rfl) ?_
          exact HK _ _ ⟨w70.heap.size, _, _, _, _, GR, _, _, _, _, _, _, _, (by simp only [Act.put, List.setIfInBounds_toArray, List.set_cons_zero, List.set_cons_succ]; rfl), (ext_setCell (p := ⟨w70.heap.size, 5, none⟩) (ext_setCell (p := ⟨w70.heap.size, 4, none⟩) (ext_setCell (p := ⟨w70.heap.size, 3, none⟩) (ext_setCell (p := ⟨w70.heap.size, 2, none⟩) (ext_setCell (p := ⟨w70.heap.size, 1, none⟩) (ext_setCell (p := ⟨w70.heap.size, 0, none⟩) hbx hpb (.slice Ahostsr r.hosts.length chostsr)) hpb (.slice Apodsr r.pods.length cpodsr)) hpb (.int .i64 r.next)) hpb (.int .i64 r.weights.pack)) hpb (.int .i64 r.weights.spread)) hpb (.int .i64 r.weights.soft)), hpb, ((((((HP.put 0 (.slice Ahostsr r.hosts.length chostsr)).put 1 (.slice Apodsr r.pods.length cpodsr)).put 2 (.int .i64 r.next)).put 3 (.int .i64 r.weights.pack)).put 4 (.int .i64 r.weights.spread)).put 5 (.int .i64 r.weights.soft)), (fun y hy => ⟨hpG y hy, hOr.base y hy⟩), (ownNe (c := w70.heap.size) (i := 5) (u := .int .i64 r.weights.soft) (ownNe (c := w70.heap.size) (i := 4) (u := .int .i64 r.weights.spread) (ownNe (c := w70.heap.size) (i := 3) (u := .int .i64 r.weights.pack) (ownNe (c := w70.heap.size) (i := 2) (u := .int .i64 r.next) (ownNe (c := w70.heap.size) (i := 1) (u := .slice Apodsr r.pods.length cpodsr) (ownNe (c := w70.heap.size) (i := 0) (u := .slice Ahostsr r.hosts.length chostsr) hOr hpG) hpG) hpG) hpG) hpG) hpG)⟩
      · go_simp
        refine hK _ _ (ext_alloc hbx _) ?_
        try simp only [Act.put, List.setIfInBounds_toArray, List.set_cons_zero, List.set_cons_succ]
        clear hK K
        have hpb : wb.heap.size ≤ wb.heap.size := hbx.size
        have HP : Blk (wb.drew.alloc (.cells ([.slice none 0 0, .slice none 0 0, .int .i64 0, .int .i64 0, .int .i64 0, .int .i64 0] : List Value).toArray 33)) wb.heap.size [.slice none 0 0, .slice none 0 0, .int .i64 0, .int .i64 0, .int .i64 0, .int .i64 0] := Blk.new wb.drew [.slice none 0 0, .slice none 0 0, .int .i64 0, .int .i64 0, .int .i64 0, .int .i64 0] 33
        replace hbx := ext_alloc hbx (.cells ([.slice none 0 0, .slice none 0 0, .int .i64 0, .int .i64 0, .int .i64 0, .int .i64 0] : List Value).toArray 33)
        refine anyH_one 2 (by rfl) (by kernel_rfl) (by rfl) (fun K hK => ?_)
        go_simp
        have hpl70 := HP.lt
        refine (toWeights_any u _ _ _ (rd_ext h' (ext_trans hBb hbx))).mono ?_
        rintro e w70 ⟨csb, Gb, rfl, hOb, hb70⟩
        replace HP := HP.ext hb70
        have hRb := hOb.rd
        obtain ⟨hck, hGb, hpackb, hspreadb, hsoftb⟩ := rd_Weights hRb
        subst hck
        clear hGb hRb
        replace hbx := ext_trans hbx hb70
        refine hK _ _ hbx ?_
        try simp only [Act.put, List.setIfInBounds_toArray, List.set_cons_zero, List.set_cons_succ]
        clear hK K
        refine anyH_one 3 (by rfl) (by kernel_rfl) (by rfl) (fun K hK => ?_)
        go_simp
        have hpl71 := HP.lt
        refine (HIM.out _ _ _ _ _ (rd_ext hO5.rd hbx) hOb.rd).mono ?_
        rintro e w71 ⟨_, GR, rfl, hOr, hb71⟩
        replace HP := HP.ext hb71
        replace hOb := hOb.ext hb71
        have hRr := hOr.rd
        obtain ⟨Ahostsr, chostsr, Fhostsr, Apodsr, cpodsr, Fpodsr, hck, hGr, hhostsr, hpodsr, hnextr, hweightspackr, hweightsspreadr, hweightssoftr⟩ := rd_Cluster hRr
        subst hck
        clear hGr hRr
        have hwB : wb.heap.size ≤ _ := hbx.size
        replace hbx := ext_trans hbx hb71
        refine hK _ _ hbx ?_
        try simp only [Act.put, List.setIfInBounds_toArray, List.set_cons_zero, List.set_cons_succ]
        clear hK K
        have hGp : ∀ y ∈ GR, y ≠ wb.heap.size := fun y hy => by have := hOr.base y hy; omega
        replace hOr := hOr.mono (B' := wb.heap.size) hwB
        refine anyH_take 4 _ (by rfl) (by kernel_rfl) (fun _ _ d _ _ h => by cases d <;> exact h) (by first | exact hbx | exact ext_refl _) (Or.inl ⟨rfl, fun wq hq => by
          have hcq := (cls_cell hq).1
          go_simp
          try rfl⟩) ?_
        try simp only [Act.put, List.setIfInBounds_toArray, List.set_cons_zero, List.set_cons_succ]
        refine anyH_take 5 _ (by rfl) (by kernel_rfl) (fun _ _ d _ _ h => by cases d <;> exact h) (by first | exact hbx | exact ext_refl _) (Or.inl ⟨rfl, fun wq hq => by
          have hcq := (cls_cell hq).1
          go_simp
          try rfl⟩) ?_
        try simp only [Act.put, List.setIfInBounds_toArray, List.set_cons_zero, List.set_cons_succ]
        refine anyH_take 6 _ (by rfl) (by kernel_rfl) (fun _ _ d _ _ h => by cases d <;> exact h) (by first | exact hbx | exact ext_refl _) (Or.inl ⟨rfl, fun wq hq => by
          have hcq := (cls_cell hq).1
          go_simp
          try rfl⟩) ?_
        try simp only [Act.put, List.setIfInBounds_toArray, List.set_cons_zero, List.set_cons_succ]
        have kl := HP.lt
        have kf := HP.fz
        have k0 := HP.cell (i := 0) (u := .slice none 0 0) rfl
        have k1 := HP.cell (i := 1) (u := .slice none 0 0) rfl
        have k2 := HP.cell (i := 2) (u := .int .i64 0) rfl
        have k3 := HP.cell (i := 3) (u := .int .i64 0) rfl
        have k4 := HP.cell (i := 4) (u := .int .i64 0) rfl
        have k5 := HP.cell (i := 5) (u := .int .i64 0) rfl
        have hpG : ∀ y ∈ GR, y ≠ wb.heap.size := hGp
        refine anyH_one 8 (by rfl) (by kernel_rfl) (by rfl) (fun K hK => ?_)
        go_simp
        refine hK _ _ (by unfold Cls; with_reducible exact (ext_setCell (p := ⟨wb.heap.size, 5, none⟩) (ext_setCell (p := ⟨wb.heap.size, 4, none⟩) (ext_setCell (p := ⟨wb.heap.size, 3, none⟩) (ext_setCell (p := ⟨wb.heap.size, 2, none⟩) (ext_setCell (p := ⟨wb.heap.size, 1, none⟩) (ext_setCell (p := ⟨wb.heap.size, 0, none⟩) hbx hpb (.slice Ahostsr r.hosts.length chostsr)) hpb (.slice Apodsr r.pods.length cpodsr)) hpb (.int .i64 r.next)) hpb (.int .i64 r.weights.pack)) hpb (.int .i64 r.weights.spread)) hpb (.int .i64 r.weights.soft))) ?_
        try simp only [Act.put, List.setIfInBounds_toArray, List.set_cons_zero, List.set_cons_succ]
        clear hK K
        refine anyH_one 9 (by rfl) (by kernel_rfl) (by rfl) (fun K hK => ?_)
        go_simp
        refine hK _ _ (by unfold Cls; with_reducible exact (ext_setCell (p := ⟨wb.heap.size, 5, none⟩) (ext_setCell (p := ⟨wb.heap.size, 4, none⟩) (ext_setCell (p := ⟨wb.heap.size, 3, none⟩) (ext_setCell (p := ⟨wb.heap.size, 2, none⟩) (ext_setCell (p := ⟨wb.heap.size, 1, none⟩) (ext_setCell (p := ⟨wb.heap.size, 0, none⟩) hbx hpb (.slice Ahostsr r.hosts.length chostsr)) hpb (.slice Apodsr r.pods.length cpodsr)) hpb (.int .i64 r.next)) hpb (.int .i64 r.weights.pack)) hpb (.int .i64 r.weights.spread)) hpb (.int .i64 r.weights.soft))) ?_
        try simp only [Act.put, List.setIfInBounds_toArray, List.set_cons_zero, List.set_cons_succ]
        clear hK K
        refine anyH_done (by kernel_rfl) ?_
        exact HK _ _ ⟨wb.heap.size, _, _, _, _, GR, _, _, _, _, _, _, _, (by simp only [Act.put, List.setIfInBounds_toArray, List.set_cons_zero, List.set_cons_succ]; rfl), (ext_setCell (p := ⟨wb.heap.size, 5, none⟩) (ext_setCell (p := ⟨wb.heap.size, 4, none⟩) (ext_setCell (p := ⟨wb.heap.size, 3, none⟩) (ext_setCell (p := ⟨wb.heap.size, 2, none⟩) (ext_setCell (p := ⟨wb.heap.size, 1, none⟩) (ext_setCell (p := ⟨wb.heap.size, 0, none⟩) hbx hpb (.slice Ahostsr r.hosts.length chostsr)) hpb (.slice Apodsr r.pods.length cpodsr)) hpb (.int .i64 r.next)) hpb (.int .i64 r.weights.pack)) hpb (.int .i64 r.weights.spread)) hpb (.int .i64 r.weights.soft)), hpb, ((((((HP.put 0 (.slice Ahostsr r.hosts.length chostsr)).put 1 (.slice Apodsr r.pods.length cpodsr)).put 2 (.int .i64 r.next)).put 3 (.int .i64 r.weights.pack)).put 4 (.int .i64 r.weights.spread)).put 5 (.int .i64 r.weights.soft)), (fun y hy => ⟨hpG y hy, hOr.base y hy⟩), (ownNe (c := wb.heap.size) (i := 5) (u := .int .i64 r.weights.soft) (ownNe (c := wb.heap.size) (i := 4) (u := .int .i64 r.weights.spread) (ownNe (c := wb.heap.size) (i := 3) (u := .int .i64 r.weights.pack) (ownNe (c := wb.heap.size) (i := 2) (u := .int .i64 r.next) (ownNe (c := wb.heap.size) (i := 1) (u := .slice Apodsr r.pods.length cpodsr) (ownNe (c := wb.heap.size) (i := 0) (u := .slice Ahostsr r.hosts.length chostsr) hOr hpG) hpG) hpG) hpG) hpG) hpG)⟩
    rintro a' w7 ⟨p7, Ahosts7, Apods7, chosts7, cpods7, G7, v7_0, v7_1, v7_2, v7_3, v7_4, v7_5, v7_6, ha, hb7, hpb7, HBX7, hGp7, hO7⟩
    subst ha
    try simp only [Act.put, List.setIfInBounds_toArray, List.set_cons_zero, List.set_cons_succ]
    obtain ⟨hc7, hf7⟩ := bcell hb7
    have hB7 : Below w.heap.size w w7 := ext_trans hBb hb7
    have hz0_7 : w.heap.size < w7.heap.size := by have := hb7.size; (try simp at this); omega
    have hz1_7 : w.heap.size + 1 < w7.heap.size := by have := hb7.size; (try simp at this); omega
    have hz2_7 : p4 < w7.heap.size := by have := hb7.size; (try simp at this); omega
    have hz3_7 : w5.heap.size < w7.heap.size := by have := hb7.size; (try simp at this); omega
    first | replace hO4 := Own.ext hO4 hb7 | replace hO4 := Own.ext (hO4.alloc _) hb7 | replace hO4 := Own.ext ((hO4.alloc _).alloc _) hb7
    first | replace hO5 := Own.ext hO5 hb7 | replace hO5 := Own.ext (hO5.alloc _) hb7 | replace hO5 := Own.ext ((hO5.alloc _).alloc _) hb7
    have hlp7 : p7 < w7.heap.size := HBX7.lt
    have bx7_0 := HBX7.cell (i := 0) (u := .slice Ahosts7 r.hosts.length chosts7) rfl
    have bx7_1 := HBX7.cell (i := 1) (u := .slice Apods7 r.pods.length cpods7) rfl
    have bx7_2 := HBX7.cell (i := 2) (u := .int .i64 r.next) rfl
    have bx7_3 := HBX7.cell (i := 3) (u := .int .i64 r.weights.pack) rfl
    have bx7_4 := HBX7.cell (i := 4) (u := .int .i64 r.weights.spread) rfl
    have bx7_5 := HBX7.cell (i := 5) (u := .int .i64 r.weights.soft) rfl
    have HG7 := Lib.hid (show ∀ y ∈ G7, w5.heap.size < y ∧ y ≠ p7 from fun y hy => ⟨by have := (hGp7 y hy).2; omega, (hGp7 y hy).1⟩)
    have hP7 : w5.heap.size < p7 := by omega
    clear HBX7 hGp7
    go_wp2_with fail
    refine (eqCluster_any r r _ _ _ _ _ hO7.rd hO4.rd).mono ?_
    rw [HSL.out]
    rintro e w8 ⟨rfl, hb8⟩
    obtain ⟨hc8, hf8⟩ := bcell hb8
    have hB8 : Below w.heap.size w w8 := ext_trans (by repeat (first | with_reducible exact ext_refl _ | with_reducible assumption | with_reducible refine ext_alloc ?_ _ | with_reducible refine ext_drew ?_ | with_reducible refine ext_trans ?_ (by assumption))) hb8
    have hz0_8 : w.heap.size < w8.heap.size := by have := hb8.size; (try simp at this); omega
    have hz1_8 : w.heap.size + 1 < w8.heap.size := by have := hb8.size; (try simp at this); omega
    have hz2_8 : p4 < w8.heap.size := by have := hb8.size; (try simp at this); omega
    have hz3_8 : w5.heap.size < w8.heap.size := by have := hb8.size; (try simp at this); omega
    have hz4_8 : p7 < w8.heap.size := by have := hb8.size; (try simp at this); omega
    first | replace hO4 := Own.ext hO4 hb8 | replace hO4 := Own.ext (hO4.alloc _) hb8 | replace hO4 := Own.ext ((hO4.alloc _).alloc _) hb8
    first | replace hO5 := Own.ext hO5 hb8 | replace hO5 := Own.ext (hO5.alloc _) hb8 | replace hO5 := Own.ext ((hO5.alloc _).alloc _) hb8
    first | replace hO7 := Own.ext hO7 hb8 | replace hO7 := Own.ext (hO7.alloc _) hb8 | replace hO7 := Own.ext ((hO7.alloc _).alloc _) hb8
    go_wp2_with fail
    refine wp_region_head w8 2 (by kernel_rfl) (by kernel_rfl) (fun _ _ d _ _ h => by cases d <;> exact h) (ext_refl _) ?_
    simp only [List.take_succ_cons, List.take_zero, List.drop_succ_cons, List.drop_zero]
    iterate 2
      (apply headC_step
       case hy =>
         refine Or.inl ⟨rfl, fun wq hq => ?_⟩
         have hcq := (cls_cell hq).1
         go_simp
         try rfl
       simp only [Act.put, List.setIfInBounds_toArray, List.set_cons_zero, List.set_cons_succ])
    refine headC_nil ?_
    refine wpListC_step rfl (fun K hK => ?_)
    go_simp
    refine (toCluster_any x _ _ _ (rd_ext h (by repeat (first | with_reducible exact ext_refl _ | with_reducible assumption | with_reducible refine ext_alloc ?_ _ | with_reducible refine ext_drew ?_ | with_reducible refine ext_trans ?_ (by assumption)))) HWT.out).mono ?_
    rintro e w9 ⟨cs9, G9, rfl, hO9, hb9⟩
    have hR9 := hO9.rd
    obtain ⟨Ahosts9, chosts9, Fhosts9, Apods9, cpods9, Fpods9, hck, hG9, hhosts9, hpods9, hnext9, hweightspack9, hweightsspread9, hweightssoft9⟩ := rd_Cluster hR9
    subst hck
    clear hG9 hR9
    have hbx : Below w8.heap.size w8 w9 := ext_trans (ext_drew (ext_refl _)) hb9
    refine hK _ _ hbx (fun _ => ?_)
    try simp only [Act.put, List.setIfInBounds_toArray, List.set_cons_zero, List.set_cons_succ]
    clear hK K
    refine wpListC_step rfl (fun K hK => ?_)
    go_simp
    refine (eqCluster_any x x _ _ _ _ _ (hO5.ext hbx).rd hO9.rd).mono ?_
    rw [HSAMEx.out]
    rintro e w10 ⟨rfl, hb10⟩
    replace hbx := ext_trans hbx hb10
    refine hK _ _ hbx (fun _ => ?_)
    try simp only [Act.put, List.setIfInBounds_toArray, List.set_cons_zero, List.set_cons_succ]
    clear hK K
    refine wpListC_step rfl (fun K hK => ?_)
    go_simp
    refine hK _ _ hbx (fun _ => ?_)
    try simp only [Act.put, List.setIfInBounds_toArray, List.set_cons_zero, List.set_cons_succ]
    clear hK K
    refine wpListC_nil ?_
    replace hb10 := hbx
    clear hbx hb9 hO9
    obtain ⟨hc10, hf10⟩ := bcell hb10
    have hB10 : Below w.heap.size w w10 := ext_trans hB8 hb10
    have hz0_10 : w.heap.size < w10.heap.size := by have := hb10.size; (try simp at this); omega
    have hz1_10 : w.heap.size + 1 < w10.heap.size := by have := hb10.size; (try simp at this); omega
    have hz2_10 : p4 < w10.heap.size := by have := hb10.size; (try simp at this); omega
    have hz3_10 : w5.heap.size < w10.heap.size := by have := hb10.size; (try simp at this); omega
    have hz4_10 : p7 < w10.heap.size := by have := hb10.size; (try simp at this); omega
    first | replace hO4 := Own.ext hO4 hb10 | replace hO4 := Own.ext (hO4.alloc _) hb10 | replace hO4 := Own.ext ((hO4.alloc _).alloc _) hb10
    first | replace hO5 := Own.ext hO5 hb10 | replace hO5 := Own.ext (hO5.alloc _) hb10 | replace hO5 := Own.ext ((hO5.alloc _).alloc _) hb10
    first | replace hO7 := Own.ext hO7 hb10 | replace hO7 := Own.ext (hO7.alloc _) hb10 | replace hO7 := Own.ext ((hO7.alloc _).alloc _) hb10
    go_wp2_with fail
    refine (markCluster_any x _ _ _ 1 _ hO5 (by omega) (by omega)).mono ?_
    rintro e w11 ⟨rfl, hO11, hU11⟩
    have hx0_11 : ∀ o, w11.cell? ⟨w.heap.size, o, none⟩ = w10.cell? ⟨w.heap.size, o, none⟩ := fun o => World.cell?_of_block (hU11.block _ (by omega) (fun hg => by have := HG5.out (w.heap.size) hg; omega))
    have hz0_11 : w.heap.size < w11.heap.size := by have := hU11.size; omega
    have hx1_11 : ∀ o, w11.cell? ⟨w.heap.size + 1, o, none⟩ = w10.cell? ⟨w.heap.size + 1, o, none⟩ := fun o => World.cell?_of_block (hU11.block _ (by omega) (fun hg => by have := HG5.out (w.heap.size + 1) hg; omega))
    have hz1_11 : w.heap.size + 1 < w11.heap.size := by have := hU11.size; omega
    have hx2_11 : ∀ o, w11.cell? ⟨p4, o, none⟩ = w10.cell? ⟨p4, o, none⟩ := fun o => World.cell?_of_block (hU11.block _ (by omega) (fun hg => by have := HG5.out (p4) hg; omega))
    have hz2_11 : p4 < w11.heap.size := by have := hU11.size; omega
    have hx3_11 : ∀ o, w11.cell? ⟨p7, o, none⟩ = w10.cell? ⟨p7, o, none⟩ := fun o => World.cell?_of_block (hU11.block _ (by omega) (fun hg => by have := HG5.out (p7) hg; omega))
    have hz3_11 : p7 < w11.heap.size := by have := hU11.size; omega
    have hB11 : Below w.heap.size w w11 := hB10.trans (hU11.below (fun y hy => by have := HG5.out y hy; omega) (by omega))
    replace hO4 := hU11.own hO4 (fun y hy hg => by have := HG4.out y hy; have := HG5.out y hg; omega)
    replace hO7 := hU11.own hO7 (fun y hy hg => by have := HG7.out y hy; have := HG5.out y hg; omega)
    clear hO11
    go_wp2_with fail
    refine (eqCluster_any r r _ _ _ _ _ hO7.rd hO4.rd).mono ?_
    rw [HSL.out]
    rintro e w12 ⟨rfl, hb12⟩
    obtain ⟨hc12, hf12⟩ := bcell hb12
    have hB12 : Below w.heap.size w w12 := ext_trans (by repeat (first | with_reducible exact ext_refl _ | with_reducible assumption | with_reducible refine ext_alloc ?_ _ | with_reducible refine ext_drew ?_ | with_reducible refine ext_trans ?_ (by assumption))) hb12
    have hz0_12 : w.heap.size < w12.heap.size := by have := hb12.size; (try simp at this); omega
    have hz1_12 : w.heap.size + 1 < w12.heap.size := by have := hb12.size; (try simp at this); omega
    have hz2_12 : p4 < w12.heap.size := by have := hb12.size; (try simp at this); omega
    have hz3_12 : p7 < w12.heap.size := by have := hb12.size; (try simp at this); omega
    first | replace hO4 := Own.ext hO4 hb12 | replace hO4 := Own.ext (hO4.alloc _) hb12 | replace hO4 := Own.ext ((hO4.alloc _).alloc _) hb12
    first | replace hO7 := Own.ext hO7 hb12 | replace hO7 := Own.ext (hO7.alloc _) hb12 | replace hO7 := Own.ext ((hO7.alloc _).alloc _) hb12
    go_wp2_with fail
    refine (markCluster_any r _ _ _ 1 _ hO7 (by omega) (by omega)).mono ?_
    rintro e w13 ⟨rfl, hO13, hU13⟩
    have hx0_13 : ∀ o, w13.cell? ⟨w.heap.size, o, none⟩ = w12.cell? ⟨w.heap.size, o, none⟩ := fun o => World.cell?_of_block (hU13.block _ (by omega) (fun hg => by have := HG7.out (w.heap.size) hg; omega))
    have hz0_13 : w.heap.size < w13.heap.size := by have := hU13.size; omega
    have hx1_13 : ∀ o, w13.cell? ⟨w.heap.size + 1, o, none⟩ = w12.cell? ⟨w.heap.size + 1, o, none⟩ := fun o => World.cell?_of_block (hU13.block _ (by omega) (fun hg => by have := HG7.out (w.heap.size + 1) hg; omega))
    have hz1_13 : w.heap.size + 1 < w13.heap.size := by have := hU13.size; omega
    have hx2_13 : ∀ o, w13.cell? ⟨p4, o, none⟩ = w12.cell? ⟨p4, o, none⟩ := fun o => World.cell?_of_block (hU13.block _ (by omega) (fun hg => by have := HG7.out (p4) hg; omega))
    have hz2_13 : p4 < w13.heap.size := by have := hU13.size; omega
    have hx3_13 : ∀ o, w13.cell? ⟨p7, o, none⟩ = w12.cell? ⟨p7, o, none⟩ := fun o => World.cell?_of_block (hU13.block _ (by omega) (fun hg => by have := HG7.out (p7) hg; omega))
    have hz3_13 : p7 < w13.heap.size := by have := hU13.size; omega
    have hB13 : Below w.heap.size w w13 := hB12.trans (hU13.below (fun y hy => by have := HG7.out y hy; omega) (by omega))
    replace hO4 := hU13.own hO4 (fun y hy hg => by have := HG4.out y hy; have := HG7.out y hg; omega)
    go_wp2_with fail
    refine (heldCluster_any (mkTopCluster r 1) _ G7 1 _ hO13.rd (mkTopCluster_idem _ _) (by omega) (by rw [cntTopCluster_mk]; omega)).mono ?_
    rw [cntTopCluster_mk]
    rintro e w14 ⟨rfl, hb14⟩
    obtain ⟨hc14, hf14⟩ := bcell hb14
    have hB14 : Below w.heap.size w w14 := ext_trans (by repeat (first | with_reducible exact ext_refl _ | with_reducible assumption | with_reducible refine ext_alloc ?_ _ | with_reducible refine ext_drew ?_ | with_reducible refine ext_trans ?_ (by assumption))) hb14
    have hz0_14 : w.heap.size < w14.heap.size := by have := hb14.size; (try simp at this); omega
    have hz1_14 : w.heap.size + 1 < w14.heap.size := by have := hb14.size; (try simp at this); omega
    have hz2_14 : p4 < w14.heap.size := by have := hb14.size; (try simp at this); omega
    have hz3_14 : p7 < w14.heap.size := by have := hb14.size; (try simp at this); omega
    first | replace hO4 := Own.ext hO4 hb14 | replace hO4 := Own.ext (hO4.alloc _) hb14 | replace hO4 := Own.ext ((hO4.alloc _).alloc _) hb14
    first | replace hO13 := Own.ext hO13 hb14 | replace hO13 := Own.ext (hO13.alloc _) hb14 | replace hO13 := Own.ext ((hO13.alloc _).alloc _) hb14
    go_wp2_with fail
    refine wp_region_anyH w14 11 (by kernel_rfl) (by kernel_rfl) (ext_refl _) ?_
    refine anyH_to (fun a0 a' w' => ∃ (p17 : Nat) (Ahosts17 Apods17 : Option Addr) (chosts17 cpods17 : Nat) (G17 : List Nat) (v17_0 v17_1 v17_2 v17_3 v17_4 v17_5 v17_6 v17_7 : Value), a' = (Act.put (Act.put (Act.put (Act.put (Act.put (Act.put (Act.put (Act.put (Act.put (Act.put a0 (some 80) (v17_0)) (some 81) (v17_1)) (some 82) (v17_2)) (some 83) (v17_3)) (some 84) (v17_4)) (some 79) (v17_5)) (some 85) (v17_6)) (some 86) (v17_7)) (some 14) (.pointer (some ⟨p17, 0, none⟩))) (some 15) (.int .i64 cd)) ∧ Below w14.heap.size w14 w' ∧ w14.heap.size ≤ p17 ∧ Blk w' p17 [.slice Ahosts17 r.hosts.length chosts17, .slice Apods17 r.pods.length cpods17, .int .i64 r.next, .int .i64 r.weights.pack, .int .i64 r.weights.spread, .int .i64 r.weights.soft] ∧ (∀ y ∈ G17, y ≠ p17 ∧ w14.heap.size ≤ y) ∧ Own w' w14.heap.size r [.slice Ahosts17 r.hosts.length chosts17, .slice Apods17 r.pods.length cpods17, .int .i64 r.next, .int .i64 r.weights.pack, .int .i64 r.weights.spread, .int .i64 r.weights.soft] G17) ?_ ?_
    rotate_left
    · intro HK
      have hbx : Below w14.heap.size w14 w14.drew := ext_drew (ext_refl _)
      refine anyH_take 0 _ (by rfl) (by kernel_rfl) (fun _ _ d _ _ h => by cases d <;> exact h) (by first | exact hbx | exact ext_refl _) (Or.inl ⟨rfl, fun wq hq => by
        have hcq := (cls_cell hq).1
        go_simp
        try rfl⟩) ?_
      try simp only [Act.put, List.setIfInBounds_toArray, List.set_cons_zero, List.set_cons_succ]
      refine anyH_take 2 _ (by rfl) (by kernel_rfl) (fun _ _ d _ _ h => by cases d <;> exact h) (by first | exact hbx | exact ext_refl _) (Or.inl ⟨rfl, fun wq hq => by
        have hcq := (cls_cell hq).1
        go_simp
        try rfl⟩) ?_
      try simp only [Act.put, List.setIfInBounds_toArray, List.set_cons_zero, List.set_cons_succ]
      refine anyH_two 1 8 (by rfl) (by rfl) (by kernel_rfl) (by rfl) (by rfl) (fun K hK => ?_) (fun K hK => ?_)
      · go_simp
        refine (toCluster_any x _ _ _ (rd_ext h (ext_trans hB14 hbx)) HWT.out).mono ?_
        rintro e w170 ⟨csa, Ga, rfl, hOa, hb170⟩
        have hRa := hOa.rd
        obtain ⟨Ahostsa, chostsa, Fhostsa, Apodsa, cpodsa, Fpodsa, hck, hGa, hhostsa, hpodsa, hnexta, hweightspacka, hweightsspreada, hweightssofta⟩ := rd_Cluster hRa
        subst hck
        clear hGa hRa
        replace hbx := ext_trans hbx hb170
        refine hK _ _ hbx ?_
        try simp only [Act.put, List.setIfInBounds_toArray, List.set_cons_zero, List.set_cons_succ]
        clear hK K
        refine anyH_two 3 8 (by rfl) (by rfl) (by kernel_rfl) (by rfl) (by rfl) (fun K hK => ?_) (fun K hK => ?_)
        · go_simp
          refine (toWeights_any u _ _ _ (rd_ext h' (ext_trans hB14 hbx))).mono ?_
          rintro e w171 ⟨csb, Gb, rfl, hOb, hb171⟩
          replace hOa := hOa.ext hb171
          have hRb := hOb.rd
          obtain ⟨hck, hGb, hpackb, hspreadb, hsoftb⟩ := rd_Weights hRb
          subst hck
          clear hGb hRb
          replace hbx := ext_trans hbx hb171
          refine hK _ _ hbx ?_
          try simp only [Act.put, List.setIfInBounds_toArray, List.set_cons_zero, List.set_cons_succ]
          clear hK K
          refine anyH_two 4 8 (by rfl) (by rfl) (by kernel_rfl) (by rfl) (by rfl) (fun K hK => ?_) (fun K hK => ?_)
          · go_simp
            refine (HIM.out _ _ _ _ _ hOa.rd hOb.rd).mono ?_
            rintro e w172 ⟨_, GR, rfl, hOr, hb172⟩
            replace hOa := hOa.ext hb172
            replace hOb := hOb.ext hb172
            have hRr := hOr.rd
            obtain ⟨Ahostsr, chostsr, Fhostsr, Apodsr, cpodsr, Fpodsr, hck, hGr, hhostsr, hpodsr, hnextr, hweightspackr, hweightsspreadr, hweightssoftr⟩ := rd_Cluster hRr
            subst hck
            clear hGr hRr
            have hwB : w14.heap.size ≤ _ := hbx.size
            replace hbx := ext_trans hbx hb172
            refine hK _ _ hbx ?_
            try simp only [Act.put, List.setIfInBounds_toArray, List.set_cons_zero, List.set_cons_succ]
            clear hK K
            replace hOr := hOr.mono (B' := w14.heap.size) hwB
            refine anyH_take 5 _ (by rfl) (by kernel_rfl) (fun _ _ d _ _ h => by cases d <;> exact h) (by first | exact hbx | exact ext_refl _) (Or.inl ⟨rfl, fun wq hq => by
              have hcq := (cls_cell hq).1
              go_simp
              try rfl⟩) ?_
            try simp only [Act.put, List.setIfInBounds_toArray, List.set_cons_zero, List.set_cons_succ]
            refine anyH_take 6 _ (by rfl) (by kernel_rfl) (fun _ _ d _ _ h => by cases d <;> exact h) (by first | exact hbx | exact ext_refl _) (Or.inl ⟨rfl, fun wq hq => by
              have hcq := (cls_cell hq).1
              go_simp
              try rfl⟩) ?_
            try simp only [Act.put, List.setIfInBounds_toArray, List.set_cons_zero, List.set_cons_succ]
            refine anyH_take 7 _ (by rfl) (by kernel_rfl) (fun _ _ d _ _ h => by cases d <;> exact h) (by first | exact hbx | exact ext_refl _) (Or.inl ⟨rfl, fun wq hq => by
              have hcq := (cls_cell hq).1
              go_simp
              try rfl⟩) ?_
            try simp only [Act.put, List.setIfInBounds_toArray, List.set_cons_zero, List.set_cons_succ]
            refine anyH_one 8 (by rfl) (by kernel_rfl) (by rfl) (fun K hK => ?_)
            go_simp
            refine hK _ _ (ext_alloc hbx _) ?_
            try simp only [Act.put, List.setIfInBounds_toArray, List.set_cons_zero, List.set_cons_succ]
            clear hK K
            have hpb : w14.heap.size ≤ w172.heap.size := hbx.size
            have HP : Blk (w172.alloc (.cells ([.slice none 0 0, .slice none 0 0, .int .i64 0, .int .i64 0, .int .i64 0, .int .i64 0] : List Value).toArray 33)) w172.heap.size [.slice none 0 0, .slice none 0 0, .int .i64 0, .int .i64 0, .int .i64 0, .int .i64 0] := Blk.new w172 [.slice none 0 0, .slice none 0 0, .int .i64 0, .int .i64 0, .int .i64 0, .int .i64 0] 33
            have hbx0 := hbx
            have hOr0 := hOr
            replace hbx := ext_alloc hbx (.cells ([.slice none 0 0, .slice none 0 0, .int .i64 0, .int .i64 0, .int .i64 0, .int .i64 0] : List Value).toArray 33)
            replace hOa := hOa.alloc (.cells ([.slice none 0 0, .slice none 0 0, .int .i64 0, .int .i64 0, .int .i64 0, .int .i64 0] : List Value).toArray 33)
            replace hOb := hOb.alloc (.cells ([.slice none 0 0, .slice none 0 0, .int .i64 0, .int .i64 0, .int .i64 0, .int .i64 0] : List Value).toArray 33)
            have hGp : ∀ y ∈ GR, y ≠ w172.heap.size := fun y hy => by have := hOr.lt y hy; omega
            replace hOr := hOr.alloc (.cells ([.slice none 0 0, .slice none 0 0, .int .i64 0, .int .i64 0, .int .i64 0, .int .i64 0] : List Value).toArray 33)
            have kl := HP.lt
            have kf := HP.fz
            have k0 := HP.cell (i := 0) (u := .slice none 0 0) rfl
            have k1 := HP.cell (i := 1) (u := .slice none 0 0) rfl
            have k2 := HP.cell (i := 2) (u := .int .i64 0) rfl
            have k3 := HP.cell (i := 3) (u := .int .i64 0) rfl
            have k4 := HP.cell (i := 4) (u := .int .i64 0) rfl
            have k5 := HP.cell (i := 5) (u := .int .i64 0) rfl
            have hpG : ∀ y ∈ GR, y ≠ w172.heap.size := hGp
            refine anyH_one 9 (by rfl) (by kernel_rfl) (by rfl) (fun K hK => ?_)
            go_simp
            refine hK _ _ (by unfold Cls; with_reducible exact (ext_alloc hbx0 _)) ?_
            try simp only [Act.put, List.setIfInBounds_toArray, List.set_cons_zero, List.set_cons_succ]
            clear hK K
            refine anyH_one 10 (by rfl) (by kernel_rfl) (by rfl) (fun K hK => ?_)
            go_simp
            refine hK _ _ (by unfold Cls; with_reducible exact (ext_alloc hbx0 _)) ?_
            try simp only [Act.put, List.setIfInBounds_toArray, List.set_cons_zero, List.set_cons_succ]
            clear hK K
            refine anyH_done (by kernel_rfl) ?_
            exact HK _ _ ⟨w172.heap.size, _, _, _, _, GR, _, _, _, _, _, _, _, _, (by simp only [Act.put, List.setIfInBounds_toArray, List.set_cons_zero, List.set_cons_succ]; rfl), (ext_alloc hbx0 _), hpb, (Blk.new w172 [.slice Ahostsr r.hosts.length chostsr, .slice Apodsr r.pods.length cpodsr, .int .i64 r.next, .int .i64 r.weights.pack, .int .i64 r.weights.spread, .int .i64 r.weights.soft] 33), (fun y hy => ⟨hpG y hy, hOr.base y hy⟩), (hOr0.alloc _)⟩
          · go_simp
            refine hK _ _ (ext_alloc hbx _) ?_
            try simp only [Act.put, List.setIfInBounds_toArray, List.set_cons_zero, List.set_cons_succ]
            clear hK K
            have hpb : w14.heap.size ≤ w171.heap.size := hbx.size
            have HP : Blk (w171.alloc (.cells ([.slice none 0 0, .slice none 0 0, .int .i64 0, .int .i64 0, .int .i64 0, .int .i64 0] : List Value).toArray 33)) w171.heap.size [.slice none 0 0, .slice none 0 0, .int .i64 0, .int .i64 0, .int .i64 0, .int .i64 0] := Blk.new w171 [.slice none 0 0, .slice none 0 0, .int .i64 0, .int .i64 0, .int .i64 0, .int .i64 0] 33
            replace hbx := ext_alloc hbx (.cells ([.slice none 0 0, .slice none 0 0, .int .i64 0, .int .i64 0, .int .i64 0, .int .i64 0] : List Value).toArray 33)
            replace hOa := hOa.alloc (.cells ([.slice none 0 0, .slice none 0 0, .int .i64 0, .int .i64 0, .int .i64 0, .int .i64 0] : List Value).toArray 33)
            replace hOb := hOb.alloc (.cells ([.slice none 0 0, .slice none 0 0, .int .i64 0, .int .i64 0, .int .i64 0, .int .i64 0] : List Value).toArray 33)
            refine anyH_one 4 (by rfl) (by kernel_rfl) (by rfl) (fun K hK => ?_)
            go_simp
            have hpl172 := HP.lt
            refine (HIM.out _ _ _ _ _ hOa.rd hOb.rd).mono ?_
            rintro e w172 ⟨_, GR, rfl, hOr, hb172⟩
            replace HP := HP.ext hb172
            replace hOa := hOa.ext hb172
            replace hOb := hOb.ext hb172
            have hRr := hOr.rd
            obtain ⟨Ahostsr, chostsr, Fhostsr, Apodsr, cpodsr, Fpodsr, hck, hGr, hhostsr, hpodsr, hnextr, hweightspackr, hweightsspreadr, hweightssoftr⟩ := rd_Cluster hRr
            subst hck
            clear hGr hRr
            have hwB : w14.heap.size ≤ _ := hbx.size
            replace hbx := ext_trans hbx hb172
            refine hK _ _ hbx ?_
            try simp only [Act.put, List.setIfInBounds_toArray, List.set_cons_zero, List.set_cons_succ]
            clear hK K
            have hGp : ∀ y ∈ GR, y ≠ w171.heap.size := fun y hy => by have := hOr.base y hy; omega
            replace hOr := hOr.mono (B' := w14.heap.size) hwB
            refine anyH_take 5 _ (by rfl) (by kernel_rfl) (fun _ _ d _ _ h => by cases d <;> exact h) (by first | exact hbx | exact ext_refl _) (Or.inl ⟨rfl, fun wq hq => by
              have hcq := (cls_cell hq).1
              go_simp
              try rfl⟩) ?_
            try simp only [Act.put, List.setIfInBounds_toArray, List.set_cons_zero, List.set_cons_succ]
            refine anyH_take 6 _ (by rfl) (by kernel_rfl) (fun _ _ d _ _ h => by cases d <;> exact h) (by first | exact hbx | exact ext_refl _) (Or.inl ⟨rfl, fun wq hq => by
              have hcq := (cls_cell hq).1
              go_simp
              try rfl⟩) ?_
            try simp only [Act.put, List.setIfInBounds_toArray, List.set_cons_zero, List.set_cons_succ]
            refine anyH_take 7 _ (by rfl) (by kernel_rfl) (fun _ _ d _ _ h => by cases d <;> exact h) (by first | exact hbx | exact ext_refl _) (Or.inl ⟨rfl, fun wq hq => by
              have hcq := (cls_cell hq).1
              go_simp
              try rfl⟩) ?_
            try simp only [Act.put, List.setIfInBounds_toArray, List.set_cons_zero, List.set_cons_succ]
            have kl := HP.lt
            have kf := HP.fz
            have k0 := HP.cell (i := 0) (u := .slice none 0 0) rfl
            have k1 := HP.cell (i := 1) (u := .slice none 0 0) rfl
            have k2 := HP.cell (i := 2) (u := .int .i64 0) rfl
            have k3 := HP.cell (i := 3) (u := .int .i64 0) rfl
            have k4 := HP.cell (i := 4) (u := .int .i64 0) rfl
            have k5 := HP.cell (i := 5) (u := .int .i64 0) rfl
            have hpG : ∀ y ∈ GR, y ≠ w171.heap.size := hGp
            refine anyH_one 9 (by rfl) (by kernel_rfl) (by rfl) (fun K hK => ?_)
            go_simp
            refine hK _ _ (by unfold Cls; with_reducible exact (ext_setCell (p := ⟨w171.heap.size, 5, none⟩) (ext_setCell (p := ⟨w171.heap.size, 4, none⟩) (ext_setCell (p := ⟨w171.heap.size, 3, none⟩) (ext_setCell (p := ⟨w171.heap.size, 2, none⟩) (ext_setCell (p := ⟨w171.heap.size, 1, none⟩) (ext_setCell (p := ⟨w171.heap.size, 0, none⟩) hbx hpb (.slice Ahostsr r.hosts.length chostsr)) hpb (.slice Apodsr r.pods.length cpodsr)) hpb (.int .i64 r.next)) hpb (.int .i64 r.weights.pack)) hpb (.int .i64 r.weights.spread)) hpb (.int .i64 r.weights.soft))) ?_
            try simp only [Act.put, List.setIfInBounds_toArray, List.set_cons_zero, List.set_cons_succ]
            clear hK K
            refine anyH_one 10 (by rfl) (by kernel_rfl) (by rfl) (fun K hK => ?_)
            go_simp
            refine hK _ _ (by unfold Cls; with_reducible exact (ext_setCell (p := ⟨w171.heap.size, 5, none⟩) (ext_setCell (p := ⟨w171.heap.size, 4, none⟩) (ext_setCell (p := ⟨w171.heap.size, 3, none⟩) (ext_setCell (p := ⟨w171.heap.size, 2, none⟩) (ext_setCell (p := ⟨w171.heap.size, 1, none⟩) (ext_setCell (p := ⟨w171.heap.size, 0, none⟩) hbx hpb (.slice Ahostsr r.hosts.length chostsr)) hpb (.slice Apodsr r.pods.length cpodsr)) hpb (.int .i64 r.next)) hpb (.int .i64 r.weights.pack)) hpb (.int .i64 r.weights.spread)) hpb (.int .i64 r.weights.soft))) ?_
            try simp only [Act.put, List.setIfInBounds_toArray, List.set_cons_zero, List.set_cons_succ]
            clear hK K
            refine anyH_done (by kernel_rfl) ?_
            exact HK _ _ ⟨w171.heap.size, _, _, _, _, GR, _, _, _, _, _, _, _, _, (by simp only [Act.put, List.setIfInBounds_toArray, List.set_cons_zero, List.set_cons_succ]; rfl), (ext_setCell (p := ⟨w171.heap.size, 5, none⟩) (ext_setCell (p := ⟨w171.heap.size, 4, none⟩) (ext_setCell (p := ⟨w171.heap.size, 3, none⟩) (ext_setCell (p := ⟨w171.heap.size, 2, none⟩) (ext_setCell (p := ⟨w171.heap.size, 1, none⟩) (ext_setCell (p := ⟨w171.heap.size, 0, none⟩) hbx hpb (.slice Ahostsr r.hosts.length chostsr)) hpb (.slice Apodsr r.pods.length cpodsr)) hpb (.int .i64 r.next)) hpb (.int .i64 r.weights.pack)) hpb (.int .i64 r.weights.spread)) hpb (.int .i64 r.weights.soft)), hpb, ((((((HP.put 0 (.slice Ahostsr r.hosts.length chostsr)).put 1 (.slice Apodsr r.pods.length cpodsr)).put 2 (.int .i64 r.next)).put 3 (.int .i64 r.weights.pack)).put 4 (.int .i64 r.weights.spread)).put 5 (.int .i64 r.weights.soft)), (fun y hy => ⟨hpG y hy, hOr.base y hy⟩), (ownNe (c := w171.heap.size) (i := 5) (u := .int .i64 r.weights.soft) (ownNe (c := w171.heap.size) (i := 4) (u := .int .i64 r.weights.spread) (ownNe (c := w171.heap.size) (i := 3) (u := .int .i64 r.weights.pack) (ownNe (c := w171.heap.size) (i := 2) (u := .int .i64 r.next) (ownNe (c := w171.heap.size) (i := 1) (u := .slice Apodsr r.pods.length cpodsr) (ownNe (c := w171.heap.size) (i := 0) (u := .slice Ahostsr r.hosts.length chostsr) hOr hpG) hpG) hpG) hpG) hpG) hpG)⟩
        · go_simp
          refine hK _ _ (ext_alloc hbx _) ?_
          try simp only [Act.put, List.setIfInBounds_toArray, List.set_cons_zero, List.set_cons_succ]
          clear hK K
          have hpb : w14.heap.size ≤ w170.heap.size := hbx.size
          have HP : Blk (w170.alloc (.cells ([.slice none 0 0, .slice none 0 0, .int .i64 0, .int .i64 0, .int .i64 0, .int .i64 0] : List Value).toArray 33)) w170.heap.size [.slice none 0 0, .slice none 0 0, .int .i64 0, .int .i64 0, .int .i64 0, .int .i64 0] := Blk.new w170 [.slice none 0 0, .slice none 0 0, .int .i64 0, .int .i64 0, .int .i64 0, .int .i64 0] 33
          replace hbx := ext_alloc hbx (.cells ([.slice none 0 0, .slice none 0 0, .int .i64 0, .int .i64 0, .int .i64 0, .int .i64 0] : List Value).toArray 33)
          replace hOa := hOa.alloc (.cells ([.slice none 0 0, .slice none 0 0, .int .i64 0, .int .i64 0, .int .i64 0, .int .i64 0] : List Value).toArray 33)
          refine anyH_one 3 (by rfl) (by kernel_rfl) (by rfl) (fun K hK => ?_)
          go_simp
          have hpl171 := HP.lt
          refine (toWeights_any u _ _ _ (rd_ext h' (ext_trans hB14 hbx))).mono ?_
          rintro e w171 ⟨csb, Gb, rfl, hOb, hb171⟩
          replace HP := HP.ext hb171
          replace hOa := hOa.ext hb171
          have hRb := hOb.rd
          obtain ⟨hck, hGb, hpackb, hspreadb, hsoftb⟩ := rd_Weights hRb
          subst hck
          clear hGb hRb
          replace hbx := ext_trans hbx hb171
          refine hK _ _ hbx ?_
          try simp only [Act.put, List.setIfInBounds_toArray, List.set_cons_zero, List.set_cons_succ]
          clear hK K
          refine anyH_one 4 (by rfl) (by kernel_rfl) (by rfl) (fun K hK => ?_)
          go_simp
          have hpl172 := HP.lt
          refine (HIM.out _ _ _ _ _ hOa.rd hOb.rd).mono ?_
          rintro e w172 ⟨_, GR, rfl, hOr, hb172⟩
          replace HP := HP.ext hb172
          replace hOa := hOa.ext hb172
          replace hOb := hOb.ext hb172
          have hRr := hOr.rd
          obtain ⟨Ahostsr, chostsr, Fhostsr, Apodsr, cpodsr, Fpodsr, hck, hGr, hhostsr, hpodsr, hnextr, hweightspackr, hweightsspreadr, hweightssoftr⟩ := rd_Cluster hRr
          subst hck
          clear hGr hRr
          have hwB : w14.heap.size ≤ _ := hbx.size
          replace hbx := ext_trans hbx hb172
          refine hK _ _ hbx ?_
          try simp only [Act.put, List.setIfInBounds_toArray, List.set_cons_zero, List.set_cons_succ]
          clear hK K
          have hGp : ∀ y ∈ GR, y ≠ w170.heap.size := fun y hy => by have := hOr.base y hy; omega
          replace hOr := hOr.mono (B' := w14.heap.size) hwB
          refine anyH_take 5 _ (by rfl) (by kernel_rfl) (fun _ _ d _ _ h => by cases d <;> exact h) (by first | exact hbx | exact ext_refl _) (Or.inl ⟨rfl, fun wq hq => by
            have hcq := (cls_cell hq).1
            go_simp
            try rfl⟩) ?_
          try simp only [Act.put, List.setIfInBounds_toArray, List.set_cons_zero, List.set_cons_succ]
          refine anyH_take 6 _ (by rfl) (by kernel_rfl) (fun _ _ d _ _ h => by cases d <;> exact h) (by first | exact hbx | exact ext_refl _) (Or.inl ⟨rfl, fun wq hq => by
            have hcq := (cls_cell hq).1
            go_simp
            try rfl⟩) ?_
          try simp only [Act.put, List.setIfInBounds_toArray, List.set_cons_zero, List.set_cons_succ]
          refine anyH_take 7 _ (by rfl) (by kernel_rfl) (fun _ _ d _ _ h => by cases d <;> exact h) (by first | exact hbx | exact ext_refl _) (Or.inl ⟨rfl, fun wq hq => by
            have hcq := (cls_cell hq).1
            go_simp
            try rfl⟩) ?_
          try simp only [Act.put, List.setIfInBounds_toArray, List.set_cons_zero, List.set_cons_succ]
          have kl := HP.lt
          have kf := HP.fz
          have k0 := HP.cell (i := 0) (u := .slice none 0 0) rfl
          have k1 := HP.cell (i := 1) (u := .slice none 0 0) rfl
          have k2 := HP.cell (i := 2) (u := .int .i64 0) rfl
          have k3 := HP.cell (i := 3) (u := .int .i64 0) rfl
          have k4 := HP.cell (i := 4) (u := .int .i64 0) rfl
          have k5 := HP.cell (i := 5) (u := .int .i64 0) rfl
          have hpG : ∀ y ∈ GR, y ≠ w170.heap.size := hGp
          refine anyH_one 9 (by rfl) (by kernel_rfl) (by rfl) (fun K hK => ?_)
          go_simp
          refine hK _ _ (by unfold Cls; with_reducible exact (ext_setCell (p := ⟨w170.heap.size, 5, none⟩) (ext_setCell (p := ⟨w170.heap.size, 4, none⟩) (ext_setCell (p := ⟨w170.heap.size, 3, none⟩) (ext_setCell (p := ⟨w170.heap.size, 2, none⟩) (ext_setCell (p := ⟨w170.heap.size, 1, none⟩) (ext_setCell (p := ⟨w170.heap.size, 0, none⟩) hbx hpb (.slice Ahostsr r.hosts.length chostsr)) hpb (.slice Apodsr r.pods.length cpodsr)) hpb (.int .i64 r.next)) hpb (.int .i64 r.weights.pack)) hpb (.int .i64 r.weights.spread)) hpb (.int .i64 r.weights.soft))) ?_
          try simp only [Act.put, List.setIfInBounds_toArray, List.set_cons_zero, List.set_cons_succ]
          clear hK K
          refine anyH_one 10 (by rfl) (by kernel_rfl) (by rfl) (fun K hK => ?_)
          go_simp
          refine hK _ _ (by unfold Cls; with_reducible exact (ext_setCell (p := ⟨w170.heap.size, 5, none⟩) (ext_setCell (p := ⟨w170.heap.size, 4, none⟩) (ext_setCell (p := ⟨w170.heap.size, 3, none⟩) (ext_setCell (p := ⟨w170.heap.size, 2, none⟩) (ext_setCell (p := ⟨w170.heap.size, 1, none⟩) (ext_setCell (p := ⟨w170.heap.size, 0, none⟩) hbx hpb (.slice Ahostsr r.hosts.length chostsr)) hpb (.slice Apodsr r.pods.length cpodsr)) hpb (.int .i64 r.next)) hpb (.int .i64 r.weights.pack)) hpb (.int .i64 r.weights.spread)) hpb (.int .i64 r.weights.soft))) ?_
          try simp only [Act.put, List.setIfInBounds_toArray, List.set_cons_zero, List.set_cons_succ]
          clear hK K
          refine anyH_done (by kernel_rfl) ?_
          exact HK _ _ ⟨w170.heap.size, _, _, _, _, GR, _, _, _, _, _, _, _, _, (by simp only [Act.put, List.setIfInBounds_toArray, List.set_cons_zero, List.set_cons_succ]; rfl), (ext_setCell (p := ⟨w170.heap.size, 5, none⟩) (ext_setCell (p := ⟨w170.heap.size, 4, none⟩) (ext_setCell (p := ⟨w170.heap.size, 3, none⟩) (ext_setCell (p := ⟨w170.heap.size, 2, none⟩) (ext_setCell (p := ⟨w170.heap.size, 1, none⟩) (ext_setCell (p := ⟨w170.heap.size, 0, none⟩) hbx hpb (.slice Ahostsr r.hosts.length chostsr)) hpb (.slice Apodsr r.pods.length cpodsr)) hpb (.int .i64 r.next)) hpb (.int .i64 r.weights.pack)) hpb (.int .i64 r.weights.spread)) hpb (.int .i64 r.weights.soft)), hpb, ((((((HP.put 0 (.slice Ahostsr r.hosts.length chostsr)).put 1 (.slice Apodsr r.pods.length cpodsr)).put 2 (.int .i64 r.next)).put 3 (.int .i64 r.weights.pack)).put 4 (.int .i64 r.weights.spread)).put 5 (.int .i64 r.weights.soft)), (fun y hy => ⟨hpG y hy, hOr.base y hy⟩), (ownNe (c := w170.heap.size) (i := 5) (u := .int .i64 r.weights.soft) (ownNe (c := w170.heap.size) (i := 4) (u := .int .i64 r.weights.spread) (ownNe (c := w170.heap.size) (i := 3) (u := .int .i64 r.weights.pack) (ownNe (c := w170.heap.size) (i := 2) (u := .int .i64 r.next) (ownNe (c := w170.heap.size) (i := 1) (u := .slice Apodsr r.pods.length cpodsr) (ownNe (c := w170.heap.size) (i := 0) (u := .slice Ahostsr r.hosts.length chostsr) hOr hpG) hpG) hpG) hpG) hpG) hpG)⟩
      · go_simp
        refine hK _ _ (ext_alloc hbx _) ?_
        try simp only [Act.put, List.setIfInBounds_toArray, List.set_cons_zero, List.set_cons_succ]
        clear hK K
        have hpb : w14.heap.size ≤ w14.heap.size := hbx.size
        have HP : Blk (w14.drew.alloc (.cells ([.slice none 0 0, .slice none 0 0, .int .i64 0, .int .i64 0, .int .i64 0, .int .i64 0] : List Value).toArray 33)) w14.heap.size [.slice none 0 0, .slice none 0 0, .int .i64 0, .int .i64 0, .int .i64 0, .int .i64 0] := Blk.new w14.drew [.slice none 0 0, .slice none 0 0, .int .i64 0, .int .i64 0, .int .i64 0, .int .i64 0] 33
        replace hbx := ext_alloc hbx (.cells ([.slice none 0 0, .slice none 0 0, .int .i64 0, .int .i64 0, .int .i64 0, .int .i64 0] : List Value).toArray 33)
        refine anyH_one 1 (by rfl) (by kernel_rfl) (by rfl) (fun K hK => ?_)
        go_simp
        have hpl170 := HP.lt
        refine (toCluster_any x _ _ _ (rd_ext h (ext_trans hB14 hbx)) HWT.out).mono ?_
        rintro e w170 ⟨csa, Ga, rfl, hOa, hb170⟩
        replace HP := HP.ext hb170
        have hRa := hOa.rd
        obtain ⟨Ahostsa, chostsa, Fhostsa, Apodsa, cpodsa, Fpodsa, hck, hGa, hhostsa, hpodsa, hnexta, hweightspacka, hweightsspreada, hweightssofta⟩ := rd_Cluster hRa
        subst hck
        clear hGa hRa
        replace hbx := ext_trans hbx hb170
        refine hK _ _ hbx ?_
        try simp only [Act.put, List.setIfInBounds_toArray, List.set_cons_zero, List.set_cons_succ]
        clear hK K
        refine anyH_one 3 (by rfl) (by kernel_rfl) (by rfl) (fun K hK => ?_)
        go_simp
        have hpl171 := HP.lt
        refine (toWeights_any u _ _ _ (rd_ext h' (ext_trans hB14 hbx))).mono ?_
        rintro e w171 ⟨csb, Gb, rfl, hOb, hb171⟩
        replace HP := HP.ext hb171
        replace hOa := hOa.ext hb171
        have hRb := hOb.rd
        obtain ⟨hck, hGb, hpackb, hspreadb, hsoftb⟩ := rd_Weights hRb
        subst hck
        clear hGb hRb
        replace hbx := ext_trans hbx hb171
        refine hK _ _ hbx ?_
        try simp only [Act.put, List.setIfInBounds_toArray, List.set_cons_zero, List.set_cons_succ]
        clear hK K
        refine anyH_one 4 (by rfl) (by kernel_rfl) (by rfl) (fun K hK => ?_)
        go_simp
        have hpl172 := HP.lt
        refine (HIM.out _ _ _ _ _ hOa.rd hOb.rd).mono ?_
        rintro e w172 ⟨_, GR, rfl, hOr, hb172⟩
        replace HP := HP.ext hb172
        replace hOa := hOa.ext hb172
        replace hOb := hOb.ext hb172
        have hRr := hOr.rd
        obtain ⟨Ahostsr, chostsr, Fhostsr, Apodsr, cpodsr, Fpodsr, hck, hGr, hhostsr, hpodsr, hnextr, hweightspackr, hweightsspreadr, hweightssoftr⟩ := rd_Cluster hRr
        subst hck
        clear hGr hRr
        have hwB : w14.heap.size ≤ _ := hbx.size
        replace hbx := ext_trans hbx hb172
        refine hK _ _ hbx ?_
        try simp only [Act.put, List.setIfInBounds_toArray, List.set_cons_zero, List.set_cons_succ]
        clear hK K
        have hGp : ∀ y ∈ GR, y ≠ w14.heap.size := fun y hy => by have := hOr.base y hy; omega
        replace hOr := hOr.mono (B' := w14.heap.size) hwB
        refine anyH_take 5 _ (by rfl) (by kernel_rfl) (fun _ _ d _ _ h => by cases d <;> exact h) (by first | exact hbx | exact ext_refl _) (Or.inl ⟨rfl, fun wq hq => by
          have hcq := (cls_cell hq).1
          go_simp
          try rfl⟩) ?_
        try simp only [Act.put, List.setIfInBounds_toArray, List.set_cons_zero, List.set_cons_succ]
        refine anyH_take 6 _ (by rfl) (by kernel_rfl) (fun _ _ d _ _ h => by cases d <;> exact h) (by first | exact hbx | exact ext_refl _) (Or.inl ⟨rfl, fun wq hq => by
          have hcq := (cls_cell hq).1
          go_simp
          try rfl⟩) ?_
        try simp only [Act.put, List.setIfInBounds_toArray, List.set_cons_zero, List.set_cons_succ]
        refine anyH_take 7 _ (by rfl) (by kernel_rfl) (fun _ _ d _ _ h => by cases d <;> exact h) (by first | exact hbx | exact ext_refl _) (Or.inl ⟨rfl, fun wq hq => by
          have hcq := (cls_cell hq).1
          go_simp
          try rfl⟩) ?_
        try simp only [Act.put, List.setIfInBounds_toArray, List.set_cons_zero, List.set_cons_succ]
        have kl := HP.lt
        have kf := HP.fz
        have k0 := HP.cell (i := 0) (u := .slice none 0 0) rfl
        have k1 := HP.cell (i := 1) (u := .slice none 0 0) rfl
        have k2 := HP.cell (i := 2) (u := .int .i64 0) rfl
        have k3 := HP.cell (i := 3) (u := .int .i64 0) rfl
        have k4 := HP.cell (i := 4) (u := .int .i64 0) rfl
        have k5 := HP.cell (i := 5) (u := .int .i64 0) rfl
        have hpG : ∀ y ∈ GR, y ≠ w14.heap.size := hGp
        refine anyH_one 9 (by rfl) (by kernel_rfl) (by rfl) (fun K hK => ?_)
        go_simp
        refine hK _ _ (by unfold Cls; with_reducible exact (ext_setCell (p := ⟨w14.heap.size, 5, none⟩) (ext_setCell (p := ⟨w14.heap.size, 4, none⟩) (ext_setCell (p := ⟨w14.heap.size, 3, none⟩) (ext_setCell (p := ⟨w14.heap.size, 2, none⟩) (ext_setCell (p := ⟨w14.heap.size, 1, none⟩) (ext_setCell (p := ⟨w14.heap.size, 0, none⟩) hbx hpb (.slice Ahostsr r.hosts.length chostsr)) hpb (.slice Apodsr r.pods.length cpodsr)) hpb (.int .i64 r.next)) hpb (.int .i64 r.weights.pack)) hpb (.int .i64 r.weights.spread)) hpb (.int .i64 r.weights.soft))) ?_
        try simp only [Act.put, List.setIfInBounds_toArray, List.set_cons_zero, List.set_cons_succ]
        clear hK K
        refine anyH_one 10 (by rfl) (by kernel_rfl) (by rfl) (fun K hK => ?_)
        go_simp
        refine hK _ _ (by unfold Cls; with_reducible exact (ext_setCell (p := ⟨w14.heap.size, 5, none⟩) (ext_setCell (p := ⟨w14.heap.size, 4, none⟩) (ext_setCell (p := ⟨w14.heap.size, 3, none⟩) (ext_setCell (p := ⟨w14.heap.size, 2, none⟩) (ext_setCell (p := ⟨w14.heap.size, 1, none⟩) (ext_setCell (p := ⟨w14.heap.size, 0, none⟩) hbx hpb (.slice Ahostsr r.hosts.length chostsr)) hpb (.slice Apodsr r.pods.length cpodsr)) hpb (.int .i64 r.next)) hpb (.int .i64 r.weights.pack)) hpb (.int .i64 r.weights.spread)) hpb (.int .i64 r.weights.soft))) ?_
        try simp only [Act.put, List.setIfInBounds_toArray, List.set_cons_zero, List.set_cons_succ]
        clear hK K
        refine anyH_done (by kernel_rfl) ?_
        exact HK _ _ ⟨w14.heap.size, _, _, _, _, GR, _, _, _, _, _, _, _, _, (by simp only [Act.put, List.setIfInBounds_toArray, List.set_cons_zero, List.set_cons_succ]; rfl), (ext_setCell (p := ⟨w14.heap.size, 5, none⟩) (ext_setCell (p := ⟨w14.heap.size, 4, none⟩) (ext_setCell (p := ⟨w14.heap.size, 3, none⟩) (ext_setCell (p := ⟨w14.heap.size, 2, none⟩) (ext_setCell (p := ⟨w14.heap.size, 1, none⟩) (ext_setCell (p := ⟨w14.heap.size, 0, none⟩) hbx hpb (.slice Ahostsr r.hosts.length chostsr)) hpb (.slice Apodsr r.pods.length cpodsr)) hpb (.int .i64 r.next)) hpb (.int .i64 r.weights.pack)) hpb (.int .i64 r.weights.spread)) hpb (.int .i64 r.weights.soft)), hpb, ((((((HP.put 0 (.slice Ahostsr r.hosts.length chostsr)).put 1 (.slice Apodsr r.pods.length cpodsr)).put 2 (.int .i64 r.next)).put 3 (.int .i64 r.weights.pack)).put 4 (.int .i64 r.weights.spread)).put 5 (.int .i64 r.weights.soft)), (fun y hy => ⟨hpG y hy, hOr.base y hy⟩), (ownNe (c := w14.heap.size) (i := 5) (u := .int .i64 r.weights.soft) (ownNe (c := w14.heap.size) (i := 4) (u := .int .i64 r.weights.spread) (ownNe (c := w14.heap.size) (i := 3) (u := .int .i64 r.weights.pack) (ownNe (c := w14.heap.size) (i := 2) (u := .int .i64 r.next) (ownNe (c := w14.heap.size) (i := 1) (u := .slice Apodsr r.pods.length cpodsr) (ownNe (c := w14.heap.size) (i := 0) (u := .slice Ahostsr r.hosts.length chostsr) hOr hpG) hpG) hpG) hpG) hpG) hpG)⟩
    rintro a' w17 ⟨p17, Ahosts17, Apods17, chosts17, cpods17, G17, v17_0, v17_1, v17_2, v17_3, v17_4, v17_5, v17_6, v17_7, ha, hb17, hpb17, HBX17, hGp17, hO17⟩
    subst ha
    try simp only [Act.put, List.setIfInBounds_toArray, List.set_cons_zero, List.set_cons_succ]
    obtain ⟨hc17, hf17⟩ := bcell hb17
    have hB17 : Below w.heap.size w w17 := ext_trans hB14 hb17
    have hz0_17 : w.heap.size < w17.heap.size := by have := hb17.size; (try simp at this); omega
    have hz1_17 : w.heap.size + 1 < w17.heap.size := by have := hb17.size; (try simp at this); omega
    have hz2_17 : p4 < w17.heap.size := by have := hb17.size; (try simp at this); omega
    have hz3_17 : p7 < w17.heap.size := by have := hb17.size; (try simp at this); omega
    first | replace hO4 := Own.ext hO4 hb17 | replace hO4 := Own.ext (hO4.alloc _) hb17 | replace hO4 := Own.ext ((hO4.alloc _).alloc _) hb17
    first | replace hO13 := Own.ext hO13 hb17 | replace hO13 := Own.ext (hO13.alloc _) hb17 | replace hO13 := Own.ext ((hO13.alloc _).alloc _) hb17
    have hlp17 : p17 < w17.heap.size := HBX17.lt
    have bx17_0 := HBX17.cell (i := 0) (u := .slice Ahosts17 r.hosts.length chosts17) rfl
    have bx17_1 := HBX17.cell (i := 1) (u := .slice Apods17 r.pods.length cpods17) rfl
    have bx17_2 := HBX17.cell (i := 2) (u := .int .i64 r.next) rfl
    have bx17_3 := HBX17.cell (i := 3) (u := .int .i64 r.weights.pack) rfl
    have bx17_4 := HBX17.cell (i := 4) (u := .int .i64 r.weights.spread) rfl
    have bx17_5 := HBX17.cell (i := 5) (u := .int .i64 r.weights.soft) rfl
    go_wp2_with fail
    refine (eqCluster_any r r _ _ _ _ _ hO17.rd hO4.rd).mono ?_
    rw [HSL.out]
    rintro e w18 ⟨rfl, hb18⟩
    obtain ⟨hc18, hf18⟩ := bcell hb18
    have hB18 : Below w.heap.size w w18 := ext_trans (by repeat (first | with_reducible exact ext_refl _ | with_reducible assumption | with_reducible refine ext_alloc ?_ _ | with_reducible refine ext_drew ?_ | with_reducible refine ext_trans ?_ (by assumption))) hb18
    have hz0_18 : w.heap.size < w18.heap.size := by have := hb18.size; (try simp at this); omega
    have hz1_18 : w.heap.size + 1 < w18.heap.size := by have := hb18.size; (try simp at this); omega
    have hz2_18 : p4 < w18.heap.size := by have := hb18.size; (try simp at this); omega
    have hz3_18 : p7 < w18.heap.size := by have := hb18.size; (try simp at this); omega
    first | replace hO4 := Own.ext hO4 hb18 | replace hO4 := Own.ext (hO4.alloc _) hb18 | replace hO4 := Own.ext ((hO4.alloc _).alloc _) hb18
    first | replace hO13 := Own.ext hO13 hb18 | replace hO13 := Own.ext (hO13.alloc _) hb18 | replace hO13 := Own.ext ((hO13.alloc _).alloc _) hb18
    first | replace hO17 := Own.ext hO17 hb18 | replace hO17 := Own.ext (hO17.alloc _) hb18 | replace hO17 := Own.ext ((hO17.alloc _).alloc _) hb18
    go_wp2_with fail
    refine (heldCluster_any (mkTopCluster r 1) _ G7 1 _ hO13.rd (mkTopCluster_idem _ _) (by omega) (by rw [cntTopCluster_mk]; omega)).mono ?_
    rw [cntTopCluster_mk]
    rintro e w19 ⟨rfl, hb19⟩
    obtain ⟨hc19, hf19⟩ := bcell hb19
    have hB19 : Below w.heap.size w w19 := ext_trans (by repeat (first | with_reducible exact ext_refl _ | with_reducible assumption | with_reducible refine ext_alloc ?_ _ | with_reducible refine ext_drew ?_ | with_reducible refine ext_trans ?_ (by assumption))) hb19
    have hz0_19 : w.heap.size < w19.heap.size := by have := hb19.size; (try simp at this); omega
    have hz1_19 : w.heap.size + 1 < w19.heap.size := by have := hb19.size; (try simp at this); omega
    have hz2_19 : p4 < w19.heap.size := by have := hb19.size; (try simp at this); omega
    have hz3_19 : p7 < w19.heap.size := by have := hb19.size; (try simp at this); omega
    first | replace hO4 := Own.ext hO4 hb19 | replace hO4 := Own.ext (hO4.alloc _) hb19 | replace hO4 := Own.ext ((hO4.alloc _).alloc _) hb19
    first | replace hO13 := Own.ext hO13 hb19 | replace hO13 := Own.ext (hO13.alloc _) hb19 | replace hO13 := Own.ext ((hO13.alloc _).alloc _) hb19
    first | replace hO17 := Own.ext hO17 hb19 | replace hO17 := Own.ext (hO17.alloc _) hb19 | replace hO17 := Own.ext ((hO17.alloc _).alloc _) hb19
    go_wp2
    go_ret
    exact ⟨rfl, hB19⟩
  · have hsz : szR x.wt 1048576 = -1 := by have := szR_spec x.wt 1048576; omega
    have HSZ := Lib.hid hsz
    clear hsz hw
    have hr := h
    obtain ⟨Ahosts, chosts, Fhosts, Apods, cpods, Fpods, hck, hF0, hhosts, hpods, hnext, hweightspack, hweightsspread, hweightssoft⟩ := rd_Cluster hr
    subst hck
    clear hF0 hr
    have hr' := h'
    obtain ⟨hck, hF0, hpack2, hspread2, hsoft2⟩ := rd_Weights hr'
    subst hck
    clear hF0 hr'
    go_enter Tryz.func3, Tryz.ntmps3
    go_wp2_with fail
    refine (szCluster_any x _ _ _ _ (rd_ext h (by repeat (first | with_reducible exact ext_refl _ | with_reducible assumption | with_reducible refine ext_alloc ?_ _ | with_reducible refine ext_drew ?_ | with_reducible refine ext_trans ?_ (by assumption)))) (by omega) (by omega)).mono ?_
    rw [HSZ.out]
    rintro e w1 ⟨rfl, hb1⟩
    go_wp2
    go_ret
    exact ⟨rfl, (by repeat (first | with_reducible exact ext_refl _ | with_reducible assumption | with_reducible refine ext_alloc ?_ _ | with_reducible refine ext_drew ?_ | with_reducible refine ext_trans ?_ (by assumption)))⟩

set_option maxRecDepth 100000 in
theorem law_walk {H : Type} {enc : TypeId × Value → H} (W : World) (base : Nat) (args : Array Value) (ds : List (DataW H)) (p : List MemPlace)
    (hval : ∀ (j : Nat) t v, Tryz.f3.params[j]? = some t → args[j]? = some v → Value.okWide Tryz.prog W .any base t v)
    (hA : DataW.TrodAll enc Tryz.prog W 0 (fun _ => true) true Tryz.f3.params.toList args.toList ds p) (hlt : ∀ x ∈ p, x.block < W.heap.size) :
    Calls Tryz.prog 3 args W fun e W' => e = .returned (.bool true) ∧ Below W.heap.size W W' := by
  rw [Tryz.params3] at hA hval
  obtain ⟨v0, vs0, d0, ds0, p0, q0, hargs, rfl, rfl, h0, r0⟩ := trodAll_cons hA
  obtain ⟨v1, vs1, d1, ds1, p1, q1, rfl, rfl, rfl, h1, r1⟩ := trodAll_cons r0
  obtain ⟨rfl, rfl, rfl⟩ := trodAll_nil r1
  obtain rfl : args = #[v0, v1] := by cases args; simp_all
  have hv0 := hval 0 27 v0 rfl rfl
  obtain ⟨cs, rfl, _⟩ := okWide_struct Tryz.underlying27 hv0
  clear hv0
  have hv1 := hval 1 25 v1 rfl rfl
  obtain ⟨us, rfl, _⟩ := okWide_struct Tryz.underlying25 hv1
  clear hv1
  obtain ⟨fuel, hf⟩ := h0
  obtain ⟨x, F, hr⟩ := opens_Cluster H enc W 0 fuel _ _ _ _ hf
  obtain ⟨fuel2, hf2⟩ := h1
  obtain ⟨u, Fu, hr2⟩ := opens_Weights H enc W 0 fuel2 _ _ _ _ hf2
  exact walk x cs.toList F u us.toList Fu W hr hr2

theorem own : ownKnob Tryz.prog.godebug = none := by kernel_rfl
theorem laid : laidOutB Tryz.prog = true := by kernel_rfl
theorem readable : ∀ t ∈ Tryz.f3.params.toList, Tryz.prog.readableRec t = true ∧ t < Tryz.prog.types.size := by
  have h : (Tryz.f3.params.toList.all fun t => Tryz.prog.readableRec t && decide (t < Tryz.prog.types.size)) = true := by kernel_rfl
  intro t ht
  have := List.all_eq_true.1 h t ht
  simpa using this

theorem law_shape {H : Type} {enc : TypeId × Value → H} {W : World} {args : List Value} {ds : List (DataW H)} {p : List MemPlace}
    (h : DataW.TrodAll enc Tryz.prog W 0 (fun _ => true) true Tryz.f3.params.toList args ds p) : ∃ d0 d1, ds = [d0, d1] := by
  rw [Tryz.params3] at h
  obtain ⟨v0, vs0, d0, ds0, p0, q0, _, rfl, _, _, r0⟩ := trodAll_cons h
  obtain ⟨v1, vs1, d1, ds1, p1, q1, _, rfl, _, _, r1⟩ := trodAll_cons r0
  obtain ⟨_, rfl, _⟩ := trodAll_nil r1
  exact ⟨d0, d1, rfl⟩

set_option maxRecDepth 100000 in
theorem lifted (os : Os) (started : os.Started) (H : Type) (enc : TypeId × Value → H) :
    ReturnsInHanded {} Tryz.checked os 3 .any (Rows.fnExactSetWeightsSpec.pre6 enc Tryz.prog Tryz.f3 Rows.fnExactSetWeightsRow.domain false) (Rows.fnExactSetWeightsSpec.post enc Tryz.prog Tryz.f3 false true false false) := by
  refine returnsInHanded_of_change (C := Tryz.checked) own started (by kernel_rfl) Tryz.func3
    (ChangeSpec.witness6 (enc := enc) (C := Tryz.checked) false ⟨#[], #[.agg #[.slice none 0 0, .slice none 0 0, .int .i64 0, .int .i64 0, .int .i64 0, .int .i64 0], .agg #[.int .i64 0, .int .i64 0, .int .i64 0]], []⟩ 8 (by kernel_rfl) (by kernel_rfl) (by kernel_rfl) (by kernel_rfl)) ?_
  intro W base args ds gs before hval0 hW hcnd _
  have hlt : ∀ x ∈ before, x.block < W.heap.size := fun x hx => hW.lt x hx
  have hW' := hW
  obtain ⟨p, q, hA, hV, rfl, _, _⟩ := hW'
  exact (law_walk W base args ds p hval0 hA (fun x hx => hlt x (List.mem_append_left _ hx))).mono fun e W' ⟨he, hb⟩ =>
    ⟨_, he, law_post laid readable rfl Tryz.underlying4 rfl (by obtain ⟨d0, d1, hs⟩ := law_shape hA; rw [hs]; rfl) hW hb⟩

theorem over : Rows.fnExactSetWeightsRow.holds Tryz.pinned (OpenSpec.ofChange Rows.fnExactSetWeightsSpec) :=
  OpenClaim.holds_of_wide 3 Tryz.f3 rfl rfl rfl rfl rfl rfl rfl ⟨rfl, rfl, rfl, rfl, rfl⟩ rfl rfl rfl rfl rfl (by kernel_rfl) Tryz.func3 (by kernel_rfl)
    (of_decide_eq_true (by kernel_rfl)) (by unfold Func.isWrapper; first | (rw [if_pos (by decide +kernel)]; kernel_rfl) | (rw [if_neg (by decide +kernel)]; exact ⟨rfl, rfl⟩))
    (fun os started H enc _ => lifted os started H enc)

theorem proved : Rows.FnExactSetWeightsSaid :=
  over
#print axioms proved
end Go.Proofs.YtjoclfenghenjaaGreat.fnExactSetWeights
