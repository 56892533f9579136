/- l15Values of the reference. No condition. -/
import Derived.Test.YtegekccoincicaaGreatDoorByteLt
import Derived.Test.YtegekccoincicaaGreatDoorInsP
import Derived.Test.YtegekccoincicaaGreatDoorMiStr
import Derived.Laws.Cover1
namespace Go.Proofs.YtegekccoincicaaGreatDoor
open Dat (rd)
open Go.ChangeShapes Go.WideShapes Go.ChangeAt Go.RowKit
set_option linter.unusedVariables false
set_option linter.unusedSimpArgs false

theorem rdStr_own (D : List ByteArray) {w : World} {B e g cap : Nat} (h : w.ownsRow B e 1 (.slice (some ⟨g, 0, none⟩) D.length cap) D.length (D.map Value.string)) (hr : ∀ x ∈ D, rd w x [.string x] []) : ∃ A c G, Value.slice (some ⟨g, 0, none⟩) D.length cap = .slice A D.length c ∧ Own w B D [.slice A D.length c] G := by
  have hrc : ∀ D : List ByteArray, (∀ x ∈ D, rd w x [.string x] []) → rdCells w D (D.map Value.string) [] := fun D => by
    induction D with
    | nil => intro _; exact ⟨rfl, rfl⟩
    | cons x D ih => intro hD; exact ⟨[.string x], D.map Value.string, [], [], rfl, rfl, hD x (List.mem_cons_self ..), ih fun y hy => hD y (List.mem_cons_of_mem _ hy)⟩
  exact Own.of_row h ⟨hrc D hr, List.nodup_nil, (fun b hb => by cases hb), (fun b hb => by cases hb)⟩ (fun g hg hm => by cases hm)
set_option maxRecDepth 100000 in
set_option maxHeartbeats 8000000 in
theorem l15Values_room (xs : List ByteArray) (A : Option Addr) (c : Nat) (F : List Nat) (w : World) (h : Sl w xs A c F) (hl : (xs.length : Int) ≤ 1048576) :
    Calls Tryz.prog 45 #[.slice A xs.length c] w fun e w' => ∃ A' c' G, e = .returned (.slice A' (valsR xs).length c') ∧ Own w' w.heap.size (valsR xs) [.slice A' (valsR xs).length c'] G ∧ Below w.heap.size w w' ∧ RoomS w' w.heap.size 9 1 A' c' := by
  have HRD := Lib.hid (show ∀ x ∈ xs, ∀ w' : World, rd w' x [.string x] [] from fun x hx w' => by
    obtain ⟨k, hk, rfl⟩ := List.getElem_of_mem hx
    obtain ⟨b, o, ck, Fk, _, _, _, hr, _, _⟩ := h.get hk
    obtain ⟨h1, h2, h3⟩ := hr
    exact ⟨rfl, rfl, h3⟩)
  go_enter Tryz.func45, Tryz.ntmps45
  go_wp2_with fail
  go_loopw [3, 4] (fun v i wr => ∃ k N g cap : Nat, k ≤ xs.length ∧ N ≤ k ∧ i = .int .i64 (k : Int) ∧ v = .slice (some ⟨g, 0, none⟩) N cap ∧ Hid ((valsR (xs.take k)).length = N) ∧ wr.ownsRow w.heap.size 9 1 (.slice (some ⟨g, 0, none⟩) N cap) N ((valsR (xs.take k)).map Value.string) ∧ Below w.heap.size w wr) (fun _ i _ => xs.length - (intOf i).toNat)
  case atStart => exact ⟨0, 0, w.heap.size, 0, by omega, Nat.le_refl _, rfl, rfl, Lib.hid rfl, row_newI w 9 1 w.heap.size rfl, ext_alloc (ext_refl _) _⟩
  case round =>
    obtain ⟨k, N, g, cap, hk, hNk, rfl, rfl, HSL, hrow, hbl⟩ := hrel
    by_cases hlt : k < xs.length
    · obtain ⟨wo, hwo⟩ : ∃ wo, wo = wr := ⟨_, rfl⟩
      subst hwo
      obtain ⟨b, o, ck, Fk, hA, hbG, hbs, hrdk, _, hcells⟩ := Sl.get h hlt
      subst hA
      have hnx : valsR (xs.take (k + 1)) = insU blt xs[k] (valsR (xs.take k)) := by unfold valsR; rw [List.take_succ_eq_append_getElem hlt, uniqL_snoc]
      obtain ⟨y, hy⟩ : ∃ y, xs[k] = y := ⟨_, rfl⟩
      rw [hy] at hrdk hnx
      obtain ⟨hck, _, _⟩ := hrdk
      subst hck
      have k0 : wo.cell? ⟨b, o + k, none⟩ = some (.string y) := (hbl.cell (p := ⟨b, o + k, none⟩) hbs).trans (by have := hcells 0 _ rfl; simpa [show Dat.size ByteArray = 1 from rfl] using this)
      have HNX := Lib.hid hnx
      clear hcells hy hnx
      generalize valsR (xs.take k) = SS at *
      obtain ⟨hg1, hg2, hg3, hgc⟩ := row_cellI hrow
      have hzo : w.heap.size ≤ wo.heap.size := hbl.size
      have hbo : b < wo.heap.size := by omega
      have HGC := Lib.hid hgc
      have HROW := Lib.hid hrow
      have HBO := Lib.hid hbl
      clear hgc hrow hbl
      go_wp2_with fail
      go_loopw [5] (fun j wr => ∃ (s1 s2 : List ByteArray) (jj : Nat), Hid (SS = s1 ++ s2) ∧ j = .int .i64 (jj : Int) ∧ Hid (s1.length = jj) ∧ Hid (∀ z ∈ s1, blt z y = true) ∧ Below wo.heap.size wo wr) (fun j _ => N - (intOf j).toNat)
      case atStart => exact ⟨[], SS, 0, Lib.hid rfl, rfl, Lib.hid rfl, Lib.hid (fun z hz => by cases hz), ext_refl _⟩
      case round =>
        obtain ⟨s1, s2, jj, HE, rfl, HJ, HN, hbr⟩ := hrel
        have mc : ∀ bq oq u, wo.cell? ⟨bq, oq, none⟩ = some u → bq < wo.heap.size → wr.cell? ⟨bq, oq, none⟩ = some u := fun bq oq u h1 h2 => (hbr.cell (p := ⟨bq, oq, none⟩) h2).trans h1
        replace k0 := mc _ _ _ k0 hbo
        have MC := Lib.hid mc
        have hzr : wo.heap.size ≤ wr.heap.size := hbr.size
        have hbor : b < wr.heap.size := by omega
        have hgr : g < wr.heap.size := by omega
        clear mc
        cases s2 with
        | nil =>
          have hjk : jj = N := by have e1 := HE.out; have e2 := HSL.out; have e3 := HJ.out; rw [e1, List.append_nil] at e2; omega
          have hjk1 : N ≤ jj := by omega
          have hjd : decide ((jj : Int) < (N : Int)) = false := by simp; omega
          have hjd2 : decide (jj < N) = false := by simp; omega
          clear hjk
          have HI := Lib.hid (show insU blt y (SS) = s1 ++ y :: [] by rw [HE.out]; exact insU_nil s1 HN.out)
          go_wp2_with fail
          refine wp_region_grow wr (by kernel_rfl) (by kernel_rfl) (ext_refl _) ?_
          repeat (first
            | (apply inText_skip
               case hw => rfl
               simp only [Act.put, List.setIfInBounds_toArray, List.set_cons_zero, List.set_cons_succ])
            | (apply inText_step
               case hw => rfl
               case h =>
                 intro wq hq
                 have hcq := (cls_cell hq).1
                 have hfq := (cls_cell hq).2
                 go_simp
                 first
                   | exact ⟨hq, rfl⟩
                   | exact ⟨cls_alloc hq _, rfl⟩
                   | (fail)
                   | (simp only [↓IntWalk.iteOmega]; exact ⟨hq, rfl⟩)
               simp only [Act.put, List.setIfInBounds_toArray, List.set_cons_zero, List.set_cons_succ]))
          refine inText_nil ?_
          intro wm hn
          replace hn := hn.out
          have hbm : Below wo.heap.size wo wm := ext_trans hbr hn
          have hgm : g < wm.heap.size := by have := hn.size; omega
          have hbom : b < wm.heap.size := by have := hn.size; omega
          replace k0 := (hn.cell (p := ⟨b, o + k, none⟩) (by first | exact hbor | (dsimp only; omega))).trans k0
          clear hbr hn
          obtain ⟨hbr, hbor, hgr⟩ : Below wo.heap.size wo wm ∧ b < wm.heap.size ∧ g < wm.heap.size := ⟨hbm, hbom, hgm⟩
          clear hbm hbom hgm
          go_wp2_with fail
          refine wp_region_grow wm (by kernel_rfl) (by kernel_rfl) (ext_refl _) ?_
          repeat (first
            | (apply inText_skip
               case hw => rfl
               simp only [Act.put, List.setIfInBounds_toArray, List.set_cons_zero, List.set_cons_succ])
            | (apply inText_step
               case hw => rfl
               case h =>
                 intro wq hq
                 have hcq := (cls_cell hq).1
                 have hfq := (cls_cell hq).2
                 go_simp
                 first
                   | exact ⟨hq, rfl⟩
                   | exact ⟨cls_alloc hq _, rfl⟩
                   | (fail)
                   | (simp only [↓IntWalk.iteOmega]; exact ⟨hq, rfl⟩)
               simp only [Act.put, List.setIfInBounds_toArray, List.set_cons_zero, List.set_cons_succ]))
          refine inText_nil ?_
          intro wn hn
          replace hn := hn.out
          have hbn : Below wo.heap.size wo wn := ext_trans hbr hn
          have HBN := Lib.hid (show Below w.heap.size w wn from ext_trans HBO.out hbn)
          have hrown := row_ext HROW.out hbn
          obtain ⟨_, hgn, hgcap, hgc2⟩ := row_cellI hrown
          have HNC := Lib.hid (show ∀ q u, ((s1).map Value.string)[q]? = some u → wn.cell? ((⟨g, 0, none⟩ : Addr).add q) = some u from fun q u hu => by
            rw [Addr.add_lit, Nat.zero_add]
            refine hgc2 q u ?_
            rw [HE.out, List.map_append, List.getElem?_append_left (List.getElem?_eq_some_iff.1 hu).1]; exact hu)
          have HN2 := Lib.hid (show ∀ q u, ((([] : List ByteArray)).map Value.string)[q]? = some u → wn.cell? ⟨g, jj + q, none⟩ = some u from fun q u hu => by
            refine hgc2 (jj + q) u ?_
            rw [HE.out, List.map_append, List.getElem?_append_right (by rw [List.length_map, HJ.out]; omega), List.length_map, HJ.out, Nat.add_sub_cancel_left]; exact hu)
          have hl2 : jj + (([] : List ByteArray)).length = N := by have e1 := congrArg List.length HE.out; have e2 := HSL.out; have e3 := HJ.out; rw [List.length_append] at e1; omega
          have hjk2 : jj ≤ N := by omega
          have hjc : jj ≤ cap := by omega
          replace k0 := (hn.cell (p := ⟨b, o + k, none⟩) (by first | exact hbor | (dsimp only; omega))).trans k0
          have hbn2 : b < wn.heap.size := by have := hn.size; omega
          have HL2 := Lib.hid hl2
          have HBW := Lib.hid hbn
          clear hrown hgc2 hl2 hbn
          go_wp2_with fail
          refine wp_region_anyH wn 12 (by kernel_rfl) (by kernel_rfl) (ext_refl _) ?_
          refine anyH_to (fun a0 a' w' => ∃ (g9 p9 : Nat) (v0_ v1_ v2_ v3_ v4_ v5_ v6_ v7_ v8_ v9_ : Value), a' = (Act.put (Act.put (Act.put (Act.put (Act.put (Act.put (Act.put (Act.put (Act.put (Act.put (Act.put (Act.put a0 (some 46) (v0_)) (some 47) (v1_)) (some 48) (v2_)) (some 49) (v3_)) (some 50) (v4_)) (some 51) (v5_)) (some 52) (v6_)) (some 53) (v7_)) (some 54) (v8_)) (some 55) (v9_)) (some 56) (.slice (some ⟨g9, 0, none⟩) (jj + 1) p9)) (some 6) (.slice (some ⟨g9, 0, none⟩) (jj + 1) p9)) ∧ Below wn.heap.size wn w' ∧ World.ownsRow w' wn.heap.size 9 1 (.slice (some ⟨g9, 0, none⟩) (jj + 1) p9) (jj + 1) (((s1).map Value.string) ++ [.string y])) ?_ ?_
          rotate_left
          · intro HK
            have hbx : Below wn.heap.size wn wn.drew := ext_drew (ext_refl _)
            refine anyH_take 1 _ (by rfl) (by kernel_rfl) (fun _ _ d _ _ h => by cases d <;> exact h) hbx (Or.inl ⟨rfl, fun wq hq => by
              have hcq := (cls_cell hq).1
              go_simp
              try rfl⟩) ?_
            try simp only [Act.put, List.setIfInBounds_toArray, List.set_cons_zero, List.set_cons_succ]
            refine anyH_take 2 _ (by rfl) (by kernel_rfl) (fun _ _ d _ _ h => by cases d <;> exact h) hbx (Or.inl ⟨rfl, fun wq hq => by
              have hcq := (cls_cell hq).1
              go_simp
              try rfl⟩) ?_
            try simp only [Act.put, List.setIfInBounds_toArray, List.set_cons_zero, List.set_cons_succ]
            refine anyH_take 3 _ (by rfl) (by kernel_rfl) (fun _ _ d _ _ h => by cases d <;> exact h) hbx (Or.inl ⟨rfl, fun wq hq => by
              have hcq := (cls_cell hq).1
              go_simp
              try rfl⟩) ?_
            try simp only [Act.put, List.setIfInBounds_toArray, List.set_cons_zero, List.set_cons_succ]
            refine anyH_take 5 _ (by rfl) (by kernel_rfl) (fun _ _ d _ _ h => by cases d <;> exact h) hbx (Or.inl ⟨rfl, fun wq hq => by
              have hcq := (cls_cell hq).1
              go_simp
              try rfl⟩) ?_
            try simp only [Act.put, List.setIfInBounds_toArray, List.set_cons_zero, List.set_cons_succ]
            refine anyH_take 6 _ (by rfl) (by kernel_rfl) (fun _ _ d _ _ h => by cases d <;> exact h) hbx (Or.inl ⟨rfl, fun wq hq => by
              have hcq := (cls_cell hq).1
              go_simp
              try rfl⟩) ?_
            try simp only [Act.put, List.setIfInBounds_toArray, List.set_cons_zero, List.set_cons_succ]
            refine anyH_take 7 _ (by rfl) (by kernel_rfl) (fun _ _ d _ _ h => by cases d <;> exact h) hbx (Or.inl ⟨rfl, fun wq hq => by
              have hcq := (cls_cell hq).1
              go_simp
              try rfl⟩) ?_
            try simp only [Act.put, List.setIfInBounds_toArray, List.set_cons_zero, List.set_cons_succ]
            refine anyH_take 8 _ (by rfl) (by kernel_rfl) (fun _ _ d _ _ h => by cases d <;> exact h) hbx (Or.inl ⟨rfl, fun wq hq => by
              have hcq := (cls_cell hq).1
              go_simp
              try rfl⟩) ?_
            try simp only [Act.put, List.setIfInBounds_toArray, List.set_cons_zero, List.set_cons_succ]
            refine anyH_two 0 9 (by rfl) (by rfl) (by kernel_rfl) (by rfl) (by rfl) (fun K hK => ?_) (fun K hK => ?_)
            · go_simp
              refine hK _ _ (ext_alloc hbx (.cells #[] 9)) ?_
              try simp only [Act.put, List.setIfInBounds_toArray, List.set_cons_zero, List.set_cons_succ]
              clear hK K
              have hbA := ext_alloc hbx (.cells #[] 9)
              have hrA := row_newI wn.drew 9 1 wn.heap.size rfl
              refine anyH_two 4 9 (by rfl) (by rfl) (by kernel_rfl) (by rfl) (by rfl) (fun K hK => ?_) (fun K hK => ?_)
              · refine wp_appendI elString _ _ (by rfl) (wn.drew.alloc (.cells #[] 9)) wn.heap.size _ 0 [] hrA (by rfl) ⟨g, 0, none⟩ jj cap (((s1).map Value.string)) (by rfl) (by rw [List.length_map, HJ.out, Nat.mul_one]) (fun q u hu => (hbA.cell (p := (⟨g, 0, none⟩ : Addr).add q) (by rw [Addr.add_lit]; exact hgn)).trans (HNC.out q u hu)) (fun u hu => by obtain ⟨z0, _, rfl⟩ := List.mem_map.1 hu; rfl) (by omega) (by omega) (by have := (hbA).size; omega) ?_
                intro v5 w5 hown5 hg5 hat5
                have hb5 : Below wn.heap.size wn w5 := Below.grown (hbA) hg5 (by have := (hbA).size; omega) (fun q hq => (hrA.lt q hq).1)
                refine hK _ _ hb5 ?_
                try simp only [Act.put, List.setIfInBounds_toArray, List.set_cons_zero, List.set_cons_succ]
                clear hK K
                refine anyH_one 9 (by rfl) (by kernel_rfl) (by rfl) (fun K hK => ?_)
                go_simp
                refine hK _ _ (ext_alloc hb5 (.cells #[.string y] 9)) ?_
                try simp only [Act.put, List.setIfInBounds_toArray, List.set_cons_zero, List.set_cons_succ]
                clear hK K
                have hbB := ext_alloc hb5 (.cells #[.string y] 9)
                refine anyH_one 10 (by rfl) (by kernel_rfl) (by rfl) (fun K hK => ?_)
                refine wp_appendI elString _ _ (by rfl) (w5.alloc (.cells #[.string y] 9)) wn.heap.size v5 _ _ (row_ext hown5 (ext_alloc (ext_refl _) _)) (by rfl) ⟨w5.heap.size, 0, none⟩ 1 1 [.string y] (by rfl) (by rfl) (new_cellI w5 9 [.string y] w5.heap.size rfl) (fun u hu => by rw [List.mem_singleton.1 hu]; rfl) (by omega) (by omega) (by have := (hbB).size; omega) ?_
                intro v7 w7 hown7 hg7 hat7
                rw [show 0 + jj = jj by omega, List.nil_append] at hown7
                obtain ⟨g9, p9, hv7, hgb, hgp, hgl⟩ := row_someI hown7 (by omega)
                subst hv7
                have hb7 : Below wn.heap.size wn w7 := Below.grown (hbB) hg7 (by have := (hbB).size; omega) (fun q hq => (hown5.lt q hq).1)
                refine hK _ _ hb7 ?_
                try simp only [Act.put, List.setIfInBounds_toArray, List.set_cons_zero, List.set_cons_succ]
                clear hK K
                refine anyH_one 11 (by rfl) (by kernel_rfl) (by rfl) (fun K hK => ?_)
                go_simp
                refine hK _ _ hb7 ?_
                try simp only [Act.put, List.setIfInBounds_toArray, List.set_cons_zero, List.set_cons_succ]
                clear hK K
                refine anyH_done (by kernel_rfl) ?_
                exact HK _ _ ⟨g9, p9, _, _, _, _, _, _, _, _, _, _, (by simp only [Act.put, List.setIfInBounds_toArray, List.set_cons_zero, List.set_cons_succ]; rfl), hb7, hown7⟩
              · go_simp
                refine hK _ _ (ext_alloc hbA (.cells #[.string y] 9)) ?_
                try simp only [Act.put, List.setIfInBounds_toArray, List.set_cons_zero, List.set_cons_succ]
                clear hK K
                have hbB := ext_alloc hbA (.cells #[.string y] 9)
                replace hrA := row_ext hrA (ext_alloc (ext_refl _) (.cells #[.string y] 9))
                refine anyH_one 4 (by rfl) (by kernel_rfl) (by rfl) (fun K hK => ?_)
                refine wp_appendI elString _ _ (by rfl) ((wn.drew.alloc (.cells #[] 9)).alloc (.cells #[.string y] 9)) wn.heap.size _ 0 [] hrA (by rfl) ⟨g, 0, none⟩ jj cap (((s1).map Value.string)) (by rfl) (by rw [List.length_map, HJ.out, Nat.mul_one]) (fun q u hu => (hbB.cell (p := (⟨g, 0, none⟩ : Addr).add q) (by rw [Addr.add_lit]; exact hgn)).trans (HNC.out q u hu)) (fun u hu => by obtain ⟨z0, _, rfl⟩ := List.mem_map.1 hu; rfl) (by omega) (by omega) (by have := (hbB).size; omega) ?_
                intro v5 w5 hown5 hg5 hat5
                have hb5 : Below wn.heap.size wn w5 := Below.grown (hbB) hg5 (by have := (hbB).size; omega) (fun q hq => (hrA.lt q hq).1)
                refine hK _ _ hb5 ?_
                try simp only [Act.put, List.setIfInBounds_toArray, List.set_cons_zero, List.set_cons_succ]
                clear hK K
                refine anyH_one 10 (by rfl) (by kernel_rfl) (by rfl) (fun K hK => ?_)
                refine wp_appendI elString _ _ (by rfl) w5 wn.heap.size v5 _ _ hown5 (by rfl) ⟨wn.heap.size + 1, 0, none⟩ 1 1 [.string y] (by rfl) (by rfl) (fun q u hu => (World.cell?_of_block (by rw [Addr.add_lit]; exact hg5.block (wn.heap.size + 1) (by simp) (by simp [Value.ownBlock]))).trans ((new_cellI (wn.drew.alloc (.cells #[] 9)) 9 [.string y] (wn.heap.size + 1) (by simp)) q u hu)) (fun u hu => by rw [List.mem_singleton.1 hu]; rfl) (by omega) (by omega) (by have := (hb5).size; omega) ?_
                intro v7 w7 hown7 hg7 hat7
                rw [show 0 + jj = jj by omega, List.nil_append] at hown7
                obtain ⟨g9, p9, hv7, hgb, hgp, hgl⟩ := row_someI hown7 (by omega)
                subst hv7
                have hb7 : Below wn.heap.size wn w7 := Below.grown (hb5) hg7 (by have := (hb5).size; omega) (fun q hq => (hown5.lt q hq).1)
                refine hK _ _ hb7 ?_
                try simp only [Act.put, List.setIfInBounds_toArray, List.set_cons_zero, List.set_cons_succ]
                clear hK K
                refine anyH_one 11 (by rfl) (by kernel_rfl) (by rfl) (fun K hK => ?_)
                go_simp
                refine hK _ _ hb7 ?_
                try simp only [Act.put, List.setIfInBounds_toArray, List.set_cons_zero, List.set_cons_succ]
                clear hK K
                refine anyH_done (by kernel_rfl) ?_
                exact HK _ _ ⟨g9, p9, _, _, _, _, _, _, _, _, _, _, (by simp only [Act.put, List.setIfInBounds_toArray, List.set_cons_zero, List.set_cons_succ]; rfl), hb7, hown7⟩
            · go_simp
              refine hK _ _ (ext_alloc hbx (.cells #[.string y] 9)) ?_
              try simp only [Act.put, List.setIfInBounds_toArray, List.set_cons_zero, List.set_cons_succ]
              clear hK K
              have hbB := ext_alloc hbx (.cells #[.string y] 9)
              refine anyH_one 0 (by rfl) (by kernel_rfl) (by rfl) (fun K hK => ?_)
              go_simp
              refine hK _ _ (ext_alloc hbB (.cells #[] 9)) ?_
              try simp only [Act.put, List.setIfInBounds_toArray, List.set_cons_zero, List.set_cons_succ]
              clear hK K
              have hbA := ext_alloc hbB (.cells #[] 9)
              have hrA := row_mono (row_newI (wn.drew.alloc (.cells #[.string y] 9)) 9 1 (wn.heap.size + 1) (by simp)) (B' := wn.heap.size) (by omega)
              refine anyH_one 4 (by rfl) (by kernel_rfl) (by rfl) (fun K hK => ?_)
              refine wp_appendI elString _ _ (by rfl) ((wn.drew.alloc (.cells #[.string y] 9)).alloc (.cells #[] 9)) wn.heap.size _ 0 [] hrA (by rfl) ⟨g, 0, none⟩ jj cap (((s1).map Value.string)) (by rfl) (by rw [List.length_map, HJ.out, Nat.mul_one]) (fun q u hu => (hbA.cell (p := (⟨g, 0, none⟩ : Addr).add q) (by rw [Addr.add_lit]; exact hgn)).trans (HNC.out q u hu)) (fun u hu => by obtain ⟨z0, _, rfl⟩ := List.mem_map.1 hu; rfl) (by omega) (by omega) (by have := (hbA).size; omega) ?_
              intro v5 w5 hown5 hg5 hat5
              have hb5 : Below wn.heap.size wn w5 := Below.grown (hbA) hg5 (by have := (hbA).size; omega) (fun q hq => (hrA.lt q hq).1)
              refine hK _ _ hb5 ?_
              try simp only [Act.put, List.setIfInBounds_toArray, List.set_cons_zero, List.set_cons_succ]
              clear hK K
              refine anyH_one 10 (by rfl) (by kernel_rfl) (by rfl) (fun K hK => ?_)
              refine wp_appendI elString _ _ (by rfl) w5 wn.heap.size v5 _ _ hown5 (by rfl) ⟨wn.heap.size, 0, none⟩ 1 1 [.string y] (by rfl) (by rfl) (fun q u hu => (World.cell?_of_block (by rw [Addr.add_lit]; exact (hg5.block wn.heap.size (by simp; omega) (by simp [Value.ownBlock])).trans (heap_alloc_old _ _ (by simp)))).trans ((new_cellI wn.drew 9 [.string y] wn.heap.size rfl) q u hu)) (fun u hu => by rw [List.mem_singleton.1 hu]; rfl) (by omega) (by omega) (by have := (hb5).size; omega) ?_
              intro v7 w7 hown7 hg7 hat7
              rw [show 0 + jj = jj by omega, List.nil_append] at hown7
              obtain ⟨g9, p9, hv7, hgb, hgp, hgl⟩ := row_someI hown7 (by omega)
              subst hv7
              have hb7 : Below wn.heap.size wn w7 := Below.grown (hb5) hg7 (by have := (hb5).size; omega) (fun q hq => (hown5.lt q hq).1)
              refine hK _ _ hb7 ?_
              try simp only [Act.put, List.setIfInBounds_toArray, List.set_cons_zero, List.set_cons_succ]
              clear hK K
              refine anyH_one 11 (by rfl) (by kernel_rfl) (by rfl) (fun K hK => ?_)
              go_simp
              refine hK _ _ hb7 ?_
              try simp only [Act.put, List.setIfInBounds_toArray, List.set_cons_zero, List.set_cons_succ]
              clear hK K
              refine anyH_done (by kernel_rfl) ?_
              exact HK _ _ ⟨g9, p9, _, _, _, _, _, _, _, _, _, _, (by simp only [Act.put, List.setIfInBounds_toArray, List.set_cons_zero, List.set_cons_succ]; rfl), hb7, hown7⟩
          intro a' w7 hE7
          obtain ⟨g9, p9, v0_, v1_, v2_, v3_, v4_, v5_, v6_, v7_, v8_, v9_, rfl, hb7, hown7⟩ := hE7
          try simp only [Act.put, List.setIfInBounds_toArray, List.set_cons_zero, List.set_cons_succ]
          have hsrc : ∃ A0 : Addr, (if cap = jj then some (⟨g, 0, none⟩ : Addr) else some ⟨g, jj, none⟩) = some A0 ∧ Hid (A0.block = g ∧ ∀ q u, ((([] : List ByteArray)).map Value.string)[q]? = some u → w7.cell? (A0.add q) = some u) := by
            by_cases hc : cap = jj
            · exact ⟨⟨g, 0, none⟩, by simp [hc], rfl, fun q u hu => by simp at hu⟩
            · exact ⟨⟨g, jj, none⟩, by simp [hc], rfl, fun q u hu => by simp at hu⟩
          obtain ⟨A0, hA0, hsrc2⟩ := hsrc
          have hkl : N - jj = (([] : List ByteArray)).length := by have := HL2.out; omega
          have HKL := Lib.hid hkl
          clear hkl
          go_wp2_with (
            at_builtin
            go_must (refine wpList_appendI elString (by rfl) _ _ (by rfl) w7 wn.heap.size _ _ _ hown7 (by rfl) A0 0 (cap - jj) ((([] : List ByteArray)).map Value.string) (by rfl) (by rfl) hsrc2.out.2 (fun u hu => by obtain ⟨z0, _, rfl⟩ := List.mem_map.1 hu; rfl) (by omega) (by omega) (by have := hb7.size; omega) ?_)
            intro v8 w8 hown8 hg8 hat8
            rw [show jj + 1 + 0 = N + 1 by omega] at hown8
            obtain ⟨g8, p8, hv8, hgb8, hgp8, hgl8⟩ := row_someI hown8 (by omega)
            subst hv8)
          refine ⟨⟨k + 1, N + 1, g8, p8, by omega, by omega, by go_num, rfl, Lib.hid ?_, ?_, ?_⟩, by simp [intOf]; omega⟩
          · rw [HNX.out, HI.out, List.length_append, List.length_cons, HJ.out]; have := HL2.out; omega
          · rw [HNX.out, HI.out]
            have := row_mono hown8 (B' := w.heap.size) HBN.out.size
            simpa only [List.map_append, List.map_cons, List.map_nil, List.append_assoc, List.cons_append, List.nil_append] using this
          · exact Below.grown (ext_trans HBN.out hb7) hg8 (by have := HBN.out.size; have := hb7.size; omega) (fun q hq => by have := (hown7.lt q hq).1; have := HBN.out.size; omega)
        | cons z s2 =>
          have hjk : jj < N := by have e1 := congrArg List.length HE.out; have e2 := HSL.out; have e3 := HJ.out; rw [List.length_append, List.length_cons] at e1; omega
          have z0 : wr.cell? ⟨g, jj, none⟩ = some (.string z) := MC.out _ _ _ (HGC.out jj _ (by rw [HE.out, List.getElem?_map, List.getElem?_append_right (by have := HJ.out; omega), show jj - s1.length = 0 by have := HJ.out; omega]; rfl)) hg2
          have hjd : decide ((jj : Int) < (N : Int)) = true := by simp; omega
          cases hL : Op.bytesLess z.toList y.toList with
          | true =>
            have HL := Lib.hid (show blt z y = true from hL)
            go_wp2_with fail
            refine wp_region_grow wr (by kernel_rfl) (by kernel_rfl) (ext_refl _) ?_
            repeat (first
              | (apply inText_skip
                 case hw => rfl
                 simp only [Act.put, List.setIfInBounds_toArray, List.set_cons_zero, List.set_cons_succ])
              | (apply inText_step
                 case hw => rfl
                 case h =>
                   intro wq hq
                   have hcq := (cls_cell hq).1
                   have hfq := (cls_cell hq).2
                   go_simp
                   first
                     | exact ⟨hq, rfl⟩
                     | exact ⟨cls_alloc hq _, rfl⟩
                     | (fail)
                     | (simp only [↓IntWalk.iteOmega]; exact ⟨hq, rfl⟩)
                 simp only [Act.put, List.setIfInBounds_toArray, List.set_cons_zero, List.set_cons_succ]))
            refine inText_nil ?_
            intro wn hn
            replace hn := hn.out
            go_wp2
            refine ⟨⟨s1 ++ [z], s2, jj + 1, Lib.hid (by rw [HE.out]; simp), by go_num, Lib.hid (by rw [List.length_append, HJ.out]; rfl), Lib.hid (fun z' hz => ?_), ext_trans hbr hn⟩, by simp [intOf]; omega⟩
            rcases List.mem_append.1 hz with hz | hz
            · exact HN.out z' hz
            · rw [List.mem_singleton.1 hz]; exact HL.out
          | false =>
            have HL := Lib.hid (show blt z y = false from hL)
            go_wp2_with fail
            refine wp_region_grow wr (by kernel_rfl) (by kernel_rfl) (ext_refl _) ?_
            repeat (first
              | (apply inText_skip
                 case hw => rfl
                 simp only [Act.put, List.setIfInBounds_toArray, List.set_cons_zero, List.set_cons_succ])
              | (apply inText_step
                 case hw => rfl
                 case h =>
                   intro wq hq
                   have hcq := (cls_cell hq).1
                   have hfq := (cls_cell hq).2
                   go_simp
                   first
                     | exact ⟨hq, rfl⟩
                     | exact ⟨cls_alloc hq _, rfl⟩
                     | (fail)
                     | (simp only [↓IntWalk.iteOmega]; exact ⟨hq, rfl⟩)
                 simp only [Act.put, List.setIfInBounds_toArray, List.set_cons_zero, List.set_cons_succ]))
            refine inText_nil ?_
            intro wm hn
            replace hn := hn.out
            have hbm : Below wo.heap.size wo wm := ext_trans hbr hn
            have hgm : g < wm.heap.size := by have := hn.size; omega
            have hbom : b < wm.heap.size := by have := hn.size; omega
            replace k0 := (hn.cell (p := ⟨b, o + k, none⟩) (by first | exact hbor | (dsimp only; omega))).trans k0

            replace z0 := (hn.cell (p := ⟨g, jj, none⟩) (by first | exact hgr | (dsimp only; omega))).trans z0
            clear hbr hn
            obtain ⟨hbr, hbor, hgr⟩ : Below wo.heap.size wo wm ∧ b < wm.heap.size ∧ g < wm.heap.size := ⟨hbm, hbom, hgm⟩
            clear hbm hbom hgm
            clear hL
            cases hE : (z.toList == y.toList) with
            | true =>
              have HI := Lib.hid (show insU blt y (SS) = SS by rw [HE.out]; exact insU_same s1 s2 HN.out HL.out (by rw [bytes_ext hE]; exact totB.irr y))
              go_wp2_with fail
              refine wp_region_grow wm (by kernel_rfl) (by kernel_rfl) (ext_refl _) ?_
              repeat (first
                | (apply inText_skip
                   case hw => rfl
                   simp only [Act.put, List.setIfInBounds_toArray, List.set_cons_zero, List.set_cons_succ])
                | (apply inText_step
                   case hw => rfl
                   case h =>
                     intro wq hq
                     have hcq := (cls_cell hq).1
                     have hfq := (cls_cell hq).2
                     go_simp
                     first
                       | exact ⟨hq, rfl⟩
                       | exact ⟨cls_alloc hq _, rfl⟩
                       | (fail)
                       | (simp only [↓IntWalk.iteOmega]; exact ⟨hq, rfl⟩)
                   simp only [Act.put, List.setIfInBounds_toArray, List.set_cons_zero, List.set_cons_succ]))
              refine inText_nil ?_
              intro wn hn
              replace hn := hn.out
              go_wp2
              exact ⟨⟨k + 1, N, g, cap, by omega, by omega, by go_num, rfl, Lib.hid (by rw [HNX.out, HI.out]; exact HSL.out), by rw [HNX.out, HI.out]; exact row_ext HROW.out (ext_trans hbr hn), ext_trans HBO.out (ext_trans hbr hn)⟩, by simp [intOf]; omega⟩
            | false =>
              have HG := Lib.hid (show blt y z = true by
                cases hh : blt y z with
                | true => rfl
                | false => have := totB.tri z y HL.out hh; rw [this] at hE; simp at hE)
              have HI := Lib.hid (show insU blt y (SS) = s1 ++ y :: (z :: s2) by rw [HE.out]; exact insU_cons s1 s2 HN.out HL.out HG.out)
              go_wp2_with fail
              refine wp_region_grow wm (by kernel_rfl) (by kernel_rfl) (ext_refl _) ?_
              repeat (first
                | (apply inText_skip
                   case hw => rfl
                   simp only [Act.put, List.setIfInBounds_toArray, List.set_cons_zero, List.set_cons_succ])
                | (apply inText_step
                   case hw => rfl
                   case h =>
                     intro wq hq
                     have hcq := (cls_cell hq).1
                     have hfq := (cls_cell hq).2
                     go_simp
                     first
                       | exact ⟨hq, rfl⟩
                       | exact ⟨cls_alloc hq _, rfl⟩
                       | (fail)
                       | (simp only [↓IntWalk.iteOmega]; exact ⟨hq, rfl⟩)
                   simp only [Act.put, List.setIfInBounds_toArray, List.set_cons_zero, List.set_cons_succ]))
              refine inText_nil ?_
              intro wn hn
              replace hn := hn.out
              clear hE
              have hbn : Below wo.heap.size wo wn := ext_trans hbr hn
              have HBN := Lib.hid (show Below w.heap.size w wn from ext_trans HBO.out hbn)
              have hrown := row_ext HROW.out hbn
              obtain ⟨_, hgn, hgcap, hgc2⟩ := row_cellI hrown
              have HNC := Lib.hid (show ∀ q u, ((s1).map Value.string)[q]? = some u → wn.cell? ((⟨g, 0, none⟩ : Addr).add q) = some u from fun q u hu => by
                rw [Addr.add_lit, Nat.zero_add]
                refine hgc2 q u ?_
                rw [HE.out, List.map_append, List.getElem?_append_left (List.getElem?_eq_some_iff.1 hu).1]; exact hu)
              have HN2 := Lib.hid (show ∀ q u, ((z :: s2).map Value.string)[q]? = some u → wn.cell? ⟨g, jj + q, none⟩ = some u from fun q u hu => by
                refine hgc2 (jj + q) u ?_
                rw [HE.out, List.map_append, List.getElem?_append_right (by rw [List.length_map, HJ.out]; omega), List.length_map, HJ.out, Nat.add_sub_cancel_left]; exact hu)
              have hl2 : jj + (z :: s2).length = N := by have e1 := congrArg List.length HE.out; have e2 := HSL.out; have e3 := HJ.out; rw [List.length_append] at e1; omega
              have hjk2 : jj ≤ N := by omega
              have hjc : jj ≤ cap := by omega
              have hcj : ¬ cap = jj := by omega
              replace k0 := (hn.cell (p := ⟨b, o + k, none⟩) (by first | exact hbor | (dsimp only; omega))).trans k0
              have hbn2 : b < wn.heap.size := by have := hn.size; omega
              have HL2 := Lib.hid hl2
              have HBW := Lib.hid hbn
              clear hrown hgc2 hl2 hbn
              go_wp2_with fail
              refine wp_region_anyH wn 12 (by kernel_rfl) (by kernel_rfl) (ext_refl _) ?_
              refine anyH_to (fun a0 a' w' => ∃ (g9 p9 : Nat) (v0_ v1_ v2_ v3_ v4_ v5_ v6_ v7_ v8_ v9_ : Value), a' = (Act.put (Act.put (Act.put (Act.put (Act.put (Act.put (Act.put (Act.put (Act.put (Act.put (Act.put (Act.put a0 (some 46) (v0_)) (some 47) (v1_)) (some 48) (v2_)) (some 49) (v3_)) (some 50) (v4_)) (some 51) (v5_)) (some 52) (v6_)) (some 53) (v7_)) (some 54) (v8_)) (some 55) (v9_)) (some 56) (.slice (some ⟨g9, 0, none⟩) (jj + 1) p9)) (some 6) (.slice (some ⟨g9, 0, none⟩) (jj + 1) p9)) ∧ Below wn.heap.size wn w' ∧ World.ownsRow w' wn.heap.size 9 1 (.slice (some ⟨g9, 0, none⟩) (jj + 1) p9) (jj + 1) (((s1).map Value.string) ++ [.string y])) ?_ ?_
              rotate_left
              · intro HK
                have hbx : Below wn.heap.size wn wn.drew := ext_drew (ext_refl _)
                refine anyH_take 1 _ (by rfl) (by kernel_rfl) (fun _ _ d _ _ h => by cases d <;> exact h) hbx (Or.inl ⟨rfl, fun wq hq => by
                  have hcq := (cls_cell hq).1
                  go_simp
                  try rfl⟩) ?_
                try simp only [Act.put, List.setIfInBounds_toArray, List.set_cons_zero, List.set_cons_succ]
                refine anyH_take 2 _ (by rfl) (by kernel_rfl) (fun _ _ d _ _ h => by cases d <;> exact h) hbx (Or.inl ⟨rfl, fun wq hq => by
                  have hcq := (cls_cell hq).1
                  go_simp
                  try rfl⟩) ?_
                try simp only [Act.put, List.setIfInBounds_toArray, List.set_cons_zero, List.set_cons_succ]
                refine anyH_take 3 _ (by rfl) (by kernel_rfl) (fun _ _ d _ _ h => by cases d <;> exact h) hbx (Or.inl ⟨rfl, fun wq hq => by
                  have hcq := (cls_cell hq).1
                  go_simp
                  try rfl⟩) ?_
                try simp only [Act.put, List.setIfInBounds_toArray, List.set_cons_zero, List.set_cons_succ]
                refine anyH_take 5 _ (by rfl) (by kernel_rfl) (fun _ _ d _ _ h => by cases d <;> exact h) hbx (Or.inl ⟨rfl, fun wq hq => by
                  have hcq := (cls_cell hq).1
                  go_simp
                  try rfl⟩) ?_
                try simp only [Act.put, List.setIfInBounds_toArray, List.set_cons_zero, List.set_cons_succ]
                refine anyH_take 6 _ (by rfl) (by kernel_rfl) (fun _ _ d _ _ h => by cases d <;> exact h) hbx (Or.inl ⟨rfl, fun wq hq => by
                  have hcq := (cls_cell hq).1
                  go_simp
                  try rfl⟩) ?_
                try simp only [Act.put, List.setIfInBounds_toArray, List.set_cons_zero, List.set_cons_succ]
                refine anyH_take 7 _ (by rfl) (by kernel_rfl) (fun _ _ d _ _ h => by cases d <;> exact h) hbx (Or.inl ⟨rfl, fun wq hq => by
                  have hcq := (cls_cell hq).1
                  go_simp
                  try rfl⟩) ?_
                try simp only [Act.put, List.setIfInBounds_toArray, List.set_cons_zero, List.set_cons_succ]
                refine anyH_take 8 _ (by rfl) (by kernel_rfl) (fun _ _ d _ _ h => by cases d <;> exact h) hbx (Or.inl ⟨rfl, fun wq hq => by
                  have hcq := (cls_cell hq).1
                  go_simp
                  try rfl⟩) ?_
                try simp only [Act.put, List.setIfInBounds_toArray, List.set_cons_zero, List.set_cons_succ]
                refine anyH_two 0 9 (by rfl) (by rfl) (by kernel_rfl) (by rfl) (by rfl) (fun K hK => ?_) (fun K hK => ?_)
                · go_simp
                  refine hK _ _ (ext_alloc hbx (.cells #[] 9)) ?_
                  try simp only [Act.put, List.setIfInBounds_toArray, List.set_cons_zero, List.set_cons_succ]
                  clear hK K
                  have hbA := ext_alloc hbx (.cells #[] 9)
                  have hrA := row_newI wn.drew 9 1 wn.heap.size rfl
                  refine anyH_two 4 9 (by rfl) (by rfl) (by kernel_rfl) (by rfl) (by rfl) (fun K hK => ?_) (fun K hK => ?_)
                  · refine wp_appendI elString _ _ (by rfl) (wn.drew.alloc (.cells #[] 9)) wn.heap.size _ 0 [] hrA (by rfl) ⟨g, 0, none⟩ jj cap (((s1).map Value.string)) (by rfl) (by rw [List.length_map, HJ.out, Nat.mul_one]) (fun q u hu => (hbA.cell (p := (⟨g, 0, none⟩ : Addr).add q) (by rw [Addr.add_lit]; exact hgn)).trans (HNC.out q u hu)) (fun u hu => by obtain ⟨z0, _, rfl⟩ := List.mem_map.1 hu; rfl) (by omega) (by omega) (by have := (hbA).size; omega) ?_
                    intro v5 w5 hown5 hg5 hat5
                    have hb5 : Below wn.heap.size wn w5 := Below.grown (hbA) hg5 (by have := (hbA).size; omega) (fun q hq => (hrA.lt q hq).1)
                    refine hK _ _ hb5 ?_
                    try simp only [Act.put, List.setIfInBounds_toArray, List.set_cons_zero, List.set_cons_succ]
                    clear hK K
                    refine anyH_one 9 (by rfl) (by kernel_rfl) (by rfl) (fun K hK => ?_)
                    go_simp
                    refine hK _ _ (ext_alloc hb5 (.cells #[.string y] 9)) ?_
                    try simp only [Act.put, List.setIfInBounds_toArray, List.set_cons_zero, List.set_cons_succ]
                    clear hK K
                    have hbB := ext_alloc hb5 (.cells #[.string y] 9)
                    refine anyH_one 10 (by rfl) (by kernel_rfl) (by rfl) (fun K hK => ?_)
                    refine wp_appendI elString _ _ (by rfl) (w5.alloc (.cells #[.string y] 9)) wn.heap.size v5 _ _ (row_ext hown5 (ext_alloc (ext_refl _) _)) (by rfl) ⟨w5.heap.size, 0, none⟩ 1 1 [.string y] (by rfl) (by rfl) (new_cellI w5 9 [.string y] w5.heap.size rfl) (fun u hu => by rw [List.mem_singleton.1 hu]; rfl) (by omega) (by omega) (by have := (hbB).size; omega) ?_
                    intro v7 w7 hown7 hg7 hat7
                    rw [show 0 + jj = jj by omega, List.nil_append] at hown7
                    obtain ⟨g9, p9, hv7, hgb, hgp, hgl⟩ := row_someI hown7 (by omega)
                    subst hv7
                    have hb7 : Below wn.heap.size wn w7 := Below.grown (hbB) hg7 (by have := (hbB).size; omega) (fun q hq => (hown5.lt q hq).1)
                    refine hK _ _ hb7 ?_
                    try simp only [Act.put, List.setIfInBounds_toArray, List.set_cons_zero, List.set_cons_succ]
                    clear hK K
                    refine anyH_one 11 (by rfl) (by kernel_rfl) (by rfl) (fun K hK => ?_)
                    go_simp
                    refine hK _ _ hb7 ?_
                    try simp only [Act.put, List.setIfInBounds_toArray, List.set_cons_zero, List.set_cons_succ]
                    clear hK K
                    refine anyH_done (by kernel_rfl) ?_
                    exact HK _ _ ⟨g9, p9, _, _, _, _, _, _, _, _, _, _, (by simp only [Act.put, List.setIfInBounds_toArray, List.set_cons_zero, List.set_cons_succ]; rfl), hb7, hown7⟩
                  · go_simp
                    refine hK _ _ (ext_alloc hbA (.cells #[.string y] 9)) ?_
                    try simp only [Act.put, List.setIfInBounds_toArray, List.set_cons_zero, List.set_cons_succ]
                    clear hK K
                    have hbB := ext_alloc hbA (.cells #[.string y] 9)
                    replace hrA := row_ext hrA (ext_alloc (ext_refl _) (.cells #[.string y] 9))
                    refine anyH_one 4 (by rfl) (by kernel_rfl) (by rfl) (fun K hK => ?_)
                    refine wp_appendI elString _ _ (by rfl) ((wn.drew.alloc (.cells #[] 9)).alloc (.cells #[.string y] 9)) wn.heap.size _ 0 [] hrA (by rfl) ⟨g, 0, none⟩ jj cap (((s1).map Value.string)) (by rfl) (by rw [List.length_map, HJ.out, Nat.mul_one]) (fun q u hu => (hbB.cell (p := (⟨g, 0, none⟩ : Addr).add q) (by rw [Addr.add_lit]; exact hgn)).trans (HNC.out q u hu)) (fun u hu => by obtain ⟨z0, _, rfl⟩ := List.mem_map.1 hu; rfl) (by omega) (by omega) (by have := (hbB).size; omega) ?_
                    intro v5 w5 hown5 hg5 hat5
                    have hb5 : Below wn.heap.size wn w5 := Below.grown (hbB) hg5 (by have := (hbB).size; omega) (fun q hq => (hrA.lt q hq).1)
                    refine hK _ _ hb5 ?_
                    try simp only [Act.put, List.setIfInBounds_toArray, List.set_cons_zero, List.set_cons_succ]
                    clear hK K
                    refine anyH_one 10 (by rfl) (by kernel_rfl) (by rfl) (fun K hK => ?_)
                    refine wp_appendI elString _ _ (by rfl) w5 wn.heap.size v5 _ _ hown5 (by rfl) ⟨wn.heap.size + 1, 0, none⟩ 1 1 [.string y] (by rfl) (by rfl) (fun q u hu => (World.cell?_of_block (by rw [Addr.add_lit]; exact hg5.block (wn.heap.size + 1) (by simp) (by simp [Value.ownBlock]))).trans ((new_cellI (wn.drew.alloc (.cells #[] 9)) 9 [.string y] (wn.heap.size + 1) (by simp)) q u hu)) (fun u hu => by rw [List.mem_singleton.1 hu]; rfl) (by omega) (by omega) (by have := (hb5).size; omega) ?_
                    intro v7 w7 hown7 hg7 hat7
                    rw [show 0 + jj = jj by omega, List.nil_append] at hown7
                    obtain ⟨g9, p9, hv7, hgb, hgp, hgl⟩ := row_someI hown7 (by omega)
                    subst hv7
                    have hb7 : Below wn.heap.size wn w7 := Below.grown (hb5) hg7 (by have := (hb5).size; omega) (fun q hq => (hown5.lt q hq).1)
                    refine hK _ _ hb7 ?_
                    try simp only [Act.put, List.setIfInBounds_toArray, List.set_cons_zero, List.set_cons_succ]
                    clear hK K
                    refine anyH_one 11 (by rfl) (by kernel_rfl) (by rfl) (fun K hK => ?_)
                    go_simp
                    refine hK _ _ hb7 ?_
                    try simp only [Act.put, List.setIfInBounds_toArray, List.set_cons_zero, List.set_cons_succ]
                    clear hK K
                    refine anyH_done (by kernel_rfl) ?_
                    exact HK _ _ ⟨g9, p9, _, _, _, _, _, _, _, _, _, _, (by simp only [Act.put, List.setIfInBounds_toArray, List.set_cons_zero, List.set_cons_succ]; rfl), hb7, hown7⟩
                · go_simp
                  refine hK _ _ (ext_alloc hbx (.cells #[.string y] 9)) ?_
                  try simp only [Act.put, List.setIfInBounds_toArray, List.set_cons_zero, List.set_cons_succ]
                  clear hK K
                  have hbB := ext_alloc hbx (.cells #[.string y] 9)
                  refine anyH_one 0 (by rfl) (by kernel_rfl) (by rfl) (fun K hK => ?_)
                  go_simp
                  refine hK _ _ (ext_alloc hbB (.cells #[] 9)) ?_
                  try simp only [Act.put, List.setIfInBounds_toArray, List.set_cons_zero, List.set_cons_succ]
                  clear hK K
                  have hbA := ext_alloc hbB (.cells #[] 9)
                  have hrA := row_mono (row_newI (wn.drew.alloc (.cells #[.string y] 9)) 9 1 (wn.heap.size + 1) (by simp)) (B' := wn.heap.size) (by omega)
                  refine anyH_one 4 (by rfl) (by kernel_rfl) (by rfl) (fun K hK => ?_)
                  refine wp_appendI elString _ _ (by rfl) ((wn.drew.alloc (.cells #[.string y] 9)).alloc (.cells #[] 9)) wn.heap.size _ 0 [] hrA (by rfl) ⟨g, 0, none⟩ jj cap (((s1).map Value.string)) (by rfl) (by rw [List.length_map, HJ.out, Nat.mul_one]) (fun q u hu => (hbA.cell (p := (⟨g, 0, none⟩ : Addr).add q) (by rw [Addr.add_lit]; exact hgn)).trans (HNC.out q u hu)) (fun u hu => by obtain ⟨z0, _, rfl⟩ := List.mem_map.1 hu; rfl) (by omega) (by omega) (by have := (hbA).size; omega) ?_
                  intro v5 w5 hown5 hg5 hat5
                  have hb5 : Below wn.heap.size wn w5 := Below.grown (hbA) hg5 (by have := (hbA).size; omega) (fun q hq => (hrA.lt q hq).1)
                  refine hK _ _ hb5 ?_
                  try simp only [Act.put, List.setIfInBounds_toArray, List.set_cons_zero, List.set_cons_succ]
                  clear hK K
                  refine anyH_one 10 (by rfl) (by kernel_rfl) (by rfl) (fun K hK => ?_)
                  refine wp_appendI elString _ _ (by rfl) w5 wn.heap.size v5 _ _ hown5 (by rfl) ⟨wn.heap.size, 0, none⟩ 1 1 [.string y] (by rfl) (by rfl) (fun q u hu => (World.cell?_of_block (by rw [Addr.add_lit]; exact (hg5.block wn.heap.size (by simp; omega) (by simp [Value.ownBlock])).trans (heap_alloc_old _ _ (by simp)))).trans ((new_cellI wn.drew 9 [.string y] wn.heap.size rfl) q u hu)) (fun u hu => by rw [List.mem_singleton.1 hu]; rfl) (by omega) (by omega) (by have := (hb5).size; omega) ?_
                  intro v7 w7 hown7 hg7 hat7
                  rw [show 0 + jj = jj by omega, List.nil_append] at hown7
                  obtain ⟨g9, p9, hv7, hgb, hgp, hgl⟩ := row_someI hown7 (by omega)
                  subst hv7
                  have hb7 : Below wn.heap.size wn w7 := Below.grown (hb5) hg7 (by have := (hb5).size; omega) (fun q hq => (hown5.lt q hq).1)
                  refine hK _ _ hb7 ?_
                  try simp only [Act.put, List.setIfInBounds_toArray, List.set_cons_zero, List.set_cons_succ]
                  clear hK K
                  refine anyH_one 11 (by rfl) (by kernel_rfl) (by rfl) (fun K hK => ?_)
                  go_simp
                  refine hK _ _ hb7 ?_
                  try simp only [Act.put, List.setIfInBounds_toArray, List.set_cons_zero, List.set_cons_succ]
                  clear hK K
                  refine anyH_done (by kernel_rfl) ?_
                  exact HK _ _ ⟨g9, p9, _, _, _, _, _, _, _, _, _, _, (by simp only [Act.put, List.setIfInBounds_toArray, List.set_cons_zero, List.set_cons_succ]; rfl), hb7, hown7⟩
              intro a' w7 hE7
              obtain ⟨g9, p9, v0_, v1_, v2_, v3_, v4_, v5_, v6_, v7_, v8_, v9_, rfl, hb7, hown7⟩ := hE7
              try simp only [Act.put, List.setIfInBounds_toArray, List.set_cons_zero, List.set_cons_succ]
              have hkl : N - jj = (z :: s2).length := by have := HL2.out; omega
              have HKL := Lib.hid hkl
              clear hkl
              go_wp2_with (
                at_builtin
                go_must (refine wpList_appendI elString (by rfl) _ _ (by rfl) w7 wn.heap.size _ _ _ hown7 (by rfl) ⟨g, jj, none⟩ (N - jj) (cap - jj) ((z :: s2).map Value.string) (by rfl) (by rw [List.length_map, HKL.out, Nat.mul_one]) (fun q u hu => by rw [Addr.add_lit]; exact (hb7.cell (p := ⟨g, jj + q, none⟩) hgn).trans (HN2.out q u hu)) (fun u hu => by obtain ⟨z0, _, rfl⟩ := List.mem_map.1 hu; rfl) (by omega) (by omega) (by have := hb7.size; omega) ?_)
                intro v8 w8 hown8 hg8 hat8
                rw [show jj + 1 + (N - jj) = N + 1 by omega] at hown8
                obtain ⟨g8, p8, hv8, hgb8, hgp8, hgl8⟩ := row_someI hown8 (by omega)
                subst hv8)
              refine ⟨⟨k + 1, N + 1, g8, p8, by omega, by omega, by go_num, rfl, Lib.hid ?_, ?_, ?_⟩, by simp [intOf]; omega⟩
              · rw [HNX.out, HI.out, List.length_append, List.length_cons, HJ.out]; have := HL2.out; omega
              · rw [HNX.out, HI.out]
                have := row_mono hown8 (B' := w.heap.size) HBN.out.size
                simpa only [List.map_append, List.map_cons, List.map_nil, List.append_assoc, List.cons_append, List.nil_append] using this
              · exact Below.grown (ext_trans HBN.out hb7) hg8 (by have := HBN.out.size; have := hb7.size; omega) (fun q hq => by have := (hown7.lt q hq).1; have := HBN.out.size; omega)
    · have hkl : k = xs.length := by omega
      subst hkl
      rw [List.take_length] at hrow HSL
      rw [← HSL.out] at hrow
      obtain ⟨A4, c4, G4, hv4, hO4⟩ := rdStr_own (valsR xs) hrow (fun x hx => HRD.out x (valsR_mem hx) wr)
      rw [HSL.out] at hv4
      simp only [Value.slice.injEq, true_and] at hv4
      obtain ⟨hA4, hc4⟩ := hv4
      subst hA4 hc4
      have HO4 := Lib.hid hO4
      have HRM := Lib.hid (RoomS.of_row hrow (Nat.le_refl _))
      clear hrow hO4
      go_wp2
      go_ret
      exact ⟨some ⟨g, 0, none⟩, cap, G4, by rw [HSL.out]; try rfl, HO4.out, hbl, HRM.out⟩
theorem l15Values_any (xs : List ByteArray) (A : Option Addr) (c : Nat) (F : List Nat) (w : World) (h : Sl w xs A c F) (hl : (xs.length : Int) ≤ 1048576) :
    Calls Tryz.prog 45 #[.slice A xs.length c] w fun e w' => ∃ A' c' G, e = .returned (.slice A' (valsR xs).length c') ∧ Own w' w.heap.size (valsR xs) [.slice A' (valsR xs).length c'] G ∧ Below w.heap.size w w' :=
  (l15Values_room xs A c F w h hl).mono fun _ _ ⟨A', c', G, a, b, d, _⟩ => ⟨A', c', G, a, b, d⟩
end Go.Proofs.YtegekccoincicaaGreatDoor
