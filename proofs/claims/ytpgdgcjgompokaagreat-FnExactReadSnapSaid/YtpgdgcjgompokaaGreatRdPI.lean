/- The program's reader of pods. No condition. -/
import Derived.Test.YtpgdgcjgompokaaGreatRowsX
namespace Go.Proofs.YtpgdgcjgompokaaGreat
open Go.ChangeShapes Go.WideShapes Go.ChangeAt Go.RowKit
set_option linter.unusedVariables false
set_option linter.unusedSimpArgs false
set_option maxRecDepth 100000 in
set_option maxHeartbeats 8000000 in
theorem pod_any (s : ByteArray) (b : Nat) (a : Int) (w : World) (h : ICur w b s a) (hs : (s.size : Int) ≤ 1048576) :
    Calls Tryz.prog 19 #[.pointer (some ⟨b, 0, none⟩)] w fun e w' => ∃ ds F, e = .returned (.agg ds.toArray) ∧ Own w' w.heap.size (podI s a).1 ds F ∧ ICur w' b s (podI s a).2 ∧ Upd [b] w w' := by
  have hlt := h.lt
  have H := Lib.hid h
  clear h
  obtain ⟨t1, et1⟩ : ∃ t, textI s a = t := ⟨_, rfl⟩
  obtain ⟨L, eL⟩ : ∃ t, labelsI s t1.2 = t := ⟨_, rfl⟩
  obtain ⟨c, ec⟩ : ∃ t, varI s L.2 = t := ⟨_, rfl⟩
  obtain ⟨m, em⟩ : ∃ t, varI s c.2 = t := ⟨_, rfl⟩
  obtain ⟨o, eo⟩ : ∃ t, varI s m.2 = t := ⟨_, rfl⟩
  obtain ⟨q, eq⟩ : ∃ t, countI s 4 o.2 = t := ⟨_, rfl⟩
  obtain ⟨⟨R1, R2⟩, eR⟩ : ∃ t, loopI (needI s) q.1.toNat [] q.2 = t := ⟨_, rfl⟩
  obtain ⟨q2, eq2⟩ : ∃ t, countI s 4 R2 = t := ⟨_, rfl⟩
  obtain ⟨⟨T1, T2⟩, eT⟩ : ∃ t, loopI (tolI s) q2.1.toNat [] q2.2 = t := ⟨_, rfl⟩
  have HRW := Lib.hid (show podRaw s a = (⟨t1.1, L.1, c.1, m.1, o.1, R1, T1⟩, T2) by
    unfold podRaw restPI manyI
    rw [et1, eL, ec, em, eo, eq, eR]
    dsimp only
    rw [eq2, eT])
  have HH := Lib.hid (show podI s a = ((podRaw s a).1, if podR (podRaw s a).1 = true then (podRaw s a).2 else -1) from rfl)
  have HT := Lib.hid (fun wq hq => text_any s b a wq hq hs)
  have HL := Lib.hid (fun wq hq => labels_any s b t1.2 wq hq hs)
  have HC := Lib.hid (fun wq hq => num_any s b L.2 wq hq hs)
  have HM := Lib.hid (fun wq hq => num_any s b c.2 wq hq hs)
  have HO := Lib.hid (fun wq hq => num_any s b m.2 wq hq hs)
  have HN := Lib.hid (fun wq hq => count_any s b o.2 4 wq hq hs (by decide))
  have HN2 := Lib.hid (fun wq hq => count_any s b R2 4 wq hq hs (by decide))
  rw [et1] at HT
  rw [eL] at HL
  rw [ec] at HC
  rw [em] at HM
  rw [eo] at HO
  rw [eq] at HN
  rw [eq2] at HN2
  have hts : (t1.1.size : Int) ≤ 1048576 := et1 ▸ textI_size s a hs
  have hln : L.1.length ≤ 6 := eL ▸ labelsI_len s t1.2
  have HSL := Lib.hid (show ∀ l ∈ L.1, (l.key.size : Int) ≤ 1048576 ∧ (l.value.size : Int) ≤ 1048576 from eL ▸ labelsI_small s t1.2 hs)
  have hci : I64 c.1 := ec ▸ varI_I64a s L.2 hs
  have hmi : I64 m.1 := em ▸ varI_I64a s c.2 hs
  have hoi : I64 o.1 := eo ▸ varI_I64a s m.2 hs
  have hcw : 0 ≤ q.1 ∧ q.1 ≤ 4 := eq ▸ countI_ways s 4 o.2 (by decide)
  have hcw2 : 0 ≤ q2.1 ∧ q2.1 ≤ 4 := eq2 ▸ countI_ways s 4 R2 (by decide)
  have HSN := Lib.hid (show ∀ l ∈ R1, SmallN l by
    have h := loopI_all (fun a => needI_small s a hs) q.1.toNat [] q.2 (fun l hl => by cases hl)
    rw [eR] at h; exact h)
  have HST := Lib.hid (show ∀ l ∈ T1, SmallT l by
    have h := loopI_all (fun a => tolI_small s a hs) q2.1.toNat [] q2.2 (fun l hl => by cases hl)
    rw [eT] at h; exact h)
  obtain ⟨N, hN⟩ : ∃ N : Nat, q.1 = N := ⟨q.1.toNat, by omega⟩
  rw [hN, Int.toNat_natCast] at eR
  obtain ⟨N2, hN2⟩ : ∃ N : Nat, q2.1 = N := ⟨q2.1.toNat, by omega⟩
  rw [hN2, Int.toNat_natCast] at eT
  have HRR := Lib.hid eR
  have HTT := Lib.hid eT
  have hN4 : N ≤ 4 := by omega
  have hN24 : N2 ≤ 4 := by omega
  have HNN := Lib.hid hN
  have HNN2 := Lib.hid hN2
  generalize podRaw s a = HW at HH HRW
  clear et1 eL ec em eo eq eR eq2 eT hN hN2 hcw hcw2
  go_enter Tryz.func19, Tryz.ntmps19
  go_wp2_with fail
  refine (HT.out _ (H.out.ext (ext_alloc (ext_refl _) _))).mono ?_
  rintro e w1 ⟨rfl, hI1, hu1⟩
  have hz1 : w.heap.size < w1.heap.size := by have := hu1.size; simp at this; omega
  have RB1 := (Blk.new w [.string ⟨#[]⟩, .slice none 0 0, .int .i64 0, .int .i64 0, .int .i64 0, .slice none 0 0, .slice none 0 0] 46).upd hu1 (by omega)
  have hu1' : Upd [b] w w1 := ((Upd.refl _ _).alloc _).trans hu1
  have S1 : St [.string ⟨#[]⟩, .slice none 0 0, .int .i64 0, .int .i64 0, .int .i64 0, .slice none 0 0, .slice none 0 0] w (w1.alloc (.cells #[.string t1.1, .slice none 0 0, .int .i64 0, .int .i64 0, .int .i64 0, .slice none 0 0, .slice none 0 0] 46)) b w1.heap.size s t1.2 [.string t1.1, .slice none 0 0, .int .i64 0, .int .i64 0, .int .i64 0, .slice none 0 0, .slice none 0 0] :=
    ⟨hI1.ext (ext_alloc (ext_refl _) _), hu1'.alloc _, Blk.new w1 [.string t1.1, .slice none 0 0, .int .i64 0, .int .i64 0, .int .i64 0, .slice none 0 0, .slice none 0 0] 46, RB1.ext (ext_alloc (ext_refl _) _), hlt, hz1⟩
  clear hI1 hu1 RB1
  go_wp2_with fail
  refine (HL.out _ S1.cur).mono ?_
  rintro e w2 ⟨A2, c2, G2, rfl, hO2, hI2, hu2⟩
  have S2 := S1.call hI2 hu2
  clear hI2
  replace hO2 : Own w2 (w1.heap.size + 1) L.1 [.slice A2 L.1.length c2] G2 := hO2.mono (by simp)
  have hbs2 := hO2.base
  have k2 := S2.box.cell (i := 1) (u := .slice none 0 0) rfl
  have f2 := S2.box.fz 1
  have l2 := S2.box.lt
  have T2' := S2.put 1 (.slice A2 L.1.length c2)
  have O2 := hO2.setCell (p := ⟨w1.heap.size, 1, none⟩) (by show w1.heap.size < _; omega) (.slice A2 L.1.length c2)
  go_wp2_with fail
  refine (HC.out _ T2'.cur).mono ?_
  rintro e w3 ⟨rfl, hI3, hu3⟩
  have S3 := T2'.call hI3 hu3
  have O3 := hu3.own O2 (fun y hy hb => by have := hbs2 y hy; simp only [List.mem_singleton] at hb; omega)
  have k3 := S3.box.cell (i := 2) (u := .int .i64 0) rfl
  have f3 := S3.box.fz 2
  have l3 := S3.box.lt
  have T3' := S3.put 2 (.int .i64 c.1)
  have P3 := O3.setCell (p := ⟨w1.heap.size, 2, none⟩) (by show w1.heap.size < _; omega) (.int .i64 c.1)
  go_wp2_with fail
  refine (HM.out _ T3'.cur).mono ?_
  rintro e w4 ⟨rfl, hI4, hu4⟩
  have S4 := T3'.call hI4 hu4
  have O4 := hu4.own P3 (fun y hy hb => by have := hbs2 y hy; simp only [List.mem_singleton] at hb; omega)
  have k4 := S4.box.cell (i := 3) (u := .int .i64 0) rfl
  have f4 := S4.box.fz 3
  have l4 := S4.box.lt
  have T4' := S4.put 3 (.int .i64 m.1)
  have P4 := O4.setCell (p := ⟨w1.heap.size, 3, none⟩) (by show w1.heap.size < _; omega) (.int .i64 m.1)
  go_wp2_with fail
  refine (HO.out _ T4'.cur).mono ?_
  rintro e w5 ⟨rfl, hI5, hu5⟩
  have S5 := T4'.call hI5 hu5
  have O5 := hu5.own P4 (fun y hy hb => by have := hbs2 y hy; simp only [List.mem_singleton] at hb; omega)
  have k5 := S5.box.cell (i := 4) (u := .int .i64 0) rfl
  have f5 := S5.box.fz 4
  have l5 := S5.box.lt
  have T5' := S5.put 4 (.int .i64 o.1)
  have P5 := O5.setCell (p := ⟨w1.heap.size, 4, none⟩) (by show w1.heap.size < _; omega) (.int .i64 o.1)
  go_wp2_with fail
  refine (HN.out _ T5'.cur).mono ?_
  rw [HNN.out]
  rintro e w6 ⟨rfl, hI6, hu6⟩
  have S6 := T5'.call hI6 hu6
  have O6 := hu6.own P5 (fun y hy hb => by have := hbs2 y hy; simp only [List.mem_singleton] at hb; omega)
  have hlt6 := O6.lt
  obtain ⟨B3, hB3⟩ : ∃ B3, w6.heap.size = B3 := ⟨_, rfl⟩
  have hg3 : w1.heap.size < B3 := by rw [← hB3]; exact S6.box.lt
  rw [hB3] at hlt6
  have hr6 : w6.ownsRow B3 72 3 (.slice none 0 0) 0 [] := ⟨rfl, .inl ⟨rfl, rfl⟩⟩
  have HB3 := Lib.hid hB3
  have HO6 := Lib.hid O6
  have hbB : b < B3 := by omega
  clear hB3 O6 S1 S2 S3 S4 S5 T2' T3' T4' T5' hO2 O2 O3 P3 O4 P4 O5 P5 hI3 hu3 hI4 hu4 hI5 hu5 hI6 hu6 hu2 k2 f2 l2 k3 f3 l3 k4 f4 l4 k5 f5 l5
  go_wp2_with fail
  go_loopw [4] (fun n wr => ∃ (k : Nat) (xs : List Need) (ds : List Value) (F : List Nat) (a' : Int) (v : Value), n = .int .i64 k ∧ xs.length + k ≤ 4 ∧ Hid (loopI (needI s) k xs a' = (R1, R2)) ∧ wr.ownsRow B3 72 3 v xs.length ds ∧ OwnCells wr B3 xs ds F ∧ (∀ g, v.ownBlock = some g → g ∉ F) ∧ St [.string ⟨#[]⟩, .slice none 0 0, .int .i64 0, .int .i64 0, .int .i64 0, .slice none 0 0, .slice none 0 0] w wr b w1.heap.size s a' [.string t1.1, .slice A2 L.1.length c2, .int .i64 c.1, .int .i64 m.1, .int .i64 o.1, v, .slice none 0 0] ∧ Upd [b, w1.heap.size] w6 wr ∧ B3 ≤ wr.heap.size) (fun n _ => (intOf n).toNat)
  case atStart => exact ⟨N, [], [], [], q.2, .slice none 0 0, rfl, by simpa using hN4, HRR.out, hr6, OwnCells.nil _ _, (fun g hg => by simp), S6, Upd.refl _ _, by have := HB3.out; omega⟩
  case round =>
    obtain ⟨k, xs, ds, F, a', v, rfl, hk4, HLP, hown, hcs, hne, hS, hU, hBr⟩ := hrel
    cases k with
    | zero =>
      have hl0 := HLP.out
      rw [loopI] at hl0
      obtain ⟨rfl, rfl⟩ : xs = R1 ∧ a' = R2 := Prod.mk.inj hl0
      clear hl0
      obtain ⟨A6, c6, G6, hv6, hON⟩ := Own.of_row hown hcs hne
      subst hv6
      have hOL := hU.own HO6.out (fun y hy hb => by have := hbs2 y hy; simp only [List.mem_cons, List.not_mem_nil, or_false] at hb; omega)
      obtain ⟨wo, hwo⟩ : ∃ wo, wo = wr := ⟨_, rfl⟩
      subst hwo
      clear hown hcs hne hU HO6
      go_wp2_with fail
      refine (HN2.out _ hS.cur).mono ?_
      rw [HNN2.out]
      rintro e w20 ⟨rfl, hI20, hu20⟩
      have S20 := hS.call hI20 hu20
      have HOL := Lib.hid (hu20.own hOL (fun y hy hb => by have := hbs2 y hy; simp only [List.mem_singleton] at hb; omega))
      have HON := Lib.hid (hu20.own hON (fun y hy hb => by have := hON.base y hy; simp only [List.mem_singleton] at hb; omega))
      have hz20 : wo.heap.size ≤ w20.heap.size := hu20.size
      obtain ⟨B7, hB7⟩ : ∃ B7, w20.heap.size = B7 := ⟨_, rfl⟩
      have hr20 : w20.ownsRow B7 74 4 (.slice none 0 0) 0 [] := ⟨rfl, .inl ⟨rfl, rfl⟩⟩
      have hb37 : B3 ≤ B7 := by omega
      have HB7 := Lib.hid hB7
      have hg7 : w1.heap.size < B7 := by omega
      clear hB7 hOL hON hI20 hu20 hS
      go_wp2_with fail
      go_loopw [7] (fun n wr => ∃ (k : Nat) (ys : List Tolerance) (ds : List Value) (a3 : Int) (v : Value), n = .int .i64 k ∧ ys.length + k ≤ 4 ∧ Hid (loopI (tolI s) k ys a3 = (T1, T2)) ∧ wr.ownsRow B7 74 4 v ys.length ds ∧ OwnCells wr B7 ys ds [] ∧ St [.string ⟨#[]⟩, .slice none 0 0, .int .i64 0, .int .i64 0, .int .i64 0, .slice none 0 0, .slice none 0 0] w wr b w1.heap.size s a3 [.string t1.1, .slice A2 L.1.length c2, .int .i64 c.1, .int .i64 m.1, .int .i64 o.1, .slice A6 xs.length c6, v] ∧ Upd [b, w1.heap.size] w20 wr ∧ B7 ≤ wr.heap.size) (fun n _ => (intOf n).toNat)
      case atStart => exact ⟨N2, [], [], q2.2, .slice none 0 0, rfl, by simpa using hN24, HTT.out, hr20, OwnCells.nil _ _, S20, Upd.refl _ _, by have := HB7.out; omega⟩
      case round =>
        obtain ⟨k, ys, ds, a3, v, rfl, hk4, HLP, hown, hcs, hS, hU, hBr⟩ := hrel
        cases k with
        | zero =>
          have hl0 := HLP.out
          rw [loopI] at hl0
          obtain ⟨rfl, rfl⟩ : ys = T1 ∧ a3 = T2 := Prod.mk.inj hl0
          clear hl0
          obtain ⟨A8, c8, G8, hv8, hOT⟩ := Own.of_row hown hcs (fun _ _ hb => by cases hb)
          subst hv8
          have hOL := hU.own HOL.out (fun y hy hb => by have := hbs2 y hy; simp only [List.mem_cons, List.not_mem_nil, or_false] at hb; omega)
          have hON := hU.own HON.out (fun y hy hb => by have := HON.out.base y hy; simp only [List.mem_cons, List.not_mem_nil, or_false] at hb; omega)
          have hOH : Own wr (w1.heap.size + 1) (⟨t1.1, L.1, c.1, m.1, o.1, xs, ys⟩ : Pod) [.string t1.1, .slice A2 L.1.length c2, .int .i64 c.1, .int .i64 m.1, .int .i64 o.1, .slice A6 xs.length c6, .slice A8 ys.length c8] (G2 ++ (G6 ++ G8)) := by
            refine Own.up (B' := w1.heap.size + 1) (fun x : Pod => (x.name, x.labels, x.cpu, x.mem, x.rank, x.needs, x.tolerances)) ?_ (Nat.le_refl _)
            refine Own.cons (c1 := [.string t1.1]) (rdStr _ t1.1 (by omega)) ?_
            refine Own.pair (B2 := B3) (c1 := [.slice A2 L.1.length c2]) (F1 := G2) hOL ?_ (by omega) hlt6
            refine Own.cons (c1 := [.int .i64 c.1]) (rdInt _ c.1 hci) ?_
            refine Own.cons (c1 := [.int .i64 m.1]) (rdInt _ m.1 hmi) ?_
            refine Own.cons (c1 := [.int .i64 o.1]) (rdInt _ o.1 hoi) ?_
            exact Own.pair (B2 := B7) (c1 := [.slice A6 xs.length c6]) (F1 := G6) hON hOT (by omega) (fun y hy => by have := HON.out.lt y hy; have := HB7.out; omega)
          have k0 := hS.box.cell (i := 0) (u := .string t1.1) rfl
          have k1 := hS.box.cell (i := 1) (u := .slice A2 L.1.length c2) rfl
          have k2 := hS.box.cell (i := 2) (u := .int .i64 c.1) rfl
          have k3 := hS.box.cell (i := 3) (u := .int .i64 m.1) rfl
          have k4 := hS.box.cell (i := 4) (u := .int .i64 o.1) rfl
          have k5 := hS.box.cell (i := 5) (u := .slice A6 xs.length c6) rfl
          have k6 := hS.box.cell (i := 6) (u := .slice A8 ys.length c8) rfl
          have kl := hS.box.lt
          have HOH := Lib.hid hOH
          have HS := Lib.hid hS
          clear hOH hOT hOL hON hown hcs hS hU
          have hll : (L.1.length : Int) ≤ 1048576 := by omega
          have hnl : (xs.length : Int) ≤ 1048576 := by omega
          have htl : (ys.length : Int) ≤ 1048576 := by omega
          go_wp2_with fail
          refine (PodOkC_impl (⟨t1.1, L.1, c.1, m.1, o.1, xs, ys⟩ : Pod) _ _ _ HOH.out.rd hts hll HSL.out hnl HSN.out htl HST.out).mono ?_
          rintro e w27 ⟨rfl, hb27⟩
          go_wp2_with fail
          refine (must_any s b a3 _ _ (HS.out.cur.ext hb27)).mono ?_
          rintro e w28 ⟨rfl, hI28, hu28⟩
          have S28 := (HS.out.ext hb27).call hI28 hu28
          have j0 := S28.box.cell (i := 0) (u := .string t1.1) rfl
          have j1 := S28.box.cell (i := 1) (u := .slice A2 L.1.length c2) rfl
          have j2 := S28.box.cell (i := 2) (u := .int .i64 c.1) rfl
          have j3 := S28.box.cell (i := 3) (u := .int .i64 m.1) rfl
          have j4 := S28.box.cell (i := 4) (u := .int .i64 o.1) rfl
          have j5 := S28.box.cell (i := 5) (u := .slice A6 xs.length c6) rfl
          have j6 := S28.box.cell (i := 6) (u := .slice A8 ys.length c8) rfl
          have jl := S28.box.lt
          have r0 := S28.rb.cell (i := 0) (u := .string ⟨#[]⟩) rfl
          have r1 := S28.rb.cell (i := 1) (u := .slice none 0 0) rfl
          have r2 := S28.rb.cell (i := 2) (u := .int .i64 0) rfl
          have r3 := S28.rb.cell (i := 3) (u := .int .i64 0) rfl
          have r4 := S28.rb.cell (i := 4) (u := .int .i64 0) rfl
          have r5 := S28.rb.cell (i := 5) (u := .slice none 0 0) rfl
          have r6 := S28.rb.cell (i := 6) (u := .slice none 0 0) rfl
          have rl := S28.rb.lt
          have rf := S28.rb.fz
          have hO28 := hu28.own (HOH.out.ext hb27) (fun y hy hb => by have := HOH.out.base y hy; simp only [List.mem_singleton] at hb; omega)
          have HF := Lib.hid (show podI s a = ((⟨t1.1, L.1, c.1, m.1, o.1, xs, ys⟩ : Pod), if podR (⟨t1.1, L.1, c.1, m.1, o.1, xs, ys⟩ : Pod) = true then a3 else -1) by rw [HH.out, HRW.out])
          have HS8 := Lib.hid S28
          have HO8 := Lib.hid hO28
          clear k0 k1 k2 k3 k4 k5 k6 S28 hO28 hI28 hu28
          go_wp2
          refine bodyPost_ret (v := .agg #[.string t1.1, .slice A2 L.1.length c2, .int .i64 c.1, .int .i64 m.1, .int .i64 o.1, .slice A6 xs.length c6, .slice A8 ys.length c8]) (by simp [results, Tryz.results19, go_sem, *]) rfl ?_
          rw [HF.out]
          first
            | refine ⟨[.string t1.1, .slice A2 L.1.length c2, .int .i64 c.1, .int .i64 m.1, .int .i64 o.1, .slice A6 xs.length c6, .slice A8 ys.length c8], (G2 ++ (G6 ++ G8)), rfl, ?_, ?_, ?_⟩
            | refine ⟨[.string t1.1, .slice A2 L.1.length c2, .int .i64 c.1, .int .i64 m.1, .int .i64 o.1, .slice A6 xs.length c6, .slice A8 ys.length c8], rfl, ⟨(G2 ++ (G6 ++ G8)), ?_⟩, ?_, ?_⟩
          · refine Own.mono (B := w1.heap.size + 1) ?_ (by omega)
            repeat (first | with_reducible exact HO8.out | with_reducible refine Own.setCell ?_ (by show w.heap.size < _; omega) _)
          · repeat (first | with_reducible exact HS8.out.cur | with_reducible refine ICur.far ?_ (by omega) _ _)
          · repeat (first | with_reducible exact HS8.out.upd | with_reducible refine Upd.setNew ?_ (by exact Nat.le_refl _) _)
        | succ k =>
          have hl0 := HLP.out
          rw [loopI] at hl0
          have HL1 := Lib.hid hl0
          clear hl0
          obtain ⟨y1, ey1⟩ : ∃ t, textI s a3 = t := ⟨_, rfl⟩
          obtain ⟨y2, ey2⟩ : ∃ t, countI s 1 y1.2 = t := ⟨_, rfl⟩
          obtain ⟨y3, ey3⟩ : ∃ t, textI s y2.2 = t := ⟨_, rfl⟩
          obtain ⟨y4, ey4⟩ : ∃ t, varI s y3.2 = t := ⟨_, rfl⟩
          have HE := Lib.hid (show tolI s a3 = (⟨y1.1, y2.1 == 1, y3.1, y4.1⟩, y4.2) by
            unfold tolI
            rw [ey1, ey2, ey3, ey4])
          have HT1 := Lib.hid (fun wq hq => text_any s b a3 wq hq hs)
          have HT2 := Lib.hid (fun wq hq => count_any s b y1.2 1 wq hq hs (by decide))
          have HT3 := Lib.hid (fun wq hq => text_any s b y2.2 wq hq hs)
          have HT4 := Lib.hid (fun wq hq => num_any s b y3.2 wq hq hs)
          rw [ey1] at HT1
          rw [ey2] at HT2
          rw [ey3] at HT3
          rw [ey4] at HT4
          have hy1 : (y1.1.size : Int) ≤ 1048576 := ey1 ▸ textI_size s a3 hs
          have hy3 : (y3.1.size : Int) ≤ 1048576 := ey3 ▸ textI_size s y2.2 hs
          have hy4 : I64 y4.1 := ey4 ▸ varI_I64a s y3.2 hs
          clear ey1 ey2 ey3 ey4
          obtain ⟨wo, hwo⟩ : ∃ wo, wo = wr := ⟨_, rfl⟩
          subst hwo
          go_wp2_with fail
          refine (HT1.out _ hS.cur).mono ?_
          rintro e w7 ⟨rfl, hI7, hu7⟩
          have S7 := (hS.call hI7 hu7).alloc (.cells ([.string y1.1, .bool false, .string ⟨#[]⟩, .int .i64 0] : List Value).toArray 74)
          have U7 : Upd [b] wo (w7.alloc (.cells ([.string y1.1, .bool false, .string ⟨#[]⟩, .int .i64 0] : List Value).toArray 74)) := hu7.alloc _
          have z7 : wo.heap.size ≤ w7.heap.size := hu7.size
          go_wp2_with fail
          refine (HT2.out _ S7.cur).mono ?_
          rintro e w8 ⟨rfl, hI8, hu8⟩
          have X8 := (Blk.new w7 [.string y1.1, .bool false, .string ⟨#[]⟩, .int .i64 0] 74).upd hu8 (by omega)
          have S8 := (S7.call hI8 hu8).far (c := w7.heap.size) (by omega) 1 (.bool (y2.1 == 1))
          have U8 := (U7.trans hu8).setNew (p := ⟨w7.heap.size, 1, none⟩) (by dsimp only; omega) (.bool (y2.1 == 1))
          have k8 := X8.cell (i := 1) (u := .bool false) rfl
          have f8 := X8.fz 1
          have l8 := X8.lt
          have Y8 := X8.put 1 (.bool (y2.1 == 1))
          go_wp2_with fail
          refine (HT3.out _ S8.cur).mono ?_
          rintro e w9 ⟨rfl, hI9, hu9⟩
          have X9 := Y8.upd hu9 (by omega)
          have S9 := (S8.call hI9 hu9).far (c := w7.heap.size) (by omega) 2 (.string y3.1)
          have U9 := (U8.trans hu9).setNew (p := ⟨w7.heap.size, 2, none⟩) (by dsimp only; omega) (.string y3.1)
          have k9 := X9.cell (i := 2) (u := .string ⟨#[]⟩) rfl
          have f9 := X9.fz 2
          have l9 := X9.lt
          have Y9 := X9.put 2 (.string y3.1)
          go_wp2_with fail
          refine (HT4.out _ S9.cur).mono ?_
          rintro e w10 ⟨rfl, hI10, hu10⟩
          have X10 := Y9.upd hu10 (by omega)
          have S10 := (S9.call hI10 hu10).far (c := w7.heap.size) (by omega) 3 (.int .i64 y4.1)
          have U10 := (U9.trans hu10).setNew (p := ⟨w7.heap.size, 3, none⟩) (by dsimp only; omega) (.int .i64 y4.1)
          have k10 := X10.cell (i := 3) (u := .int .i64 0) rfl
          have f10 := X10.fz 3
          have l10 := X10.lt
          have Y10 := X10.put 3 (.int .i64 y4.1)
          have r10 := row_upd hown U10 (by omega : b < B7)
          have hz10 : wo.heap.size ≤ (w10.setCell ⟨w7.heap.size, 3, none⟩ (.int .i64 y4.1)).heap.size := U10.size
          have z10 : B7 ≤ (w10.setCell ⟨w7.heap.size, 3, none⟩ (.int .i64 y4.1)).heap.size := Nat.le_trans hBr U10.size
          have hxl : ys.length ≤ 4 := by omega
          have kb := S10.box.cell (i := 6) (u := v) rfl
          have lb := S10.box.lt
          have x0 := Y10.cell (i := 0) (u := .string y1.1) rfl
          have x1 := Y10.cell (i := 1) (u := .bool (y2.1 == 1)) rfl
          have x2 := Y10.cell (i := 2) (u := .string y3.1) rfl
          have x3 := Y10.cell (i := 3) (u := .int .i64 y4.1) rfl
          have HS10 := Lib.hid S10
          have HU10 := Lib.hid (hU.trans (U10.mono (G := [b, w1.heap.size]) (fun y hy => by simp only [List.mem_singleton] at hy; subst hy; simp)))
          clear hS hown hU S7 S8 S9 S10 U7 U8 U9 U10 X8 Y8 X9 Y9 X10 Y10 hI7 hu7 hI8 hu8 hI9 hu9 hI10 hu10 k8 f8 k9 f9
          go_wp2_with (
            at_builtin
            go_must (refine wpList_append1 elTolR (by rfl) _ _ (by rfl) _ _ _ _ _ r10 (by rfl) [.string y1.1, .bool (y2.1 == 1), .string y3.1, .int .i64 y4.1] (by first | rfl | (simp; rfl)) (by rfl) (by simp [Value.oneCell']) (by omega) (by omega) z10 ?_)
            intro v6 w12 hown12 hg12 hz12
            go_must (obtain ⟨A7, c7, hv6⟩ := row_slice hown12)
            go_must (subst hv6)
            go_must (have S12 := HS10.out.grown hg12 (fun q hq => by have := (r10.lt q hq).1; omega))
            go_must (have kb12 := S12.box.cell (i := 6) (u := v) rfl)
            go_must (have fb12 := S12.box.fz 6)
            go_must (have lb12 := S12.box.lt))
          have hl1 := HL1.out
          rw [HE.out] at hl1
          have U12 := (HU10.out.grown hg12 (fun q hq => by have := (r10.lt q hq).1; have := HB7.out; omega)).setCell (p := ⟨w1.heap.size, 6, none⟩) (by simp) (.slice A7 (ys.length + 1) c7)
          have r13 := row_set (c := w1.heap.size) (i := 6) (u := .slice A7 (ys.length + 1) c7) hown12 (fun g hg => by have := (hown12.lt g hg).1; omega)
          refine ⟨⟨k, ys ++ [⟨y1.1, y2.1 == 1, y3.1, y4.1⟩], _, y4.2, .slice A7 (ys.length + 1) c7, by go_num, by simp; omega, Lib.hid hl1, (by rw [List.length_append]; exact r13), ownFlat hcs (by have := hg12.size; simp only [World.setCell, Array.size_modify] at *; omega) (rd_Tolerance_mk _ _ (by show y1.1.size ≤ _; unfold maxLen; omega) (by show y3.1.size ≤ _; unfold maxLen; omega) hy4), S12.put 6 (.slice A7 (ys.length + 1) c7), U12, by have := hg12.size; simp only [World.setCell, Array.size_modify] at *; omega⟩, by simp [intOf]⟩

    | succ k =>
      have hl0 := HLP.out
      rw [loopI] at hl0
      have HL1 := Lib.hid hl0
      clear hl0
      obtain ⟨y1, ey1⟩ : ∃ t, textI s a' = t := ⟨_, rfl⟩
      obtain ⟨y2, ey2⟩ : ∃ t, varI s y1.2 = t := ⟨_, rfl⟩
      obtain ⟨q3, eq3⟩ : ∃ t, countI s 4 y2.2 = t := ⟨_, rfl⟩
      obtain ⟨⟨V1, V2⟩, eV⟩ : ∃ t, loopI (textI s) q3.1.toNat [] q3.2 = t := ⟨_, rfl⟩
      have HE := Lib.hid (show needI s a' = (⟨y1.1, y2.1, (V1, V2).1⟩, (V1, V2).2) by
        unfold needI manyI
        rw [ey1, ey2, eq3, eV])
      have HT1 := Lib.hid (fun wq hq => text_any s b a' wq hq hs)
      have HT2 := Lib.hid (fun wq hq => num_any s b y1.2 wq hq hs)
      have HT3 := Lib.hid (fun wq hq => count_any s b y2.2 4 wq hq hs (by decide))
      rw [ey1] at HT1
      rw [ey2] at HT2
      rw [eq3] at HT3
      have hy1 : (y1.1.size : Int) ≤ 1048576 := ey1 ▸ textI_size s a' hs
      have hyi : I64 y2.1 := ey2 ▸ varI_I64a s y1.2 hs
      have hcw3 : 0 ≤ q3.1 ∧ q3.1 ≤ 4 := eq3 ▸ countI_ways s 4 y2.2 (by decide)
      obtain ⟨M, hM⟩ : ∃ M : Nat, q3.1 = M := ⟨q3.1.toNat, by omega⟩
      rw [hM, Int.toNat_natCast] at eV
      have HVV := Lib.hid eV
      have hM4 : M ≤ 4 := by omega
      have HMM := Lib.hid hM
      clear ey1 ey2 eq3 eV hM hcw3
      obtain ⟨wo, hwo⟩ : ∃ wo, wo = wr := ⟨_, rfl⟩
      subst hwo
      go_wp2_with fail
      refine (HT1.out _ hS.cur).mono ?_
      rintro e w7 ⟨rfl, hI7, hu7⟩
      have S7 := (hS.call hI7 hu7).alloc (.cells ([.string y1.1, .int .i64 0, .slice none 0 0] : List Value).toArray 72)
      have U7 : Upd [b] wo (w7.alloc (.cells ([.string y1.1, .int .i64 0, .slice none 0 0] : List Value).toArray 72)) := hu7.alloc _
      have z7 : wo.heap.size ≤ w7.heap.size := hu7.size
      go_wp2_with fail
      refine (HT2.out _ S7.cur).mono ?_
      rintro e w8 ⟨rfl, hI8, hu8⟩
      have X8 := (Blk.new w7 [.string y1.1, .int .i64 0, .slice none 0 0] 72).upd hu8 (by omega)
      have S8 := (S7.call hI8 hu8).far (c := w7.heap.size) (by omega) 1 (.int .i64 y2.1)
      have U8 := (U7.trans hu8).setNew (p := ⟨w7.heap.size, 1, none⟩) (by dsimp only; omega) (.int .i64 y2.1)
      have k8 := X8.cell (i := 1) (u := .int .i64 0) rfl
      have f8 := X8.fz 1
      have l8 := X8.lt
      have Y8 := X8.put 1 (.int .i64 y2.1)
      go_wp2_with fail
      refine (HT3.out _ S8.cur).mono ?_
      rw [HMM.out]
      rintro e w9 ⟨rfl, hI9, hu9⟩
      have X9 := Y8.upd hu9 (by omega)
      have S9 := S8.call hI9 hu9
      have U9 := U8.trans hu9
      obtain ⟨B5, hB5⟩ : ∃ B5, w9.heap.size = B5 := ⟨_, rfl⟩
      have hcB5 : w7.heap.size < B5 := by rw [← hB5]; exact X9.lt
      have hr9 : w9.ownsRow B5 9 1 (.slice none 0 0) 0 [] := ⟨rfl, .inl ⟨rfl, rfl⟩⟩
      have HB5 := Lib.hid hB5
      clear hB5 hS S7 S8 U7 U8 X8 Y8 hI7 hu7 hI8 hu8 hI9 hu9 k8 f8 l8
      go_wp2_with fail
      go_loopw [6] (fun n2 wr => ∃ (k2 : Nat) (vs : List ByteArray) (es : List Value) (a2 : Int) (v2 : Value), n2 = .int .i64 k2 ∧ vs.length + k2 ≤ 4 ∧ Hid (loopI (textI s) k2 vs a2 = (V1, V2)) ∧ wr.ownsRow B5 9 1 v2 vs.length es ∧ OwnCells wr B5 vs es [] ∧ St [.string ⟨#[]⟩, .slice none 0 0, .int .i64 0, .int .i64 0, .int .i64 0, .slice none 0 0, .slice none 0 0] w wr b w1.heap.size s a2 [.string t1.1, .slice A2 L.1.length c2, .int .i64 c.1, .int .i64 m.1, .int .i64 o.1, v, .slice none 0 0] ∧ Blk wr w7.heap.size [.string y1.1, .int .i64 y2.1, v2] ∧ Upd [b] wo wr ∧ B5 ≤ wr.heap.size) (fun n2 _ => (intOf n2).toNat)
      case atStart => exact ⟨M, [], [], q3.2, .slice none 0 0, rfl, by simpa using hM4, HVV.out, hr9, OwnCells.nil _ _, S9, X9, U9, by have := HB5.out; omega⟩
      case round =>
        obtain ⟨k2, vs, es, a2, v2, rfl, hk2, HLV, hown2, hcs2, hS, hX, hU2, hBr2⟩ := hrel
        cases k2 with
        | zero =>
          have hl0 := HLV.out
          rw [loopI] at hl0
          obtain ⟨rfl, rfl⟩ : vs = V1 ∧ a2 = V2 := Prod.mk.inj hl0
          clear hl0
          obtain ⟨A9, c9, G9, hv2, hOV⟩ := Own.of_row hown2 hcs2 (fun _ _ hb => by cases hb)
          subst hv2
          have HON := Lib.hid (show Own wr B5 (⟨y1.1, y2.1, vs⟩ : Need) [.string y1.1, .int .i64 y2.1, .slice A9 vs.length c9] G9 by
            refine Own.up (B' := B5) (fun x : Need => (x.key, x.op, x.values)) ?_ (Nat.le_refl _)
            refine Own.cons (c1 := [.string y1.1]) (rdStr _ y1.1 (by omega)) ?_
            refine Own.cons (c1 := [.int .i64 y2.1]) (rdInt _ y2.1 hyi) ?_
            exact hOV)
          have rN := row_upd hown hU2 hbB
          have HR0 := Lib.hid hown
          have HCN := Lib.hid (hcs.upd hU2 hbB)
          have HU12 := Lib.hid (hU.trans (hU2.mono (G := [b, w1.heap.size]) (fun y hy => by simp only [List.mem_singleton] at hy; subst hy; simp)))
          have zN : B3 ≤ wr.heap.size := by omega
          have kb := hS.box.cell (i := 5) (u := v) rfl
          have lb := hS.box.lt
          have x0 := hX.cell (i := 0) (u := .string y1.1) rfl
          have x1 := hX.cell (i := 1) (u := .int .i64 y2.1) rfl
          have x2 := hX.cell (i := 2) (u := .slice A9 vs.length c9) rfl
          have xl := hX.lt
          have hxl : xs.length ≤ 4 := by omega
          have HS9 := Lib.hid hS
          clear hS hX hOV hown hown2 hcs2 hU2
          go_wp2_with (
            at_builtin
            go_must (refine wpList_append2 elNeedR (by rfl) _ _ (by rfl) _ _ _ _ _ rN (by rfl) [.string y1.1, .int .i64 y2.1, .slice A9 vs.length c9] (by first | rfl | (simp; rfl)) (by rfl) (by simp [Value.oneCell']) (by omega) (by omega) zN ?_)
            intro v6 w12 hown12 hg12 hz12 hat12
            go_must (obtain ⟨A7, c7, hv6⟩ := row_slice hown12)
            go_must (subst hv6)
            go_must (have S12 := HS9.out.grown hg12 (fun q hq => by have := (rN.lt q hq).1; omega))
            go_must (have kb12 := S12.box.cell (i := 5) (u := v) rfl)
            go_must (have fb12 := S12.box.fz 5)
            go_must (have lb12 := S12.box.lt))
          have hl1 := HL1.out
          rw [HE.out] at hl1
          obtain ⟨hcs12, hne12⟩ := OwnCells.pushG (v' := .slice A7 (xs.length + 1) c7) rN HCN.out hne HON.out (by omega) (fun g hg => by have := (HR0.out.lt g hg).2; omega) (fun y hy => by have := hcs.lt y hy; omega) hg12 hat12
          have U12 := (HU12.out.grown hg12 (fun q hq => by have := (rN.lt q hq).1; have := HB3.out; omega)).setCell (p := ⟨w1.heap.size, 5, none⟩) (by simp) (.slice A7 (xs.length + 1) c7)
          have r13 := row_set (c := w1.heap.size) (i := 5) (u := .slice A7 (xs.length + 1) c7) hown12 (fun g hg => by have := (hown12.lt g hg).1; omega)
          refine ⟨⟨k, xs ++ [⟨y1.1, y2.1, vs⟩], _, _, _, .slice A7 (xs.length + 1) c7, by go_num, by simp; omega, Lib.hid hl1, (by rw [List.length_append]; exact r13), hcs12.setCell (p := ⟨w1.heap.size, 5, none⟩) (by show w1.heap.size < _; omega) _, hne12, S12.put 5 (.slice A7 (xs.length + 1) c7), U12, by have := hg12.size; simp only [World.setCell, Array.size_modify] at *; omega⟩, by simp [intOf]⟩
        | succ k2 =>
          have hl0 := HLV.out
          rw [loopI] at hl0
          have HL2 := Lib.hid hl0
          clear hl0
          have htv := textI_size s a2 hs
          have HTV := Lib.hid (fun wq hq => text_any s b a2 wq hq hs)
          generalize textI s a2 = y3 at *
          have hxl : vs.length ≤ 4 := by omega
          obtain ⟨Av, cv, hv2⟩ := row_slice hown2
          subst hv2
          have hud : Upd [b] wr wr.drew := Upd.of_ext [b] (ext_drew (ext_refl wr))
          have hSd := hS.ext (ext_drew (ext_refl wr))
          have hXd := hX.ext (ext_drew (ext_refl wr))
          have rd0 := row_upd hown2 hud (by omega : b < B5)
          have hUd := hU2.trans hud
          have zd : B5 ≤ wr.drew.heap.size := hBr2
          have hcd2 : OwnCells wr.drew B5 vs es [] := hcs2.keep (fun y hy => by cases hy) (Nat.le_refl _)
          have x2 := hXd.cell (i := 2) (u := .slice Av vs.length cv) rfl
          clear hS hX hown2 hU2 hBr2 hcs2 hud
          go_wp2_with fail
          refine wp_region_cut (fun w' => w'.cell? ⟨w7.heap.size, 2, none⟩ = some (.slice Av vs.length cv)) [0, 1, 2] [3, 4, 5] [6, 7] (by kernel_rfl) (by kernel_rfl) (fun _ _ d _ _ h => by cases d <;> exact h) x2 ?_
          generalize wr.drew = wd at *
          simp only [pick, List.getElem?_cons_succ, List.getElem?_cons_zero]
          iterate 3
            (apply headC_step
             case hy =>
               refine Or.inl ⟨rfl, fun wq hq => ?_⟩
               go_simp
               try rfl
             simp only [Act.put, List.setIfInBounds_toArray, List.set_cons_zero, List.set_cons_succ])
          refine headC_nil ?_
          refine wpListK_step rfl (fun K hK => ?_)
          go_simp
          refine (HTV.out _ hSd.cur).mono ?_
          rintro e w10 ⟨rfl, hI10, hu10⟩
          have S10 := hSd.call hI10 hu10
          have X10 := hXd.upd hu10 (by omega)
          have r10 := row_upd rd0 hu10 (by omega : b < B5)
          have U10 := hUd.trans hu10
          have z10 : B5 ≤ w10.heap.size := Nat.le_trans zd hu10.size
          have z10r : wd.heap.size ≤ w10.heap.size := hu10.size
          have x2' := X10.cell (i := 2) (u := .slice Av vs.length cv) rfl
          have x2a := (Blk.ext X10 (ext_alloc (ext_refl _) (.cells ([.string y3.1] : List Value).toArray 9))).cell (i := 2) (u := .slice Av vs.length cv) rfl
          refine hK _ _ x2' ?_
          try simp only [Act.put, List.setIfInBounds_toArray, List.set_cons_zero, List.set_cons_succ]
          clear hK K
          refine wpListK_step rfl (fun K hK => ?_)
          go_simp
          refine hK _ _ x2a ?_
          try simp only [Act.put, List.setIfInBounds_toArray, List.set_cons_zero, List.set_cons_succ]
          clear hK K
          have hcs2 := hcd2
          have HS10 := Lib.hid S10
          have HX10 := Lib.hid X10
          have HU10 := Lib.hid U10
          clear hSd S10 X10 U10 hXd rd0 hI10 hu10 hUd hcd2
          refine wpListK_step rfl (fun K hK => ?_)
          refine wp_append1K elString _ _ (by rfl) _ _ _ _ _ r10 (by rfl) [.string y3.1] (by first | rfl | (simp; rfl)) (by rfl) (by simp [Value.oneCell']) (by omega) (by omega) z10 ?_
          intro v6 w11 hown11 hg11 hz11
          obtain ⟨A7, c7, hv6⟩ := row_slice hown11
          subst hv6
          have X11 := HX10.out.keep (hg11.block _ HX10.out.lt (by intro e; have := (r10.lt _ e.symm).1; omega))
          have kx := X11.cell (i := 2) (u := .slice Av vs.length cv) rfl
          have fx := X11.fz 2
          have lx := X11.lt
          refine hK _ _ kx ?_
          try simp only [Act.put, List.setIfInBounds_toArray, List.set_cons_zero, List.set_cons_succ]
          clear hK K
          refine wpListK_nil ?_
          go_wp2
          have hl1 := HL2.out
          have S11 := (HS10.out.grown hg11 (fun q hq => by have := (r10.lt q hq).1; omega)).far (c := w7.heap.size) (by omega) 2 (.slice A7 (vs.length + 1) c7)
          have U11 := (HU10.out.grown hg11 (fun q hq => by have := (r10.lt q hq).1; omega)).setNew (p := ⟨w7.heap.size, 2, none⟩) (by dsimp only; omega) (.slice A7 (vs.length + 1) c7)
          have r11 := row_set (c := w7.heap.size) (i := 2) (u := .slice A7 (vs.length + 1) c7) hown11 (fun g hg => by have := (hown11.lt g hg).1; omega)
          refine ⟨⟨k2, vs ++ [y3.1], _, y3.2, .slice A7 (vs.length + 1) c7, by go_num, by simp; omega, Lib.hid hl1, (by rw [List.length_append]; exact r11), ownFlat hcs2 (by have := hg11.size; simp only [World.setCell, Array.size_modify] at *; omega) (rd_strR _ y3.1 htv), S11, X11.put 2 (.slice A7 (vs.length + 1) c7), U11, by have := hg11.size; simp only [World.setCell, Array.size_modify] at *; omega⟩, by simp [intOf]⟩



end Go.Proofs.YtpgdgcjgompokaaGreat
