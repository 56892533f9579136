/- The reference's reader of hosts. No condition. -/
import Derived.Test.YtpgdgcjgompokaaGreatRdHost0
import Derived.Test.YtpgdgcjgompokaaGreatRowsX
namespace Go.Proofs.YtpgdgcjgompokaaGreat
open Go.ChangeShapes Go.WideShapes Go.ChangeAt Go.RowKit
set_option linter.unusedVariables false
set_option linter.unusedSimpArgs false
set_option maxRecDepth 100000 in
set_option maxHeartbeats 4000000 in
theorem Host_spec (s : ByteArray) (b : Nat) (a : Int × Bool) (w : World) (h : SCur w b s a) (hs : (s.size : Int) ≤ 1048576) :
    Calls Tryz.prog 11 #[.pointer (some ⟨b, 0, none⟩)] w fun e w' => ∃ ds F, e = .returned (.agg ds.toArray) ∧ Own w' w.heap.size (hostS s a).1 ds F ∧ SCur w' b s (hostS s a).2 ∧ Upd [b] w w' := by
  have hlt := h.lt
  have hcw := manyS_ways s 4 (numS s (numS s (numS s (labelsS s (textS s a).2).2).2).2).2 (by decide)
  have HRW := Lib.hid (show hostS s a = (⟨(textS s a).1, (labelsS s (textS s a).2).1, (numS s (labelsS s (textS s a).2).2).1, (numS s (numS s (labelsS s (textS s a).2).2).2).1, (numS s (numS s (numS s (labelsS s (textS s a).2).2).2).2).1, (loopS (taintS s) (manyS s 4 (numS s (numS s (numS s (labelsS s (textS s a).2).2).2).2).2).1.toNat [] (manyS s 4 (numS s (numS s (numS s (labelsS s (textS s a).2).2).2).2).2).2).1⟩, (loopS (taintS s) (manyS s 4 (numS s (numS s (numS s (labelsS s (textS s a).2).2).2).2).2).1.toNat [] (manyS s 4 (numS s (numS s (numS s (labelsS s (textS s a).2).2).2).2).2).2).2) from rfl)
  have HT := Lib.hid (fun wq hq => Text_spec s b a wq hq hs)
  have HL := Lib.hid (fun wq hq => Labels_spec s b (textS s a).2 wq hq hs)
  have HC := Lib.hid (fun wq hq => Num_spec s b (labelsS s (textS s a).2).2 wq hq hs)
  have HM := Lib.hid (fun wq hq => Num_spec s b (numS s (labelsS s (textS s a).2).2).2 wq hq hs)
  have HO := Lib.hid (fun wq hq => Num_spec s b (numS s (numS s (labelsS s (textS s a).2).2).2).2 wq hq hs)
  have HN := Lib.hid (fun wq hq => Many_spec s b 4 (numS s (numS s (numS s (labelsS s (textS s a).2).2).2).2).2 wq hq hs)
  have hts := textS_size s a hs
  have hln := labelsS_len s (textS s a).2
  have HSL := Lib.hid (labelsS_small s (textS s a).2 hs)
  have hci := numS_I64 s (labelsS s (textS s a).2).2 hs
  have hmi := numS_I64 s (numS s (labelsS s (textS s a).2).2).2 hs
  have hoi := numS_I64 s (numS s (numS s (labelsS s (textS s a).2).2).2).2 hs
  have H := Lib.hid h
  clear h
  generalize manyS s 4 (numS s (numS s (numS s (labelsS s (textS s a).2).2).2).2).2 = q at *
  generalize numS s (numS s (numS s (labelsS s (textS s a).2).2).2).2 = o at *
  generalize numS s (numS s (labelsS s (textS s a).2).2).2 = m at *
  generalize numS s (labelsS s (textS s a).2).2 = c at *
  generalize labelsS s (textS s a).2 = L at *
  generalize textS s a = t1 at *
  generalize hR : loopS (taintS s) q.1.toNat [] q.2 = R at HRW
  generalize hostS s a = HW at HRW ⊢
  obtain ⟨N, hN⟩ : ∃ N : Nat, q.1 = N := ⟨q.1.toNat, by omega⟩
  rw [hN, Int.toNat_natCast] at hR
  have HRR := Lib.hid hR
  have hN4 : N ≤ 4 := by omega
  have HNN := Lib.hid hN
  clear hN hcw hR
  go_enter Tryz.func11, Tryz.ntmps11
  go_wp2_with fail
  refine (HT.out _ (H.out.ext (ext_alloc (ext_refl _) _))).mono ?_
  rintro e w1 ⟨rfl, hI1, hu1⟩
  have hz1 : w.heap.size < w1.heap.size := by have := hu1.size; simp at this; omega
  have RB1 := (Blk.new w [.string ⟨#[]⟩, .slice none 0 0, .int .i64 0, .int .i64 0, .int .i64 0, .slice none 0 0] 41).upd hu1 (by omega)
  have hu1' : Upd [b] w w1 := ((Upd.refl _ _).alloc _).trans hu1
  have S1 : SSt [.string ⟨#[]⟩, .slice none 0 0, .int .i64 0, .int .i64 0, .int .i64 0, .slice none 0 0] w (w1.alloc (.cells #[.string t1.1, .slice none 0 0, .int .i64 0, .int .i64 0, .int .i64 0, .slice none 0 0] 41)) b w1.heap.size s t1.2 [.string t1.1, .slice none 0 0, .int .i64 0, .int .i64 0, .int .i64 0, .slice none 0 0] :=
    ⟨hI1.ext (ext_alloc (ext_refl _) _), hu1'.alloc _, Blk.new w1 [.string t1.1, .slice none 0 0, .int .i64 0, .int .i64 0, .int .i64 0, .slice none 0 0] 41, RB1.ext (ext_alloc (ext_refl _) _), hlt, hz1⟩
  clear hI1 hu1 RB1
  go_wp2_with fail
  refine (HL.out _ S1.cur).mono ?_
  rintro e w2 ⟨A2, c2, G2, rfl, hO2, hI2, hu2⟩
  have S2 := S1.call hI2 hu2
  clear hI2
  replace hO2 : Own w2 (w1.heap.size + 1) L.1 [.slice A2 L.1.length c2] G2 := hO2.mono (by simp)
  have hbs2 := hO2.base
  have k2 := S2.box.cell (i := 1) (u := .slice none 0 0) rfl
  have f2 := S2.box.fz 1
  have l2 := S2.box.lt
  have T2 := S2.put 1 (.slice A2 L.1.length c2)
  have O2 := hO2.setCell (p := ⟨w1.heap.size, 1, none⟩) (by show w1.heap.size < _; omega) (.slice A2 L.1.length c2)
  go_wp2_with fail
  refine (HC.out _ T2.cur).mono ?_
  rintro e w3 ⟨rfl, hI3, hu3⟩
  have S3 := T2.call hI3 hu3
  have O3 := hu3.own O2 (fun y hy hb => by have := hbs2 y hy; simp only [List.mem_singleton] at hb; omega)
  have k3 := S3.box.cell (i := 2) (u := .int .i64 0) rfl
  have f3 := S3.box.fz 2
  have l3 := S3.box.lt
  have T3 := S3.put 2 (.int .i64 c.1)
  have P3 := O3.setCell (p := ⟨w1.heap.size, 2, none⟩) (by show w1.heap.size < _; omega) (.int .i64 c.1)
  go_wp2_with fail
  refine (HM.out _ T3.cur).mono ?_
  rintro e w4 ⟨rfl, hI4, hu4⟩
  have S4 := T3.call hI4 hu4
  have O4 := hu4.own P3 (fun y hy hb => by have := hbs2 y hy; simp only [List.mem_singleton] at hb; omega)
  have k4 := S4.box.cell (i := 3) (u := .int .i64 0) rfl
  have f4 := S4.box.fz 3
  have l4 := S4.box.lt
  have T4 := S4.put 3 (.int .i64 m.1)
  have P4 := O4.setCell (p := ⟨w1.heap.size, 3, none⟩) (by show w1.heap.size < _; omega) (.int .i64 m.1)
  go_wp2_with fail
  refine (HO.out _ T4.cur).mono ?_
  rintro e w5 ⟨rfl, hI5, hu5⟩
  have S5 := T4.call hI5 hu5
  have O5 := hu5.own P4 (fun y hy hb => by have := hbs2 y hy; simp only [List.mem_singleton] at hb; omega)
  have k5 := S5.box.cell (i := 4) (u := .int .i64 0) rfl
  have f5 := S5.box.fz 4
  have l5 := S5.box.lt
  have T5 := S5.put 4 (.int .i64 o.1)
  have P5 := O5.setCell (p := ⟨w1.heap.size, 4, none⟩) (by show w1.heap.size < _; omega) (.int .i64 o.1)
  go_wp2_with fail
  refine (HN.out _ T5.cur).mono ?_
  rw [HNN.out]
  rintro e w6 ⟨rfl, hI6, hu6⟩
  have S6 := T5.call hI6 hu6
  have O6 := hu6.own P5 (fun y hy hb => by have := hbs2 y hy; simp only [List.mem_singleton] at hb; omega)
  have hlt6 := O6.lt
  obtain ⟨B3, hB3⟩ : ∃ B3, w6.heap.size = B3 := ⟨_, rfl⟩
  have hg3 : w1.heap.size < B3 := by rw [← hB3]; exact S6.box.lt
  rw [hB3] at hlt6
  have hr6 : w6.ownsRow B3 69 3 (.slice none 0 0) 0 [] := ⟨rfl, .inl ⟨rfl, rfl⟩⟩
  have HB3 := Lib.hid hB3
  clear hB3 S1 S2 S3 S4 S5 T2 T3 T4 T5 hO2 O2 O3 P3 O4 P4 O5 P5 hI3 hu3 hI4 hu4 hI5 hu5 hI6 hu6 hu2 k2 f2 l2 k3 f3 l3 k4 f4 l4 k5 f5 l5
  go_wp2_with fail
  go_loopw [5] (fun i wr => ∃ (j k : Nat) (xs : List Taint) (ds : List Value) (st' : Int × Bool) (v : Value), i = .int .i64 j ∧ j + k = N ∧ xs.length + k ≤ 4 ∧ Hid (loopS (taintS s) k xs st' = R) ∧ Hid (∀ l ∈ xs, (l.key.size : Int) ≤ 1048576 ∧ (l.value.size : Int) ≤ 1048576) ∧ wr.ownsRow B3 69 3 v xs.length ds ∧ OwnCells wr B3 xs ds [] ∧ SSt [.string ⟨#[]⟩, .slice none 0 0, .int .i64 0, .int .i64 0, .int .i64 0, .slice none 0 0] w wr b w1.heap.size s st' [.string t1.1, .slice A2 L.1.length c2, .int .i64 c.1, .int .i64 m.1, .int .i64 o.1, v] ∧ Own wr (w1.heap.size + 1) L.1 [.slice A2 L.1.length c2] G2 ∧ B3 ≤ wr.heap.size) (fun i _ => N - (intOf i).toNat)
  case atStart => exact ⟨0, N, [], [], q.2, .slice none 0 0, rfl, by omega, by simpa using hN4, HRR.out, (fun l hl => by cases hl), hr6, OwnCells.nil _ _, S6, O6, by have := HB3.out; omega⟩
  case round =>
    obtain ⟨j, k, xs, ds, st', v, rfl, hjk, hk4, HLP, HSM, hown, hcs, hS, hO, hBr⟩ := hrel
    obtain ⟨a', bad⟩ := st'
    by_cases hd : k = 0 ∨ bad = true
    · have hl0 : (xs, (a', bad)) = R := by
        have := HLP.out
        rcases hd with rfl | rfl
        · rw [loopS] at this; exact this
        · cases k with
          | zero => rw [loopS] at this; exact this
          | succ k => rw [loopS, if_pos rfl] at this; exact this
      obtain ⟨A6, c6, G6, rfl, hOT⟩ := Own.of_row hown hcs (fun _ _ hb => by cases hb)
      have hOH : Own wr (w1.heap.size + 1) (⟨t1.1, L.1, c.1, m.1, o.1, xs⟩ : Host) [.string t1.1, .slice A2 L.1.length c2, .int .i64 c.1, .int .i64 m.1, .int .i64 o.1, .slice A6 xs.length c6] (G2 ++ G6) := by
        refine Own.up (B' := w1.heap.size + 1) (fun x : Host => (x.name, x.labels, x.cpu, x.mem, x.slots, x.taints)) ?_ (Nat.le_refl _)
        refine Own.cons (c1 := [.string t1.1]) (rdStr _ t1.1 (by omega)) ?_
        refine Own.pair (B2 := B3) (c1 := [.slice A2 L.1.length c2]) (F1 := G2) hO ?_ (by omega) hlt6
        refine Own.cons (c1 := [.int .i64 c.1]) (rdInt _ c.1 hci) ?_
        refine Own.cons (c1 := [.int .i64 m.1]) (rdInt _ m.1 hmi) ?_
        refine Own.cons (c1 := [.int .i64 o.1]) (rdInt _ o.1 hoi) ?_
        exact hOT
      have HF := Lib.hid (show HW = ((⟨t1.1, L.1, c.1, m.1, o.1, xs⟩ : Host), (a', bad)) by rw [HRW.out, ← hl0])
      have j0 := hS.box.cell (i := 0) (u := .string t1.1) rfl
      have j1 := hS.box.cell (i := 1) (u := .slice A2 L.1.length c2) rfl
      have j2 := hS.box.cell (i := 2) (u := .int .i64 c.1) rfl
      have j3 := hS.box.cell (i := 3) (u := .int .i64 m.1) rfl
      have j4 := hS.box.cell (i := 4) (u := .int .i64 o.1) rfl
      have j5 := hS.box.cell (i := 5) (u := .slice A6 xs.length c6) rfl
      have jl := hS.box.lt
      have r0 := hS.rb.cell (i := 0) (u := .string ⟨#[]⟩) rfl
      have r1 := hS.rb.cell (i := 1) (u := .slice none 0 0) rfl
      have r2 := hS.rb.cell (i := 2) (u := .int .i64 0) rfl
      have r3 := hS.rb.cell (i := 3) (u := .int .i64 0) rfl
      have r4 := hS.rb.cell (i := 4) (u := .int .i64 0) rfl
      have r5 := hS.rb.cell (i := 5) (u := .slice none 0 0) rfl
      have rl := hS.rb.lt
      have rf := hS.rb.fz
      have hcb := hS.cur.c2
      have hlb := hS.cur.lt
      have HS8 := Lib.hid hS
      have HO8 := Lib.hid hOH
      clear hS hOH hOT hown hcs hO hl0
      by_cases hji : (j : Int) < (N : Int)
      · obtain rfl : bad = true := by rcases hd with h0 | h0; · omega
                                      · exact h0
        go_wp2
        refine bodyPost_ret (v := .agg #[.string t1.1, .slice A2 L.1.length c2, .int .i64 c.1, .int .i64 m.1, .int .i64 o.1, .slice A6 xs.length c6]) (by simp [results, Tryz.results11, go_sem, *]) rfl ?_
        rw [HF.out]
        first
          | refine ⟨[.string t1.1, .slice A2 L.1.length c2, .int .i64 c.1, .int .i64 m.1, .int .i64 o.1, .slice A6 xs.length c6], G2 ++ G6, rfl, ?_, ?_, ?_⟩
          | refine ⟨[.string t1.1, .slice A2 L.1.length c2, .int .i64 c.1, .int .i64 m.1, .int .i64 o.1, .slice A6 xs.length c6], rfl, ⟨G2 ++ G6, ?_⟩, ?_, ?_⟩
        · refine Own.mono (B := w1.heap.size + 1) ?_ (by omega)
          repeat (first | with_reducible exact HO8.out | with_reducible refine Own.setCell ?_ (by show w.heap.size < _; omega) _)
        · repeat (first | with_reducible exact HS8.out.cur | with_reducible refine SCur.far ?_ (by omega) _ _)
        · repeat (first | with_reducible exact HS8.out.upd | with_reducible refine Upd.setNew ?_ (by exact Nat.le_refl _) _)
      · go_wp2
        refine bodyPost_ret (v := .agg #[.string t1.1, .slice A2 L.1.length c2, .int .i64 c.1, .int .i64 m.1, .int .i64 o.1, .slice A6 xs.length c6]) (by simp [results, Tryz.results11, go_sem, *]) rfl ?_
        rw [HF.out]
        first
          | refine ⟨[.string t1.1, .slice A2 L.1.length c2, .int .i64 c.1, .int .i64 m.1, .int .i64 o.1, .slice A6 xs.length c6], G2 ++ G6, rfl, ?_, ?_, ?_⟩
          | refine ⟨[.string t1.1, .slice A2 L.1.length c2, .int .i64 c.1, .int .i64 m.1, .int .i64 o.1, .slice A6 xs.length c6], rfl, ⟨G2 ++ G6, ?_⟩, ?_, ?_⟩
        · refine Own.mono (B := w1.heap.size + 1) ?_ (by omega)
          repeat (first | with_reducible exact HO8.out | with_reducible refine Own.setCell ?_ (by show w.heap.size < _; omega) _)
        · repeat (first | with_reducible exact HS8.out.cur | with_reducible refine SCur.far ?_ (by omega) _ _)
        · repeat (first | with_reducible exact HS8.out.upd | with_reducible refine Upd.setNew ?_ (by exact Nat.le_refl _) _)
    · obtain rfl : bad = false := by cases bad; · rfl
                                     · exact absurd (.inr rfl) hd
      obtain ⟨k, rfl⟩ : ∃ k', k = k' + 1 := ⟨k - 1, by omega⟩
      have hji : (j : Int) < (N : Int) := by omega
      have hl0 := HLP.out
      rw [loopS, if_neg (show ¬ ((a', false) : Int × Bool).2 = true by simp)] at hl0
      have HL1 := Lib.hid hl0
      have ht1 := textS_size s (a', false) hs
      have ht2 := textS_size s (textS s (a', false)).2 hs
      have hei := numS_I64 s (textS s (textS s (a', false)).2).2 hs
      have HT1 := Lib.hid (fun wq hq => Text_spec s b (a', false) wq hq hs)
      have HT2 := Lib.hid (fun wq hq => Text_spec s b (textS s (a', false)).2 wq hq hs)
      have HT3 := Lib.hid (fun wq hq => Num_spec s b (textS s (textS s (a', false)).2).2 wq hq hs)
      have HE := Lib.hid (show taintS s (a', false) = (⟨(textS s (a', false)).1, (textS s (textS s (a', false)).2).1, (numS s (textS s (textS s (a', false)).2).2).1⟩, (numS s (textS s (textS s (a', false)).2).2).2) from rfl)
      clear hl0
      generalize numS s (textS s (textS s (a', false)).2).2 = e3 at *
      generalize textS s (textS s (a', false)).2 = y2 at *
      generalize textS s (a', false) = y1 at *
      have hbB : b < B3 := by omega
      have hcb := hS.cur.c2
      have hlb := hS.cur.lt
      have hxl : xs.length ≤ 4 := by omega
      go_wp2_with fail
      refine (HT1.out _ hS.cur).mono ?_
      rintro e w7 ⟨rfl, hI7, hu7⟩
      have S7 := (hS.call hI7 hu7).alloc (.cells ([.string y1.1, .string ⟨#[]⟩, .int .i64 0] : List Value).toArray 69)
      have r7 := row_upd hown hu7 hbB
      have O7 := hu7.own hO (fun y hy hb => by have := hbs2 y hy; simp only [List.mem_singleton] at hb; omega)
      have z7 : wr.heap.size ≤ w7.heap.size := hu7.size
      go_wp2_with fail
      refine (HT2.out _ S7.cur).mono ?_
      rintro e w8 ⟨rfl, hI8, hu8⟩
      have X8 := (Blk.new w7 [.string y1.1, .string ⟨#[]⟩, .int .i64 0] 69).upd hu8 (by omega)
      have S8 := (S7.call hI8 hu8).far (c := w7.heap.size) (by omega) 1 (.string y2.1)
      have r8 := row_set (c := w7.heap.size) (i := 1) (u := .string y2.1) (row_upd (r7.alloc _) hu8 hbB) (fun g hg => by have := (r7.lt g hg).2; omega)
      have O8 := (hu8.own (O7.alloc _) (fun y hy hb => by have := hbs2 y hy; simp only [List.mem_singleton] at hb; omega)).setC (p := ⟨w7.heap.size, 1, none⟩) (fun hg => by have h99 : w7.heap.size < B3 := hlt6 _ hg; omega) (.string y2.1)
      have k8 := X8.cell (i := 1) (u := .string ⟨#[]⟩) rfl
      have f8 := X8.fz 1
      have l8 := X8.lt
      have Y8 := X8.put 1 (.string y2.1)
      go_wp2_with fail
      refine (HT3.out _ S8.cur).mono ?_
      rintro e w9 ⟨rfl, hI9, hu9⟩
      have X9 := Y8.upd hu9 (by omega)
      have S9 := (S8.call hI9 hu9).far (c := w7.heap.size) (by omega) 2 (.int .i64 e3.1)
      have r9 := row_set (c := w7.heap.size) (i := 2) (u := .int .i64 e3.1) (row_upd r8 hu9 hbB) (fun g hg => by have := (r7.lt g hg).2; omega)
      have O9 := (hu9.own O8 (fun y hy hb => by have := hbs2 y hy; simp only [List.mem_singleton] at hb; omega)).setC (p := ⟨w7.heap.size, 2, none⟩) (fun hg => by have h99 : w7.heap.size < B3 := hlt6 _ hg; omega) (.int .i64 e3.1)
      have k9 := X9.cell (i := 2) (u := .int .i64 0) rfl
      have f9 := X9.fz 2
      have l9 := X9.lt
      have Y9 := X9.put 2 (.int .i64 e3.1)
      have z9 : B3 ≤ (w9.setCell ⟨w7.heap.size, 2, none⟩ (.int .i64 e3.1)).heap.size := by have := Y9.lt; omega
      have z9r : wr.heap.size ≤ (w9.setCell ⟨w7.heap.size, 2, none⟩ (.int .i64 e3.1)).heap.size := by have := Y9.lt; omega
      have kb := S9.box.cell (i := 5) (u := v) rfl
      have lb := S9.box.lt
      have x0 := Y9.cell (i := 0) (u := .string y1.1) rfl
      have x1 := Y9.cell (i := 1) (u := .string y2.1) rfl
      have x2 := Y9.cell (i := 2) (u := .int .i64 e3.1) rfl
      have HS9 := Lib.hid S9
      have HO9 := Lib.hid O9
      clear hS hO hown S7 S8 S9 O7 O8 O9 X8 Y8 X9 Y9 hI7 hu7 hI8 hu8 hI9 hu9 r7 r8 k8 f8
      go_wp2_with (
        at_builtin
        go_must (refine wpList_append1 elTaint (by rfl) _ _ (by rfl) _ _ _ _ _ r9 (by rfl) [.string y1.1, .string y2.1, .int .i64 e3.1] (by first | rfl | (simp; rfl)) (by rfl) (by simp [Value.oneCell']) (by omega) (by omega) z9 ?_)
        intro v6 w10 hown10 hg10 hz10
        go_must (obtain ⟨A7, c7, hv6⟩ := row_slice hown10)
        go_must (subst hv6)
        go_must (have S10 := HS9.out.grown hg10 (fun q hq => by have := (r9.lt q hq).1; omega))
        go_must (have kb10 := S10.box.cell (i := 5) (u := v) rfl)
        go_must (have fb10 := S10.box.fz 5)
        go_must (have lb10 := S10.box.lt))
      have hl1 := HL1.out
      rw [HE.out] at hl1
      replace hl1 : Hid (loopS (taintS s) k (xs ++ [⟨y1.1, y2.1, e3.1⟩]) e3.2 = R) := hl1
      have O11 := (HO9.out.keep (w' := w10) (fun y hy => hg10.block y (HO9.out.lt y hy) (by intro e; have := (r9.lt y e.symm).1; have := hlt6 y hy; omega)) hg10.size).setCell (p := ⟨w1.heap.size, 5, none⟩) (by show w1.heap.size < _; omega) (.slice A7 (xs.length + 1) c7)
      have r11 := row_set (c := w1.heap.size) (i := 5) (u := .slice A7 (xs.length + 1) c7) hown10 (fun g hg => by have := (hown10.lt g hg).1; omega)
      refine ⟨⟨j + 1, k, xs ++ [⟨y1.1, y2.1, e3.1⟩], _, e3.2, .slice A7 (xs.length + 1) c7, by go_num, by omega, by simp; omega, hl1, ?_, (by rw [List.length_append]; exact r11), OwnCells.tnt hcs (by have := hg10.size; simp only [World.setCell, Array.size_modify] at *; omega) ht1 ht2 hei, S10.put 5 (.slice A7 (xs.length + 1) c7), O11, by have := hg10.size; simp only [World.setCell, Array.size_modify] at *; omega⟩, by simp [intOf]; omega⟩
      intro l hl
      rcases List.mem_append.1 hl with hl | hl
      · exact HSM.out l hl
      · simp only [List.mem_singleton] at hl
        subst hl
        exact ⟨ht1, ht2⟩

end Go.Proofs.YtpgdgcjgompokaaGreat
