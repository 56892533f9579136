/- ReadSnap, of the program. No condition. -/
import Derived.Test.YtpgdgcjgompokaaGreatRdSnX
import Derived.Test.YtpgdgcjgompokaaGreatRdSnA
import Derived.Test.YtpgdgcjgompokaaGreatRdHI
import Derived.Test.YtpgdgcjgompokaaGreatRdPI
import Derived.Test.YtpgdgcjgompokaaGreatClusterIC
namespace Go.Proofs.YtpgdgcjgompokaaGreat
open Go.ChangeShapes Go.WideShapes Go.ChangeAt Go.RowKit
set_option linter.unusedVariables false
set_option linter.unusedSimpArgs false
set_option maxRecDepth 100000 in
set_option maxHeartbeats 8000000 in
theorem ReadSnap_impl (s : ByteArray) (w : World) (hs : (s.size : Int) ≤ 1048576) :
    Calls Tryz.prog 5 #[.string s] w fun e w' => ∃ ds F, e = .returned (.tuple #[.agg ds.toArray, .bool (readSnapI s).2]) ∧ Own w' w.heap.size (readSnapI s).1 ds F ∧ Below w.heap.size w w' := by
  obtain ⟨t1, et1⟩ : ∃ t, varI s 0 = t := ⟨_, rfl⟩
  obtain ⟨t2, et2⟩ : ∃ t, varI s t1.2 = t := ⟨_, rfl⟩
  obtain ⟨t3, et3⟩ : ∃ t, varI s t2.2 = t := ⟨_, rfl⟩
  obtain ⟨t4, et4⟩ : ∃ t, varI s t3.2 = t := ⟨_, rfl⟩
  obtain ⟨q, eq⟩ : ∃ t, countI s 8 t4.2 = t := ⟨_, rfl⟩
  obtain ⟨⟨H1, H2⟩, eH⟩ : ∃ t, loopI (hostI s) q.1.toNat [] q.2 = t := ⟨_, rfl⟩
  obtain ⟨q2, eq2⟩ : ∃ t, countI s 12 H2 = t := ⟨_, rfl⟩
  obtain ⟨⟨P1, P2⟩, eP⟩ : ∃ t, loopI (placedI s H1) q2.1.toNat [] q2.2 = t := ⟨_, rfl⟩
  have HRW := Lib.hid (show snapI s = (⟨H1, P1, t4.1, ⟨t1.1, t2.1, t3.1⟩⟩, P2) by
    unfold snapI bodyI manyI
    rw [et1, et2, et3, et4, eq, eH]
    dsimp only
    rw [eq2, eP])
  have HT1 := Lib.hid (fun wq hq => num_any s (w.heap.size + 1) 0 wq hq hs)
  have HT2 := Lib.hid (fun wq hq => num_any s (w.heap.size + 1) t1.2 wq hq hs)
  have HT3 := Lib.hid (fun wq hq => num_any s (w.heap.size + 1) t2.2 wq hq hs)
  have HT4 := Lib.hid (fun wq hq => num_any s (w.heap.size + 1) t3.2 wq hq hs)
  have HQ := Lib.hid (fun wq hq => count_any s (w.heap.size + 1) t4.2 8 wq hq hs (by decide))
  have HQ2 := Lib.hid (fun wq hq => count_any s (w.heap.size + 1) H2 12 wq hq hs (by decide))
  rw [et1] at HT1
  rw [et2] at HT2
  rw [et3] at HT3
  rw [et4] at HT4
  rw [eq] at HQ
  rw [eq2] at HQ2
  have hi1 : I64 t1.1 := et1 ▸ varI_I64a s 0 hs
  have hi2 : I64 t2.1 := et2 ▸ varI_I64a s t1.2 hs
  have hi3 : I64 t3.1 := et3 ▸ varI_I64a s t2.2 hs
  have hi4 : I64 t4.1 := et4 ▸ varI_I64a s t3.2 hs
  have hcw : 0 ≤ q.1 ∧ q.1 ≤ 8 := eq ▸ countI_ways s 8 t4.2 (by decide)
  have hcw2 : 0 ≤ q2.1 ∧ q2.1 ≤ 12 := eq2 ▸ countI_ways s 12 H2 (by decide)
  have HSM := Lib.hid (show ∀ y ∈ H1, SmallH y by
    have h := loopI_all (p := SmallH) (fun a => hostI_small s a hs) q.1.toNat [] q.2 (fun l hl => by cases hl)
    rw [eH] at h; exact h)
  have HSP := Lib.hid (show ∀ y ∈ P1, SmallP y.pod by
    have h := loopI_all (r := placedI s H1) (p := fun y : Placed => SmallP y.pod) (fun a => podI_small s a hs) q2.1.toNat [] q2.2 (fun l hl => by cases hl)
    rw [eP] at h; exact h)
  obtain ⟨N, hN⟩ : ∃ N : Nat, q.1 = N := ⟨q.1.toNat, by omega⟩
  rw [hN, Int.toNat_natCast] at eH
  obtain ⟨N2, hN2⟩ : ∃ N : Nat, q2.1 = N := ⟨q2.1.toNat, by omega⟩
  rw [hN2, Int.toNat_natCast] at eP
  have HHH := Lib.hid eH
  have HPP := Lib.hid eP
  have hN8 : N ≤ 8 := by omega
  have hN12 : N2 ≤ 12 := by omega
  have HNN := Lib.hid hN
  have HNN2 := Lib.hid hN2
  clear et1 et2 et3 et4 eq eH eq2 eP hN hN2 hcw hcw2
  go_enter Tryz.func5, Tryz.ntmps5
  go_wp2_with fail
  have hI0 : ICur ((w.alloc (.cells ([.slice none 0 0, .slice none 0 0, .int .i64 0, .int .i64 0, .int .i64 0, .int .i64 0] : List Value).toArray 27)).alloc (.cells #[.string s, .int .i64 0] 53)) (w.heap.size + 1) s 0 := ⟨⟨_, by have := heap_alloc_new (w.alloc (.cells ([.slice none 0 0, .slice none 0 0, .int .i64 0, .int .i64 0, .int .i64 0, .int .i64 0] : List Value).toArray 27)) (.cells #[.string s, .int .i64 0] 53); simpa using this⟩, ⟨by omega, by omega⟩⟩
  have KB := Blk.new ((w.alloc (.cells ([.slice none 0 0, .slice none 0 0, .int .i64 0, .int .i64 0, .int .i64 0, .int .i64 0] : List Value).toArray 27)).alloc (.cells #[.string s, .int .i64 0] 53)) [.slice none 0 0, .slice none 0 0, .int .i64 0, .int .i64 0, .int .i64 0, .int .i64 0] 27
  simp only [World.size_alloc] at KB
  have KR := Blk.new w ZCL 27
  have S0 : Sn w (((w.alloc (.cells ([.slice none 0 0, .slice none 0 0, .int .i64 0, .int .i64 0, .int .i64 0, .int .i64 0] : List Value).toArray 27)).alloc (.cells #[.string s, .int .i64 0] 53)).alloc (.cells ([.slice none 0 0, .slice none 0 0, .int .i64 0, .int .i64 0, .int .i64 0, .int .i64 0] : List Value).toArray 27)) s 0 [.slice none 0 0, .slice none 0 0, .int .i64 0, .int .i64 0, .int .i64 0, .int .i64 0] :=
    ⟨hI0.ext (ext_alloc (ext_refl _) _), KB, KR.ext (ext_alloc (ext_alloc (ext_refl _) _) _), (by repeat (first | with_reducible exact ext_refl _ | with_reducible assumption | with_reducible refine ext_alloc ?_ _ | with_reducible refine ext_trans ?_ (by assumption)))⟩
  clear hI0 KB KR
  refine (HT1.out _ S0.cur).mono ?_
  rintro e w1 ⟨rfl, hI1, hu1⟩
  have S1 := S0.call hI1 hu1
  have k1 := S1.box.cell (i := 3) (u := .int .i64 0) rfl
  have f1 := S1.box.fz 3
  have l1 := S1.box.lt
  have T1 := S1.put 3 (.int .i64 t1.1)
  go_wp2_with fail
  refine (HT2.out _ T1.cur).mono ?_
  rintro e w2 ⟨rfl, hI2, hu2⟩
  have S2 := T1.call hI2 hu2
  have k2 := S2.box.cell (i := 4) (u := .int .i64 0) rfl
  have f2 := S2.box.fz 4
  have l2 := S2.box.lt
  have T2 := S2.put 4 (.int .i64 t2.1)
  go_wp2_with fail
  refine (HT3.out _ T2.cur).mono ?_
  rintro e w3 ⟨rfl, hI3, hu3⟩
  have S3 := T2.call hI3 hu3
  have k3 := S3.box.cell (i := 5) (u := .int .i64 0) rfl
  have f3 := S3.box.fz 5
  have l3 := S3.box.lt
  have T3 := S3.put 5 (.int .i64 t3.1)
  go_wp2_with fail
  refine (HT4.out _ T3.cur).mono ?_
  rintro e w4 ⟨rfl, hI4, hu4⟩
  have S4 := T3.call hI4 hu4
  have k4 := S4.box.cell (i := 2) (u := .int .i64 0) rfl
  have f4 := S4.box.fz 2
  have l4 := S4.box.lt
  have T4 := S4.put 2 (.int .i64 t4.1)
  go_wp2_with fail
  refine (HQ.out _ T4.cur).mono ?_
  rw [HNN.out]
  rintro e w5 ⟨rfl, hI5, hu5⟩
  have S5 : Sn w w5 s q.2 [.slice none 0 0, .slice none 0 0, .int .i64 t4.1, .int .i64 t1.1, .int .i64 t2.1, .int .i64 t3.1] := T4.call hI5 hu5
  obtain ⟨B3, hB3⟩ : ∃ B3, w5.heap.size = B3 := ⟨_, rfl⟩
  have hg3 : w.heap.size + 1 + 1 < B3 := by rw [← hB3]; exact S5.box.lt
  have hr5 : w5.ownsRow B3 41 6 (.slice none 0 0) 0 [] := ⟨rfl, .inl ⟨rfl, rfl⟩⟩
  have hB3s : B3 ≤ w5.heap.size := Nat.le_of_eq hB3.symm
  clear hB3 S0 S1 T1 hI1 hu1 k1 f1 l1 S2 T2 hI2 hu2 k2 f2 l2 S3 T3 hI3 hu3 k3 f3 l3 S4 T4 hI4 hu4 k4 f4 l4 hI5 hu5
  go_wp2_with fail
  go_loopw [6] (fun n wr => ∃ (k : Nat) (xs : List Host) (ds : List Value) (F : List Nat) (a' : Int) (v : Value), n = .int .i64 k ∧ xs.length + k ≤ 8 ∧ Hid (loopI (hostI s) k xs a' = (H1, H2)) ∧ wr.ownsRow B3 41 6 v xs.length ds ∧ OwnCells wr B3 xs ds F ∧ (∀ g, v.ownBlock = some g → g ∉ F) ∧ Sn w wr s a' [v, .slice none 0 0, .int .i64 t4.1, .int .i64 t1.1, .int .i64 t2.1, .int .i64 t3.1] ∧ B3 ≤ wr.heap.size) (fun n _ => (intOf n).toNat)
  case atStart => exact ⟨N, [], [], [], q.2, .slice none 0 0, rfl, by simpa using hN8, HHH.out, hr5, OwnCells.nil _ _, (fun g hg => by simp), S5, hB3s⟩
  case round =>
    obtain ⟨k, xs, ds, F, a', v, rfl, hk8, HLP, hown, hcs, hne, hS, hBr⟩ := hrel
    cases k with
    | zero =>
      obtain ⟨rfl, rfl⟩ : H1 = xs ∧ H2 = a' := by have h := HLP.out; rw [loopI] at h; exact ⟨(Prod.mk.inj h).1.symm, (Prod.mk.inj h).2.symm⟩
      obtain ⟨Ah, ch, Gh, rfl, hOh⟩ := Own.of_row hown hcs hne
      have hHl : (H1.length : Int) ≤ 1048576 := by omega
      have hGb : ∀ y ∈ Gh, y ≠ w.heap.size + 1 := fun y hy => by have := hOh.base y hy; omega
      go_wp2_with fail
      refine (HQ2.out _ hS.cur).mono ?_
      rw [HNN2.out]
      rintro e w6 ⟨rfl, hI6, hu6⟩
      have S6 := hS.call hI6 hu6
      have ho6 := hOh.updO hu6 (by omega)
      obtain ⟨B4, hB4⟩ : ∃ B4, w6.heap.size = B4 := ⟨_, rfl⟩
      have hG4 : ∀ y ∈ Gh, y < B4 := fun y hy => hB4 ▸ ho6.lt y hy
      have hB4s : B4 ≤ w6.heap.size := Nat.le_of_eq hB4.symm
      have hg4 : B3 ≤ B4 := by have := hu6.size; omega
      have hr6 : w6.ownsRow B4 49 9 (.slice none 0 0) 0 [] := ⟨rfl, .inl ⟨rfl, rfl⟩⟩
      clear hB4 hS hOh hown hcs hI6 hu6 hBr hne HLP HHH S5 hr5 hB3s
      go_wp2_with fail
      go_loopw [7] (fun n wr => ∃ (k : Nat) (xs : List Placed) (ds : List Value) (F : List Nat) (a' : Int) (v : Value), n = .int .i64 k ∧ xs.length + k ≤ 12 ∧ Hid (loopI (placedI s H1) k xs a' = (P1, P2)) ∧ wr.ownsRow B4 49 9 v xs.length ds ∧ OwnCells wr B4 xs ds F ∧ (∀ g, v.ownBlock = some g → g ∉ F) ∧ Own wr B3 H1 [.slice Ah H1.length ch] Gh ∧ Sn w wr s a' [.slice Ah H1.length ch, v, .int .i64 t4.1, .int .i64 t1.1, .int .i64 t2.1, .int .i64 t3.1] ∧ B4 ≤ wr.heap.size) (fun n _ => (intOf n).toNat)
      case atStart => exact ⟨N2, [], [], [], q2.2, .slice none 0 0, rfl, by simpa using hN12, HPP.out, hr6, OwnCells.nil _ _, (fun g hg => by simp), ho6, S6, hB4s⟩
      case round =>
        obtain ⟨k, xs, ds, F, a', v, rfl, hk8, HLP, hown, hcs, hne, hO, hS, hBr⟩ := hrel
        cases k with
        | zero =>
          obtain ⟨rfl, rfl⟩ : P1 = xs ∧ P2 = a' := by have h := HLP.out; rw [loopI] at h; exact ⟨(Prod.mk.inj h).1.symm, (Prod.mk.inj h).2.symm⟩
          obtain ⟨Ap, cp, Gp, rfl, hOp⟩ := Own.of_row hown hcs hne
          have hOC : Own wr (w.heap.size + 1 + 1) (⟨H1, P1, t4.1, ⟨t1.1, t2.1, t3.1⟩⟩ : Cluster) [.slice Ah H1.length ch, .slice Ap P1.length cp, .int .i64 t4.1, .int .i64 t1.1, .int .i64 t2.1, .int .i64 t3.1] (Gh ++ Gp) := Own.clusterR hO hOp (by omega) hg4 hG4 hi4 hi1 hi2 hi3
          have HRS := Lib.hid (show readSnapI s = if P2 = (s.size : Int) ∧ clusterR (⟨H1, P1, t4.1, ⟨t1.1, t2.1, t3.1⟩⟩ : Cluster) = true then ((⟨H1, P1, t4.1, ⟨t1.1, t2.1, t3.1⟩⟩ : Cluster), true) else (zeroCluster, false) by unfold readSnapI; rw [HRW.out])
          have hPl : (P1.length : Int) ≤ 1048576 := by omega
          have HCK := Lib.hid (fun (wq : World) (hb : Below wr.heap.size wr wq) => ClusterOkC_impl (⟨H1, P1, t4.1, ⟨t1.1, t2.1, t3.1⟩⟩ : Cluster) _ _ wq (hOC.ext hb).rd hHl hPl HSM.out HSP.out)
          generalize clusterR (⟨H1, P1, t4.1, ⟨t1.1, t2.1, t3.1⟩⟩ : Cluster) = okb at *
          have HO := Lib.hid hOC
          have HS := Lib.hid hS
          have hc1 := hS.cur.c1
          have hcl := hS.cur.lt
          have k0 := hS.box.cell (i := 0) (u := .slice Ah H1.length ch) rfl
          have k1 := hS.box.cell (i := 1) (u := .slice Ap P1.length cp) rfl
          have k2 := hS.box.cell (i := 2) (u := .int .i64 t4.1) rfl
          have k3 := hS.box.cell (i := 3) (u := .int .i64 t1.1) rfl
          have k4 := hS.box.cell (i := 4) (u := .int .i64 t2.1) rfl
          have k5 := hS.box.cell (i := 5) (u := .int .i64 t3.1) rfl
          have kl := hS.box.lt
          have kf := hS.box.fz
          have r0 := hS.rb.cell (i := 0) (u := .slice none 0 0) rfl
          have r1 := hS.rb.cell (i := 1) (u := .slice none 0 0) rfl
          have r2 := hS.rb.cell (i := 2) (u := .int .i64 0) rfl
          have r3 := hS.rb.cell (i := 3) (u := .int .i64 0) rfl
          have r4 := hS.rb.cell (i := 4) (u := .int .i64 0) rfl
          have r5 := hS.rb.cell (i := 5) (u := .int .i64 0) rfl
          have rl := hS.rb.lt
          have rf := hS.rb.fz
          clear hS hOC hOp hO hown hcs hne HLP HPP S6 hr6 ho6 hB4s hBr
          by_cases hat : P2 = (s.size : Int)
          · subst hat
            cases okb
            · have HF := Lib.hid (show readSnapI s = (zeroCluster, false) by rw [HRS.out, if_neg (by simp)])
              go_wp2_with fail
              refine (HCK.out _ (by repeat (first | with_reducible exact ext_refl _ | with_reducible assumption | with_reducible refine ext_alloc ?_ _ | with_reducible refine ext_trans ?_ (by assumption)))).mono ?_
              rintro e w7 ⟨rfl, hb7⟩
              have HB := Lib.hid (ext_trans HS.out.below hb7)
              have RB7 := HS.out.rb.ext hb7
              have q0 := RB7.cell (i := 0) (u := .slice none 0 0) rfl
              have q1 := RB7.cell (i := 1) (u := .slice none 0 0) rfl
              have q2 := RB7.cell (i := 2) (u := .int .i64 0) rfl
              have q3 := RB7.cell (i := 3) (u := .int .i64 0) rfl
              have q4 := RB7.cell (i := 4) (u := .int .i64 0) rfl
              have q5 := RB7.cell (i := 5) (u := .int .i64 0) rfl
              have ql := RB7.lt
              have qf := RB7.fz
              clear RB7
              try dsimp only
              iterate 60 (first | go_step | skip)
              refine bodyPost_ret (v := .tuple #[.agg #[.slice none 0 0, .slice none 0 0, .int .i64 0, .int .i64 0, .int .i64 0, .int .i64 0], .bool false]) (by simp [results, Tryz.results5, go_sem, *]) rfl ?_
              rw [HF.out]
              have HB9 := HB.out
              first
                | refine ⟨[.slice none 0 0, .slice none 0 0, .int .i64 0, .int .i64 0, .int .i64 0, .int .i64 0], [], rfl, ?_, ?_⟩
                | refine ⟨[.slice none 0 0, .slice none 0 0, .int .i64 0, .int .i64 0, .int .i64 0, .int .i64 0], rfl, ⟨[], ?_⟩, ?_⟩
              · exact Own.zeroC _ _
              · repeat (first | with_reducible exact HB9 | with_reducible refine ext_drew ?_ | with_reducible refine ext_setCell ?_ (by exact Nat.le_refl _) _ | with_reducible refine ext_alloc ?_ _ | with_reducible refine ext_trans ?_ (by assumption))
            · have HF := Lib.hid (show readSnapI s = ((⟨H1, P1, t4.1, ⟨t1.1, t2.1, t3.1⟩⟩ : Cluster), true) by rw [HRS.out, if_pos (by simp)])
              go_wp2_with fail
              refine (HCK.out _ (by repeat (first | with_reducible exact ext_refl _ | with_reducible assumption | with_reducible refine ext_alloc ?_ _ | with_reducible refine ext_trans ?_ (by assumption)))).mono ?_
              rintro e w7 ⟨rfl, hb7⟩
              have HB := Lib.hid (ext_trans HS.out.below hb7)
              have RB7 := HS.out.rb.ext hb7
              have CB7 := HS.out.box.ext hb7
              have q0 := RB7.cell (i := 0) (u := .slice none 0 0) rfl
              have q1 := RB7.cell (i := 1) (u := .slice none 0 0) rfl
              have q2 := RB7.cell (i := 2) (u := .int .i64 0) rfl
              have q3 := RB7.cell (i := 3) (u := .int .i64 0) rfl
              have q4 := RB7.cell (i := 4) (u := .int .i64 0) rfl
              have q5 := RB7.cell (i := 5) (u := .int .i64 0) rfl
              have ql := RB7.lt
              have qf := RB7.fz
              have m0 := CB7.cell (i := 0) (u := .slice Ah H1.length ch) rfl
              have m1 := CB7.cell (i := 1) (u := .slice Ap P1.length cp) rfl
              have m2 := CB7.cell (i := 2) (u := .int .i64 t4.1) rfl
              have m3 := CB7.cell (i := 3) (u := .int .i64 t1.1) rfl
              have m4 := CB7.cell (i := 4) (u := .int .i64 t2.1) rfl
              have m5 := CB7.cell (i := 5) (u := .int .i64 t3.1) rfl
              have ml := CB7.lt
              have mf := CB7.fz
              clear RB7 CB7
              try dsimp only
              iterate 60 (first | go_step | skip)
              all_goals
                refine bodyPost_ret (v := .tuple #[.agg #[.slice Ah H1.length ch, .slice Ap P1.length cp, .int .i64 t4.1, .int .i64 t1.1, .int .i64 t2.1, .int .i64 t3.1], .bool true]) (by simp [results, Tryz.results5, go_sem, *]) rfl ?_
                rw [HF.out]
                have HB9 := HB.out
                first
                  | refine ⟨[.slice Ah H1.length ch, .slice Ap P1.length cp, .int .i64 t4.1, .int .i64 t1.1, .int .i64 t2.1, .int .i64 t3.1], Gh ++ Gp, rfl, ?_, ?_⟩
                  | refine ⟨[.slice Ah H1.length ch, .slice Ap P1.length cp, .int .i64 t4.1, .int .i64 t1.1, .int .i64 t2.1, .int .i64 t3.1], rfl, ⟨Gh ++ Gp, ?_⟩, ?_⟩
                · try dsimp only
                  refine Own.mono (B := w.heap.size + 1 + 1) ?_ (by omega)
                  repeat (first | with_reducible exact HO.out | with_reducible exact Own.ext HO.out hb7 | with_reducible refine Own.ext ?_ (ext_drew (ext_refl _)) | with_reducible refine Own.setCell ?_ (by show w.heap.size < _; omega) _ | with_reducible refine Own.alloc ?_ _)
                · repeat (first | with_reducible exact HB9 | with_reducible refine ext_drew ?_ | with_reducible refine ext_setCell ?_ (by exact Nat.le_refl _) _ | with_reducible refine ext_alloc ?_ _ | with_reducible refine ext_trans ?_ (by assumption))
          · have HF := Lib.hid (show readSnapI s = (zeroCluster, false) by rw [HRS.out, if_neg (fun h => hat h.1)])
            have hat2 : (P2 == (s.size : Int)) = false := by simp [hat]
            have HB := Lib.hid HS.out.below
            go_wp2_with fail
            iterate 60 (first | go_step | skip)
            refine bodyPost_ret (v := .tuple #[.agg #[.slice none 0 0, .slice none 0 0, .int .i64 0, .int .i64 0, .int .i64 0, .int .i64 0], .bool false]) (by simp [results, Tryz.results5, go_sem, *]) rfl ?_
            rw [HF.out]
            have HB9 := HB.out
            first
              | refine ⟨[.slice none 0 0, .slice none 0 0, .int .i64 0, .int .i64 0, .int .i64 0, .int .i64 0], [], rfl, ?_, ?_⟩
              | refine ⟨[.slice none 0 0, .slice none 0 0, .int .i64 0, .int .i64 0, .int .i64 0, .int .i64 0], rfl, ⟨[], ?_⟩, ?_⟩
            · exact Own.zeroC _ _
            · repeat (first | with_reducible exact HB9 | with_reducible refine ext_drew ?_ | with_reducible refine ext_setCell ?_ (by exact Nat.le_refl _) _ | with_reducible refine ext_alloc ?_ _ | with_reducible refine ext_trans ?_ (by assumption))
        | succ k =>
          have hl0 := HLP.out
          rw [loopI] at hl0
          have e0 : placedI s H1 a' = (⟨(podI s a').1, hostName H1 (countI s H1.length (podI s a').2).1, (varI s (countI s H1.length (podI s a').2).2).1⟩, (varI s (countI s H1.length (podI s a').2).2).2) := rfl
          rw [e0] at hl0
          dsimp only at hl0
          have HL1 := Lib.hid hl0
          clear hl0 e0
          have HTP := Lib.hid (fun wq hq => pod_any s (w.heap.size + 1) a' wq hq hs)
          have hxl : xs.length ≤ 12 := by omega
          obtain ⟨Av, cv, hv2⟩ := row_slice hown
          subst hv2
          have HTO := Lib.hid (fun (wq : World) (ps : List Value) (G : List Nat) (hq : ICur wq (w.heap.size + 1) s (podI s a').2) (hH : Sl wq H1 Ah ch Gh) (hp : rd wq (podI s a').1 ps G) => placed_any s (w.heap.size + 1) (podI s a').2 H1 Ah ch Gh Av xs.length cv t4.1 t1.1 t2.1 t3.1 (podI s a').1 ps G wq hq hs hH hHl hGb hp)
          have hnm := hostName_size HSM.out (countI s H1.length (podI s a').2).1
          have hzi : I64 (varI s (countI s H1.length (podI s a').2).2).1 := varI_I64a s _ hs
          generalize podI s a' = y at *
          generalize hostName H1 (countI s H1.length y.2).1 = nm at *
          generalize varI s (countI s H1.length y.2).2 = z at *
          have hSd := hS.ext (ext_drew (ext_refl wr))
          have rd0 := row_ext hown (ext_drew (ext_refl wr))
          have hcd : OwnCells wr.drew B4 xs ds F := hcs.keep (fun y hy => rfl) (Nat.le_refl _)
          have hod : Own wr.drew B3 H1 [.slice Ah H1.length ch] Gh := hO.ext (ext_drew (ext_refl wr))
          have zd : B4 ≤ wr.drew.heap.size := hBr
          have x0 := (show (wr.drew).cell? ⟨w.heap.size + 1 + 1, 0, none⟩ = some (.slice Ah H1.length ch) ∧ (wr.drew).cell? ⟨w.heap.size + 1 + 1, 1, none⟩ = some (.slice Av xs.length cv) ∧ (wr.drew).cell? ⟨w.heap.size + 1 + 1, 2, none⟩ = some (.int .i64 t4.1) ∧ (wr.drew).cell? ⟨w.heap.size + 1 + 1, 3, none⟩ = some (.int .i64 t1.1) ∧ (wr.drew).cell? ⟨w.heap.size + 1 + 1, 4, none⟩ = some (.int .i64 t2.1) ∧ (wr.drew).cell? ⟨w.heap.size + 1 + 1, 5, none⟩ = some (.int .i64 t3.1) from ⟨hSd.box.cell (i := 0) (u := .slice Ah H1.length ch) rfl, hSd.box.cell (i := 1) (u := .slice Av xs.length cv) rfl, hSd.box.cell (i := 2) (u := .int .i64 t4.1) rfl, hSd.box.cell (i := 3) (u := .int .i64 t1.1) rfl, hSd.box.cell (i := 4) (u := .int .i64 t2.1) rfl, hSd.box.cell (i := 5) (u := .int .i64 t3.1) rfl⟩)
          clear hS hown hcs hBr hO
          go_wp2_with fail
          refine wp_region_cut (fun w' => w'.cell? ⟨w.heap.size + 1 + 1, 0, none⟩ = some (.slice Ah H1.length ch) ∧ w'.cell? ⟨w.heap.size + 1 + 1, 1, none⟩ = some (.slice Av xs.length cv) ∧ w'.cell? ⟨w.heap.size + 1 + 1, 2, none⟩ = some (.int .i64 t4.1) ∧ w'.cell? ⟨w.heap.size + 1 + 1, 3, none⟩ = some (.int .i64 t1.1) ∧ w'.cell? ⟨w.heap.size + 1 + 1, 4, none⟩ = some (.int .i64 t2.1) ∧ w'.cell? ⟨w.heap.size + 1 + 1, 5, none⟩ = some (.int .i64 t3.1)) [0, 1, 2] [3, 4, 5, 6] [7, 8] (by kernel_rfl) (by kernel_rfl) (fun _ _ d _ _ h => by cases d <;> exact h) x0 ?_
          clear x0
          generalize wr.drew = wd at *
          simp only [pick, List.getElem?_cons_succ, List.getElem?_cons_zero]
          iterate 3
            (apply headC_step
             case hy =>
               refine Or.inl ⟨rfl, fun wq hq => ?_⟩
               obtain ⟨q0, q1, q2, q3, q4, q5⟩ := hq
               go_simp
               try rfl
             simp only [Act.put, List.setIfInBounds_toArray, List.set_cons_zero, List.set_cons_succ])
          refine headC_nil ?_
          refine wpListK_step rfl (fun K hK => ?_)
          go_simp
          refine (HTP.out _ hSd.cur).mono ?_
          rintro e w10 ⟨dp, Gp, rfl, hOp, hI10, hu10⟩
          have S10 := hSd.call hI10 hu10
          have r10 := row_upd rd0 hu10 (by omega)
          have hc10 := hcd.upd hu10 (by omega)
          have ho10 := hod.updO hu10 (by omega)
          have z10 : B4 ≤ w10.heap.size := Nat.le_trans zd hu10.size
          have hrp := hOp.rd
          obtain ⟨Alabels7, clabels7, Flabels7, Aneeds7, cneeds7, Fneeds7, Atolerances7, ctolerances7, Ftolerances7, hck, hGh, hname7, hlabels7, hcpu7, hmem7, hrank7, hneeds7, htolerances7⟩ := rd_Pod hrp
          subst hck
          clear hrp hGh
          have x0 := (show (w10).cell? ⟨w.heap.size + 1 + 1, 0, none⟩ = some (.slice Ah H1.length ch) ∧ (w10).cell? ⟨w.heap.size + 1 + 1, 1, none⟩ = some (.slice Av xs.length cv) ∧ (w10).cell? ⟨w.heap.size + 1 + 1, 2, none⟩ = some (.int .i64 t4.1) ∧ (w10).cell? ⟨w.heap.size + 1 + 1, 3, none⟩ = some (.int .i64 t1.1) ∧ (w10).cell? ⟨w.heap.size + 1 + 1, 4, none⟩ = some (.int .i64 t2.1) ∧ (w10).cell? ⟨w.heap.size + 1 + 1, 5, none⟩ = some (.int .i64 t3.1) from ⟨S10.box.cell (i := 0) (u := .slice Ah H1.length ch) rfl, S10.box.cell (i := 1) (u := .slice Av xs.length cv) rfl, S10.box.cell (i := 2) (u := .int .i64 t4.1) rfl, S10.box.cell (i := 3) (u := .int .i64 t1.1) rfl, S10.box.cell (i := 4) (u := .int .i64 t2.1) rfl, S10.box.cell (i := 5) (u := .int .i64 t3.1) rfl⟩)
          refine hK _ _ x0 ?_
          clear x0
          try simp only [Act.put, List.setIfInBounds_toArray, List.set_cons_zero, List.set_cons_succ]
          clear hK K
          refine wpListK_step rfl (fun K hK => ?_)
          go_simp
          refine (HTO.out _ _ _ S10.cur ho10.rd hOp.rd).mono ?_
          rintro e w11 ⟨rfl, hI11, hu11⟩
          simp only [List.cons_append, List.nil_append]
          have S11 := S10.call hI11 hu11
          have r11 := row_upd r10 hu11 (by omega)
          have hc11 := hc10.upd hu11 (by omega)
          have ho11 := ho10.updO hu11 (by omega)
          have hOp11 := Own.placed (Own.updO (B := wd.heap.size) hOp hu11 (by omega)) hnm hzi
          simp only [List.cons_append, List.nil_append] at hOp11
          have z11 : B4 ≤ w11.heap.size := Nat.le_trans z10 hu11.size
          have x0 := (show (w11).cell? ⟨w.heap.size + 1 + 1, 0, none⟩ = some (.slice Ah H1.length ch) ∧ (w11).cell? ⟨w.heap.size + 1 + 1, 1, none⟩ = some (.slice Av xs.length cv) ∧ (w11).cell? ⟨w.heap.size + 1 + 1, 2, none⟩ = some (.int .i64 t4.1) ∧ (w11).cell? ⟨w.heap.size + 1 + 1, 3, none⟩ = some (.int .i64 t1.1) ∧ (w11).cell? ⟨w.heap.size + 1 + 1, 4, none⟩ = some (.int .i64 t2.1) ∧ (w11).cell? ⟨w.heap.size + 1 + 1, 5, none⟩ = some (.int .i64 t3.1) from ⟨S11.box.cell (i := 0) (u := .slice Ah H1.length ch) rfl, S11.box.cell (i := 1) (u := .slice Av xs.length cv) rfl, S11.box.cell (i := 2) (u := .int .i64 t4.1) rfl, S11.box.cell (i := 3) (u := .int .i64 t1.1) rfl, S11.box.cell (i := 4) (u := .int .i64 t2.1) rfl, S11.box.cell (i := 5) (u := .int .i64 t3.1) rfl⟩)
          refine hK _ _ x0 ?_
          clear x0
          try simp only [Act.put, List.setIfInBounds_toArray, List.set_cons_zero, List.set_cons_succ]
          clear hK K
          have S11a := S11.ext (ext_alloc (ext_refl _) (.cells ([.string y.1.name, .slice Alabels7 y.1.labels.length clabels7, .int .i64 y.1.cpu, .int .i64 y.1.mem, .int .i64 y.1.rank, .slice Aneeds7 y.1.needs.length cneeds7, .slice Atolerances7 y.1.tolerances.length ctolerances7, .string nm, .int .i64 z.1] : List Value).toArray 49))
          have x0 := (show (w11.alloc (.cells ([.string y.1.name, .slice Alabels7 y.1.labels.length clabels7, .int .i64 y.1.cpu, .int .i64 y.1.mem, .int .i64 y.1.rank, .slice Aneeds7 y.1.needs.length cneeds7, .slice Atolerances7 y.1.tolerances.length ctolerances7, .string nm, .int .i64 z.1] : List Value).toArray 49)).cell? ⟨w.heap.size + 1 + 1, 0, none⟩ = some (.slice Ah H1.length ch) ∧ (w11.alloc (.cells ([.string y.1.name, .slice Alabels7 y.1.labels.length clabels7, .int .i64 y.1.cpu, .int .i64 y.1.mem, .int .i64 y.1.rank, .slice Aneeds7 y.1.needs.length cneeds7, .slice Atolerances7 y.1.tolerances.length ctolerances7, .string nm, .int .i64 z.1] : List Value).toArray 49)).cell? ⟨w.heap.size + 1 + 1, 1, none⟩ = some (.slice Av xs.length cv) ∧ (w11.alloc (.cells ([.string y.1.name, .slice Alabels7 y.1.labels.length clabels7, .int .i64 y.1.cpu, .int .i64 y.1.mem, .int .i64 y.1.rank, .slice Aneeds7 y.1.needs.length cneeds7, .slice Atolerances7 y.1.tolerances.length ctolerances7, .string nm, .int .i64 z.1] : List Value).toArray 49)).cell? ⟨w.heap.size + 1 + 1, 2, none⟩ = some (.int .i64 t4.1) ∧ (w11.alloc (.cells ([.string y.1.name, .slice Alabels7 y.1.labels.length clabels7, .int .i64 y.1.cpu, .int .i64 y.1.mem, .int .i64 y.1.rank, .slice Aneeds7 y.1.needs.length cneeds7, .slice Atolerances7 y.1.tolerances.length ctolerances7, .string nm, .int .i64 z.1] : List Value).toArray 49)).cell? ⟨w.heap.size + 1 + 1, 3, none⟩ = some (.int .i64 t1.1) ∧ (w11.alloc (.cells ([.string y.1.name, .slice Alabels7 y.1.labels.length clabels7, .int .i64 y.1.cpu, .int .i64 y.1.mem, .int .i64 y.1.rank, .slice Aneeds7 y.1.needs.length cneeds7, .slice Atolerances7 y.1.tolerances.length ctolerances7, .string nm, .int .i64 z.1] : List Value).toArray 49)).cell? ⟨w.heap.size + 1 + 1, 4, none⟩ = some (.int .i64 t2.1) ∧ (w11.alloc (.cells ([.string y.1.name, .slice Alabels7 y.1.labels.length clabels7, .int .i64 y.1.cpu, .int .i64 y.1.mem, .int .i64 y.1.rank, .slice Aneeds7 y.1.needs.length cneeds7, .slice Atolerances7 y.1.tolerances.length ctolerances7, .string nm, .int .i64 z.1] : List Value).toArray 49)).cell? ⟨w.heap.size + 1 + 1, 5, none⟩ = some (.int .i64 t3.1) from ⟨S11a.box.cell (i := 0) (u := .slice Ah H1.length ch) rfl, S11a.box.cell (i := 1) (u := .slice Av xs.length cv) rfl, S11a.box.cell (i := 2) (u := .int .i64 t4.1) rfl, S11a.box.cell (i := 3) (u := .int .i64 t1.1) rfl, S11a.box.cell (i := 4) (u := .int .i64 t2.1) rfl, S11a.box.cell (i := 5) (u := .int .i64 t3.1) rfl⟩)
          clear S11a
          refine wpListK_step rfl (fun K hK => ?_)
          go_simp
          refine hK _ _ x0 ?_
          clear x0
          try simp only [Act.put, List.setIfInBounds_toArray, List.set_cons_zero, List.set_cons_succ]
          clear hK K
          have HS11 := Lib.hid S11
          have HR0 := Lib.hid rd0
          have HC11 := Lib.hid hc11
          have HCD := Lib.hid hcd
          have HO11 := Lib.hid ho11
          have HOP := Lib.hid hOp11
          clear hSd S10 S11 rd0 hc10 hc11 hcd hod ho10 ho11 hOp hOp11 hI10 hu10 hI11 hu11 r10 z10
          refine wpListK_step rfl (fun K hK => ?_)
          refine wp_append2K elPlacedR _ _ (by rfl) _ _ _ _ _ r11 (by rfl) [.string y.1.name, .slice Alabels7 y.1.labels.length clabels7, .int .i64 y.1.cpu, .int .i64 y.1.mem, .int .i64 y.1.rank, .slice Aneeds7 y.1.needs.length cneeds7, .slice Atolerances7 y.1.tolerances.length ctolerances7, .string nm, .int .i64 z.1] (by first | rfl | (simp; rfl)) (by rfl) (by simp [Value.oneCell']) (by omega) (by omega) z11 ?_
          intro v6 w12 hown12 hg12 hz12 hat12
          obtain ⟨A7, c7, hv6⟩ := row_slice hown12
          subst hv6
          have S12 := HS11.out.grown hg12 (fun q hq => by have := (r11.lt q hq).1; omega)
          have ho12 := HO11.out.grownO (B2 := B4) hg12 hG4 (fun q hq => (r11.lt q hq).1)
          have x0 := (show (w12).cell? ⟨w.heap.size + 1 + 1, 0, none⟩ = some (.slice Ah H1.length ch) ∧ (w12).cell? ⟨w.heap.size + 1 + 1, 1, none⟩ = some (.slice Av xs.length cv) ∧ (w12).cell? ⟨w.heap.size + 1 + 1, 2, none⟩ = some (.int .i64 t4.1) ∧ (w12).cell? ⟨w.heap.size + 1 + 1, 3, none⟩ = some (.int .i64 t1.1) ∧ (w12).cell? ⟨w.heap.size + 1 + 1, 4, none⟩ = some (.int .i64 t2.1) ∧ (w12).cell? ⟨w.heap.size + 1 + 1, 5, none⟩ = some (.int .i64 t3.1) from ⟨S12.box.cell (i := 0) (u := .slice Ah H1.length ch) rfl, S12.box.cell (i := 1) (u := .slice Av xs.length cv) rfl, S12.box.cell (i := 2) (u := .int .i64 t4.1) rfl, S12.box.cell (i := 3) (u := .int .i64 t1.1) rfl, S12.box.cell (i := 4) (u := .int .i64 t2.1) rfl, S12.box.cell (i := 5) (u := .int .i64 t3.1) rfl⟩)
          have kx := x0.2.1
          have fx := S12.box.fz 1
          have lx := S12.box.lt
          refine hK _ _ x0 ?_
          clear x0
          try simp only [Act.put, List.setIfInBounds_toArray, List.set_cons_zero, List.set_cons_succ]
          clear hK K
          refine wpListK_nil ?_
          go_wp2
          have hl1 := HL1.out
          obtain ⟨hcs12, hne12⟩ := OwnCells.pushG (v' := .slice A7 (xs.length + 1) c7) r11 HC11.out hne HOP.out (by omega) (fun g hg => (HR0.out.lt g hg).2) (fun y hy => HCD.out.lt y hy) hg12 hat12
          have r13 := row_set (c := w.heap.size + 1 + 1) (i := 1) (u := .slice A7 (xs.length + 1) c7) hown12 (fun g hg => by have := (hown12.lt g hg).1; omega)
          refine ⟨⟨k, xs ++ [⟨y.1, nm, z.1⟩], _, _, z.2, .slice A7 (xs.length + 1) c7, by go_num, by simp; omega, Lib.hid hl1, (by rw [List.length_append]; exact r13), hcs12.setCell (p := ⟨w.heap.size + 1 + 1, 1, none⟩) (by show w.heap.size + 1 + 1 < _; omega) _, hne12, ho12.setCell (p := ⟨w.heap.size + 1 + 1, 1, none⟩) (by show w.heap.size + 1 + 1 < _; omega) _, S12.put 1 (.slice A7 (xs.length + 1) c7), by have := hg12.size; simp only [World.setCell, Array.size_modify] at *; omega⟩, by simp [intOf]⟩

    | succ k =>
      have hl0 := HLP.out
      rw [loopI] at hl0
      have HL1 := Lib.hid hl0
      clear hl0
      have HTH := Lib.hid (fun wq hq => host_any s (w.heap.size + 1) a' wq hq hs)
      generalize hostI s a' = y at *
      have hxl : xs.length ≤ 8 := by omega
      obtain ⟨Av, cv, hv2⟩ := row_slice hown
      subst hv2
      have hSd := hS.ext (ext_drew (ext_refl wr))
      have rd0 := row_ext hown (ext_drew (ext_refl wr))
      have hcd : OwnCells wr.drew B3 xs ds F := hcs.keep (fun y hy => rfl) (Nat.le_refl _)
      have zd : B3 ≤ wr.drew.heap.size := hBr
      have x0 := hSd.box.cell (i := 0) (u := .slice Av xs.length cv) rfl
      clear hS hown hcs hBr
      go_wp2_with fail
      refine wp_region_cut (fun w' => w'.cell? ⟨w.heap.size + 1 + 1, 0, none⟩ = some (.slice Av xs.length cv)) [0, 1] [2, 3, 4] [5, 6] (by kernel_rfl) (by kernel_rfl) (fun _ _ d _ _ h => by cases d <;> exact h) x0 ?_
      generalize wr.drew = wd at *
      simp only [pick, List.getElem?_cons_succ, List.getElem?_cons_zero]
      iterate 2
        (apply headC_step
         case hy =>
           refine Or.inl ⟨rfl, fun wq hq => ?_⟩
           go_simp
           try rfl
         simp only [Act.put, List.setIfInBounds_toArray, List.set_cons_zero, List.set_cons_succ])
      refine headC_nil ?_
      refine wpListK_step rfl (fun K hK => ?_)
      go_simp
      refine (HTH.out _ hSd.cur).mono ?_
      rintro e w10 ⟨dh, Gh, rfl, hOh, hI10, hu10⟩
      have S10 := hSd.call hI10 hu10
      have r10 := row_upd rd0 hu10 (by omega)
      have hc10 := hcd.upd hu10 (by omega)
      have z10 : B3 ≤ w10.heap.size := Nat.le_trans zd hu10.size
      have hrh := hOh.rd
      obtain ⟨Alabels7, clabels7, Flabels7, Ataints7, ctaints7, Ftaints7, hck, hGh, hname7, hlabels7, hcpu7, hmem7, hslots7, htaints7⟩ := rd_Host hrh
      subst hck
      clear hrh hGh
      have x0' := S10.box.cell (i := 0) (u := .slice Av xs.length cv) rfl
      have x0a := (Blk.ext S10.box (ext_alloc (ext_refl _) (.cells ([.string y.1.name, .slice Alabels7 y.1.labels.length clabels7, .int .i64 y.1.cpu, .int .i64 y.1.mem, .int .i64 y.1.slots, .slice Ataints7 y.1.taints.length ctaints7] : List Value).toArray 41))).cell (i := 0) (u := .slice Av xs.length cv) rfl
      refine hK _ _ x0' ?_
      try simp only [Act.put, List.setIfInBounds_toArray, List.set_cons_zero, List.set_cons_succ]
      clear hK K
      refine wpListK_step rfl (fun K hK => ?_)
      go_simp
      refine hK _ _ x0a ?_
      try simp only [Act.put, List.setIfInBounds_toArray, List.set_cons_zero, List.set_cons_succ]
      clear hK K
      have HS10 := Lib.hid S10
      have HR0 := Lib.hid rd0
      have HC10 := Lib.hid hc10
      have HCD := Lib.hid hcd
      have HOH := Lib.hid hOh
      clear hSd S10 rd0 hc10 hcd hOh hI10 hu10
      refine wpListK_step rfl (fun K hK => ?_)
      refine wp_append2K elHostR _ _ (by rfl) _ _ _ _ _ r10 (by rfl) [.string y.1.name, .slice Alabels7 y.1.labels.length clabels7, .int .i64 y.1.cpu, .int .i64 y.1.mem, .int .i64 y.1.slots, .slice Ataints7 y.1.taints.length ctaints7] (by first | rfl | (simp; rfl)) (by rfl) (by simp [Value.oneCell']) (by omega) (by omega) z10 ?_
      intro v6 w11 hown11 hg11 hz11 hat11
      obtain ⟨A7, c7, hv6⟩ := row_slice hown11
      subst hv6
      have S11 := HS10.out.grown hg11 (fun q hq => by have := (r10.lt q hq).1; omega)
      have kx := S11.box.cell (i := 0) (u := .slice Av xs.length cv) rfl
      have fx := S11.box.fz 0
      have lx := S11.box.lt
      refine hK _ _ kx ?_
      try simp only [Act.put, List.setIfInBounds_toArray, List.set_cons_zero, List.set_cons_succ]
      clear hK K
      refine wpListK_nil ?_
      go_wp2
      have hl1 := HL1.out
      obtain ⟨hcs12, hne12⟩ := OwnCells.pushG (v' := .slice A7 (xs.length + 1) c7) r10 HC10.out hne HOH.out (by omega) (fun g hg => (HR0.out.lt g hg).2) (fun y hy => HCD.out.lt y hy) hg11 hat11
      have r13 := row_set (c := w.heap.size + 1 + 1) (i := 0) (u := .slice A7 (xs.length + 1) c7) hown11 (fun g hg => by have := (hown11.lt g hg).1; omega)
      refine ⟨⟨k, xs ++ [y.1], _, _, y.2, .slice A7 (xs.length + 1) c7, by go_num, by simp; omega, Lib.hid hl1, (by rw [List.length_append]; exact r13), hcs12.setCell (p := ⟨w.heap.size + 1 + 1, 0, none⟩) (by show w.heap.size + 1 + 1 < _; omega) _, hne12, S11.put 0 (.slice A7 (xs.length + 1) c7), by have := hg11.size; simp only [World.setCell, Array.size_modify] at *; omega⟩, by simp [intOf]⟩


end Go.Proofs.YtpgdgcjgompokaaGreat
