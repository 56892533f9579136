/- ReadSnap, of the reference. No condition. -/
import Derived.Test.YtpgdgcjgompokaaGreatRdSnX
import Derived.Test.YtpgdgcjgompokaaGreatRdSnO
import Derived.Test.YtpgdgcjgompokaaGreatRdHS
import Derived.Test.YtpgdgcjgompokaaGreatRdPS
import Derived.Test.YtpgdgcjgompokaaGreatClusterSC
namespace Go.Proofs.YtpgdgcjgompokaaGreat
open Go.ChangeShapes Go.WideShapes Go.ChangeAt Go.RowKit
set_option linter.unusedVariables false
set_option linter.unusedSimpArgs false

/-- the reference's state in a snapshot: as Sn, over its own cursor -/
structure SnS (w wk : World) (s : ByteArray) (a : Int × Bool) (cs : List Value) : Prop where
  cur : SCur wk (w.heap.size + 1) s a
  box : Blk wk (w.heap.size + 1 + 1) cs
  rb : Blk wk w.heap.size ZCL
  below : Below w.heap.size w wk
section
variable {w wk w' : World} {s : ByteArray} {a a' : Int × Bool} {cs : List Value}
theorem SnS.call (h : SnS w wk s a cs) (hc : SCur w' (w.heap.size + 1) s a') (hu : Upd [w.heap.size + 1] wk w') : SnS w w' s a' cs :=
  ⟨hc, h.box.upd hu (by omega), h.rb.upd hu (by omega), h.below.trans (hu.below (fun y hy => by simp only [List.mem_singleton] at hy; omega) (by have := h.below.size; omega))⟩
theorem SnS.put (h : SnS w wk s a cs) (i : Nat) (u : Value) : SnS w (wk.setCell ⟨w.heap.size + 1 + 1, i, none⟩ u) s a (cs.set i u) :=
  ⟨h.cur.far (by omega) i u, h.box.put i u, h.rb.far (by omega) i u, ext_setCell h.below (by dsimp only; omega) u⟩
theorem SnS.ext (h : SnS w wk s a cs) (hb : Below wk.heap.size wk w') : SnS w w' s a cs := ⟨h.cur.ext hb, h.box.ext hb, h.rb.ext hb, ext_trans h.below hb⟩
theorem SnS.far (h : SnS w wk s a cs) {c : Nat} (hc : w.heap.size + 1 + 1 < c) (i : Nat) (u : Value) : SnS w (wk.setCell ⟨c, i, none⟩ u) s a cs :=
  ⟨h.cur.far (by omega) i u, h.box.far (by omega) i u, h.rb.far (by omega) i u, ext_setCell h.below (by dsimp only; omega) u⟩
theorem SnS.grown {row : Option Nat} (h : SnS w wk s a cs) (hg : wk.grownBy w' row) (hr : ∀ q, row = some q → w.heap.size + 1 + 1 < q) : SnS w w' s a cs :=
  ⟨h.cur.keep (hg.block _ h.cur.lt (by intro e; have := hr _ e.symm; omega)), h.box.keep (hg.block _ h.box.lt (by intro e; have := hr _ e.symm; omega)), h.rb.keep (hg.block _ h.rb.lt (by intro e; have := hr _ e.symm; omega)),
   ⟨hg.os.trans h.below.os, hg.tape.trans h.below.tape, hg.output.trans h.below.output, Nat.le_trans h.below.size hg.size, fun i hi => (hg.block i (by have := h.below.size; omega) (by intro e; have := hr _ e.symm; omega)).trans (h.below.block i hi)⟩⟩
end
theorem manyL_len4S {α : Type} (r : Int × Bool → α × (Int × Bool)) (s : ByteArray) (st : Int × Bool) : (manyL r s 4 st).1.length ≤ 4 := by
  have h := loopS_len r (manyS s 4 st).1.toNat [] (manyS s 4 st).2
  have := manyS_ways s 4 st (by decide)
  refine Nat.le_trans h ?_
  rw [List.length_nil]
  omega
theorem manyL_allS {α : Type} {r : Int × Bool → α × (Int × Bool)} {p : α → Prop} (hr : ∀ st, p (r st).1) (s : ByteArray) (most : Int) (st : Int × Bool) : ∀ x ∈ (manyL r s most st).1, p x := loopS_all hr _ _ _ (fun l hl => by cases hl)
theorem hostS_small (s : ByteArray) (st : Int × Bool) (hs : (s.size : Int) ≤ 1048576) : SmallH (hostS s st).1 := by
  unfold hostS restS
  dsimp only
  have h1 := labelsS_len s (textS s st).2
  refine ⟨textS_size s st hs, by dsimp only; omega, labelsS_small s _ hs, ?_, ?_⟩
  · have := manyL_len4S (taintS s) s (numS s (numS s (numS s (labelsS s (textS s st).2).2).2).2).2
    unfold manyL at this
    dsimp only
    omega
  · exact manyL_allS (r := taintS s) (fun a => ⟨textS_size s _ hs, textS_size s _ hs⟩) s 4 (numS s (numS s (numS s (labelsS s (textS s st).2).2).2).2).2
theorem podS_needsS (s : ByteArray) (st : Int × Bool) (hs : (s.size : Int) ≤ 1048576) : (podS s st).1.needs.length ≤ 4 ∧ ∀ l ∈ (podS s st).1.needs, SmallN l := ⟨manyL_len4S _ s _, manyL_allS (fun a => needS_small s a hs) s _ _⟩
theorem podS_tolsS (s : ByteArray) (st : Int × Bool) (hs : (s.size : Int) ≤ 1048576) : (podS s st).1.tolerances.length ≤ 4 ∧ ∀ l ∈ (podS s st).1.tolerances, SmallT l := by
  unfold podS restPS
  dsimp only
  exact ⟨manyL_len4S _ s _, manyL_allS (fun a => tolS_small s a hs) s _ _⟩
theorem podS_small (s : ByteArray) (st : Int × Bool) (hs : (s.size : Int) ≤ 1048576) : SmallP (podS s st).1 := by
  obtain ⟨h1, h2⟩ := podS_needsS s st hs
  obtain ⟨h3, h4⟩ := podS_tolsS s st hs
  have h5 : (podS s st).1.labels.length ≤ 6 := labelsS_len s _
  exact ⟨textS_size s st hs, by omega, labelsS_small s _ hs, by omega, h2, by omega, h4⟩
set_option maxRecDepth 100000 in
set_option maxHeartbeats 40000000 in
theorem ReadSnap_spec (s : ByteArray) (w : World) (hs : (s.size : Int) ≤ 1048576) :
    Calls Tryz.prog 4 #[.string s] w fun e w' => ∃ ds F, e = .returned (.tuple #[.agg ds.toArray, .bool (readSnapS s).2]) ∧ Own w' w.heap.size (readSnapS s).1 ds F ∧ Below w.heap.size w w' := by
  obtain ⟨t1, et1⟩ : ∃ t, numS s (0, false) = t := ⟨_, rfl⟩
  obtain ⟨t2, et2⟩ : ∃ t, numS s t1.2 = t := ⟨_, rfl⟩
  obtain ⟨t3, et3⟩ : ∃ t, numS s t2.2 = t := ⟨_, rfl⟩
  obtain ⟨t4, et4⟩ : ∃ t, numS s t3.2 = t := ⟨_, rfl⟩
  obtain ⟨q, eq⟩ : ∃ t, manyS s 8 t4.2 = t := ⟨_, rfl⟩
  obtain ⟨⟨H1, H2⟩, eH⟩ : ∃ t, loopS (hostS s) q.1.toNat [] q.2 = t := ⟨_, rfl⟩
  obtain ⟨q2, eq2⟩ : ∃ t, manyS s 12 H2 = t := ⟨_, rfl⟩
  obtain ⟨⟨P1, P2⟩, eP⟩ : ∃ t, loopS (placedS s H1) q2.1.toNat [] q2.2 = t := ⟨_, rfl⟩
  have HRW := Lib.hid (show snapS s = (⟨H1, P1, t4.1, ⟨t1.1, t2.1, t3.1⟩⟩, P2) by
    unfold snapS bodyS manyL
    rw [et1, et2, et3, et4, eq, eH]
    dsimp only
    rw [eq2, eP])
  have HT1 := Lib.hid (fun wq hq => Num_spec s (w.heap.size + 1) (0, false) wq hq hs)
  have HT2 := Lib.hid (fun wq hq => Num_spec s (w.heap.size + 1) t1.2 wq hq hs)
  have HT3 := Lib.hid (fun wq hq => Num_spec s (w.heap.size + 1) t2.2 wq hq hs)
  have HT4 := Lib.hid (fun wq hq => Num_spec s (w.heap.size + 1) t3.2 wq hq hs)
  have HQ := Lib.hid (fun wq hq => Many_spec s (w.heap.size + 1) 8 t4.2 wq hq hs)
  have HQ2 := Lib.hid (fun wq hq => Many_spec s (w.heap.size + 1) 12 H2 wq hq hs)
  rw [et1] at HT1
  rw [et2] at HT2
  rw [et3] at HT3
  rw [et4] at HT4
  rw [eq] at HQ
  rw [eq2] at HQ2
  have hi1 : I64 t1.1 := et1 ▸ numS_I64 s (0, false) hs
  have hi2 : I64 t2.1 := et2 ▸ numS_I64 s t1.2 hs
  have hi3 : I64 t3.1 := et3 ▸ numS_I64 s t2.2 hs
  have hi4 : I64 t4.1 := et4 ▸ numS_I64 s t3.2 hs
  have hcw : 0 ≤ q.1 ∧ q.1 ≤ 8 := eq ▸ manyS_ways s 8 t4.2 (by decide)
  have hcw2 : 0 ≤ q2.1 ∧ q2.1 ≤ 12 := eq2 ▸ manyS_ways s 12 H2 (by decide)
  have HSM := Lib.hid (show ∀ y ∈ H1, SmallH y by
    have h := loopS_all (p := SmallH) (fun a => hostS_small s a hs) q.1.toNat [] q.2 (fun l hl => by cases hl)
    rw [eH] at h; exact h)
  have HSP := Lib.hid (show ∀ y ∈ P1, SmallP y.pod by
    have h := loopS_all (r := placedS s H1) (p := fun y : Placed => SmallP y.pod) (fun a => podS_small s a hs) q2.1.toNat [] q2.2 (fun l hl => by cases hl)
    rw [eP] at h; exact h)
  obtain ⟨N, hN⟩ : ∃ N : Nat, q.1 = N := ⟨q.1.toNat, by omega⟩
  rw [hN, Int.toNat_natCast] at eH
  obtain ⟨N2, hN2⟩ : ∃ N : Nat, q2.1 = N := ⟨q2.1.toNat, by omega⟩
  rw [hN2, Int.toNat_natCast] at eP
  have HHH := Lib.hid eH
  have HPP := Lib.hid eP
  have hN8 : N ≤ 8 := by omega
  have hN12 : N2 ≤ 12 := by omega
  have HNN := Lib.hid hN
  have HNN2 := Lib.hid hN2
  clear et1 et2 et3 et4 eq eH eq2 eP hN hN2 hcw hcw2
  go_enter Tryz.func4, Tryz.ntmps4
  go_wp2_with fail
  have hI0 : SCur ((w.alloc (.cells ([.slice none 0 0, .slice none 0 0, .int .i64 0, .int .i64 0, .int .i64 0, .int .i64 0] : List Value).toArray 27)).alloc (.cells #[.string s, .int .i64 0, .bool false] 35)) (w.heap.size + 1) s (0, false) := ⟨⟨_, by have := heap_alloc_new (w.alloc (.cells ([.slice none 0 0, .slice none 0 0, .int .i64 0, .int .i64 0, .int .i64 0, .int .i64 0] : List Value).toArray 27)) (.cells #[.string s, .int .i64 0, .bool false] 35); simpa using this⟩, ⟨by omega, by omega⟩⟩
  have KB := Blk.new ((w.alloc (.cells ([.slice none 0 0, .slice none 0 0, .int .i64 0, .int .i64 0, .int .i64 0, .int .i64 0] : List Value).toArray 27)).alloc (.cells #[.string s, .int .i64 0, .bool false] 35)) [.slice none 0 0, .slice none 0 0, .int .i64 0, .int .i64 0, .int .i64 0, .int .i64 0] 27
  simp only [World.size_alloc] at KB
  have KR := Blk.new w ZCL 27
  have S0 : SnS w (((w.alloc (.cells ([.slice none 0 0, .slice none 0 0, .int .i64 0, .int .i64 0, .int .i64 0, .int .i64 0] : List Value).toArray 27)).alloc (.cells #[.string s, .int .i64 0, .bool false] 35)).alloc (.cells ([.slice none 0 0, .slice none 0 0, .int .i64 0, .int .i64 0, .int .i64 0, .int .i64 0] : List Value).toArray 27)) s (0, false) [.slice none 0 0, .slice none 0 0, .int .i64 0, .int .i64 0, .int .i64 0, .int .i64 0] :=
    ⟨hI0.ext (ext_alloc (ext_refl _) _), KB, KR.ext (ext_alloc (ext_alloc (ext_refl _) _) _), (by repeat (first | with_reducible exact ext_refl _ | with_reducible assumption | with_reducible refine ext_alloc ?_ _ | with_reducible refine ext_trans ?_ (by assumption)))⟩
  clear hI0 KB KR
  refine (HT1.out _ S0.cur).mono ?_
  rintro e w1 ⟨rfl, hI1, hu1⟩
  have S1 := S0.call hI1 hu1
  have k1 := S1.box.cell (i := 3) (u := .int .i64 0) rfl
  have f1 := S1.box.fz 3
  have l1 := S1.box.lt
  have T1 := S1.put 3 (.int .i64 t1.1)
  go_wp2_with fail
  refine (HT2.out _ T1.cur).mono ?_
  rintro e w2 ⟨rfl, hI2, hu2⟩
  have S2 := T1.call hI2 hu2
  have k2 := S2.box.cell (i := 4) (u := .int .i64 0) rfl
  have f2 := S2.box.fz 4
  have l2 := S2.box.lt
  have T2 := S2.put 4 (.int .i64 t2.1)
  go_wp2_with fail
  refine (HT3.out _ T2.cur).mono ?_
  rintro e w3 ⟨rfl, hI3, hu3⟩
  have S3 := T2.call hI3 hu3
  have k3 := S3.box.cell (i := 5) (u := .int .i64 0) rfl
  have f3 := S3.box.fz 5
  have l3 := S3.box.lt
  have T3 := S3.put 5 (.int .i64 t3.1)
  go_wp2_with fail
  refine (HT4.out _ T3.cur).mono ?_
  rintro e w4 ⟨rfl, hI4, hu4⟩
  have S4 := T3.call hI4 hu4
  have k4 := S4.box.cell (i := 2) (u := .int .i64 0) rfl
  have f4 := S4.box.fz 2
  have l4 := S4.box.lt
  have T4 := S4.put 2 (.int .i64 t4.1)
  go_wp2_with fail
  refine (HQ.out _ T4.cur).mono ?_
  rw [HNN.out]
  rintro e w5 ⟨rfl, hI5, hu5⟩
  have S5 : SnS w w5 s q.2 [.slice none 0 0, .slice none 0 0, .int .i64 t4.1, .int .i64 t1.1, .int .i64 t2.1, .int .i64 t3.1] := T4.call hI5 hu5
  obtain ⟨B3, hB3⟩ : ∃ B3, w5.heap.size = B3 := ⟨_, rfl⟩
  have hg3 : w.heap.size + 1 + 1 < B3 := by rw [← hB3]; exact S5.box.lt
  have hr5 : w5.ownsRow B3 41 6 (.slice none 0 0) 0 [] := ⟨rfl, .inl ⟨rfl, rfl⟩⟩
  have hB3s : B3 ≤ w5.heap.size := Nat.le_of_eq hB3.symm
  clear hB3 S0 S1 T1 hI1 hu1 k1 f1 l1 S2 T2 hI2 hu2 k2 f2 l2 S3 T3 hI3 hu3 k3 f3 l3 S4 T4 hI4 hu4 k4 f4 l4 hI5 hu5
  go_wp2_with fail
  go_loopw [7] (fun i wr => ∃ (j k : Nat) (xs : List Host) (ds : List Value) (F : List Nat) (a' : Int × Bool) (v : Value), i = .int .i64 j ∧ j + k = N ∧ xs.length + k ≤ 8 ∧ Hid (loopS (hostS s) k xs a' = (H1, H2)) ∧ wr.ownsRow B3 41 6 v xs.length ds ∧ OwnCells wr B3 xs ds F ∧ (∀ g, v.ownBlock = some g → g ∉ F) ∧ SnS w wr s a' [v, .slice none 0 0, .int .i64 t4.1, .int .i64 t1.1, .int .i64 t2.1, .int .i64 t3.1] ∧ B3 ≤ wr.heap.size) (fun i _ => N - (intOf i).toNat)
  case atStart => exact ⟨0, N, [], [], [], q.2, .slice none 0 0, rfl, by omega, by simpa using hN8, HHH.out, hr5, OwnCells.nil _ _, (fun g hg => by simp), S5, hB3s⟩
  case round =>
    obtain ⟨j, k, xs, ds, F, a', v, rfl, hjk, hk8, HLP, hown, hcs, hne, hS, hBr⟩ := hrel
    obtain ⟨a', bad⟩ := a'
    have hcb := hS.cur.c2
    have hlb := hS.cur.lt
    by_cases hd : k = 0 ∨ bad = true
    · have hl0 : (xs, (a', bad)) = (H1, H2) := by
        have := HLP.out
        rcases hd with rfl | rfl
        · rw [loopS] at this; exact this
        · cases k with
          | zero => rw [loopS] at this; exact this
          | succ k9 => rw [loopS, if_pos rfl] at this; exact this
      obtain ⟨rfl, rfl⟩ : xs = H1 ∧ (a', bad) = H2 := Prod.mk.inj hl0
      clear hl0
      obtain ⟨Ah, ch, Gh, rfl, hOh⟩ := Own.of_row hown hcs hne
      have hHl : (xs.length : Int) ≤ 1048576 := by omega
      have hGb : ∀ y ∈ Gh, y ≠ w.heap.size + 1 := fun y hy => by have := hOh.base y hy; omega
      by_cases hji : (j : Int) < (N : Int)
      · obtain rfl : bad = true := by rcases hd with h0 | h0; · omega
                                      · exact h0
        go_wp2_with fail
        refine (HQ2.out _ hS.cur).mono ?_
        rw [HNN2.out]
        rintro e w6 ⟨rfl, hI6, hu6⟩
        have S6 := hS.call hI6 hu6
        have ho6 := hOh.updO hu6 (by omega)
        obtain ⟨B4, hB4⟩ : ∃ B4, w6.heap.size = B4 := ⟨_, rfl⟩
        have hG4 : ∀ y ∈ Gh, y < B4 := fun y hy => hB4 ▸ ho6.lt y hy
        have hB4s : B4 ≤ w6.heap.size := Nat.le_of_eq hB4.symm
        have hg4 : B3 ≤ B4 := by have := hu6.size; omega
        have hr6 : w6.ownsRow B4 49 9 (.slice none 0 0) 0 [] := ⟨rfl, .inl ⟨rfl, rfl⟩⟩
        clear hB4 hS hOh hown hcs hI6 hu6 hBr hne HLP HHH S5 hr5 hB3s hcb hlb
        go_wp2_with fail
        go_loopw [8] (fun i wr => ∃ (j k : Nat) (ps : List Placed) (ds : List Value) (F : List Nat) (a' : Int × Bool) (v : Value), i = .int .i64 j ∧ j + k = N2 ∧ ps.length + k ≤ 12 ∧ Hid (loopS (placedS s xs) k ps a' = (P1, P2)) ∧ wr.ownsRow B4 49 9 v ps.length ds ∧ OwnCells wr B4 ps ds F ∧ (∀ g, v.ownBlock = some g → g ∉ F) ∧ Own wr B3 xs [.slice Ah xs.length ch] Gh ∧ SnS w wr s a' [.slice Ah xs.length ch, v, .int .i64 t4.1, .int .i64 t1.1, .int .i64 t2.1, .int .i64 t3.1] ∧ B4 ≤ wr.heap.size) (fun i _ => N2 - (intOf i).toNat)
        case atStart => exact ⟨0, N2, [], [], [], q2.2, .slice none 0 0, rfl, by omega, by simpa using hN12, HPP.out, hr6, OwnCells.nil _ _, (fun g hg => by simp), ho6, S6, hB4s⟩
        case round =>
          obtain ⟨j, k, ps, ds, F, a', v, rfl, hjk, hk12, HLP, hown, hcs, hne, hO, hS, hBr⟩ := hrel
          obtain ⟨a', bad⟩ := a'
          have hcb := hS.cur.c2
          have hlb := hS.cur.lt
          by_cases hd : k = 0 ∨ bad = true
          · have hl0 : (ps, (a', bad)) = (P1, P2) := by
              have := HLP.out
              rcases hd with rfl | rfl
              · rw [loopS] at this; exact this
              · cases k with
                | zero => rw [loopS] at this; exact this
                | succ k9 => rw [loopS, if_pos rfl] at this; exact this
            obtain ⟨rfl, rfl⟩ : ps = P1 ∧ (a', bad) = P2 := Prod.mk.inj hl0
            clear hl0
            by_cases hji : (j : Int) < (N2 : Int)
            · obtain rfl : bad = true := by rcases hd with h0 | h0; · omega
                                            · exact h0
              obtain ⟨Ap, cp, Gp, rfl, hOp⟩ := Own.of_row hown hcs hne
              have hOC : Own wr (w.heap.size + 1 + 1) (⟨xs, ps, t4.1, ⟨t1.1, t2.1, t3.1⟩⟩ : Cluster) [.slice Ah xs.length ch, .slice Ap ps.length cp, .int .i64 t4.1, .int .i64 t1.1, .int .i64 t2.1, .int .i64 t3.1] (Gh ++ Gp) := Own.clusterR hO hOp (by omega) hg4 hG4 hi4 hi1 hi2 hi3
              have HRS := Lib.hid (show readSnapS s = if ((a', true) : Int × Bool) = ((s.size : Int), false) ∧ clusterR (⟨xs, ps, t4.1, ⟨t1.1, t2.1, t3.1⟩⟩ : Cluster) = true then ((⟨xs, ps, t4.1, ⟨t1.1, t2.1, t3.1⟩⟩ : Cluster), true) else (zeroCluster, false) by unfold readSnapS; rw [HRW.out])
              have hPl : (ps.length : Int) ≤ 1048576 := by omega
              have HCK := Lib.hid (fun (wq : World) (hb : Below wr.heap.size wr wq) => ClusterOkC_spec (⟨xs, ps, t4.1, ⟨t1.1, t2.1, t3.1⟩⟩ : Cluster) _ _ wq (hOC.ext hb).rd hHl hPl HSM.out HSP.out)
              generalize clusterR (⟨xs, ps, t4.1, ⟨t1.1, t2.1, t3.1⟩⟩ : Cluster) = okb at *
              have HO := Lib.hid hOC
              have HS := Lib.hid hS
              have hc1 := hS.cur.c1
              have hcl := hS.cur.lt
              have k0 := hS.box.cell (i := 0) (u := .slice Ah xs.length ch) rfl
              have k1 := hS.box.cell (i := 1) (u := .slice Ap ps.length cp) rfl
              have k2 := hS.box.cell (i := 2) (u := .int .i64 t4.1) rfl
              have k3 := hS.box.cell (i := 3) (u := .int .i64 t1.1) rfl
              have k4 := hS.box.cell (i := 4) (u := .int .i64 t2.1) rfl
              have k5 := hS.box.cell (i := 5) (u := .int .i64 t3.1) rfl
              have kl := hS.box.lt
              have kf := hS.box.fz
              have r0 := hS.rb.cell (i := 0) (u := .slice none 0 0) rfl
              have r1 := hS.rb.cell (i := 1) (u := .slice none 0 0) rfl
              have r2 := hS.rb.cell (i := 2) (u := .int .i64 0) rfl
              have r3 := hS.rb.cell (i := 3) (u := .int .i64 0) rfl
              have r4 := hS.rb.cell (i := 4) (u := .int .i64 0) rfl
              have r5 := hS.rb.cell (i := 5) (u := .int .i64 0) rfl
              have rl := hS.rb.lt
              have rf := hS.rb.fz
              clear hS hOC hOp hO hown hcs hne HLP HPP S6 hr6 ho6 hB4s hBr
              have HF := Lib.hid (show readSnapS s = (zeroCluster, false) by rw [HRS.out, if_neg (by simp)])
              have HB := Lib.hid HS.out.below
              go_wp2_with fail
              iterate 60 (first | go_step | skip)
              refine bodyPost_ret (v := .tuple #[.agg #[.slice none 0 0, .slice none 0 0, .int .i64 0, .int .i64 0, .int .i64 0, .int .i64 0], .bool false]) (by simp [results, Tryz.results4, go_sem, *]) rfl ?_
              rw [HF.out]
              have HB9 := HB.out
              first
                | refine ⟨[.slice none 0 0, .slice none 0 0, .int .i64 0, .int .i64 0, .int .i64 0, .int .i64 0], [], rfl, ?_, ?_⟩
                | refine ⟨[.slice none 0 0, .slice none 0 0, .int .i64 0, .int .i64 0, .int .i64 0, .int .i64 0], rfl, ⟨[], ?_⟩, ?_⟩
              · exact Own.zeroC _ _
              · repeat (first | with_reducible exact HB9 | with_reducible refine ext_drew ?_ | with_reducible refine ext_setCell ?_ (by exact Nat.le_refl _) _ | with_reducible refine ext_alloc ?_ _)
            · cases bad
              · obtain ⟨Ap, cp, Gp, rfl, hOp⟩ := Own.of_row hown hcs hne
                have hOC : Own wr (w.heap.size + 1 + 1) (⟨xs, ps, t4.1, ⟨t1.1, t2.1, t3.1⟩⟩ : Cluster) [.slice Ah xs.length ch, .slice Ap ps.length cp, .int .i64 t4.1, .int .i64 t1.1, .int .i64 t2.1, .int .i64 t3.1] (Gh ++ Gp) := Own.clusterR hO hOp (by omega) hg4 hG4 hi4 hi1 hi2 hi3
                have HRS := Lib.hid (show readSnapS s = if ((a', false) : Int × Bool) = ((s.size : Int), false) ∧ clusterR (⟨xs, ps, t4.1, ⟨t1.1, t2.1, t3.1⟩⟩ : Cluster) = true then ((⟨xs, ps, t4.1, ⟨t1.1, t2.1, t3.1⟩⟩ : Cluster), true) else (zeroCluster, false) by unfold readSnapS; rw [HRW.out])
                have hPl : (ps.length : Int) ≤ 1048576 := by omega
                have HCK := Lib.hid (fun (wq : World) (hb : Below wr.heap.size wr wq) => ClusterOkC_spec (⟨xs, ps, t4.1, ⟨t1.1, t2.1, t3.1⟩⟩ : Cluster) _ _ wq (hOC.ext hb).rd hHl hPl HSM.out HSP.out)
                generalize clusterR (⟨xs, ps, t4.1, ⟨t1.1, t2.1, t3.1⟩⟩ : Cluster) = okb at *
                have HO := Lib.hid hOC
                have HS := Lib.hid hS
                have hc1 := hS.cur.c1
                have hcl := hS.cur.lt
                have k0 := hS.box.cell (i := 0) (u := .slice Ah xs.length ch) rfl
                have k1 := hS.box.cell (i := 1) (u := .slice Ap ps.length cp) rfl
                have k2 := hS.box.cell (i := 2) (u := .int .i64 t4.1) rfl
                have k3 := hS.box.cell (i := 3) (u := .int .i64 t1.1) rfl
                have k4 := hS.box.cell (i := 4) (u := .int .i64 t2.1) rfl
                have k5 := hS.box.cell (i := 5) (u := .int .i64 t3.1) rfl
                have kl := hS.box.lt
                have kf := hS.box.fz
                have r0 := hS.rb.cell (i := 0) (u := .slice none 0 0) rfl
                have r1 := hS.rb.cell (i := 1) (u := .slice none 0 0) rfl
                have r2 := hS.rb.cell (i := 2) (u := .int .i64 0) rfl
                have r3 := hS.rb.cell (i := 3) (u := .int .i64 0) rfl
                have r4 := hS.rb.cell (i := 4) (u := .int .i64 0) rfl
                have r5 := hS.rb.cell (i := 5) (u := .int .i64 0) rfl
                have rl := hS.rb.lt
                have rf := hS.rb.fz
                clear hS hOC hOp hO hown hcs hne HLP HPP S6 hr6 ho6 hB4s hBr
                by_cases hat : a' = (s.size : Int)
                · subst hat
                  cases okb
                  · have HF := Lib.hid (show readSnapS s = (zeroCluster, false) by rw [HRS.out, if_neg (by simp)])
                    go_wp2_with fail
                    refine (HCK.out _ (by repeat (first | with_reducible exact ext_refl _ | with_reducible assumption | with_reducible refine ext_alloc ?_ _ | with_reducible refine ext_trans ?_ (by assumption)))).mono ?_
                    rintro e w7 ⟨rfl, hb7⟩
                    have HB := Lib.hid (ext_trans HS.out.below hb7)
                    have RB7 := HS.out.rb.ext hb7
                    have q0 := RB7.cell (i := 0) (u := .slice none 0 0) rfl
                    have q1 := RB7.cell (i := 1) (u := .slice none 0 0) rfl
                    have q2 := RB7.cell (i := 2) (u := .int .i64 0) rfl
                    have q3 := RB7.cell (i := 3) (u := .int .i64 0) rfl
                    have q4 := RB7.cell (i := 4) (u := .int .i64 0) rfl
                    have q5 := RB7.cell (i := 5) (u := .int .i64 0) rfl
                    have ql := RB7.lt
                    have qf := RB7.fz
                    clear RB7
                    try dsimp only
                    iterate 60 (first | go_step | skip)
                    refine bodyPost_ret (v := .tuple #[.agg #[.slice none 0 0, .slice none 0 0, .int .i64 0, .int .i64 0, .int .i64 0, .int .i64 0], .bool false]) (by simp [results, Tryz.results4, go_sem, *]) rfl ?_
                    rw [HF.out]
                    have HB9 := HB.out
                    first
                      | refine ⟨[.slice none 0 0, .slice none 0 0, .int .i64 0, .int .i64 0, .int .i64 0, .int .i64 0], [], rfl, ?_, ?_⟩
                      | refine ⟨[.slice none 0 0, .slice none 0 0, .int .i64 0, .int .i64 0, .int .i64 0, .int .i64 0], rfl, ⟨[], ?_⟩, ?_⟩
                    · exact Own.zeroC _ _
                    · repeat (first | with_reducible exact HB9 | with_reducible refine ext_drew ?_ | with_reducible refine ext_setCell ?_ (by exact Nat.le_refl _) _ | with_reducible refine ext_alloc ?_ _)
                  · have HF := Lib.hid (show readSnapS s = ((⟨xs, ps, t4.1, ⟨t1.1, t2.1, t3.1⟩⟩ : Cluster), true) by rw [HRS.out, if_pos (by simp)])
                    go_wp2_with fail
                    refine (HCK.out _ (by repeat (first | with_reducible exact ext_refl _ | with_reducible assumption | with_reducible refine ext_alloc ?_ _ | with_reducible refine ext_trans ?_ (by assumption)))).mono ?_
                    rintro e w7 ⟨rfl, hb7⟩
                    have HB := Lib.hid (ext_trans HS.out.below hb7)
                    have RB7 := HS.out.rb.ext hb7
                    have CB7 := HS.out.box.ext hb7
                    have q0 := RB7.cell (i := 0) (u := .slice none 0 0) rfl
                    have q1 := RB7.cell (i := 1) (u := .slice none 0 0) rfl
                    have q2 := RB7.cell (i := 2) (u := .int .i64 0) rfl
                    have q3 := RB7.cell (i := 3) (u := .int .i64 0) rfl
                    have q4 := RB7.cell (i := 4) (u := .int .i64 0) rfl
                    have q5 := RB7.cell (i := 5) (u := .int .i64 0) rfl
                    have ql := RB7.lt
                    have qf := RB7.fz
                    have m0 := CB7.cell (i := 0) (u := .slice Ah xs.length ch) rfl
                    have m1 := CB7.cell (i := 1) (u := .slice Ap ps.length cp) rfl
                    have m2 := CB7.cell (i := 2) (u := .int .i64 t4.1) rfl
                    have m3 := CB7.cell (i := 3) (u := .int .i64 t1.1) rfl
                    have m4 := CB7.cell (i := 4) (u := .int .i64 t2.1) rfl
                    have m5 := CB7.cell (i := 5) (u := .int .i64 t3.1) rfl
                    have ml := CB7.lt
                    have mf := CB7.fz
                    clear RB7 CB7
                    try dsimp only
                    iterate 60 (first | go_step | skip)
                    refine bodyPost_ret (v := .tuple #[.agg #[.slice Ah xs.length ch, .slice Ap ps.length cp, .int .i64 t4.1, .int .i64 t1.1, .int .i64 t2.1, .int .i64 t3.1], .bool true]) (by simp [results, Tryz.results4, go_sem, *]) rfl ?_
                    rw [HF.out]
                    have HB9 := HB.out
                    first
                      | refine ⟨[.slice Ah xs.length ch, .slice Ap ps.length cp, .int .i64 t4.1, .int .i64 t1.1, .int .i64 t2.1, .int .i64 t3.1], Gh ++ Gp, rfl, ?_, ?_⟩
                      | refine ⟨[.slice Ah xs.length ch, .slice Ap ps.length cp, .int .i64 t4.1, .int .i64 t1.1, .int .i64 t2.1, .int .i64 t3.1], rfl, ⟨Gh ++ Gp, ?_⟩, ?_⟩
                    · try dsimp only
                      refine Own.mono (B := w.heap.size + 1 + 1) ?_ (by omega)
                      repeat (first | with_reducible exact HO.out | with_reducible exact Own.ext HO.out hb7 | with_reducible refine Own.ext ?_ (ext_drew (ext_refl _)) | with_reducible refine Own.setCell ?_ (by show w.heap.size < _; omega) _ | with_reducible refine Own.alloc ?_ _)
                    · repeat (first | with_reducible exact HB9 | with_reducible refine ext_drew ?_ | with_reducible refine ext_setCell ?_ (by exact Nat.le_refl _) _ | with_reducible refine ext_alloc ?_ _)
                · have HF := Lib.hid (show readSnapS s = (zeroCluster, false) by rw [HRS.out, if_neg (fun h => hat (Prod.mk.inj h.1).1)])
                  have hat2 : (a' == (s.size : Int)) = false := by simp [hat]
                  have hat3 : (a' != (s.size : Int)) = true := by simp [hat]
                  have HB := Lib.hid HS.out.below
                  go_wp2_with fail
                  iterate 60 (first | go_step | skip)
                  refine bodyPost_ret (v := .tuple #[.agg #[.slice none 0 0, .slice none 0 0, .int .i64 0, .int .i64 0, .int .i64 0, .int .i64 0], .bool false]) (by simp [results, Tryz.results4, go_sem, *]) rfl ?_
                  rw [HF.out]
                  have HB9 := HB.out
                  first
                    | refine ⟨[.slice none 0 0, .slice none 0 0, .int .i64 0, .int .i64 0, .int .i64 0, .int .i64 0], [], rfl, ?_, ?_⟩
                    | refine ⟨[.slice none 0 0, .slice none 0 0, .int .i64 0, .int .i64 0, .int .i64 0, .int .i64 0], rfl, ⟨[], ?_⟩, ?_⟩
                  · exact Own.zeroC _ _
                  · repeat (first | with_reducible exact HB9 | with_reducible refine ext_drew ?_ | with_reducible refine ext_setCell ?_ (by exact Nat.le_refl _) _ | with_reducible refine ext_alloc ?_ _)
              · obtain ⟨Ap, cp, Gp, rfl, hOp⟩ := Own.of_row hown hcs hne
                have hOC : Own wr (w.heap.size + 1 + 1) (⟨xs, ps, t4.1, ⟨t1.1, t2.1, t3.1⟩⟩ : Cluster) [.slice Ah xs.length ch, .slice Ap ps.length cp, .int .i64 t4.1, .int .i64 t1.1, .int .i64 t2.1, .int .i64 t3.1] (Gh ++ Gp) := Own.clusterR hO hOp (by omega) hg4 hG4 hi4 hi1 hi2 hi3
                have HRS := Lib.hid (show readSnapS s = if ((a', true) : Int × Bool) = ((s.size : Int), false) ∧ clusterR (⟨xs, ps, t4.1, ⟨t1.1, t2.1, t3.1⟩⟩ : Cluster) = true then ((⟨xs, ps, t4.1, ⟨t1.1, t2.1, t3.1⟩⟩ : Cluster), true) else (zeroCluster, false) by unfold readSnapS; rw [HRW.out])
                have hPl : (ps.length : Int) ≤ 1048576 := by omega
                have HCK := Lib.hid (fun (wq : World) (hb : Below wr.heap.size wr wq) => ClusterOkC_spec (⟨xs, ps, t4.1, ⟨t1.1, t2.1, t3.1⟩⟩ : Cluster) _ _ wq (hOC.ext hb).rd hHl hPl HSM.out HSP.out)
                generalize clusterR (⟨xs, ps, t4.1, ⟨t1.1, t2.1, t3.1⟩⟩ : Cluster) = okb at *
                have HO := Lib.hid hOC
                have HS := Lib.hid hS
                have hc1 := hS.cur.c1
                have hcl := hS.cur.lt
                have k0 := hS.box.cell (i := 0) (u := .slice Ah xs.length ch) rfl
                have k1 := hS.box.cell (i := 1) (u := .slice Ap ps.length cp) rfl
                have k2 := hS.box.cell (i := 2) (u := .int .i64 t4.1) rfl
                have k3 := hS.box.cell (i := 3) (u := .int .i64 t1.1) rfl
                have k4 := hS.box.cell (i := 4) (u := .int .i64 t2.1) rfl
                have k5 := hS.box.cell (i := 5) (u := .int .i64 t3.1) rfl
                have kl := hS.box.lt
                have kf := hS.box.fz
                have r0 := hS.rb.cell (i := 0) (u := .slice none 0 0) rfl
                have r1 := hS.rb.cell (i := 1) (u := .slice none 0 0) rfl
                have r2 := hS.rb.cell (i := 2) (u := .int .i64 0) rfl
                have r3 := hS.rb.cell (i := 3) (u := .int .i64 0) rfl
                have r4 := hS.rb.cell (i := 4) (u := .int .i64 0) rfl
                have r5 := hS.rb.cell (i := 5) (u := .int .i64 0) rfl
                have rl := hS.rb.lt
                have rf := hS.rb.fz
                clear hS hOC hOp hO hown hcs hne HLP HPP S6 hr6 ho6 hB4s hBr
                have HF := Lib.hid (show readSnapS s = (zeroCluster, false) by rw [HRS.out, if_neg (by simp)])
                have HB := Lib.hid HS.out.below
                go_wp2_with fail
                iterate 60 (first | go_step | skip)
                refine bodyPost_ret (v := .tuple #[.agg #[.slice none 0 0, .slice none 0 0, .int .i64 0, .int .i64 0, .int .i64 0, .int .i64 0], .bool false]) (by simp [results, Tryz.results4, go_sem, *]) rfl ?_
                rw [HF.out]
                have HB9 := HB.out
                first
                  | refine ⟨[.slice none 0 0, .slice none 0 0, .int .i64 0, .int .i64 0, .int .i64 0, .int .i64 0], [], rfl, ?_, ?_⟩
                  | refine ⟨[.slice none 0 0, .slice none 0 0, .int .i64 0, .int .i64 0, .int .i64 0, .int .i64 0], rfl, ⟨[], ?_⟩, ?_⟩
                · exact Own.zeroC _ _
                · repeat (first | with_reducible exact HB9 | with_reducible refine ext_drew ?_ | with_reducible refine ext_setCell ?_ (by exact Nat.le_refl _) _ | with_reducible refine ext_alloc ?_ _)
          · obtain rfl : bad = false := by cases bad; · rfl
                                           · exact absurd (.inr rfl) hd
            obtain ⟨k, rfl⟩ : ∃ k', k = k' + 1 := ⟨k - 1, by omega⟩
            have hji : (j : Int) < (N2 : Int) := by omega
            have HG4 := Lib.hid hG4
            have hl0 := HLP.out
            rw [loopS, if_neg (show ¬ ((a', false) : Int × Bool).2 = true by simp)] at hl0
            have e0 : placedS s xs (a', false) = (⟨(podS s (a', false)).1, hostName xs (manyS s xs.length (podS s (a', false)).2).1, (numS s (manyS s xs.length (podS s (a', false)).2).2).1⟩, (numS s (manyS s xs.length (podS s (a', false)).2).2).2) := rfl
            rw [e0] at hl0
            dsimp only at hl0
            have HL1 := Lib.hid hl0
            clear hl0 e0
            have HTP := Lib.hid (fun wq hq => Pod_spec s (w.heap.size + 1) (a', false) wq hq hs)
            have hxl : ps.length ≤ 12 := by omega
            obtain ⟨Av, cv, hv2⟩ := row_slice hown
            subst hv2
            have HTO := Lib.hid (fun (wq : World) (hq : SCur wq (w.heap.size + 1) s (podS s (a', false)).2) (hH : Sl wq xs Ah ch Gh) => On_spec s (w.heap.size + 1) (podS s (a', false)).2 xs Ah ch Gh Av ps.length cv t4.1 t1.1 t2.1 t3.1 wq hq hs hH hHl hGb)
            have HTN := Lib.hid (fun wq hq => Num_spec s (w.heap.size + 1) (manyS s xs.length (podS s (a', false)).2).2 wq hq hs)
            have hnm := hostName_size HSM.out (manyS s xs.length (podS s (a', false)).2).1
            have hzi : I64 (numS s (manyS s xs.length (podS s (a', false)).2).2).1 := numS_I64 s _ hs
            generalize podS s (a', false) = y at *
            generalize hostName xs (manyS s xs.length y.2).1 = nm at *
            generalize (manyS s xs.length y.2).2 = m2 at *
            generalize numS s m2 = z at *
            have HLT := Lib.hid (fun g hg => (hown.lt g hg).2)
            have HLF := Lib.hid hcs.lt
            have HNE := Lib.hid hne
            clear hne
            go_wp2_with fail
            refine (HTP.out _ hS.cur).mono ?_
            rintro e w10 ⟨dp, Gp, rfl, hOp, hI10, hu10⟩
            have S10 := hS.call hI10 hu10
            have r10 := row_upd hown hu10 (by omega)
            have hc10 := hcs.upd hu10 (by omega)
            have ho10 := hO.updO hu10 (by omega)
            have z10 : B4 ≤ w10.heap.size := Nat.le_trans hBr hu10.size
            have zw : wr.heap.size ≤ w10.heap.size := hu10.size
            have hrp := hOp.rd
            obtain ⟨Alabels7, clabels7, Flabels7, Aneeds7, cneeds7, Fneeds7, Atolerances7, ctolerances7, Ftolerances7, hck, hGh, hname7, hlabels7, hcpu7, hmem7, hrank7, hneeds7, htolerances7⟩ := rd_Pod hrp
            subst hck
            clear hrp hGh
            have HLP7 := Lib.hid hOp.lt
            have hbA : Below w10.heap.size w10 (w10.alloc (.cells ([.string y.1.name, .slice Alabels7 y.1.labels.length clabels7, .int .i64 y.1.cpu, .int .i64 y.1.mem, .int .i64 y.1.rank, .slice Aneeds7 y.1.needs.length cneeds7, .slice Atolerances7 y.1.tolerances.length ctolerances7, .string ⟨#[]⟩, .int .i64 0] : List Value).toArray 49)) := ext_alloc (ext_refl _) _
            have X11 := Blk.new w10 [.string y.1.name, .slice Alabels7 y.1.labels.length clabels7, .int .i64 y.1.cpu, .int .i64 y.1.mem, .int .i64 y.1.rank, .slice Aneeds7 y.1.needs.length cneeds7, .slice Atolerances7 y.1.tolerances.length ctolerances7, .string ⟨#[]⟩, .int .i64 0] 49
            have S11 := S10.ext hbA
            have r11 := row_ext r10 hbA
            have hc11 := OwnCells.ext hc10 hbA
            have ho11 := Own.ext ho10 hbA
            have hp11 := Own.ext hOp hbA
            have b0 := S11.box.cell (i := 0) (u := .slice Ah xs.length ch) rfl
            have b1 := S11.box.cell (i := 1) (u := .slice Av ps.length cv) rfl
            have b2 := S11.box.cell (i := 2) (u := .int .i64 t4.1) rfl
            have b3 := S11.box.cell (i := 3) (u := .int .i64 t1.1) rfl
            have b4 := S11.box.cell (i := 4) (u := .int .i64 t2.1) rfl
            have b5 := S11.box.cell (i := 5) (u := .int .i64 t3.1) rfl
            have hlq : w.heap.size + 1 + 1 < w10.heap.size := S10.box.lt
            clear hS hown hcs hO S10 r10 hc10 ho10 hOp hI10 hu10 hcb hlb
            go_wp2_with fail
            refine (HTO.out _ S11.cur ho11.rd).mono ?_
            rintro e w12 ⟨rfl, hI12, hu12⟩
            have S12 := S11.call hI12 hu12
            have X12 := X11.upd hu12 (by omega)
            have r12 := row_upd r11 hu12 (by omega)
            have hc12 := hc11.upd hu12 (by omega)
            have ho12 := ho11.updO hu12 (by omega)
            have hp12 := hp11.updO hu12 (by omega)
            have zx : w10.heap.size < w12.heap.size := X12.lt
            have k12 := X12.cell (i := 7) (u := .string ⟨#[]⟩) rfl
            have f12 := X12.fz 7
            have S13 := S12.far (c := w10.heap.size) (by omega) 7 (.string nm)
            have X13 := X12.put 7 (.string nm)
            have r13 := row_set (c := w10.heap.size) (i := 7) (u := .string nm) r12 (fun g hg => by have := HLT.out g hg; omega)
            have hc13 : OwnCells (w12.setCell ⟨w10.heap.size, 7, none⟩ (.string nm)) B4 ps ds F := hc12.keep (fun y hy => Below.heap_setCell _ _ _ _ (by have := HLF.out y hy; dsimp only; omega)) (by simp [World.setCell])
            have ho13 : Own (w12.setCell ⟨w10.heap.size, 7, none⟩ (.string nm)) B3 xs [.slice Ah xs.length ch] Gh := ho12.keep (fun y hy => Below.heap_setCell _ _ _ _ (by have := HG4.out y hy; dsimp only; omega)) (by simp [World.setCell])
            have hp13 : Own (w12.setCell ⟨w10.heap.size, 7, none⟩ (.string nm)) wr.heap.size y.1 _ Gp := hp12.keep (fun y hy => Below.heap_setCell _ _ _ _ (by have := HLP7.out y hy; dsimp only; omega)) (by simp [World.setCell])
            clear S11 X11 r11 hc11 ho11 hp11 hI12 hu12 S12 X12 r12 hc12 ho12 hp12 b0 b1 b2 b3 b4 b5
            go_wp2_with fail
            refine (HTN.out _ S13.cur).mono ?_
            rintro e w14 ⟨rfl, hI14, hu14⟩
            have S14 := S13.call hI14 hu14
            have X14 := X13.upd hu14 (by omega)
            have r14 := row_upd r13 hu14 (by omega)
            have hc14 := hc13.upd hu14 (by omega)
            have ho14 := ho13.updO hu14 (by omega)
            have hp14 := hp13.updO hu14 (by omega)
            have zy : w12.heap.size ≤ w14.heap.size := by have := hu14.size; simpa [World.setCell] using this
            have k14 := X14.cell (i := 8) (u := .int .i64 0) rfl
            have f14 := X14.fz 8
            have S15 := S14.far (c := w10.heap.size) (by omega) 8 (.int .i64 z.1)
            have X15 := X14.put 8 (.int .i64 z.1)
            have r15 := row_set (c := w10.heap.size) (i := 8) (u := .int .i64 z.1) r14 (fun g hg => by have := HLT.out g hg; omega)
            have HC15 := Lib.hid (show OwnCells (w14.setCell ⟨w10.heap.size, 8, none⟩ (.int .i64 z.1)) B4 ps ds F from hc14.keep (fun y hy => Below.heap_setCell _ _ _ _ (by have := HLF.out y hy; dsimp only; omega)) (by simp [World.setCell]))
            have HO15 := Lib.hid (show Own (w14.setCell ⟨w10.heap.size, 8, none⟩ (.int .i64 z.1)) B3 xs [.slice Ah xs.length ch] Gh from ho14.keep (fun y hy => Below.heap_setCell _ _ _ _ (by have := HG4.out y hy; dsimp only; omega)) (by simp [World.setCell]))
            have HP15 := Lib.hid (Own.placed (show Own (w14.setCell ⟨w10.heap.size, 8, none⟩ (.int .i64 z.1)) wr.heap.size y.1 _ Gp from hp14.keep (fun y hy => Below.heap_setCell _ _ _ _ (by have := HLP7.out y hy; dsimp only; omega)) (by simp [World.setCell])) hnm hzi)
            have HS15 := Lib.hid S15
            have HR15 := Lib.hid r15
            have c0 := X15.cell (i := 0) (u := .string y.1.name) rfl
            have c1 := X15.cell (i := 1) (u := .slice Alabels7 y.1.labels.length clabels7) rfl
            have c2 := X15.cell (i := 2) (u := .int .i64 y.1.cpu) rfl
            have c3 := X15.cell (i := 3) (u := .int .i64 y.1.mem) rfl
            have c4 := X15.cell (i := 4) (u := .int .i64 y.1.rank) rfl
            have c5 := X15.cell (i := 5) (u := .slice Aneeds7 y.1.needs.length cneeds7) rfl
            have c6 := X15.cell (i := 6) (u := .slice Atolerances7 y.1.tolerances.length ctolerances7) rfl
            have c7 := X15.cell (i := 7) (u := .string nm) rfl
            have c8 := X15.cell (i := 8) (u := .int .i64 z.1) rfl
            have ko := S15.box.cell (i := 1) (u := .slice Av ps.length cv) rfl
            clear S13 X13 r13 hc13 ho13 hp13 hI14 hu14 S14 X14 r14 hc14 ho14 hp14 S15 X15
            go_wp2_with (
              at_builtin
              go_must (refine wpList_append2 elPlacedR (by rfl) _ _ (by rfl) _ _ _ _ _ r15 (by rfl) [.string y.1.name, .slice Alabels7 y.1.labels.length clabels7, .int .i64 y.1.cpu, .int .i64 y.1.mem, .int .i64 y.1.rank, .slice Aneeds7 y.1.needs.length cneeds7, .slice Atolerances7 y.1.tolerances.length ctolerances7, .string nm, .int .i64 z.1] (by first | rfl | (simp [World.setCell]; rfl)) (by rfl) (by simp [Value.oneCell']) (by omega) (by omega) (by simp [World.setCell]; omega) ?_)
              intro v6 w16 hown16 hg16 hz16 hat16
              go_must (obtain ⟨A7, c7, hv6⟩ := row_slice hown16)
              go_must (subst hv6)
              go_must (have S16 := HS15.out.grown hg16 (fun q hq => by have := (HR15.out.lt q hq).1; omega))
              go_must (have HOH16 := HO15.out.grownO hg16 HG4.out (fun q hq => (HR15.out.lt q hq).1))
              go_must (have kx := S16.box.cell (i := 1) (u := .slice Av ps.length cv) rfl)
              go_must (have fx := S16.box.fz 1)
              go_must (have lx := S16.box.lt))
            have hl1 := HL1.out
            obtain ⟨hcs17, hne17⟩ := OwnCells.pushG (v' := .slice A7 (ps.length + 1) c7) HR15.out HC15.out HNE.out HP15.out (by omega) (fun g hg => by have := HLT.out g hg; omega) (fun y hy => HLF.out y hy) hg16 hat16
            have r17 := row_set (c := w.heap.size + 1 + 1) (i := 1) (u := .slice A7 (ps.length + 1) c7) hown16 (fun g hg => by have := (hown16.lt g hg).1; omega)
            refine ⟨⟨j + 1, k, ps ++ [⟨y.1, nm, z.1⟩], _, _, z.2, .slice A7 (ps.length + 1) c7, by go_num, by omega, by simp; omega, Lib.hid hl1, (by rw [List.length_append]; exact r17), hcs17.setCell (p := ⟨w.heap.size + 1 + 1, 1, none⟩) (by show w.heap.size + 1 + 1 < _; omega) _, hne17, HOH16.setCell (p := ⟨w.heap.size + 1 + 1, 1, none⟩) (by show w.heap.size + 1 + 1 < _; omega) _, S16.put 1 (.slice A7 (ps.length + 1) c7), by have := hg16.size; simp only [World.setCell, Array.size_modify] at *; omega⟩, by simp [intOf]; omega⟩

      · go_wp2_with fail
        refine (HQ2.out _ hS.cur).mono ?_
        rw [HNN2.out]
        rintro e w6 ⟨rfl, hI6, hu6⟩
        have S6 := hS.call hI6 hu6
        have ho6 := hOh.updO hu6 (by omega)
        obtain ⟨B4, hB4⟩ : ∃ B4, w6.heap.size = B4 := ⟨_, rfl⟩
        have hG4 : ∀ y ∈ Gh, y < B4 := fun y hy => hB4 ▸ ho6.lt y hy
        have hB4s : B4 ≤ w6.heap.size := Nat.le_of_eq hB4.symm
        have hg4 : B3 ≤ B4 := by have := hu6.size; omega
        have hr6 : w6.ownsRow B4 49 9 (.slice none 0 0) 0 [] := ⟨rfl, .inl ⟨rfl, rfl⟩⟩
        clear hB4 hS hOh hown hcs hI6 hu6 hBr hne HLP HHH S5 hr5 hB3s hcb hlb
        go_wp2_with fail
        go_loopw [8] (fun i wr => ∃ (j k : Nat) (ps : List Placed) (ds : List Value) (F : List Nat) (a' : Int × Bool) (v : Value), i = .int .i64 j ∧ j + k = N2 ∧ ps.length + k ≤ 12 ∧ Hid (loopS (placedS s xs) k ps a' = (P1, P2)) ∧ wr.ownsRow B4 49 9 v ps.length ds ∧ OwnCells wr B4 ps ds F ∧ (∀ g, v.ownBlock = some g → g ∉ F) ∧ Own wr B3 xs [.slice Ah xs.length ch] Gh ∧ SnS w wr s a' [.slice Ah xs.length ch, v, .int .i64 t4.1, .int .i64 t1.1, .int .i64 t2.1, .int .i64 t3.1] ∧ B4 ≤ wr.heap.size) (fun i _ => N2 - (intOf i).toNat)
        case atStart => exact ⟨0, N2, [], [], [], q2.2, .slice none 0 0, rfl, by omega, by simpa using hN12, HPP.out, hr6, OwnCells.nil _ _, (fun g hg => by simp), ho6, S6, hB4s⟩
        case round =>
          obtain ⟨j, k, ps, ds, F, a', v, rfl, hjk, hk12, HLP, hown, hcs, hne, hO, hS, hBr⟩ := hrel
          obtain ⟨a', bad⟩ := a'
          have hcb := hS.cur.c2
          have hlb := hS.cur.lt
          by_cases hd : k = 0 ∨ bad = true
          · have hl0 : (ps, (a', bad)) = (P1, P2) := by
              have := HLP.out
              rcases hd with rfl | rfl
              · rw [loopS] at this; exact this
              · cases k with
                | zero => rw [loopS] at this; exact this
                | succ k9 => rw [loopS, if_pos rfl] at this; exact this
            obtain ⟨rfl, rfl⟩ : ps = P1 ∧ (a', bad) = P2 := Prod.mk.inj hl0
            clear hl0
            by_cases hji : (j : Int) < (N2 : Int)
            · obtain rfl : bad = true := by rcases hd with h0 | h0; · omega
                                            · exact h0
              obtain ⟨Ap, cp, Gp, rfl, hOp⟩ := Own.of_row hown hcs hne
              have hOC : Own wr (w.heap.size + 1 + 1) (⟨xs, ps, t4.1, ⟨t1.1, t2.1, t3.1⟩⟩ : Cluster) [.slice Ah xs.length ch, .slice Ap ps.length cp, .int .i64 t4.1, .int .i64 t1.1, .int .i64 t2.1, .int .i64 t3.1] (Gh ++ Gp) := Own.clusterR hO hOp (by omega) hg4 hG4 hi4 hi1 hi2 hi3
              have HRS := Lib.hid (show readSnapS s = if ((a', true) : Int × Bool) = ((s.size : Int), false) ∧ clusterR (⟨xs, ps, t4.1, ⟨t1.1, t2.1, t3.1⟩⟩ : Cluster) = true then ((⟨xs, ps, t4.1, ⟨t1.1, t2.1, t3.1⟩⟩ : Cluster), true) else (zeroCluster, false) by unfold readSnapS; rw [HRW.out])
              have hPl : (ps.length : Int) ≤ 1048576 := by omega
              have HCK := Lib.hid (fun (wq : World) (hb : Below wr.heap.size wr wq) => ClusterOkC_spec (⟨xs, ps, t4.1, ⟨t1.1, t2.1, t3.1⟩⟩ : Cluster) _ _ wq (hOC.ext hb).rd hHl hPl HSM.out HSP.out)
              generalize clusterR (⟨xs, ps, t4.1, ⟨t1.1, t2.1, t3.1⟩⟩ : Cluster) = okb at *
              have HO := Lib.hid hOC
              have HS := Lib.hid hS
              have hc1 := hS.cur.c1
              have hcl := hS.cur.lt
              have k0 := hS.box.cell (i := 0) (u := .slice Ah xs.length ch) rfl
              have k1 := hS.box.cell (i := 1) (u := .slice Ap ps.length cp) rfl
              have k2 := hS.box.cell (i := 2) (u := .int .i64 t4.1) rfl
              have k3 := hS.box.cell (i := 3) (u := .int .i64 t1.1) rfl
              have k4 := hS.box.cell (i := 4) (u := .int .i64 t2.1) rfl
              have k5 := hS.box.cell (i := 5) (u := .int .i64 t3.1) rfl
              have kl := hS.box.lt
              have kf := hS.box.fz
              have r0 := hS.rb.cell (i := 0) (u := .slice none 0 0) rfl
              have r1 := hS.rb.cell (i := 1) (u := .slice none 0 0) rfl
              have r2 := hS.rb.cell (i := 2) (u := .int .i64 0) rfl
              have r3 := hS.rb.cell (i := 3) (u := .int .i64 0) rfl
              have r4 := hS.rb.cell (i := 4) (u := .int .i64 0) rfl
              have r5 := hS.rb.cell (i := 5) (u := .int .i64 0) rfl
              have rl := hS.rb.lt
              have rf := hS.rb.fz
              clear hS hOC hOp hO hown hcs hne HLP HPP S6 hr6 ho6 hB4s hBr
              have HF := Lib.hid (show readSnapS s = (zeroCluster, false) by rw [HRS.out, if_neg (by simp)])
              have HB := Lib.hid HS.out.below
              go_wp2_with fail
              iterate 60 (first | go_step | skip)
              refine bodyPost_ret (v := .tuple #[.agg #[.slice none 0 0, .slice none 0 0, .int .i64 0, .int .i64 0, .int .i64 0, .int .i64 0], .bool false]) (by simp [results, Tryz.results4, go_sem, *]) rfl ?_
              rw [HF.out]
              have HB9 := HB.out
              first
                | refine ⟨[.slice none 0 0, .slice none 0 0, .int .i64 0, .int .i64 0, .int .i64 0, .int .i64 0], [], rfl, ?_, ?_⟩
                | refine ⟨[.slice none 0 0, .slice none 0 0, .int .i64 0, .int .i64 0, .int .i64 0, .int .i64 0], rfl, ⟨[], ?_⟩, ?_⟩
              · exact Own.zeroC _ _
              · repeat (first | with_reducible exact HB9 | with_reducible refine ext_drew ?_ | with_reducible refine ext_setCell ?_ (by exact Nat.le_refl _) _ | with_reducible refine ext_alloc ?_ _)
            · cases bad
              · obtain ⟨Ap, cp, Gp, rfl, hOp⟩ := Own.of_row hown hcs hne
                have hOC : Own wr (w.heap.size + 1 + 1) (⟨xs, ps, t4.1, ⟨t1.1, t2.1, t3.1⟩⟩ : Cluster) [.slice Ah xs.length ch, .slice Ap ps.length cp, .int .i64 t4.1, .int .i64 t1.1, .int .i64 t2.1, .int .i64 t3.1] (Gh ++ Gp) := Own.clusterR hO hOp (by omega) hg4 hG4 hi4 hi1 hi2 hi3
                have HRS := Lib.hid (show readSnapS s = if ((a', false) : Int × Bool) = ((s.size : Int), false) ∧ clusterR (⟨xs, ps, t4.1, ⟨t1.1, t2.1, t3.1⟩⟩ : Cluster) = true then ((⟨xs, ps, t4.1, ⟨t1.1, t2.1, t3.1⟩⟩ : Cluster), true) else (zeroCluster, false) by unfold readSnapS; rw [HRW.out])
                have hPl : (ps.length : Int) ≤ 1048576 := by omega
                have HCK := Lib.hid (fun (wq : World) (hb : Below wr.heap.size wr wq) => ClusterOkC_spec (⟨xs, ps, t4.1, ⟨t1.1, t2.1, t3.1⟩⟩ : Cluster) _ _ wq (hOC.ext hb).rd hHl hPl HSM.out HSP.out)
                generalize clusterR (⟨xs, ps, t4.1, ⟨t1.1, t2.1, t3.1⟩⟩ : Cluster) = okb at *
                have HO := Lib.hid hOC
                have HS := Lib.hid hS
                have hc1 := hS.cur.c1
                have hcl := hS.cur.lt
                have k0 := hS.box.cell (i := 0) (u := .slice Ah xs.length ch) rfl
                have k1 := hS.box.cell (i := 1) (u := .slice Ap ps.length cp) rfl
                have k2 := hS.box.cell (i := 2) (u := .int .i64 t4.1) rfl
                have k3 := hS.box.cell (i := 3) (u := .int .i64 t1.1) rfl
                have k4 := hS.box.cell (i := 4) (u := .int .i64 t2.1) rfl
                have k5 := hS.box.cell (i := 5) (u := .int .i64 t3.1) rfl
                have kl := hS.box.lt
                have kf := hS.box.fz
                have r0 := hS.rb.cell (i := 0) (u := .slice none 0 0) rfl
                have r1 := hS.rb.cell (i := 1) (u := .slice none 0 0) rfl
                have r2 := hS.rb.cell (i := 2) (u := .int .i64 0) rfl
                have r3 := hS.rb.cell (i := 3) (u := .int .i64 0) rfl
                have r4 := hS.rb.cell (i := 4) (u := .int .i64 0) rfl
                have r5 := hS.rb.cell (i := 5) (u := .int .i64 0) rfl
                have rl := hS.rb.lt
                have rf := hS.rb.fz
                clear hS hOC hOp hO hown hcs hne HLP HPP S6 hr6 ho6 hB4s hBr
                by_cases hat : a' = (s.size : Int)
                · subst hat
                  cases okb
                  · have HF := Lib.hid (show readSnapS s = (zeroCluster, false) by rw [HRS.out, if_neg (by simp)])
                    go_wp2_with fail
                    refine (HCK.out _ (by repeat (first | with_reducible exact ext_refl _ | with_reducible assumption | with_reducible refine ext_alloc ?_ _ | with_reducible refine ext_trans ?_ (by assumption)))).mono ?_
                    rintro e w7 ⟨rfl, hb7⟩
                    have HB := Lib.hid (ext_trans HS.out.below hb7)
                    have RB7 := HS.out.rb.ext hb7
                    have q0 := RB7.cell (i := 0) (u := .slice none 0 0) rfl
                    have q1 := RB7.cell (i := 1) (u := .slice none 0 0) rfl
                    have q2 := RB7.cell (i := 2) (u := .int .i64 0) rfl
                    have q3 := RB7.cell (i := 3) (u := .int .i64 0) rfl
                    have q4 := RB7.cell (i := 4) (u := .int .i64 0) rfl
                    have q5 := RB7.cell (i := 5) (u := .int .i64 0) rfl
                    have ql := RB7.lt
                    have qf := RB7.fz
                    clear RB7
                    try dsimp only
                    iterate 60 (first | go_step | skip)
                    refine bodyPost_ret (v := .tuple #[.agg #[.slice none 0 0, .slice none 0 0, .int .i64 0, .int .i64 0, .int .i64 0, .int .i64 0], .bool false]) (by simp [results, Tryz.results4, go_sem, *]) rfl ?_
                    rw [HF.out]
                    have HB9 := HB.out
                    first
                      | refine ⟨[.slice none 0 0, .slice none 0 0, .int .i64 0, .int .i64 0, .int .i64 0, .int .i64 0], [], rfl, ?_, ?_⟩
                      | refine ⟨[.slice none 0 0, .slice none 0 0, .int .i64 0, .int .i64 0, .int .i64 0, .int .i64 0], rfl, ⟨[], ?_⟩, ?_⟩
                    · exact Own.zeroC _ _
                    · repeat (first | with_reducible exact HB9 | with_reducible refine ext_drew ?_ | with_reducible refine ext_setCell ?_ (by exact Nat.le_refl _) _ | with_reducible refine ext_alloc ?_ _)
                  · have HF := Lib.hid (show readSnapS s = ((⟨xs, ps, t4.1, ⟨t1.1, t2.1, t3.1⟩⟩ : Cluster), true) by rw [HRS.out, if_pos (by simp)])
                    go_wp2_with fail
                    refine (HCK.out _ (by repeat (first | with_reducible exact ext_refl _ | with_reducible assumption | with_reducible refine ext_alloc ?_ _ | with_reducible refine ext_trans ?_ (by assumption)))).mono ?_
                    rintro e w7 ⟨rfl, hb7⟩
                    have HB := Lib.hid (ext_trans HS.out.below hb7)
                    have RB7 := HS.out.rb.ext hb7
                    have CB7 := HS.out.box.ext hb7
                    have q0 := RB7.cell (i := 0) (u := .slice none 0 0) rfl
                    have q1 := RB7.cell (i := 1) (u := .slice none 0 0) rfl
                    have q2 := RB7.cell (i := 2) (u := .int .i64 0) rfl
                    have q3 := RB7.cell (i := 3) (u := .int .i64 0) rfl
                    have q4 := RB7.cell (i := 4) (u := .int .i64 0) rfl
                    have q5 := RB7.cell (i := 5) (u := .int .i64 0) rfl
                    have ql := RB7.lt
                    have qf := RB7.fz
                    have m0 := CB7.cell (i := 0) (u := .slice Ah xs.length ch) rfl
                    have m1 := CB7.cell (i := 1) (u := .slice Ap ps.length cp) rfl
                    have m2 := CB7.cell (i := 2) (u := .int .i64 t4.1) rfl
                    have m3 := CB7.cell (i := 3) (u := .int .i64 t1.1) rfl
                    have m4 := CB7.cell (i := 4) (u := .int .i64 t2.1) rfl
                    have m5 := CB7.cell (i := 5) (u := .int .i64 t3.1) rfl
                    have ml := CB7.lt
                    have mf := CB7.fz
                    clear RB7 CB7
                    try dsimp only
                    iterate 60 (first | go_step | skip)
                    refine bodyPost_ret (v := .tuple #[.agg #[.slice Ah xs.length ch, .slice Ap ps.length cp, .int .i64 t4.1, .int .i64 t1.1, .int .i64 t2.1, .int .i64 t3.1], .bool true]) (by simp [results, Tryz.results4, go_sem, *]) rfl ?_
                    rw [HF.out]
                    have HB9 := HB.out
                    first
                      | refine ⟨[.slice Ah xs.length ch, .slice Ap ps.length cp, .int .i64 t4.1, .int .i64 t1.1, .int .i64 t2.1, .int .i64 t3.1], Gh ++ Gp, rfl, ?_, ?_⟩
                      | refine ⟨[.slice Ah xs.length ch, .slice Ap ps.length cp, .int .i64 t4.1, .int .i64 t1.1, .int .i64 t2.1, .int .i64 t3.1], rfl, ⟨Gh ++ Gp, ?_⟩, ?_⟩
                    · try dsimp only
                      refine Own.mono (B := w.heap.size + 1 + 1) ?_ (by omega)
                      repeat (first | with_reducible exact HO.out | with_reducible exact Own.ext HO.out hb7 | with_reducible refine Own.ext ?_ (ext_drew (ext_refl _)) | with_reducible refine Own.setCell ?_ (by show w.heap.size < _; omega) _ | with_reducible refine Own.alloc ?_ _)
                    · repeat (first | with_reducible exact HB9 | with_reducible refine ext_drew ?_ | with_reducible refine ext_setCell ?_ (by exact Nat.le_refl _) _ | with_reducible refine ext_alloc ?_ _)
                · have HF := Lib.hid (show readSnapS s = (zeroCluster, false) by rw [HRS.out, if_neg (fun h => hat (Prod.mk.inj h.1).1)])
                  have hat2 : (a' == (s.size : Int)) = false := by simp [hat]
                  have hat3 : (a' != (s.size : Int)) = true := by simp [hat]
                  have HB := Lib.hid HS.out.below
                  go_wp2_with fail
                  iterate 60 (first | go_step | skip)
                  refine bodyPost_ret (v := .tuple #[.agg #[.slice none 0 0, .slice none 0 0, .int .i64 0, .int .i64 0, .int .i64 0, .int .i64 0], .bool false]) (by simp [results, Tryz.results4, go_sem, *]) rfl ?_
                  rw [HF.out]
                  have HB9 := HB.out
                  first
                    | refine ⟨[.slice none 0 0, .slice none 0 0, .int .i64 0, .int .i64 0, .int .i64 0, .int .i64 0], [], rfl, ?_, ?_⟩
                    | refine ⟨[.slice none 0 0, .slice none 0 0, .int .i64 0, .int .i64 0, .int .i64 0, .int .i64 0], rfl, ⟨[], ?_⟩, ?_⟩
                  · exact Own.zeroC _ _
                  · repeat (first | with_reducible exact HB9 | with_reducible refine ext_drew ?_ | with_reducible refine ext_setCell ?_ (by exact Nat.le_refl _) _ | with_reducible refine ext_alloc ?_ _)
              · obtain ⟨Ap, cp, Gp, rfl, hOp⟩ := Own.of_row hown hcs hne
                have hOC : Own wr (w.heap.size + 1 + 1) (⟨xs, ps, t4.1, ⟨t1.1, t2.1, t3.1⟩⟩ : Cluster) [.slice Ah xs.length ch, .slice Ap ps.length cp, .int .i64 t4.1, .int .i64 t1.1, .int .i64 t2.1, .int .i64 t3.1] (Gh ++ Gp) := Own.clusterR hO hOp (by omega) hg4 hG4 hi4 hi1 hi2 hi3
                have HRS := Lib.hid (show readSnapS s = if ((a', true) : Int × Bool) = ((s.size : Int), false) ∧ clusterR (⟨xs, ps, t4.1, ⟨t1.1, t2.1, t3.1⟩⟩ : Cluster) = true then ((⟨xs, ps, t4.1, ⟨t1.1, t2.1, t3.1⟩⟩ : Cluster), true) else (zeroCluster, false) by unfold readSnapS; rw [HRW.out])
                have hPl : (ps.length : Int) ≤ 1048576 := by omega
                have HCK := Lib.hid (fun (wq : World) (hb : Below wr.heap.size wr wq) => ClusterOkC_spec (⟨xs, ps, t4.1, ⟨t1.1, t2.1, t3.1⟩⟩ : Cluster) _ _ wq (hOC.ext hb).rd hHl hPl HSM.out HSP.out)
                generalize clusterR (⟨xs, ps, t4.1, ⟨t1.1, t2.1, t3.1⟩⟩ : Cluster) = okb at *
                have HO := Lib.hid hOC
                have HS := Lib.hid hS
                have hc1 := hS.cur.c1
                have hcl := hS.cur.lt
                have k0 := hS.box.cell (i := 0) (u := .slice Ah xs.length ch) rfl
                have k1 := hS.box.cell (i := 1) (u := .slice Ap ps.length cp) rfl
                have k2 := hS.box.cell (i := 2) (u := .int .i64 t4.1) rfl
                have k3 := hS.box.cell (i := 3) (u := .int .i64 t1.1) rfl
                have k4 := hS.box.cell (i := 4) (u := .int .i64 t2.1) rfl
                have k5 := hS.box.cell (i := 5) (u := .int .i64 t3.1) rfl
                have kl := hS.box.lt
                have kf := hS.box.fz
                have r0 := hS.rb.cell (i := 0) (u := .slice none 0 0) rfl
                have r1 := hS.rb.cell (i := 1) (u := .slice none 0 0) rfl
                have r2 := hS.rb.cell (i := 2) (u := .int .i64 0) rfl
                have r3 := hS.rb.cell (i := 3) (u := .int .i64 0) rfl
                have r4 := hS.rb.cell (i := 4) (u := .int .i64 0) rfl
                have r5 := hS.rb.cell (i := 5) (u := .int .i64 0) rfl
                have rl := hS.rb.lt
                have rf := hS.rb.fz
                clear hS hOC hOp hO hown hcs hne HLP HPP S6 hr6 ho6 hB4s hBr
                have HF := Lib.hid (show readSnapS s = (zeroCluster, false) by rw [HRS.out, if_neg (by simp)])
                have HB := Lib.hid HS.out.below
                go_wp2_with fail
                iterate 60 (first | go_step | skip)
                refine bodyPost_ret (v := .tuple #[.agg #[.slice none 0 0, .slice none 0 0, .int .i64 0, .int .i64 0, .int .i64 0, .int .i64 0], .bool false]) (by simp [results, Tryz.results4, go_sem, *]) rfl ?_
                rw [HF.out]
                have HB9 := HB.out
                first
                  | refine ⟨[.slice none 0 0, .slice none 0 0, .int .i64 0, .int .i64 0, .int .i64 0, .int .i64 0], [], rfl, ?_, ?_⟩
                  | refine ⟨[.slice none 0 0, .slice none 0 0, .int .i64 0, .int .i64 0, .int .i64 0, .int .i64 0], rfl, ⟨[], ?_⟩, ?_⟩
                · exact Own.zeroC _ _
                · repeat (first | with_reducible exact HB9 | with_reducible refine ext_drew ?_ | with_reducible refine ext_setCell ?_ (by exact Nat.le_refl _) _ | with_reducible refine ext_alloc ?_ _)
          · obtain rfl : bad = false := by cases bad; · rfl
                                           · exact absurd (.inr rfl) hd
            obtain ⟨k, rfl⟩ : ∃ k', k = k' + 1 := ⟨k - 1, by omega⟩
            have hji : (j : Int) < (N2 : Int) := by omega
            have HG4 := Lib.hid hG4
            have hl0 := HLP.out
            rw [loopS, if_neg (show ¬ ((a', false) : Int × Bool).2 = true by simp)] at hl0
            have e0 : placedS s xs (a', false) = (⟨(podS s (a', false)).1, hostName xs (manyS s xs.length (podS s (a', false)).2).1, (numS s (manyS s xs.length (podS s (a', false)).2).2).1⟩, (numS s (manyS s xs.length (podS s (a', false)).2).2).2) := rfl
            rw [e0] at hl0
            dsimp only at hl0
            have HL1 := Lib.hid hl0
            clear hl0 e0
            have HTP := Lib.hid (fun wq hq => Pod_spec s (w.heap.size + 1) (a', false) wq hq hs)
            have hxl : ps.length ≤ 12 := by omega
            obtain ⟨Av, cv, hv2⟩ := row_slice hown
            subst hv2
            have HTO := Lib.hid (fun (wq : World) (hq : SCur wq (w.heap.size + 1) s (podS s (a', false)).2) (hH : Sl wq xs Ah ch Gh) => On_spec s (w.heap.size + 1) (podS s (a', false)).2 xs Ah ch Gh Av ps.length cv t4.1 t1.1 t2.1 t3.1 wq hq hs hH hHl hGb)
            have HTN := Lib.hid (fun wq hq => Num_spec s (w.heap.size + 1) (manyS s xs.length (podS s (a', false)).2).2 wq hq hs)
            have hnm := hostName_size HSM.out (manyS s xs.length (podS s (a', false)).2).1
            have hzi : I64 (numS s (manyS s xs.length (podS s (a', false)).2).2).1 := numS_I64 s _ hs
            generalize podS s (a', false) = y at *
            generalize hostName xs (manyS s xs.length y.2).1 = nm at *
            generalize (manyS s xs.length y.2).2 = m2 at *
            generalize numS s m2 = z at *
            have HLT := Lib.hid (fun g hg => (hown.lt g hg).2)
            have HLF := Lib.hid hcs.lt
            have HNE := Lib.hid hne
            clear hne
            go_wp2_with fail
            refine (HTP.out _ hS.cur).mono ?_
            rintro e w10 ⟨dp, Gp, rfl, hOp, hI10, hu10⟩
            have S10 := hS.call hI10 hu10
            have r10 := row_upd hown hu10 (by omega)
            have hc10 := hcs.upd hu10 (by omega)
            have ho10 := hO.updO hu10 (by omega)
            have z10 : B4 ≤ w10.heap.size := Nat.le_trans hBr hu10.size
            have zw : wr.heap.size ≤ w10.heap.size := hu10.size
            have hrp := hOp.rd
            obtain ⟨Alabels7, clabels7, Flabels7, Aneeds7, cneeds7, Fneeds7, Atolerances7, ctolerances7, Ftolerances7, hck, hGh, hname7, hlabels7, hcpu7, hmem7, hrank7, hneeds7, htolerances7⟩ := rd_Pod hrp
            subst hck
            clear hrp hGh
            have HLP7 := Lib.hid hOp.lt
            have hbA : Below w10.heap.size w10 (w10.alloc (.cells ([.string y.1.name, .slice Alabels7 y.1.labels.length clabels7, .int .i64 y.1.cpu, .int .i64 y.1.mem, .int .i64 y.1.rank, .slice Aneeds7 y.1.needs.length cneeds7, .slice Atolerances7 y.1.tolerances.length ctolerances7, .string ⟨#[]⟩, .int .i64 0] : List Value).toArray 49)) := ext_alloc (ext_refl _) _
            have X11 := Blk.new w10 [.string y.1.name, .slice Alabels7 y.1.labels.length clabels7, .int .i64 y.1.cpu, .int .i64 y.1.mem, .int .i64 y.1.rank, .slice Aneeds7 y.1.needs.length cneeds7, .slice Atolerances7 y.1.tolerances.length ctolerances7, .string ⟨#[]⟩, .int .i64 0] 49
            have S11 := S10.ext hbA
            have r11 := row_ext r10 hbA
            have hc11 := OwnCells.ext hc10 hbA
            have ho11 := Own.ext ho10 hbA
            have hp11 := Own.ext hOp hbA
            have b0 := S11.box.cell (i := 0) (u := .slice Ah xs.length ch) rfl
            have b1 := S11.box.cell (i := 1) (u := .slice Av ps.length cv) rfl
            have b2 := S11.box.cell (i := 2) (u := .int .i64 t4.1) rfl
            have b3 := S11.box.cell (i := 3) (u := .int .i64 t1.1) rfl
            have b4 := S11.box.cell (i := 4) (u := .int .i64 t2.1) rfl
            have b5 := S11.box.cell (i := 5) (u := .int .i64 t3.1) rfl
            have hlq : w.heap.size + 1 + 1 < w10.heap.size := S10.box.lt
            clear hS hown hcs hO S10 r10 hc10 ho10 hOp hI10 hu10 hcb hlb
            go_wp2_with fail
            refine (HTO.out _ S11.cur ho11.rd).mono ?_
            rintro e w12 ⟨rfl, hI12, hu12⟩
            have S12 := S11.call hI12 hu12
            have X12 := X11.upd hu12 (by omega)
            have r12 := row_upd r11 hu12 (by omega)
            have hc12 := hc11.upd hu12 (by omega)
            have ho12 := ho11.updO hu12 (by omega)
            have hp12 := hp11.updO hu12 (by omega)
            have zx : w10.heap.size < w12.heap.size := X12.lt
            have k12 := X12.cell (i := 7) (u := .string ⟨#[]⟩) rfl
            have f12 := X12.fz 7
            have S13 := S12.far (c := w10.heap.size) (by omega) 7 (.string nm)
            have X13 := X12.put 7 (.string nm)
            have r13 := row_set (c := w10.heap.size) (i := 7) (u := .string nm) r12 (fun g hg => by have := HLT.out g hg; omega)
            have hc13 : OwnCells (w12.setCell ⟨w10.heap.size, 7, none⟩ (.string nm)) B4 ps ds F := hc12.keep (fun y hy => Below.heap_setCell _ _ _ _ (by have := HLF.out y hy; dsimp only; omega)) (by simp [World.setCell])
            have ho13 : Own (w12.setCell ⟨w10.heap.size, 7, none⟩ (.string nm)) B3 xs [.slice Ah xs.length ch] Gh := ho12.keep (fun y hy => Below.heap_setCell _ _ _ _ (by have := HG4.out y hy; dsimp only; omega)) (by simp [World.setCell])
            have hp13 : Own (w12.setCell ⟨w10.heap.size, 7, none⟩ (.string nm)) wr.heap.size y.1 _ Gp := hp12.keep (fun y hy => Below.heap_setCell _ _ _ _ (by have := HLP7.out y hy; dsimp only; omega)) (by simp [World.setCell])
            clear S11 X11 r11 hc11 ho11 hp11 hI12 hu12 S12 X12 r12 hc12 ho12 hp12 b0 b1 b2 b3 b4 b5
            go_wp2_with fail
            refine (HTN.out _ S13.cur).mono ?_
            rintro e w14 ⟨rfl, hI14, hu14⟩
            have S14 := S13.call hI14 hu14
            have X14 := X13.upd hu14 (by omega)
            have r14 := row_upd r13 hu14 (by omega)
            have hc14 := hc13.upd hu14 (by omega)
            have ho14 := ho13.updO hu14 (by omega)
            have hp14 := hp13.updO hu14 (by omega)
            have zy : w12.heap.size ≤ w14.heap.size := by have := hu14.size; simpa [World.setCell] using this
            have k14 := X14.cell (i := 8) (u := .int .i64 0) rfl
            have f14 := X14.fz 8
            have S15 := S14.far (c := w10.heap.size) (by omega) 8 (.int .i64 z.1)
            have X15 := X14.put 8 (.int .i64 z.1)
            have r15 := row_set (c := w10.heap.size) (i := 8) (u := .int .i64 z.1) r14 (fun g hg => by have := HLT.out g hg; omega)
            have HC15 := Lib.hid (show OwnCells (w14.setCell ⟨w10.heap.size, 8, none⟩ (.int .i64 z.1)) B4 ps ds F from hc14.keep (fun y hy => Below.heap_setCell _ _ _ _ (by have := HLF.out y hy; dsimp only; omega)) (by simp [World.setCell]))
            have HO15 := Lib.hid (show Own (w14.setCell ⟨w10.heap.size, 8, none⟩ (.int .i64 z.1)) B3 xs [.slice Ah xs.length ch] Gh from ho14.keep (fun y hy => Below.heap_setCell _ _ _ _ (by have := HG4.out y hy; dsimp only; omega)) (by simp [World.setCell]))
            have HP15 := Lib.hid (Own.placed (show Own (w14.setCell ⟨w10.heap.size, 8, none⟩ (.int .i64 z.1)) wr.heap.size y.1 _ Gp from hp14.keep (fun y hy => Below.heap_setCell _ _ _ _ (by have := HLP7.out y hy; dsimp only; omega)) (by simp [World.setCell])) hnm hzi)
            have HS15 := Lib.hid S15
            have HR15 := Lib.hid r15
            have c0 := X15.cell (i := 0) (u := .string y.1.name) rfl
            have c1 := X15.cell (i := 1) (u := .slice Alabels7 y.1.labels.length clabels7) rfl
            have c2 := X15.cell (i := 2) (u := .int .i64 y.1.cpu) rfl
            have c3 := X15.cell (i := 3) (u := .int .i64 y.1.mem) rfl
            have c4 := X15.cell (i := 4) (u := .int .i64 y.1.rank) rfl
            have c5 := X15.cell (i := 5) (u := .slice Aneeds7 y.1.needs.length cneeds7) rfl
            have c6 := X15.cell (i := 6) (u := .slice Atolerances7 y.1.tolerances.length ctolerances7) rfl
            have c7 := X15.cell (i := 7) (u := .string nm) rfl
            have c8 := X15.cell (i := 8) (u := .int .i64 z.1) rfl
            have ko := S15.box.cell (i := 1) (u := .slice Av ps.length cv) rfl
            clear S13 X13 r13 hc13 ho13 hp13 hI14 hu14 S14 X14 r14 hc14 ho14 hp14 S15 X15
            go_wp2_with (
              at_builtin
              go_must (refine wpList_append2 elPlacedR (by rfl) _ _ (by rfl) _ _ _ _ _ r15 (by rfl) [.string y.1.name, .slice Alabels7 y.1.labels.length clabels7, .int .i64 y.1.cpu, .int .i64 y.1.mem, .int .i64 y.1.rank, .slice Aneeds7 y.1.needs.length cneeds7, .slice Atolerances7 y.1.tolerances.length ctolerances7, .string nm, .int .i64 z.1] (by first | rfl | (simp [World.setCell]; rfl)) (by rfl) (by simp [Value.oneCell']) (by omega) (by omega) (by simp [World.setCell]; omega) ?_)
              intro v6 w16 hown16 hg16 hz16 hat16
              go_must (obtain ⟨A7, c7, hv6⟩ := row_slice hown16)
              go_must (subst hv6)
              go_must (have S16 := HS15.out.grown hg16 (fun q hq => by have := (HR15.out.lt q hq).1; omega))
              go_must (have HOH16 := HO15.out.grownO hg16 HG4.out (fun q hq => (HR15.out.lt q hq).1))
              go_must (have kx := S16.box.cell (i := 1) (u := .slice Av ps.length cv) rfl)
              go_must (have fx := S16.box.fz 1)
              go_must (have lx := S16.box.lt))
            have hl1 := HL1.out
            obtain ⟨hcs17, hne17⟩ := OwnCells.pushG (v' := .slice A7 (ps.length + 1) c7) HR15.out HC15.out HNE.out HP15.out (by omega) (fun g hg => by have := HLT.out g hg; omega) (fun y hy => HLF.out y hy) hg16 hat16
            have r17 := row_set (c := w.heap.size + 1 + 1) (i := 1) (u := .slice A7 (ps.length + 1) c7) hown16 (fun g hg => by have := (hown16.lt g hg).1; omega)
            refine ⟨⟨j + 1, k, ps ++ [⟨y.1, nm, z.1⟩], _, _, z.2, .slice A7 (ps.length + 1) c7, by go_num, by omega, by simp; omega, Lib.hid hl1, (by rw [List.length_append]; exact r17), hcs17.setCell (p := ⟨w.heap.size + 1 + 1, 1, none⟩) (by show w.heap.size + 1 + 1 < _; omega) _, hne17, HOH16.setCell (p := ⟨w.heap.size + 1 + 1, 1, none⟩) (by show w.heap.size + 1 + 1 < _; omega) _, S16.put 1 (.slice A7 (ps.length + 1) c7), by have := hg16.size; simp only [World.setCell, Array.size_modify] at *; omega⟩, by simp [intOf]; omega⟩

    · obtain rfl : bad = false := by cases bad; · rfl
                                     · exact absurd (.inr rfl) hd
      obtain ⟨k, rfl⟩ : ∃ k', k = k' + 1 := ⟨k - 1, by omega⟩
      have hji : (j : Int) < (N : Int) := by omega
      have hl0 := HLP.out
      rw [loopS, if_neg (show ¬ ((a', false) : Int × Bool).2 = true by simp)] at hl0
      have HL1 := Lib.hid hl0
      clear hl0
      have HTH := Lib.hid (fun wq hq => Host_spec s (w.heap.size + 1) (a', false) wq hq hs)
      generalize hostS s (a', false) = y at *
      have hxl : xs.length ≤ 8 := by omega
      obtain ⟨Av, cv, hv2⟩ := row_slice hown
      subst hv2
      have hSd := hS.ext (ext_drew (ext_refl wr))
      have rd0 := row_ext hown (ext_drew (ext_refl wr))
      have hcd : OwnCells wr.drew B3 xs ds F := hcs.keep (fun y hy => rfl) (Nat.le_refl _)
      have zd : B3 ≤ wr.drew.heap.size := hBr
      have x0 := hSd.box.cell (i := 0) (u := .slice Av xs.length cv) rfl
      clear hS hown hcs hBr
      go_wp2_with fail
      refine wp_region_cut (fun w' => w'.cell? ⟨w.heap.size + 1 + 1, 0, none⟩ = some (.slice Av xs.length cv)) [0, 1, 2] [3, 4, 5] [6, 7] (by kernel_rfl) (by kernel_rfl) (fun _ _ d _ _ h => by cases d <;> exact h) x0 ?_
      generalize wr.drew = wd at *
      simp only [pick, List.getElem?_cons_succ, List.getElem?_cons_zero]
      iterate 3
        (apply headC_step
         case hy =>
           refine Or.inl ⟨rfl, fun wq hq => ?_⟩
           go_simp
           try rfl
         simp only [Act.put, List.setIfInBounds_toArray, List.set_cons_zero, List.set_cons_succ])
      refine headC_nil ?_
      refine wpListK_step rfl (fun K hK => ?_)
      go_simp
      refine (HTH.out _ hSd.cur).mono ?_
      rintro e w10 ⟨dh, Gh, rfl, hOh, hI10, hu10⟩
      have S10 := hSd.call hI10 hu10
      have r10 := row_upd rd0 hu10 (by omega)
      have hc10 := hcd.upd hu10 (by omega)
      have z10 : B3 ≤ w10.heap.size := Nat.le_trans zd hu10.size
      have hrh := hOh.rd
      obtain ⟨Alabels7, clabels7, Flabels7, Ataints7, ctaints7, Ftaints7, hck, hGh, hname7, hlabels7, hcpu7, hmem7, hslots7, htaints7⟩ := rd_Host hrh
      subst hck
      clear hrh hGh
      have x0' := S10.box.cell (i := 0) (u := .slice Av xs.length cv) rfl
      have x0a := (Blk.ext S10.box (ext_alloc (ext_refl _) (.cells ([.string y.1.name, .slice Alabels7 y.1.labels.length clabels7, .int .i64 y.1.cpu, .int .i64 y.1.mem, .int .i64 y.1.slots, .slice Ataints7 y.1.taints.length ctaints7] : List Value).toArray 41))).cell (i := 0) (u := .slice Av xs.length cv) rfl
      refine hK _ _ x0' ?_
      try simp only [Act.put, List.setIfInBounds_toArray, List.set_cons_zero, List.set_cons_succ]
      clear hK K
      refine wpListK_step rfl (fun K hK => ?_)
      go_simp
      refine hK _ _ x0a ?_
      try simp only [Act.put, List.setIfInBounds_toArray, List.set_cons_zero, List.set_cons_succ]
      clear hK K
      have HS10 := Lib.hid S10
      have HR0 := Lib.hid rd0
      have HC10 := Lib.hid hc10
      have HCD := Lib.hid hcd
      have HOH := Lib.hid hOh
      clear hSd S10 rd0 hc10 hcd hOh hI10 hu10
      refine wpListK_step rfl (fun K hK => ?_)
      refine wp_append2K elHostR _ _ (by rfl) _ _ _ _ _ r10 (by rfl) [.string y.1.name, .slice Alabels7 y.1.labels.length clabels7, .int .i64 y.1.cpu, .int .i64 y.1.mem, .int .i64 y.1.slots, .slice Ataints7 y.1.taints.length ctaints7] (by first | rfl | (simp; rfl)) (by rfl) (by simp [Value.oneCell']) (by omega) (by omega) z10 ?_
      intro v6 w11 hown11 hg11 hz11 hat11
      obtain ⟨A7, c7, hv6⟩ := row_slice hown11
      subst hv6
      have S11 := HS10.out.grown hg11 (fun q hq => by have := (r10.lt q hq).1; omega)
      have kx := S11.box.cell (i := 0) (u := .slice Av xs.length cv) rfl
      have fx := S11.box.fz 0
      have lx := S11.box.lt
      refine hK _ _ kx ?_
      try simp only [Act.put, List.setIfInBounds_toArray, List.set_cons_zero, List.set_cons_succ]
      clear hK K
      refine wpListK_nil ?_
      go_wp2
      have hl1 := HL1.out
      obtain ⟨hcs12, hne12⟩ := OwnCells.pushG (v' := .slice A7 (xs.length + 1) c7) r10 HC10.out hne HOH.out (by omega) (fun g hg => (HR0.out.lt g hg).2) (fun y hy => HCD.out.lt y hy) hg11 hat11
      have r13 := row_set (c := w.heap.size + 1 + 1) (i := 0) (u := .slice A7 (xs.length + 1) c7) hown11 (fun g hg => by have := (hown11.lt g hg).1; omega)
      refine ⟨⟨j + 1, k, xs ++ [y.1], _, _, y.2, .slice A7 (xs.length + 1) c7, by go_num, by omega, by simp; omega, Lib.hid hl1, (by rw [List.length_append]; exact r13), hcs12.setCell (p := ⟨w.heap.size + 1 + 1, 0, none⟩) (by show w.heap.size + 1 + 1 < _; omega) _, hne12, S11.put 0 (.slice A7 (xs.length + 1) c7), by have := hg11.size; simp only [World.setCell, Array.size_modify] at *; omega⟩, by simp [intOf]; omega⟩



end Go.Proofs.YtpgdgcjgompokaaGreat
