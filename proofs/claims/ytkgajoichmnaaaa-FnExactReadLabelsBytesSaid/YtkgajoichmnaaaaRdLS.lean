/- The reference's reader of labels. No condition. -/
import Derived.Test.YtkgajoichmnaaaaRdS
import Derived.Test.YtkgajoichmnaaaaRdL
import Derived.Test.YtkgajoichmnaaaaRegionIx
namespace Go.Proofs.Ytkgajoichmnaaaa
open Dat (rd)
open Go.ChangeShapes Go.WideShapes Go.ChangeAt Go.RowKit
set_option linter.unusedVariables false
set_option linter.unusedSimpArgs false
set_option maxRecDepth 100000 in
set_option maxHeartbeats 2000000 in
theorem Labels_spec (s : ByteArray) (b : Nat) (st : Int × Bool) (w : World) (h : SCur w b s st) (hs : (s.size : Int) ≤ 1048576) :
    Calls Try.prog 39 #[.pointer (some ⟨b, 0, none⟩)] w fun e w' => ∃ A c F, e = .returned (.slice A (labelsS s st).1.length c) ∧ Own w' w.heap.size (labelsS s st).1 [.slice A (labelsS s st).1.length c] F ∧ SCur w' b s (labelsS s st).2 ∧ Upd [b] w w' := by
  have hlt := h.lt
  have hcw : 0 ≤ (manyS s 6 st).1 ∧ (manyS s 6 st).1 ≤ 6 := manyS_ways s 6 st (by decide)
  have HC := Lib.hid (Many_spec s b 6 st)
  have HRAW := Lib.hid (show labelsS s st = loopS (labS s) (manyS s 6 st).1.toNat [] (manyS s 6 st).2 from rfl)
  have H := Lib.hid h
  clear h
  generalize manyS s 6 st = q at *
  generalize labelsS s st = R at *
  obtain ⟨N, hN⟩ : ∃ N : Nat, q.1 = N := ⟨q.1.toNat, by omega⟩
  have hN6 : N ≤ 6 := by omega
  have HN := Lib.hid hN
  clear hN hcw
  go_enter Try.func39, Try.ntmps39
  go_wp2_with fail
  refine (HC.out _ (H.out.ext (ext_alloc (ext_refl _) _)) hs).mono ?_
  rw [HN.out]
  rintro e w2 ⟨rfl, hI2, hu2⟩
  have hu2' : Upd [b] w w2 := (Upd.of_ext [b] (ext_alloc (ext_refl _) _)).trans hu2
  have hrow := row_upd (World.ownsRow_made (base := w.heap.size) (e := 52) (size := 2) w #[] 0 (Nat.le_refl _) (by unfold maxLen; omega) rfl) hu2 hlt
  have hr0 := HRAW.out
  rw [HN.out, Int.toNat_natCast] at hr0
  have HR0 := Lib.hid hr0.symm
  clear hr0
  go_wp2_with fail
  go_loopw [3, 5] (fun v i wr => ∃ (j k : Nat) (xs : List Label) (ds : List Value) (st' : Int × Bool), i = .int .i64 j ∧ j + k = N ∧ xs.length + k ≤ 6 ∧ Hid (loopS (labS s) k xs st' = R) ∧ Hid (∀ l ∈ xs, (l.key.size : Int) ≤ 1048576 ∧ (l.value.size : Int) ≤ 1048576) ∧ wr.ownsRow w.heap.size 52 2 v xs.length ds ∧ OwnCells wr w.heap.size xs ds [] ∧ SCur wr b s st' ∧ Upd [b] w wr) (fun _ i _ => N - (intOf i).toNat)
  case atStart => exact ⟨0, N, [], [], q.2, rfl, by omega, by simpa using hN6, HR0.out, (fun l hl => by cases hl), (by simpa using hrow), OwnCells.nil _ _, hI2, hu2'⟩
  case round =>
    obtain ⟨j, k, xs, ds, st', rfl, hjk, hk6, HL, HSM, hown, hcs, hI, hu⟩ := hrel
    have hc2 := hI.c2
    have hbw : b < wr.heap.size := hI.lt
    obtain ⟨a', bad⟩ := st'
    dsimp only at hc2
    by_cases hd : k = 0 ∨ bad = true
    · have hl0 : (xs, (a', bad)) = R := by
        have := HL.out
        rcases hd with rfl | rfl
        · rw [loopS] at this; exact this
        · cases k with
          | zero => rw [loopS] at this; exact this
          | succ k => rw [loopS, if_pos rfl] at this; exact this
      have HRE := Lib.hid hl0.symm
      clear hl0
      obtain ⟨Al, cl, Gl, rfl, hO⟩ := Own.of_row hown hcs (fun _ _ hb => by cases hb)
      have HI := Lib.hid hI
      have HO := Lib.hid hO
      have HU := Lib.hid hu
      clear hI hO hu hown hcs
      by_cases hji : (j : Int) < (N : Int)
      · obtain rfl : bad = true := by rcases hd with h0 | h0; · omega
                                      · exact h0
        go_wp2
        go_ret
        rw [HRE.out]
        first | exact ⟨Al, cl, Gl, rfl, HO.out, HI.out, HU.out⟩ | exact ⟨Al, cl, rfl, ⟨Gl, HO.out⟩, HI.out, HU.out⟩
      · go_wp2
        go_ret
        rw [HRE.out]
        first | exact ⟨Al, cl, Gl, rfl, HO.out, HI.out, HU.out⟩ | exact ⟨Al, cl, rfl, ⟨Gl, HO.out⟩, HI.out, HU.out⟩
    · obtain rfl : bad = false := by cases bad; · rfl
                                     · exact absurd (.inr rfl) hd
      obtain ⟨k, rfl⟩ : ∃ k', k = k' + 1 := ⟨k - 1, by omega⟩
      have hji : (j : Int) < (N : Int) := by omega
      have hl0 := HL.out
      rw [loopS, if_neg (show ¬ ((a', false) : Int × Bool).2 = true by simp)] at hl0
      have HL1 := Lib.hid hl0
      have ht1 := textS_size s (a', false) hs
      have ht2 := textS_size s (textS s (a', false)).2 hs
      have HT1 := Lib.hid (fun (wq : World) (hq : SCur wq b s (a', false)) => Text_spec s b (a', false) wq hq hs)
      have HT2 := Lib.hid (fun (wq : World) (hq : SCur wq b s (textS s (a', false)).2) => Text_spec s b (textS s (a', false)).2 wq hq hs)
      have HE := Lib.hid (show labS s (a', false) = (⟨(textS s (a', false)).1, (textS s (textS s (a', false)).2).1⟩, (textS s (textS s (a', false)).2).2) from rfl)
      clear hl0 hd
      generalize textS s (textS s (a', false)).2 = t2 at *
      generalize textS s (a', false) = t1 at *
      go_wp2_with fail
      refine (HT1.out _ (hI.ext (by repeat (first | with_reducible exact ext_refl _ | with_reducible assumption | with_reducible refine ext_alloc ?_ _ | with_reducible refine ext_trans ?_ (by assumption))))).mono ?_
      rintro e w3 ⟨rfl, hI3, hu3⟩
      go_wp2_with fail
      refine (HT2.out _ hI3).mono ?_
      rintro e w4 ⟨rfl, hI4, hu4⟩
      have hr4 := row_upd (row_upd hown hu3 hlt) hu4 hlt
      have hU4 := (hu.trans hu3).trans hu4
      have hz4 : w.heap.size ≤ w4.heap.size := hU4.size
      have hzc : wr.heap.size ≤ w4.heap.size := Nat.le_trans hu3.size hu4.size
      have hx6 : xs.length ≤ 6 := by omega
      have HI4 := Lib.hid hI4
      clear hI hu hI3 hu3 hI4 hu4
      go_wp2_with (
        at_builtin
        go_must (refine wpList_append1 elLabel (by rfl) _ _ (by rfl) _ _ _ _ _ hr4 (by rfl) [.string t1.1, .string t2.1] (by first | rfl | (simp; rfl)) (by rfl) (by simp [Value.oneCell']) (by omega) (by omega) hz4 ?_)
        intro v6 w6 hown6 hg6 hz6)
      have hl1 := HL1.out
      rw [HE.out] at hl1
      replace hl1 : Hid (loopS (labS s) k (xs ++ [⟨t1.1, t2.1⟩]) t2.2 = R) := hl1
      have hne : some b ≠ u3.ownBlock := by intro e; have := (hr4.lt b e.symm).1; omega
      refine ⟨⟨j + 1, k, xs ++ [⟨t1.1, t2.1⟩], _, t2.2, by go_num, by omega, by simp; omega, hl1, ?_, (by rw [List.length_append]; exact hown6), OwnCells.lab hcs (Nat.le_trans hzc hg6.size) ht1 ht2, HI4.out.keep (hg6.block b HI4.out.lt hne), hU4.grown hg6 (fun g hg => (hr4.lt g hg).1)⟩, by simp [intOf]; omega⟩
      intro l hl
      rcases List.mem_append.1 hl with hl | hl
      · exact HSM.out l hl
      · simp only [List.mem_singleton] at hl
        subst hl
        exact ⟨ht1, ht2⟩

end Go.Proofs.Ytkgajoichmnaaaa
