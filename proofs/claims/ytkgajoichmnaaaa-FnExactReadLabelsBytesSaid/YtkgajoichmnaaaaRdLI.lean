/- The program's reader of labels. No condition. -/
import Derived.Test.YtkgajoichmnaaaaRdI
import Derived.Test.YtkgajoichmnaaaaRdL
namespace Go.Proofs.Ytkgajoichmnaaaa
open Dat (rd)
open Go.ChangeShapes Go.WideShapes Go.ChangeAt Go.RowKit
set_option linter.unusedVariables false
set_option linter.unusedSimpArgs false
set_option maxRecDepth 100000 in
set_option maxHeartbeats 2000000 in
theorem labels_any (s : ByteArray) (b : Nat) (a : Int) (w : World) (h : ICur w b s a) (hs : (s.size : Int) ≤ 1048576) :
    Calls Try.prog 41 #[.pointer (some ⟨b, 0, none⟩)] w fun e w' => ∃ A c F, e = .returned (.slice A (labelsI s a).1.length c) ∧ Own w' w.heap.size (labelsI s a).1 [.slice A (labelsI s a).1.length c] F ∧ ICur w' b s (labelsI s a).2 ∧ Upd [b] w w' := by
  have hlt := h.lt
  have hcw := countI_ways s 6 a (by decide)
  have HC := Lib.hid (count_any s b a 6)
  have HRAW := Lib.hid (show labelsRaw s a = loopI (labI s) (countI s 6 a).1.toNat [] (countI s 6 a).2 from rfl)
  have HLI := Lib.hid (show labelsI s a = ((labelsRaw s a).1, if labelsR (labelsRaw s a).1 = true then (labelsRaw s a).2 else -1) from rfl)
  have H := Lib.hid h
  clear h
  generalize countI s 6 a = q at *
  generalize labelsRaw s a = R at *
  obtain ⟨N, hN⟩ : ∃ N : Nat, q.1 = N := ⟨q.1.toNat, by omega⟩
  have hN6 : N ≤ 6 := by omega
  have HN := Lib.hid hN
  clear hN hcw
  go_enter Try.func41, Try.ntmps41
  go_wp2_with fail
  refine (HC.out _ (H.out.ext (ext_alloc (ext_refl _) _)) hs (by decide)).mono ?_
  rw [HN.out]
  rintro e w2 ⟨rfl, hI2, hu2⟩
  have hu2' : Upd [b] w w2 := (Upd.of_ext [b] (ext_alloc (ext_refl _) _)).trans hu2
  have hrow := row_upd (World.ownsRow_made (base := w.heap.size) (e := 52) (size := 2) w #[] 0 (Nat.le_refl _) (by unfold maxLen; omega) rfl) hu2 hlt
  have hr0 := HRAW.out
  rw [HN.out, Int.toNat_natCast] at hr0
  have HR0 := Lib.hid hr0.symm
  clear hr0
  go_wp2_with fail
  go_loopw [3, 4] (fun v n wr => ∃ (k : Nat) (xs : List Label) (ds : List Value) (a' : Int), n = .int .i64 k ∧ xs.length + k ≤ 6 ∧ Hid (loopI (labI s) k xs a' = R) ∧ Hid (∀ l ∈ xs, (l.key.size : Int) ≤ 1048576 ∧ (l.value.size : Int) ≤ 1048576) ∧ wr.ownsRow w.heap.size 52 2 v xs.length ds ∧ OwnCells wr w.heap.size xs ds [] ∧ ICur wr b s a' ∧ Upd [b] w wr) (fun _ n _ => (intOf n).toNat)
  case atStart => exact ⟨N, [], [], q.2, rfl, by simpa using hN6, HR0.out, (fun l hl => by cases hl), (by simpa using hrow), OwnCells.nil _ _, hI2, hu2'⟩
  case round =>
    obtain ⟨k, xs, ds, a', rfl, hk6, HL, HSM, hown, hcs, hI, hu⟩ := hrel
    cases k with
    | zero =>
      have hl0 := HL.out
      rw [loopI] at hl0
      have HRE := Lib.hid hl0.symm
      clear hl0
      obtain ⟨Al, cl, Gl, rfl, hO⟩ := Own.of_row hown hcs (fun _ _ hb => by cases hb)
      have HI := Lib.hid hI
      have HO := Lib.hid hO
      have HU := Lib.hid hu
      have hxl : (xs.length : Int) ≤ 1048576 := by omega
      clear hI hO hu hown hcs
      go_wp2_with fail
      refine (LabelsOk_impl xs Al _ cl Gl _ HO.out.rd rfl hxl HSM.out).mono ?_
      rintro e w3 ⟨rfl, hb3⟩
      go_wp2_with fail
      refine (must_any s b a' _ _ (HI.out.ext hb3)).mono ?_
      rintro e w4 ⟨rfl, hI4, hu4⟩
      have hO4 := hu4.own (HO.out.ext hb3) (fun y hy hb => by have := HO.out.base y hy; simp only [List.mem_singleton] at hb; omega)
      have hU4 := (HU.out.trans (Upd.of_ext [b] hb3)).trans hu4
      have HF := Lib.hid (show labelsI s a = (xs, if labelsR xs = true then a' else -1) by rw [HLI.out, HRE.out])
      go_wp2
      go_ret
      rw [HF.out]
      exact ⟨Al, cl, Gl, rfl, hO4, hI4, hU4⟩
    | succ k =>
      have hl0 := HL.out
      rw [loopI] at hl0
      have HL1 := Lib.hid hl0
      have ht1 := textI_size s a' hs
      have ht2 := textI_size s (textI s a').2 hs
      have HT1 := Lib.hid (fun (wq : World) (hq : ICur wq b s a') => text_any s b a' wq hq hs)
      have HT2 := Lib.hid (fun (wq : World) (hq : ICur wq b s (textI s a').2) => text_any s b (textI s a').2 wq hq hs)
      have HE := Lib.hid (show labI s a' = (⟨(textI s a').1, (textI s (textI s a').2).1⟩, (textI s (textI s a').2).2) from rfl)
      have hkk : (((k + 1 : Nat) : Int) - 1) = (k : Int) := by omega
      clear hl0
      generalize textI s (textI s a').2 = t2 at *
      generalize textI s a' = t1 at *
      have hlr : wr.heap.size ≤ wr.heap.size := Nat.le_refl _
      have hbw : b < wr.heap.size := hI.lt
      go_wp2_with fail
      refine (HT1.out _ (hI.ext (by repeat (first | with_reducible exact ext_refl _ | with_reducible assumption | with_reducible refine ext_alloc ?_ _ | with_reducible refine ext_trans ?_ (by assumption))))).mono ?_
      rintro e w3 ⟨rfl, hI3, hu3⟩
      go_wp2_with fail
      refine (HT2.out _ (hI3.ext (by repeat (first | with_reducible exact ext_refl _ | with_reducible assumption | with_reducible refine ext_alloc ?_ _ | with_reducible refine ext_trans ?_ (by assumption))))).mono ?_
      rintro e w4 ⟨rfl, hI4, hu4⟩
      have e4 := hu4.block w3.heap.size (by simp) (by have := hI3.lt; simp; omega)
      have m0 : w4.cell? ⟨w3.heap.size, 0, none⟩ = some (.string t1.1) := by rw [World.cell?_of_block e4, cell_of_row _ _ _ _ _ _ (heap_alloc_new w3 _)]; rfl
      have m1 : w4.cell? ⟨w3.heap.size, 1, none⟩ = some (.string ⟨#[]⟩) := by rw [World.cell?_of_block e4, cell_of_row _ _ _ _ _ _ (heap_alloc_new w3 _)]; rfl
      have mf : w4.frozen? ⟨w3.heap.size, 1, none⟩ = false := by rw [heap_alloc_new] at e4; simp [World.frozen?, e4]
      have hz4 : w3.heap.size < w4.heap.size := by have := hu4.size; simp at this; omega
      have hz3 : wr.heap.size ≤ w3.heap.size := hu3.size
      have hzr : w.heap.size ≤ wr.heap.size := hu.size
      have hr3 := row_upd hown hu3 hlt
      have hr5 := row_set (c := w3.heap.size) (i := 1) (u := .string t2.1) (row_upd (hr3.alloc _) hu4 hlt) (fun g hg => by have := (hr3.lt g hg).2; omega)
      have hI5 := ICur.keep (w' := w4.setCell ⟨w3.heap.size, 1, none⟩ (.string t2.1)) hI4 (Below.heap_setCell _ _ _ _ (by dsimp only; omega))
      have hU5 := (((hu.trans hu3).alloc _).trans hu4).setNew (p := ⟨w3.heap.size, 1, none⟩) (by dsimp only; omega) (.string t2.1)
      have hz5 : w.heap.size ≤ (w4.setCell ⟨w3.heap.size, 1, none⟩ (.string t2.1)).heap.size := hU5.size
      have hzc : wr.heap.size ≤ (w4.setCell ⟨w3.heap.size, 1, none⟩ (.string t2.1)).heap.size := by simp [World.setCell]; omega
      clear e4 hr3 hI hu hI3 hu3 hI4 hu4
      have hx6 : xs.length ≤ 6 := by omega
      go_wp2_with (
        at_builtin
        go_must (refine wpList_append1 elLabel (by rfl) _ _ (by rfl) _ _ _ _ _ hr5 (by rfl) [.string t1.1, .string t2.1] (by first | rfl | (simp; rfl)) (by rfl) (by simp [Value.oneCell']) (by omega) (by omega) hz5 ?_)
        intro v6 w6 hown6 hg6 hz6)
      have hl1 := HL1.out
      rw [HE.out] at hl1
      replace hl1 : Hid (loopI (labI s) k (xs ++ [⟨t1.1, t2.1⟩]) t2.2 = R) := hl1
      have hne : some b ≠ u3.ownBlock := by intro e; have := (hr5.lt b e.symm).1; omega
      refine ⟨⟨k, xs ++ [⟨t1.1, t2.1⟩], _, t2.2, by go_num, by simp; omega, hl1, ?_, (by rw [List.length_append]; exact hown6), OwnCells.lab hcs (Nat.le_trans hzc hg6.size) ht1 ht2, hI5.keep (hg6.block b hI5.lt hne), hU5.grown hg6 (fun g hg => (hr5.lt g hg).1)⟩, by simp [intOf]⟩
      intro l hl
      rcases List.mem_append.1 hl with hl | hl
      · exact HSM.out l hl
      · simp only [List.mem_singleton] at hl
        subst hl
        exact ⟨ht1, ht2⟩

end Go.Proofs.Ytkgajoichmnaaaa
