/- ReadShort, of the program. No condition. -/
import Derived.Test.YtpgdgcjgompokaaGreatRdPl
import Derived.Test.YtpgdgcjgompokaaGreatReadVar
import Derived.Test.YtpgdgcjgompokaaGreatMarks0
import Derived.Deep.RegionWith
namespace Go.Proofs.YtpgdgcjgompokaaGreat
open Go.ChangeShapes Go.WideShapes Go.ChangeAt Go.RowKit
set_option linter.unusedVariables false
set_option linter.unusedSimpArgs false
set_option maxRecDepth 100000 in
set_option maxHeartbeats 1000000 in
theorem ReadShort_impl (s : ByteArray) (a : Int) (w : World) (hs : (s.size : Int) ≤ 1048576) (ha : I64 a) :
    Calls Tryz.prog 66 #[.string s, .int .i64 a] w fun e w' => e = .returned (.tuple #[.string (shortI s a).1, .int .i64 (shortI s a).2]) ∧ w' = w := by
  have hrv := ReadVar_impl s a w hs ha
  rw [rvV_eq] at hrv
  have HRV := Lib.hid hrv
  rcases varI_ways s a with hv | ⟨n, p, hv, hn, hp⟩
  · have HF := Lib.hid (show shortI s a = (⟨#[]⟩, -1) by unfold shortI; rw [hv, if_pos (.inl (by decide))])
    have HV := Lib.hid hv
    clear hrv hv
    go_enter Tryz.func66, Tryz.ntmps66
    go_wp2_with fail
    refine HRV.out.mono ?_
    rw [HV.out]
    rintro e w2 ⟨rfl, hb2⟩
    go_wp2
    go_returns
    exact ⟨by rw [HF.out]; rfl, (by first | exact hb2 | rfl)⟩
  · by_cases hle : n ≤ s.size - p
    · have HF := Lib.hid (show shortI s a = (s.extract p (p + n), ((p : Int) + (n : Int))) by
        unfold shortI
        rw [hv, if_neg (by show ¬ ((p : Int) < 0 ∨ (s.size : Int) - (p : Int) < (n : Int)); omega)]
        rfl)
      have HV := Lib.hid hv
      clear hrv hv
      have hle2 : ¬ ((s.size : Int) - (p : Int) < (n : Int)) := by omega
      have hn63 : (n : Int) ≤ 1048576 := by omega
      have hpi : (p : Int) ≤ s.size := by omega
      clear hn
      go_enter Tryz.func66, Tryz.ntmps66
      go_wp2_with fail
      refine HRV.out.mono ?_
      rw [HV.out]
      rintro e w2 ⟨rfl, hb2⟩
      go_wp2
      go_returns
      exact ⟨by rw [HF.out]; rfl, (by first | exact hb2 | rfl)⟩
    · have HF := Lib.hid (show shortI s a = (⟨#[]⟩, -1) by
        unfold shortI
        rw [hv, if_pos (by show (p : Int) < 0 ∨ (s.size : Int) - (p : Int) < (n : Int); omega)])
      have HV := Lib.hid hv
      clear hrv hv
      have hle2 : (s.size : Int) - (p : Int) < (n : Int) := by omega
      have hn63 : (n : Int) ≤ 9223372036854775807 := by omega
      clear hn
      go_enter Tryz.func66, Tryz.ntmps66
      go_wp2_with fail
      refine HRV.out.mono ?_
      rw [HV.out]
      rintro e w2 ⟨rfl, hb2⟩
      go_wp2
      go_returns
      exact ⟨by rw [HF.out]; rfl, (by first | exact hb2 | rfl)⟩

end Go.Proofs.YtpgdgcjgompokaaGreat

namespace Go.Proofs.YtpgdgcjgompokaaGreat
open Go.ChangeShapes Go.WideShapes Go.ChangeAt Go.RowKit
set_option linter.unusedVariables false
set_option linter.unusedSimpArgs false

/-- the program's reader lies in block b: the text, and its place -/
def ICur (w : World) (b : Nat) (s : ByteArray) (a : Int) : Prop := (∃ t, w.heap[b]? = some (.cells #[.string s, .int .i64 a] t (0, 0))) ∧ I64 a
section
variable {w w' : World} {b : Nat} {s : ByteArray} {a : Int}
theorem ICur.lt (h : ICur w b s a) : b < w.heap.size := by
  obtain ⟨⟨t, h⟩, _⟩ := h
  rcases Nat.lt_or_ge b w.heap.size with hlt | hge
  · exact hlt
  · rw [Array.getElem?_eq_none hge] at h; cases h
theorem ICur.c0 (h : ICur w b s a) : w.cell? ⟨b, 0, none⟩ = some (.string s) := by obtain ⟨⟨t, h⟩, _⟩ := h; rw [cell_of_row w b 0 _ t (0, 0) h]; rfl
theorem ICur.c1 (h : ICur w b s a) : w.cell? ⟨b, 1, none⟩ = some (.int .i64 a) := by obtain ⟨⟨t, h⟩, _⟩ := h; rw [cell_of_row w b 1 _ t (0, 0) h]; rfl
theorem ICur.fz (h : ICur w b s a) (i : Nat) : w.frozen? ⟨b, i, none⟩ = false := by obtain ⟨⟨t, h⟩, _⟩ := h; simp [World.frozen?, h]
theorem ICur.keep (h : ICur w b s a) (hk : w'.heap[b]? = w.heap[b]?) : ICur w' b s a := by obtain ⟨⟨t, h⟩, hi⟩ := h; exact ⟨⟨t, hk.trans h⟩, hi⟩
theorem ICur.ext (h : ICur w b s a) (hb : Below w.heap.size w w') : ICur w' b s a := h.keep (hb.block b h.lt)
theorem ICur.set (h : ICur w b s a) {a' : Int} (ha : I64 a') : ICur (w.setCell ⟨b, 1, none⟩ (.int .i64 a')) b s a' := by
  obtain ⟨⟨t, h⟩, _⟩ := h
  exact ⟨⟨t, by simp [World.setCell, Array.getElem?_modify, h]⟩, ha⟩
theorem upd_set (b i : Nat) (w : World) (u : Value) : Upd [b] w (w.setCell ⟨b, i, none⟩ u) := (Upd.refl [b] w).setCell (by simp) u
theorem I64_small {n : Int} (h : -1 ≤ n ∧ n ≤ 1048576) : I64 n := ⟨by omega, by omega⟩
end
set_option maxHeartbeats 1000000 in
theorem num_any (s : ByteArray) (b : Nat) (a : Int) (w : World) (h : ICur w b s a) (hs : (s.size : Int) ≤ 1048576) :
    Calls Tryz.prog 15 #[.pointer (some ⟨b, 0, none⟩)] w fun e w' => e = .returned (.int .i64 (varI s a).1) ∧ ICur w' b s (varI s a).2 ∧ Upd [b] w w' := by
  obtain ⟨hI1, hI2, hI3⟩ := varI_I64 s a hs
  have hc0 := h.c0
  have hc1 := h.c1
  have hf0 := h.fz 0
  have hf1 := h.fz 1
  have hlt := h.lt
  have HI := Lib.hid (I64_small hI2)
  have H := Lib.hid h
  have HRV := Lib.hid (fun wq => by have e := ReadVar_impl s a wq hs h.2; rw [rvV_eq] at e; exact e : ∀ wq, Calls Tryz.prog 37 #[.string s, .int .i64 a] wq fun e w' => e = .returned (.tuple #[.int .i64 (varI s a).1, .int .i64 (varI s a).2]) ∧ w' = wq)
  clear hI2 h
  generalize varI s a = q at *
  go_enter Tryz.func15, Tryz.ntmps15
  go_wp2_with fail
  go_region_with (go_at_call 37; refine (HRV.out _).mono ?_; rintro e w2 ⟨rfl, hw⟩; simp only [hw]; clear hw w2)
  all_goals
    go_wp2
    go_ret
    exact ⟨rfl, (ICur.keep (w' := w.drew) H.out rfl).set HI.out, ((Upd.refl [b] w).drew).setCell (by simp) _⟩
theorem bad_any (s : ByteArray) (b : Nat) (a : Int) (w : World) (h : ICur w b s a) :
    Calls Tryz.prog 39 #[.pointer (some ⟨b, 0, none⟩)] w fun e w' => e = .returned (.bool (decide (a < 0))) ∧ w' = w := by
  have hc1 := h.c1
  have hlt := h.lt
  go_enter Tryz.func39, Tryz.ntmps39
  go_wp2
  go_ret
  exact ⟨rfl, rfl⟩
theorem must_any (s : ByteArray) (b : Nat) (a : Int) (fine : Bool) (w : World) (h : ICur w b s a) :
    Calls Tryz.prog 38 #[.pointer (some ⟨b, 0, none⟩), .bool fine] w fun e w' => e = .returned (.tuple #[]) ∧ ICur w' b s (if fine = true then a else -1) ∧ Upd [b] w w' := by
  have hc1 := h.c1
  have hf1 := h.fz 1
  have hlt := h.lt
  have H := Lib.hid h
  have HS := Lib.hid (h.set (a' := -1) ⟨by omega, by omega⟩)
  have HU := Lib.hid (upd_set b 1 w (.int .i64 (-1)))
  clear h
  cases fine
  · go_enter Tryz.func38, Tryz.ntmps38
    go_wp2
    go_returns
    exact ⟨rfl, HS.out, HU.out⟩
  · go_enter Tryz.func38, Tryz.ntmps38
    go_wp2
    go_returns
    exact ⟨rfl, H.out, .refl _ _⟩
set_option maxHeartbeats 1000000 in
theorem count_any (s : ByteArray) (b : Nat) (a most : Int) (w : World) (h : ICur w b s a) (hs : (s.size : Int) ≤ 1048576) (hm : 0 ≤ most) :
    Calls Tryz.prog 16 #[.pointer (some ⟨b, 0, none⟩), .int .i64 most] w fun e w' => e = .returned (.int .i64 (countI s most a).1) ∧ ICur w' b s (countI s most a).2 ∧ Upd [b] w w' := by
  have HNUM := Lib.hid (num_any s b a w h hs)
  have hcd : countI s most a = (if (varI s a).1 ≤ most then (if (varI s a).2 < 0 then (0, (varI s a).2) else varI s a) else (0, -1)) := rfl
  have HC := Lib.hid hcd
  clear hcd
  generalize varI s a = q at *
  clear h
  by_cases hle : q.1 ≤ most
  · by_cases hn : q.2 < 0
    · have HF := Lib.hid (show countI s most a = (0, q.2) by rw [HC.out, if_pos hle, if_pos hn])
      go_enter Tryz.func16, Tryz.ntmps16
      go_wp2_with fail
      refine HNUM.out.mono ?_
      rintro e w2 ⟨rfl, hI2, hu2⟩
      have hd : decide (q.1 ≤ most) = true := by simp [hle]
      go_wp2_with fail
      refine (must_any s b q.2 _ _ hI2).mono ?_
      rintro e w3 ⟨rfl, hI3, hu3⟩
      rw [if_pos (by first | rfl | exact hd)] at hI3
      go_wp2_with fail
      refine (bad_any s b q.2 _ hI3).mono ?_
      rw [show decide (q.2 < 0) = true by simp [hn]]
      rintro e w4 ⟨rfl, hw⟩
      simp only [hw]
      clear hw w4
      go_wp2
      go_ret
      rw [HF.out]
      exact ⟨rfl, hI3, hu2.trans hu3⟩
    · have HF := Lib.hid (show countI s most a = q by rw [HC.out, if_pos hle, if_neg hn])
      go_enter Tryz.func16, Tryz.ntmps16
      go_wp2_with fail
      refine HNUM.out.mono ?_
      rintro e w2 ⟨rfl, hI2, hu2⟩
      have hd : decide (q.1 ≤ most) = true := by simp [hle]
      go_wp2_with fail
      refine (must_any s b q.2 _ _ hI2).mono ?_
      rintro e w3 ⟨rfl, hI3, hu3⟩
      rw [if_pos (by first | rfl | exact hd)] at hI3
      go_wp2_with fail
      refine (bad_any s b q.2 _ hI3).mono ?_
      rw [show decide (q.2 < 0) = false by simp; omega]
      rintro e w4 ⟨rfl, hw⟩
      simp only [hw]
      clear hw w4
      go_wp2
      go_ret
      rw [HF.out]
      exact ⟨rfl, hI3, hu2.trans hu3⟩
  · have HF := Lib.hid (show countI s most a = (0, -1) by rw [HC.out, if_neg hle])
    go_enter Tryz.func16, Tryz.ntmps16
    go_wp2_with fail
    refine HNUM.out.mono ?_
    rintro e w2 ⟨rfl, hI2, hu2⟩
    have hd : decide (q.1 ≤ most) = false := by simp; omega
    go_wp2_with fail
    refine (must_any s b q.2 _ _ hI2).mono ?_
    rintro e w3 ⟨rfl, hI3, hu3⟩
    rw [if_neg (by first | decide | (rw [hd]; decide))] at hI3
    go_wp2_with fail
    refine (bad_any s b (-1) _ hI3).mono ?_
    rintro e w4 ⟨rfl, hw⟩
    simp only [hw]
    clear hw w4
    go_wp2
    go_ret
    rw [HF.out]
    exact ⟨rfl, hI3, hu2.trans hu3⟩
set_option maxHeartbeats 1000000 in
theorem text_any (s : ByteArray) (b : Nat) (a : Int) (w : World) (h : ICur w b s a) (hs : (s.size : Int) ≤ 1048576) :
    Calls Tryz.prog 40 #[.pointer (some ⟨b, 0, none⟩)] w fun e w' => e = .returned (.string (textI s a).1) ∧ ICur w' b s (textI s a).2 ∧ Upd [b] w w' := by
  by_cases hn : a < 0
  · have HF := Lib.hid (show textI s a = (⟨#[]⟩, a) by unfold textI; rw [if_pos hn])
    go_enter Tryz.func40, Tryz.ntmps40
    go_wp2_with fail
    refine (bad_any s b a _ h).mono ?_
    rw [show decide (a < 0) = true by simp [hn]]
    rintro e w4 ⟨rfl, hw⟩
    simp only [hw]
    clear hw w4
    go_wp2
    go_ret
    rw [HF.out]
    exact ⟨rfl, h, .refl _ _⟩
  · have HF := Lib.hid (show textI s a = shortI s a by unfold textI; rw [if_neg hn])
    have hsp := shortI_spec s a hs
    have hc0 := h.c0
    have hc1 := h.c1
    have hf0 := h.fz 0
    have hf1 := h.fz 1
    have hlt := h.lt
    have HI := Lib.hid (I64_small (n := (shortI s a).2) ⟨hsp.2.1, by omega⟩)
    have H := Lib.hid h
    have HRV := Lib.hid (fun wq => ReadShort_impl s a wq hs h.2)
    clear hsp
    clear h
    generalize shortI s a = q at *
    go_enter Tryz.func40, Tryz.ntmps40
    go_wp2_with fail
    refine (bad_any s b a _ H.out).mono ?_
    rw [show decide (a < 0) = false by simp; omega]
    rintro e w4 ⟨rfl, hw⟩
    simp only [hw]
    clear hw w4
    go_wp2_with fail
    go_region_with (go_at_call 66; refine (HRV.out _).mono ?_; rintro e w2 ⟨rfl, hw⟩; simp only [hw]; clear hw w2)
    all_goals
      go_wp2
      go_ret
      rw [HF.out]
      exact ⟨rfl, (ICur.keep (w' := w.drew) H.out rfl).set HI.out, ((Upd.refl [b] w).drew).setCell (by simp) _⟩

end Go.Proofs.YtpgdgcjgompokaaGreat

namespace Go.Proofs.YtpgdgcjgompokaaGreat
open Go.ChangeShapes Go.WideShapes Go.ChangeAt Go.RowKit
set_option linter.unusedVariables false
set_option linter.unusedSimpArgs false
set_option maxRecDepth 100000 in
set_option maxHeartbeats 2000000 in
theorem labels_any (s : ByteArray) (b : Nat) (a : Int) (w : World) (h : ICur w b s a) (hs : (s.size : Int) ≤ 1048576) :
    Calls Tryz.prog 41 #[.pointer (some ⟨b, 0, none⟩)] w fun e w' => ∃ A c F, e = .returned (.slice A (labelsI s a).1.length c) ∧ Own w' w.heap.size (labelsI s a).1 [.slice A (labelsI s a).1.length c] F ∧ ICur w' b s (labelsI s a).2 ∧ Upd [b] w w' := by
  have hlt := h.lt
  have hcw := countI_ways s 6 a (by decide)
  have HC := Lib.hid (count_any s b a 6)
  have HRAW := Lib.hid (show labelsRaw s a = loopI (labI s) (countI s 6 a).1.toNat [] (countI s 6 a).2 from rfl)
  have HLI := Lib.hid (show labelsI s a = ((labelsRaw s a).1, if labelsR (labelsRaw s a).1 = true then (labelsRaw s a).2 else -1) from rfl)
  have H := Lib.hid h
  clear h
  generalize countI s 6 a = q at *
  generalize labelsRaw s a = R at *
  obtain ⟨N, hN⟩ : ∃ N : Nat, q.1 = N := ⟨q.1.toNat, by omega⟩
  have hN6 : N ≤ 6 := by omega
  have HN := Lib.hid hN
  clear hN hcw
  go_enter Tryz.func41, Tryz.ntmps41
  go_wp2_with fail
  refine (HC.out _ (H.out.ext (ext_alloc (ext_refl _) _)) hs (by decide)).mono ?_
  rw [HN.out]
  rintro e w2 ⟨rfl, hI2, hu2⟩
  have hu2' : Upd [b] w w2 := (Upd.of_ext [b] (ext_alloc (ext_refl _) _)).trans hu2
  have hrow := row_upd (World.ownsRow_made (base := w.heap.size) (e := 99) (size := 2) w #[] 0 (Nat.le_refl _) (by unfold maxLen; omega) rfl) hu2 hlt
  have hr0 := HRAW.out
  rw [HN.out, Int.toNat_natCast] at hr0
  have HR0 := Lib.hid hr0.symm
  clear hr0
  go_wp2_with fail
  go_loopw [3, 4] (fun v n wr => ∃ (k : Nat) (xs : List Label) (ds : List Value) (a' : Int), n = .int .i64 k ∧ xs.length + k ≤ 6 ∧ Hid (loopI (labI s) k xs a' = R) ∧ Hid (∀ l ∈ xs, (l.key.size : Int) ≤ 1048576 ∧ (l.value.size : Int) ≤ 1048576) ∧ wr.ownsRow w.heap.size 99 2 v xs.length ds ∧ OwnCells wr w.heap.size xs ds [] ∧ ICur wr b s a' ∧ Upd [b] w wr) (fun _ n _ => (intOf n).toNat)
  case atStart => exact ⟨N, [], [], q.2, rfl, by simpa using hN6, HR0.out, (fun l hl => by cases hl), (by simpa using hrow), OwnCells.nil _ _, hI2, hu2'⟩
  case round =>
    obtain ⟨k, xs, ds, a', rfl, hk6, HL, HSM, hown, hcs, hI, hu⟩ := hrel
    cases k with
    | zero =>
      have hl0 := HL.out
      rw [loopI] at hl0
      have HRE := Lib.hid hl0.symm
      clear hl0
      obtain ⟨Al, cl, Gl, rfl, hO⟩ := Own.of_row hown hcs (fun _ _ hb => by cases hb)
      have HI := Lib.hid hI
      have HO := Lib.hid hO
      have HU := Lib.hid hu
      have hxl : (xs.length : Int) ≤ 1048576 := by omega
      clear hI hO hu hown hcs
      go_wp2_with fail
      refine (LabelsOk_impl xs Al _ cl Gl _ HO.out.rd rfl hxl HSM.out).mono ?_
      rintro e w3 ⟨rfl, hb3⟩
      go_wp2_with fail
      refine (must_any s b a' _ _ (HI.out.ext hb3)).mono ?_
      rintro e w4 ⟨rfl, hI4, hu4⟩
      have hO4 := hu4.own (HO.out.ext hb3) (fun y hy hb => by have := HO.out.base y hy; simp only [List.mem_singleton] at hb; omega)
      have hU4 := (HU.out.trans (Upd.of_ext [b] hb3)).trans hu4
      have HF := Lib.hid (show labelsI s a = (xs, if labelsR xs = true then a' else -1) by rw [HLI.out, HRE.out])
      go_wp2
      go_ret
      rw [HF.out]
      exact ⟨Al, cl, Gl, rfl, hO4, hI4, hU4⟩
    | succ k =>
      have hl0 := HL.out
      rw [loopI] at hl0
      have HL1 := Lib.hid hl0
      have ht1 := textI_size s a' hs
      have ht2 := textI_size s (textI s a').2 hs
      have HT1 := Lib.hid (fun (wq : World) (hq : ICur wq b s a') => text_any s b a' wq hq hs)
      have HT2 := Lib.hid (fun (wq : World) (hq : ICur wq b s (textI s a').2) => text_any s b (textI s a').2 wq hq hs)
      have HE := Lib.hid (show labI s a' = (⟨(textI s a').1, (textI s (textI s a').2).1⟩, (textI s (textI s a').2).2) from rfl)
      have hkk : (((k + 1 : Nat) : Int) - 1) = (k : Int) := by omega
      clear hl0
      generalize textI s (textI s a').2 = t2 at *
      generalize textI s a' = t1 at *
      have hlr : wr.heap.size ≤ wr.heap.size := Nat.le_refl _
      have hbw : b < wr.heap.size := hI.lt
      go_wp2_with fail
      refine (HT1.out _ (hI.ext (by repeat (first | with_reducible exact ext_refl _ | with_reducible assumption | with_reducible refine ext_alloc ?_ _ | with_reducible refine ext_trans ?_ (by assumption))))).mono ?_
      rintro e w3 ⟨rfl, hI3, hu3⟩
      go_wp2_with fail
      refine (HT2.out _ (hI3.ext (by repeat (first | with_reducible exact ext_refl _ | with_reducible assumption | with_reducible refine ext_alloc ?_ _ | with_reducible refine ext_trans ?_ (by assumption))))).mono ?_
      rintro e w4 ⟨rfl, hI4, hu4⟩
      have e4 := hu4.block w3.heap.size (by simp) (by have := hI3.lt; simp; omega)
      have m0 : w4.cell? ⟨w3.heap.size, 0, none⟩ = some (.string t1.1) := by rw [World.cell?_of_block e4, cell_of_row _ _ _ _ _ _ (heap_alloc_new w3 _)]; rfl
      have m1 : w4.cell? ⟨w3.heap.size, 1, none⟩ = some (.string ⟨#[]⟩) := by rw [World.cell?_of_block e4, cell_of_row _ _ _ _ _ _ (heap_alloc_new w3 _)]; rfl
      have mf : w4.frozen? ⟨w3.heap.size, 1, none⟩ = false := by rw [heap_alloc_new] at e4; simp [World.frozen?, e4]
      have hz4 : w3.heap.size < w4.heap.size := by have := hu4.size; simp at this; omega
      have hz3 : wr.heap.size ≤ w3.heap.size := hu3.size
      have hzr : w.heap.size ≤ wr.heap.size := hu.size
      have hr3 := row_upd hown hu3 hlt
      have hr5 := row_set (c := w3.heap.size) (i := 1) (u := .string t2.1) (row_upd (hr3.alloc _) hu4 hlt) (fun g hg => by have := (hr3.lt g hg).2; omega)
      have hI5 := ICur.keep (w' := w4.setCell ⟨w3.heap.size, 1, none⟩ (.string t2.1)) hI4 (Below.heap_setCell _ _ _ _ (by dsimp only; omega))
      have hU5 := (((hu.trans hu3).alloc _).trans hu4).setNew (p := ⟨w3.heap.size, 1, none⟩) (by dsimp only; omega) (.string t2.1)
      have hz5 : w.heap.size ≤ (w4.setCell ⟨w3.heap.size, 1, none⟩ (.string t2.1)).heap.size := hU5.size
      have hzc : wr.heap.size ≤ (w4.setCell ⟨w3.heap.size, 1, none⟩ (.string t2.1)).heap.size := by simp [World.setCell]; omega
      clear e4 hr3 hI hu hI3 hu3 hI4 hu4
      have hx6 : xs.length ≤ 6 := by omega
      go_wp2_with (
        at_builtin
        go_must (refine wpList_append1 elLabel (by rfl) _ _ (by rfl) _ _ _ _ _ hr5 (by rfl) [.string t1.1, .string t2.1] (by first | rfl | (simp; rfl)) (by rfl) (by simp [Value.oneCell']) (by omega) (by omega) hz5 ?_)
        intro v6 w6 hown6 hg6 hz6)
      have hl1 := HL1.out
      rw [HE.out] at hl1
      replace hl1 : Hid (loopI (labI s) k (xs ++ [⟨t1.1, t2.1⟩]) t2.2 = R) := hl1
      have hne : some b ≠ u3.ownBlock := by intro e; have := (hr5.lt b e.symm).1; omega
      refine ⟨⟨k, xs ++ [⟨t1.1, t2.1⟩], _, t2.2, by go_num, by simp; omega, hl1, ?_, (by rw [List.length_append]; exact hown6), OwnCells.lab hcs (Nat.le_trans hzc hg6.size) ht1 ht2, hI5.keep (hg6.block b hI5.lt hne), hU5.grown hg6 (fun g hg => (hr5.lt g hg).1)⟩, by simp [intOf]⟩
      intro l hl
      rcases List.mem_append.1 hl with hl | hl
      · exact HSM.out l hl
      · simp only [List.mem_singleton] at hl
        subst hl
        exact ⟨ht1, ht2⟩

end Go.Proofs.YtpgdgcjgompokaaGreat
