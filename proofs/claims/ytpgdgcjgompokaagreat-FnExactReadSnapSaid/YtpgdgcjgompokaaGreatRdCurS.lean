/- ReadShort, of the reference. No condition. -/
import Derived.Test.YtpgdgcjgompokaaGreatRdPl
import Derived.Test.YtpgdgcjgompokaaGreatReadVarS
import Derived.Test.YtpgdgcjgompokaaGreatMarks0
import Derived.Test.YtpgdgcjgompokaaGreatRegion0
namespace Go.Proofs.YtpgdgcjgompokaaGreat
open Go.ChangeShapes Go.WideShapes Go.ChangeAt Go.RowKit
set_option linter.unusedVariables false
set_option linter.unusedSimpArgs false
set_option maxRecDepth 100000 in
set_option maxHeartbeats 1000000 in
theorem ReadShort_spec (s : ByteArray) (a : Int) (w : World) (hs : (s.size : Int) ≤ 1048576) (ha : I64 a) :
    Calls Tryz.prog 59 #[.string s, .int .i64 a] w fun e w' => e = .returned (.tuple #[.string (shortI s a).1, .int .i64 (shortI s a).2]) ∧ Below w.heap.size w w' := by
  have hrv := ReadVar_spec s a w hs ha
  rw [rvV_eq] at hrv
  have HRV := Lib.hid hrv
  rcases varI_ways s a with hv | ⟨n, p, hv, hn, hp⟩
  · have HF := Lib.hid (show shortI s a = (⟨#[]⟩, -1) by unfold shortI; rw [hv, if_pos (.inl (by decide))])
    have HV := Lib.hid hv
    clear hrv hv
    go_enter Tryz.func59, Tryz.ntmps59
    go_wp2_with fail
    refine HRV.out.mono ?_
    rw [HV.out]
    rintro e w2 ⟨rfl, hb2⟩
    go_wp2
    go_returns
    exact ⟨by rw [HF.out]; rfl, (by first | exact hb2 | rfl)⟩
  · by_cases hle : n ≤ s.size - p
    · have HF := Lib.hid (show shortI s a = (s.extract p (p + n), ((p : Int) + (n : Int))) by
        unfold shortI
        rw [hv, if_neg (by show ¬ ((p : Int) < 0 ∨ (s.size : Int) - (p : Int) < (n : Int)); omega)]
        rfl)
      have HV := Lib.hid hv
      clear hrv hv
      have hle2 : ¬ ((s.size : Int) - (p : Int) < (n : Int)) := by omega
      have hn63 : (n : Int) ≤ 1048576 := by omega
      have hpi : (p : Int) ≤ s.size := by omega
      clear hn
      go_enter Tryz.func59, Tryz.ntmps59
      go_wp2_with fail
      refine HRV.out.mono ?_
      rw [HV.out]
      rintro e w2 ⟨rfl, hb2⟩
      go_wp2
      go_returns
      exact ⟨by rw [HF.out]; rfl, (by first | exact hb2 | rfl)⟩
    · have HF := Lib.hid (show shortI s a = (⟨#[]⟩, -1) by
        unfold shortI
        rw [hv, if_pos (by show (p : Int) < 0 ∨ (s.size : Int) - (p : Int) < (n : Int); omega)])
      have HV := Lib.hid hv
      clear hrv hv
      have hle2 : (s.size : Int) - (p : Int) < (n : Int) := by omega
      have hn63 : (n : Int) ≤ 9223372036854775807 := by omega
      clear hn
      go_enter Tryz.func59, Tryz.ntmps59
      go_wp2_with fail
      refine HRV.out.mono ?_
      rw [HV.out]
      rintro e w2 ⟨rfl, hb2⟩
      go_wp2
      go_returns
      exact ⟨by rw [HF.out]; rfl, (by first | exact hb2 | rfl)⟩

end Go.Proofs.YtpgdgcjgompokaaGreat

namespace Go.Proofs.YtpgdgcjgompokaaGreat
open Go.ChangeShapes Go.WideShapes Go.ChangeAt Go.RowKit
set_option linter.unusedVariables false
set_option linter.unusedSimpArgs false

/-- the reference's reader lies in block b: the text, its place, and whether there was a fault -/
def SCur (w : World) (b : Nat) (s : ByteArray) (st : Int × Bool) : Prop := (∃ t, w.heap[b]? = some (.cells #[.string s, .int .i64 st.1, .bool st.2] t (0, 0))) ∧ I64 st.1
section
variable {w w' : World} {b : Nat} {s : ByteArray} {st : Int × Bool}
theorem SCur.lt (h : SCur w b s st) : b < w.heap.size := by
  obtain ⟨⟨t, h⟩, _⟩ := h
  rcases Nat.lt_or_ge b w.heap.size with hlt | hge
  · exact hlt
  · rw [Array.getElem?_eq_none hge] at h; cases h
theorem SCur.c0 (h : SCur w b s st) : w.cell? ⟨b, 0, none⟩ = some (.string s) := by obtain ⟨⟨t, h⟩, _⟩ := h; rw [cell_of_row w b 0 _ t (0, 0) h]; rfl
theorem SCur.c1 (h : SCur w b s st) : w.cell? ⟨b, 1, none⟩ = some (.int .i64 st.1) := by obtain ⟨⟨t, h⟩, _⟩ := h; rw [cell_of_row w b 1 _ t (0, 0) h]; rfl
theorem SCur.c2 (h : SCur w b s st) : w.cell? ⟨b, 2, none⟩ = some (.bool st.2) := by obtain ⟨⟨t, h⟩, _⟩ := h; rw [cell_of_row w b 2 _ t (0, 0) h]; rfl
theorem SCur.fz (h : SCur w b s st) (i : Nat) : w.frozen? ⟨b, i, none⟩ = false := by obtain ⟨⟨t, h⟩, _⟩ := h; simp [World.frozen?, h]
theorem SCur.keep (h : SCur w b s st) (hk : w'.heap[b]? = w.heap[b]?) : SCur w' b s st := by obtain ⟨⟨t, h⟩, hi⟩ := h; exact ⟨⟨t, hk.trans h⟩, hi⟩
theorem SCur.ext (h : SCur w b s st) (hb : Below w.heap.size w w') : SCur w' b s st := h.keep (hb.block b h.lt)
theorem SCur.at_ (h : SCur w b s st) {a' : Int} (ha : I64 a') : SCur (w.setCell ⟨b, 1, none⟩ (.int .i64 a')) b s (a', st.2) := by
  obtain ⟨⟨t, h⟩, _⟩ := h
  exact ⟨⟨t, by simp [World.setCell, Array.getElem?_modify, h]⟩, ha⟩
theorem SCur.bad (h : SCur w b s st) : SCur (w.setCell ⟨b, 2, none⟩ (.bool true)) b s (st.1, true) := by
  obtain ⟨⟨t, h⟩, hi⟩ := h
  exact ⟨⟨t, by simp [World.setCell, Array.getElem?_modify, h]⟩, hi⟩
theorem I64_smallS {n : Int} (h : -1 ≤ n ∧ n ≤ 1048576) : I64 n := ⟨by omega, by omega⟩
end
set_option maxHeartbeats 1000000 in
theorem Num_spec (s : ByteArray) (b : Nat) (st : Int × Bool) (w : World) (h : SCur w b s st) (hs : (s.size : Int) ≤ 1048576) :
    Calls Tryz.prog 9 #[.pointer (some ⟨b, 0, none⟩)] w fun e w' => e = .returned (.int .i64 (numS s st).1) ∧ SCur w' b s (numS s st).2 ∧ Upd [b] w w' := by
  have hc0 := h.c0
  have hc1 := h.c1
  have hc2 := h.c2
  have hlt := h.lt
  have H := Lib.hid h
  have HI := Lib.hid (show I64 (varI s st.1).2 from I64_smallS (varI_I64 s st.1 hs).2.1)
  have HRV := Lib.hid (fun wq => (by have e := ReadVar_spec s st.1 wq hs h.2; rw [rvV_eq] at e; exact e : Calls Tryz.prog 28 #[.string s, .int .i64 st.1] wq fun e w' => e = .returned (.tuple #[.int .i64 (varI s st.1).1, .int .i64 (varI s st.1).2]) ∧ Below wq.heap.size wq w'))
  clear h
  obtain ⟨a, bad⟩ := st
  dsimp only at *
  by_cases hn : (varI s a).2 < 0
  · have HF := Lib.hid (show numS s (a, bad) = (0, (a, true)) by unfold numS; rw [if_pos (.inl hn)])
    generalize varI s a = q at *
    go_enter Tryz.func9, Tryz.ntmps9
    go_wp2_with fail
    refine wp_region_grow _ (by kernel_rfl) (by kernel_rfl) (ext_refl _) ?_
    repeat (first
      | (apply inText_skip
         case hw => rfl
         simp only [Act.put, List.setIfInBounds_toArray, List.set_cons_zero, List.set_cons_succ])
      | (apply inText_step
         case hw => rfl
         case h =>
           intro wq hq
           have hcq := (cls_cell hq).1
           have hfq := (cls_cell hq).2
           go_simp
           first
             | exact ⟨hq, rfl⟩
             | exact ⟨cls_alloc hq _, rfl⟩
             | (refine (HRV.out _).mono ?_; rintro e w2 ⟨rfl, hb2⟩; exact ⟨rfl, cls_trans hq hb2⟩)
             | (simp only [↓IntWalk.iteOmega]; exact ⟨hq, rfl⟩)
         simp only [Act.put, List.setIfInBounds_toArray, List.set_cons_zero, List.set_cons_succ]))
    refine inText_nil ?_
    intro wn hn_
    replace hn_ := hn_.out
    have H2 := H.out.ext hn_
    have hf2 := H2.fz 2
    have hlt2 := H2.lt
    have hd2 := H2.c2
    go_wp2
    go_ret
    rw [HF.out]
    exact ⟨rfl, H2.bad, (Upd.of_ext [b] hn_).setCell (by simp) _⟩
  · cases bad
    · have HF := Lib.hid (show numS s (a, false) = ((varI s a).1, ((varI s a).2, false)) by unfold numS; rw [if_neg (by simp [hn])])
      generalize varI s a = q at *
      go_enter Tryz.func9, Tryz.ntmps9
      go_wp2_with fail
      refine wp_region_grow _ (by kernel_rfl) (by kernel_rfl) (ext_refl _) ?_
      repeat (first
        | (apply inText_skip
           case hw => rfl
           simp only [Act.put, List.setIfInBounds_toArray, List.set_cons_zero, List.set_cons_succ])
        | (apply inText_step
           case hw => rfl
           case h =>
             intro wq hq
             have hcq := (cls_cell hq).1
             have hfq := (cls_cell hq).2
             go_simp
             first
               | exact ⟨hq, rfl⟩
               | exact ⟨cls_alloc hq _, rfl⟩
               | (refine (HRV.out _).mono ?_; rintro e w2 ⟨rfl, hb2⟩; exact ⟨rfl, cls_trans hq hb2⟩)
               | (simp only [↓IntWalk.iteOmega]; exact ⟨hq, rfl⟩)
           simp only [Act.put, List.setIfInBounds_toArray, List.set_cons_zero, List.set_cons_succ]))
      refine inText_nil ?_
      intro wn hn_
      replace hn_ := hn_.out
      have H2 := H.out.ext hn_
      have hf1 := H2.fz 1
      have hlt2 := H2.lt
      have hd1 := H2.c1
      have hd2 := H2.c2
      go_wp2
      go_ret
      rw [HF.out]
      exact ⟨rfl, H2.at_ HI.out, (Upd.of_ext [b] hn_).setCell (by simp) _⟩
    · have HF := Lib.hid (show numS s (a, true) = (0, (a, true)) by unfold numS; rw [if_pos (.inr rfl)])
      generalize varI s a = q at *
      go_enter Tryz.func9, Tryz.ntmps9
      go_wp2_with fail
      refine wp_region_grow _ (by kernel_rfl) (by kernel_rfl) (ext_refl _) ?_
      repeat (first
        | (apply inText_skip
           case hw => rfl
           simp only [Act.put, List.setIfInBounds_toArray, List.set_cons_zero, List.set_cons_succ])
        | (apply inText_step
           case hw => rfl
           case h =>
             intro wq hq
             have hcq := (cls_cell hq).1
             have hfq := (cls_cell hq).2
             go_simp
             first
               | exact ⟨hq, rfl⟩
               | exact ⟨cls_alloc hq _, rfl⟩
               | (refine (HRV.out _).mono ?_; rintro e w2 ⟨rfl, hb2⟩; exact ⟨rfl, cls_trans hq hb2⟩)
               | (simp only [↓IntWalk.iteOmega]; exact ⟨hq, rfl⟩)
           simp only [Act.put, List.setIfInBounds_toArray, List.set_cons_zero, List.set_cons_succ]))
      refine inText_nil ?_
      intro wn hn_
      replace hn_ := hn_.out
      have H2 := H.out.ext hn_
      have hf2 := H2.fz 2
      have hlt2 := H2.lt
      have hd2 := H2.c2
      go_wp2
      go_ret
      rw [HF.out]
      exact ⟨rfl, H2.bad, (Upd.of_ext [b] hn_).setCell (by simp) _⟩
set_option maxHeartbeats 1000000 in
theorem Text_spec (s : ByteArray) (b : Nat) (st : Int × Bool) (w : World) (h : SCur w b s st) (hs : (s.size : Int) ≤ 1048576) :
    Calls Tryz.prog 29 #[.pointer (some ⟨b, 0, none⟩)] w fun e w' => e = .returned (.string (textS s st).1) ∧ SCur w' b s (textS s st).2 ∧ Upd [b] w w' := by
  have hc0 := h.c0
  have hc1 := h.c1
  have hc2 := h.c2
  have hlt := h.lt
  have H := Lib.hid h
  have HI := Lib.hid (show I64 (shortI s st.1).2 from I64_smallS ⟨(shortI_spec s st.1 hs).2.1, by have := (shortI_spec s st.1 hs).2.2; omega⟩)
  have HRV := Lib.hid (fun wq => ReadShort_spec s st.1 wq hs h.2)
  clear h
  obtain ⟨a, bad⟩ := st
  dsimp only at *
  by_cases hn : (shortI s a).2 < 0
  · have HF := Lib.hid (show textS s (a, bad) = (⟨#[]⟩, (a, true)) by unfold textS; rw [if_pos (.inl hn)])
    generalize shortI s a = q at *
    go_enter Tryz.func29, Tryz.ntmps29
    go_wp2_with fail
    refine wp_region_grow _ (by kernel_rfl) (by kernel_rfl) (ext_refl _) ?_
    repeat (first
      | (apply inText_skip
         case hw => rfl
         simp only [Act.put, List.setIfInBounds_toArray, List.set_cons_zero, List.set_cons_succ])
      | (apply inText_step
         case hw => rfl
         case h =>
           intro wq hq
           have hcq := (cls_cell hq).1
           have hfq := (cls_cell hq).2
           go_simp
           first
             | exact ⟨hq, rfl⟩
             | exact ⟨cls_alloc hq _, rfl⟩
             | (refine (HRV.out _).mono ?_; rintro e w2 ⟨rfl, hb2⟩; exact ⟨rfl, cls_trans hq hb2⟩)
             | (simp only [↓IntWalk.iteOmega]; exact ⟨hq, rfl⟩)
         simp only [Act.put, List.setIfInBounds_toArray, List.set_cons_zero, List.set_cons_succ]))
    refine inText_nil ?_
    intro wn hn_
    replace hn_ := hn_.out
    have H2 := H.out.ext hn_
    have hf2 := H2.fz 2
    have hlt2 := H2.lt
    have hd2 := H2.c2
    go_wp2
    go_ret
    rw [HF.out]
    exact ⟨rfl, H2.bad, (Upd.of_ext [b] hn_).setCell (by simp) _⟩
  · cases bad
    · have HF := Lib.hid (show textS s (a, false) = ((shortI s a).1, ((shortI s a).2, false)) by unfold textS; rw [if_neg (by simp [hn])])
      generalize shortI s a = q at *
      go_enter Tryz.func29, Tryz.ntmps29
      go_wp2_with fail
      refine wp_region_grow _ (by kernel_rfl) (by kernel_rfl) (ext_refl _) ?_
      repeat (first
        | (apply inText_skip
           case hw => rfl
           simp only [Act.put, List.setIfInBounds_toArray, List.set_cons_zero, List.set_cons_succ])
        | (apply inText_step
           case hw => rfl
           case h =>
             intro wq hq
             have hcq := (cls_cell hq).1
             have hfq := (cls_cell hq).2
             go_simp
             first
               | exact ⟨hq, rfl⟩
               | exact ⟨cls_alloc hq _, rfl⟩
               | (refine (HRV.out _).mono ?_; rintro e w2 ⟨rfl, hb2⟩; exact ⟨rfl, cls_trans hq hb2⟩)
               | (simp only [↓IntWalk.iteOmega]; exact ⟨hq, rfl⟩)
           simp only [Act.put, List.setIfInBounds_toArray, List.set_cons_zero, List.set_cons_succ]))
      refine inText_nil ?_
      intro wn hn_
      replace hn_ := hn_.out
      have H2 := H.out.ext hn_
      have hf1 := H2.fz 1
      have hlt2 := H2.lt
      have hd1 := H2.c1
      have hd2 := H2.c2
      go_wp2
      go_ret
      rw [HF.out]
      exact ⟨rfl, H2.at_ HI.out, (Upd.of_ext [b] hn_).setCell (by simp) _⟩
    · have HF := Lib.hid (show textS s (a, true) = (⟨#[]⟩, (a, true)) by unfold textS; rw [if_pos (.inr rfl)])
      generalize shortI s a = q at *
      go_enter Tryz.func29, Tryz.ntmps29
      go_wp2_with fail
      refine wp_region_grow _ (by kernel_rfl) (by kernel_rfl) (ext_refl _) ?_
      repeat (first
        | (apply inText_skip
           case hw => rfl
           simp only [Act.put, List.setIfInBounds_toArray, List.set_cons_zero, List.set_cons_succ])
        | (apply inText_step
           case hw => rfl
           case h =>
             intro wq hq
             have hcq := (cls_cell hq).1
             have hfq := (cls_cell hq).2
             go_simp
             first
               | exact ⟨hq, rfl⟩
               | exact ⟨cls_alloc hq _, rfl⟩
               | (refine (HRV.out _).mono ?_; rintro e w2 ⟨rfl, hb2⟩; exact ⟨rfl, cls_trans hq hb2⟩)
               | (simp only [↓IntWalk.iteOmega]; exact ⟨hq, rfl⟩)
           simp only [Act.put, List.setIfInBounds_toArray, List.set_cons_zero, List.set_cons_succ]))
      refine inText_nil ?_
      intro wn hn_
      replace hn_ := hn_.out
      have H2 := H.out.ext hn_
      have hf2 := H2.fz 2
      have hlt2 := H2.lt
      have hd2 := H2.c2
      go_wp2
      go_ret
      rw [HF.out]
      exact ⟨rfl, H2.bad, (Upd.of_ext [b] hn_).setCell (by simp) _⟩
set_option maxHeartbeats 1000000 in
theorem Many_spec (s : ByteArray) (b : Nat) (most : Int) (st : Int × Bool) (w : World) (h : SCur w b s st) (hs : (s.size : Int) ≤ 1048576) :
    Calls Tryz.prog 10 #[.pointer (some ⟨b, 0, none⟩), .int .i64 most] w fun e w' => e = .returned (.int .i64 (manyS s most st).1) ∧ SCur w' b s (manyS s most st).2 ∧ Upd [b] w w' := by
  have HNUM := Lib.hid (Num_spec s b st w h hs)
  have hcd : manyS s most st = (if most < (numS s st).1 then (0, ((numS s st).2.1, true)) else numS s st) := rfl
  have HC := Lib.hid hcd
  clear hcd h
  generalize numS s st = q at *
  by_cases hm : most < q.1
  · have HF := Lib.hid (show manyS s most st = (0, (q.2.1, true)) by rw [HC.out, if_pos hm])
    go_enter Tryz.func10, Tryz.ntmps10
    go_wp2_with fail
    refine HNUM.out.mono ?_
    rintro e w2 ⟨rfl, hI2, hu2⟩
    have H2 := Lib.hid hI2
    have hf2 := hI2.fz 2
    have hlt2 := hI2.lt
    have hd2 := hI2.c2
    clear hI2
    go_wp2
    go_ret
    rw [HF.out]
    exact ⟨rfl, H2.out.bad, hu2.setCell (by simp) _⟩
  · have HF := Lib.hid (show manyS s most st = q by rw [HC.out, if_neg hm])
    go_enter Tryz.func10, Tryz.ntmps10
    go_wp2_with fail
    refine HNUM.out.mono ?_
    rintro e w2 ⟨rfl, hI2, hu2⟩
    have H2 := Lib.hid hI2
    clear hI2
    go_wp2
    go_ret
    rw [HF.out]
    exact ⟨rfl, H2.out, hu2⟩

end Go.Proofs.YtpgdgcjgompokaaGreat

namespace Go.Proofs.YtpgdgcjgompokaaGreat
open Go.ChangeShapes Go.WideShapes Go.ChangeAt Go.RowKit
set_option linter.unusedVariables false
set_option linter.unusedSimpArgs false
set_option maxRecDepth 100000 in
set_option maxHeartbeats 2000000 in
theorem Labels_spec (s : ByteArray) (b : Nat) (st : Int × Bool) (w : World) (h : SCur w b s st) (hs : (s.size : Int) ≤ 1048576) :
    Calls Tryz.prog 30 #[.pointer (some ⟨b, 0, none⟩)] w fun e w' => ∃ A c F, e = .returned (.slice A (labelsS s st).1.length c) ∧ Own w' w.heap.size (labelsS s st).1 [.slice A (labelsS s st).1.length c] F ∧ SCur w' b s (labelsS s st).2 ∧ Upd [b] w w' := by
  have hlt := h.lt
  have hcw : 0 ≤ (manyS s 6 st).1 ∧ (manyS s 6 st).1 ≤ 6 := manyS_ways s 6 st (by decide)
  have HC := Lib.hid (Many_spec s b 6 st)
  have HRAW := Lib.hid (show labelsS s st = loopS (labS s) (manyS s 6 st).1.toNat [] (manyS s 6 st).2 from rfl)
  have H := Lib.hid h
  clear h
  generalize manyS s 6 st = q at *
  generalize labelsS s st = R at *
  obtain ⟨N, hN⟩ : ∃ N : Nat, q.1 = N := ⟨q.1.toNat, by omega⟩
  have hN6 : N ≤ 6 := by omega
  have HN := Lib.hid hN
  clear hN hcw
  go_enter Tryz.func30, Tryz.ntmps30
  go_wp2_with fail
  refine (HC.out _ (H.out.ext (ext_alloc (ext_refl _) _)) hs).mono ?_
  rw [HN.out]
  rintro e w2 ⟨rfl, hI2, hu2⟩
  have hu2' : Upd [b] w w2 := (Upd.of_ext [b] (ext_alloc (ext_refl _) _)).trans hu2
  have hrow := row_upd (World.ownsRow_made (base := w.heap.size) (e := 99) (size := 2) w #[] 0 (Nat.le_refl _) (by unfold maxLen; omega) rfl) hu2 hlt
  have hr0 := HRAW.out
  rw [HN.out, Int.toNat_natCast] at hr0
  have HR0 := Lib.hid hr0.symm
  clear hr0
  go_wp2_with fail
  go_loopw [3, 5] (fun v i wr => ∃ (j k : Nat) (xs : List Label) (ds : List Value) (st' : Int × Bool), i = .int .i64 j ∧ j + k = N ∧ xs.length + k ≤ 6 ∧ Hid (loopS (labS s) k xs st' = R) ∧ Hid (∀ l ∈ xs, (l.key.size : Int) ≤ 1048576 ∧ (l.value.size : Int) ≤ 1048576) ∧ wr.ownsRow w.heap.size 99 2 v xs.length ds ∧ OwnCells wr w.heap.size xs ds [] ∧ SCur wr b s st' ∧ Upd [b] w wr) (fun _ i _ => N - (intOf i).toNat)
  case atStart => exact ⟨0, N, [], [], q.2, rfl, by omega, by simpa using hN6, HR0.out, (fun l hl => by cases hl), (by simpa using hrow), OwnCells.nil _ _, hI2, hu2'⟩
  case round =>
    obtain ⟨j, k, xs, ds, st', rfl, hjk, hk6, HL, HSM, hown, hcs, hI, hu⟩ := hrel
    have hc2 := hI.c2
    have hbw : b < wr.heap.size := hI.lt
    obtain ⟨a', bad⟩ := st'
    dsimp only at hc2
    by_cases hd : k = 0 ∨ bad = true
    · have hl0 : (xs, (a', bad)) = R := by
        have := HL.out
        rcases hd with rfl | rfl
        · rw [loopS] at this; exact this
        · cases k with
          | zero => rw [loopS] at this; exact this
          | succ k => rw [loopS, if_pos rfl] at this; exact this
      have HRE := Lib.hid hl0.symm
      clear hl0
      obtain ⟨Al, cl, Gl, rfl, hO⟩ := Own.of_row hown hcs (fun _ _ hb => by cases hb)
      have HI := Lib.hid hI
      have HO := Lib.hid hO
      have HU := Lib.hid hu
      clear hI hO hu hown hcs
      by_cases hji : (j : Int) < (N : Int)
      · obtain rfl : bad = true := by rcases hd with h0 | h0; · omega
                                      · exact h0
        go_wp2
        go_ret
        rw [HRE.out]
        first | exact ⟨Al, cl, Gl, rfl, HO.out, HI.out, HU.out⟩ | exact ⟨Al, cl, rfl, ⟨Gl, HO.out⟩, HI.out, HU.out⟩
      · go_wp2
        go_ret
        rw [HRE.out]
        first | exact ⟨Al, cl, Gl, rfl, HO.out, HI.out, HU.out⟩ | exact ⟨Al, cl, rfl, ⟨Gl, HO.out⟩, HI.out, HU.out⟩
    · obtain rfl : bad = false := by cases bad; · rfl
                                     · exact absurd (.inr rfl) hd
      obtain ⟨k, rfl⟩ : ∃ k', k = k' + 1 := ⟨k - 1, by omega⟩
      have hji : (j : Int) < (N : Int) := by omega
      have hl0 := HL.out
      rw [loopS, if_neg (show ¬ ((a', false) : Int × Bool).2 = true by simp)] at hl0
      have HL1 := Lib.hid hl0
      have ht1 := textS_size s (a', false) hs
      have ht2 := textS_size s (textS s (a', false)).2 hs
      have HT1 := Lib.hid (fun (wq : World) (hq : SCur wq b s (a', false)) => Text_spec s b (a', false) wq hq hs)
      have HT2 := Lib.hid (fun (wq : World) (hq : SCur wq b s (textS s (a', false)).2) => Text_spec s b (textS s (a', false)).2 wq hq hs)
      have HE := Lib.hid (show labS s (a', false) = (⟨(textS s (a', false)).1, (textS s (textS s (a', false)).2).1⟩, (textS s (textS s (a', false)).2).2) from rfl)
      clear hl0 hd
      generalize textS s (textS s (a', false)).2 = t2 at *
      generalize textS s (a', false) = t1 at *
      go_wp2_with fail
      refine (HT1.out _ (hI.ext (by repeat (first | with_reducible exact ext_refl _ | with_reducible assumption | with_reducible refine ext_alloc ?_ _ | with_reducible refine ext_trans ?_ (by assumption))))).mono ?_
      rintro e w3 ⟨rfl, hI3, hu3⟩
      go_wp2_with fail
      refine (HT2.out _ hI3).mono ?_
      rintro e w4 ⟨rfl, hI4, hu4⟩
      have hr4 := row_upd (row_upd hown hu3 hlt) hu4 hlt
      have hU4 := (hu.trans hu3).trans hu4
      have hz4 : w.heap.size ≤ w4.heap.size := hU4.size
      have hzc : wr.heap.size ≤ w4.heap.size := Nat.le_trans hu3.size hu4.size
      have hx6 : xs.length ≤ 6 := by omega
      have HI4 := Lib.hid hI4
      clear hI hu hI3 hu3 hI4 hu4
      go_wp2_with (
        at_builtin
        go_must (refine wpList_append1 elLabel (by rfl) _ _ (by rfl) _ _ _ _ _ hr4 (by rfl) [.string t1.1, .string t2.1] (by first | rfl | (simp; rfl)) (by rfl) (by simp [Value.oneCell']) (by omega) (by omega) hz4 ?_)
        intro v6 w6 hown6 hg6 hz6)
      have hl1 := HL1.out
      rw [HE.out] at hl1
      replace hl1 : Hid (loopS (labS s) k (xs ++ [⟨t1.1, t2.1⟩]) t2.2 = R) := hl1
      have hne : some b ≠ u3.ownBlock := by intro e; have := (hr4.lt b e.symm).1; omega
      refine ⟨⟨j + 1, k, xs ++ [⟨t1.1, t2.1⟩], _, t2.2, by go_num, by omega, by simp; omega, hl1, ?_, (by rw [List.length_append]; exact hown6), OwnCells.lab hcs (Nat.le_trans hzc hg6.size) ht1 ht2, HI4.out.keep (hg6.block b HI4.out.lt hne), hU4.grown hg6 (fun g hg => (hr4.lt g hg).1)⟩, by simp [intOf]; omega⟩
      intro l hl
      rcases List.mem_append.1 hl with hl | hl
      · exact HSM.out l hl
      · simp only [List.mem_singleton] at hl
        subst hl
        exact ⟨ht1, ht2⟩

end Go.Proofs.YtpgdgcjgompokaaGreat
