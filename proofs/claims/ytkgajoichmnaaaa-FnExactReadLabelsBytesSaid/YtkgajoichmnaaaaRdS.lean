/- The reference's reader of bytes. No condition. -/
import Derived.Test.YtkgajoichmnaaaaShortS
import Derived.Test.YtkgajoichmnaaaaMark
namespace Go.Proofs.Ytkgajoichmnaaaa
open Dat (rd)
open Go.ChangeShapes Go.WideShapes Go.ChangeAt Go.RowKit
set_option linter.unusedVariables false
set_option linter.unusedSimpArgs false

/-- the reference's reader lies in block b: the text, its place, and whether there was a fault -/
def SCur (w : World) (b : Nat) (s : ByteArray) (st : Int × Bool) : Prop := (∃ t, w.heap[b]? = some (.cells #[.string s, .int .i64 st.1, .bool st.2] t (0, 0))) ∧ I64 st.1
section
variable {w w' : World} {b : Nat} {s : ByteArray} {st : Int × Bool}
theorem SCur.lt (h : SCur w b s st) : b < w.heap.size := by
  obtain ⟨⟨t, h⟩, _⟩ := h
  rcases Nat.lt_or_ge b w.heap.size with hlt | hge
  · exact hlt
  · rw [Array.getElem?_eq_none hge] at h; cases h
theorem SCur.c0 (h : SCur w b s st) : w.cell? ⟨b, 0, none⟩ = some (.string s) := by obtain ⟨⟨t, h⟩, _⟩ := h; rw [cell_of_row w b 0 _ t (0, 0) h]; rfl
theorem SCur.c1 (h : SCur w b s st) : w.cell? ⟨b, 1, none⟩ = some (.int .i64 st.1) := by obtain ⟨⟨t, h⟩, _⟩ := h; rw [cell_of_row w b 1 _ t (0, 0) h]; rfl
theorem SCur.c2 (h : SCur w b s st) : w.cell? ⟨b, 2, none⟩ = some (.bool st.2) := by obtain ⟨⟨t, h⟩, _⟩ := h; rw [cell_of_row w b 2 _ t (0, 0) h]; rfl
theorem SCur.fz (h : SCur w b s st) (i : Nat) : w.frozen? ⟨b, i, none⟩ = false := by obtain ⟨⟨t, h⟩, _⟩ := h; simp [World.frozen?, h]
theorem SCur.keep (h : SCur w b s st) (hk : w'.heap[b]? = w.heap[b]?) : SCur w' b s st := by obtain ⟨⟨t, h⟩, hi⟩ := h; exact ⟨⟨t, hk.trans h⟩, hi⟩
theorem SCur.ext (h : SCur w b s st) (hb : Below w.heap.size w w') : SCur w' b s st := h.keep (hb.block b h.lt)
theorem SCur.at_ (h : SCur w b s st) {a' : Int} (ha : I64 a') : SCur (w.setCell ⟨b, 1, none⟩ (.int .i64 a')) b s (a', st.2) := by
  obtain ⟨⟨t, h⟩, _⟩ := h
  exact ⟨⟨t, by simp [World.setCell, Array.getElem?_modify, h]⟩, ha⟩
theorem SCur.bad (h : SCur w b s st) : SCur (w.setCell ⟨b, 2, none⟩ (.bool true)) b s (st.1, true) := by
  obtain ⟨⟨t, h⟩, hi⟩ := h
  exact ⟨⟨t, by simp [World.setCell, Array.getElem?_modify, h]⟩, hi⟩
theorem I64_smallS {n : Int} (h : -1 ≤ n ∧ n ≤ 1048576) : I64 n := ⟨by omega, by omega⟩
end
set_option maxHeartbeats 1000000 in
theorem Num_spec (s : ByteArray) (b : Nat) (st : Int × Bool) (w : World) (h : SCur w b s st) (hs : (s.size : Int) ≤ 1048576) :
    Calls Try.prog 54 #[.pointer (some ⟨b, 0, none⟩)] w fun e w' => e = .returned (.int .i64 (numS s st).1) ∧ SCur w' b s (numS s st).2 ∧ Upd [b] w w' := by
  have hc0 := h.c0
  have hc1 := h.c1
  have hc2 := h.c2
  have hlt := h.lt
  have H := Lib.hid h
  have HI := Lib.hid (show I64 (varI s st.1).2 from I64_smallS (varI_I64 s st.1 hs).2.1)
  have HRV := Lib.hid (fun wq => (by have e := ReadVar_spec s st.1 wq hs h.2; rw [rvV_eq] at e; exact e : Calls Try.prog 61 #[.string s, .int .i64 st.1] wq fun e w' => e = .returned (.tuple #[.int .i64 (varI s st.1).1, .int .i64 (varI s st.1).2]) ∧ Below wq.heap.size wq w'))
  clear h
  obtain ⟨a, bad⟩ := st
  dsimp only at *
  by_cases hn : (varI s a).2 < 0
  · have HF := Lib.hid (show numS s (a, bad) = (0, (a, true)) by unfold numS; rw [if_pos (.inl hn)])
    generalize varI s a = q at *
    go_enter Try.func54, Try.ntmps54
    go_wp2_with fail
    refine wp_region_grow _ (by kernel_rfl) (by kernel_rfl) (ext_refl _) ?_
    repeat (first
      | (apply inText_skip
         case hw => rfl
         simp only [Act.put, List.setIfInBounds_toArray, List.set_cons_zero, List.set_cons_succ])
      | (apply inText_step
         case hw => rfl
         case h =>
           intro wq hq
           have hcq := (cls_cell hq).1
           have hfq := (cls_cell hq).2
           go_simp
           first
             | exact ⟨hq, rfl⟩
             | exact ⟨cls_alloc hq _, rfl⟩
             | (refine (HRV.out _).mono ?_; rintro e w2 ⟨rfl, hb2⟩; exact ⟨rfl, cls_trans hq hb2⟩)
             | (simp only [↓IntWalk.iteOmega]; exact ⟨hq, rfl⟩)
         simp only [Act.put, List.setIfInBounds_toArray, List.set_cons_zero, List.set_cons_succ]))
    refine inText_nil ?_
    intro wn hn_
    replace hn_ := hn_.out
    have H2 := H.out.ext hn_
    have hf2 := H2.fz 2
    have hlt2 := H2.lt
    have hd2 := H2.c2
    go_wp2
    go_ret
    rw [HF.out]
    exact ⟨rfl, H2.bad, (Upd.of_ext [b] hn_).setCell (by simp) _⟩
  · cases bad
    · have HF := Lib.hid (show numS s (a, false) = ((varI s a).1, ((varI s a).2, false)) by unfold numS; rw [if_neg (by simp [hn])])
      generalize varI s a = q at *
      go_enter Try.func54, Try.ntmps54
      go_wp2_with fail
      refine wp_region_grow _ (by kernel_rfl) (by kernel_rfl) (ext_refl _) ?_
      repeat (first
        | (apply inText_skip
           case hw => rfl
           simp only [Act.put, List.setIfInBounds_toArray, List.set_cons_zero, List.set_cons_succ])
        | (apply inText_step
           case hw => rfl
           case h =>
             intro wq hq
             have hcq := (cls_cell hq).1
             have hfq := (cls_cell hq).2
             go_simp
             first
               | exact ⟨hq, rfl⟩
               | exact ⟨cls_alloc hq _, rfl⟩
               | (refine (HRV.out _).mono ?_; rintro e w2 ⟨rfl, hb2⟩; exact ⟨rfl, cls_trans hq hb2⟩)
               | (simp only [↓IntWalk.iteOmega]; exact ⟨hq, rfl⟩)
           simp only [Act.put, List.setIfInBounds_toArray, List.set_cons_zero, List.set_cons_succ]))
      refine inText_nil ?_
      intro wn hn_
      replace hn_ := hn_.out
      have H2 := H.out.ext hn_
      have hf1 := H2.fz 1
      have hlt2 := H2.lt
      have hd1 := H2.c1
      have hd2 := H2.c2
      go_wp2
      go_ret
      rw [HF.out]
      exact ⟨rfl, H2.at_ HI.out, (Upd.of_ext [b] hn_).setCell (by simp) _⟩
    · have HF := Lib.hid (show numS s (a, true) = (0, (a, true)) by unfold numS; rw [if_pos (.inr rfl)])
      generalize varI s a = q at *
      go_enter Try.func54, Try.ntmps54
      go_wp2_with fail
      refine wp_region_grow _ (by kernel_rfl) (by kernel_rfl) (ext_refl _) ?_
      repeat (first
        | (apply inText_skip
           case hw => rfl
           simp only [Act.put, List.setIfInBounds_toArray, List.set_cons_zero, List.set_cons_succ])
        | (apply inText_step
           case hw => rfl
           case h =>
             intro wq hq
             have hcq := (cls_cell hq).1
             have hfq := (cls_cell hq).2
             go_simp
             first
               | exact ⟨hq, rfl⟩
               | exact ⟨cls_alloc hq _, rfl⟩
               | (refine (HRV.out _).mono ?_; rintro e w2 ⟨rfl, hb2⟩; exact ⟨rfl, cls_trans hq hb2⟩)
               | (simp only [↓IntWalk.iteOmega]; exact ⟨hq, rfl⟩)
           simp only [Act.put, List.setIfInBounds_toArray, List.set_cons_zero, List.set_cons_succ]))
      refine inText_nil ?_
      intro wn hn_
      replace hn_ := hn_.out
      have H2 := H.out.ext hn_
      have hf2 := H2.fz 2
      have hlt2 := H2.lt
      have hd2 := H2.c2
      go_wp2
      go_ret
      rw [HF.out]
      exact ⟨rfl, H2.bad, (Upd.of_ext [b] hn_).setCell (by simp) _⟩
set_option maxHeartbeats 1000000 in
theorem Text_spec (s : ByteArray) (b : Nat) (st : Int × Bool) (w : World) (h : SCur w b s st) (hs : (s.size : Int) ≤ 1048576) :
    Calls Try.prog 46 #[.pointer (some ⟨b, 0, none⟩)] w fun e w' => e = .returned (.string (textS s st).1) ∧ SCur w' b s (textS s st).2 ∧ Upd [b] w w' := by
  have hc0 := h.c0
  have hc1 := h.c1
  have hc2 := h.c2
  have hlt := h.lt
  have H := Lib.hid h
  have HI := Lib.hid (show I64 (shortI s st.1).2 from I64_smallS ⟨(shortI_spec s st.1 hs).2.1, by have := (shortI_spec s st.1 hs).2.2; omega⟩)
  have HRV := Lib.hid (fun wq => ReadShort_spec s st.1 wq hs h.2)
  clear h
  obtain ⟨a, bad⟩ := st
  dsimp only at *
  by_cases hn : (shortI s a).2 < 0
  · have HF := Lib.hid (show textS s (a, bad) = (⟨#[]⟩, (a, true)) by unfold textS; rw [if_pos (.inl hn)])
    generalize shortI s a = q at *
    go_enter Try.func46, Try.ntmps46
    go_wp2_with fail
    refine wp_region_grow _ (by kernel_rfl) (by kernel_rfl) (ext_refl _) ?_
    repeat (first
      | (apply inText_skip
         case hw => rfl
         simp only [Act.put, List.setIfInBounds_toArray, List.set_cons_zero, List.set_cons_succ])
      | (apply inText_step
         case hw => rfl
         case h =>
           intro wq hq
           have hcq := (cls_cell hq).1
           have hfq := (cls_cell hq).2
           go_simp
           first
             | exact ⟨hq, rfl⟩
             | exact ⟨cls_alloc hq _, rfl⟩
             | (refine (HRV.out _).mono ?_; rintro e w2 ⟨rfl, hb2⟩; exact ⟨rfl, cls_trans hq hb2⟩)
             | (simp only [↓IntWalk.iteOmega]; exact ⟨hq, rfl⟩)
         simp only [Act.put, List.setIfInBounds_toArray, List.set_cons_zero, List.set_cons_succ]))
    refine inText_nil ?_
    intro wn hn_
    replace hn_ := hn_.out
    have H2 := H.out.ext hn_
    have hf2 := H2.fz 2
    have hlt2 := H2.lt
    have hd2 := H2.c2
    go_wp2
    go_ret
    rw [HF.out]
    exact ⟨rfl, H2.bad, (Upd.of_ext [b] hn_).setCell (by simp) _⟩
  · cases bad
    · have HF := Lib.hid (show textS s (a, false) = ((shortI s a).1, ((shortI s a).2, false)) by unfold textS; rw [if_neg (by simp [hn])])
      generalize shortI s a = q at *
      go_enter Try.func46, Try.ntmps46
      go_wp2_with fail
      refine wp_region_grow _ (by kernel_rfl) (by kernel_rfl) (ext_refl _) ?_
      repeat (first
        | (apply inText_skip
           case hw => rfl
           simp only [Act.put, List.setIfInBounds_toArray, List.set_cons_zero, List.set_cons_succ])
        | (apply inText_step
           case hw => rfl
           case h =>
             intro wq hq
             have hcq := (cls_cell hq).1
             have hfq := (cls_cell hq).2
             go_simp
             first
               | exact ⟨hq, rfl⟩
               | exact ⟨cls_alloc hq _, rfl⟩
               | (refine (HRV.out _).mono ?_; rintro e w2 ⟨rfl, hb2⟩; exact ⟨rfl, cls_trans hq hb2⟩)
               | (simp only [↓IntWalk.iteOmega]; exact ⟨hq, rfl⟩)
           simp only [Act.put, List.setIfInBounds_toArray, List.set_cons_zero, List.set_cons_succ]))
      refine inText_nil ?_
      intro wn hn_
      replace hn_ := hn_.out
      have H2 := H.out.ext hn_
      have hf1 := H2.fz 1
      have hlt2 := H2.lt
      have hd1 := H2.c1
      have hd2 := H2.c2
      go_wp2
      go_ret
      rw [HF.out]
      exact ⟨rfl, H2.at_ HI.out, (Upd.of_ext [b] hn_).setCell (by simp) _⟩
    · have HF := Lib.hid (show textS s (a, true) = (⟨#[]⟩, (a, true)) by unfold textS; rw [if_pos (.inr rfl)])
      generalize shortI s a = q at *
      go_enter Try.func46, Try.ntmps46
      go_wp2_with fail
      refine wp_region_grow _ (by kernel_rfl) (by kernel_rfl) (ext_refl _) ?_
      repeat (first
        | (apply inText_skip
           case hw => rfl
           simp only [Act.put, List.setIfInBounds_toArray, List.set_cons_zero, List.set_cons_succ])
        | (apply inText_step
           case hw => rfl
           case h =>
             intro wq hq
             have hcq := (cls_cell hq).1
             have hfq := (cls_cell hq).2
             go_simp
             first
               | exact ⟨hq, rfl⟩
               | exact ⟨cls_alloc hq _, rfl⟩
               | (refine (HRV.out _).mono ?_; rintro e w2 ⟨rfl, hb2⟩; exact ⟨rfl, cls_trans hq hb2⟩)
               | (simp only [↓IntWalk.iteOmega]; exact ⟨hq, rfl⟩)
           simp only [Act.put, List.setIfInBounds_toArray, List.set_cons_zero, List.set_cons_succ]))
      refine inText_nil ?_
      intro wn hn_
      replace hn_ := hn_.out
      have H2 := H.out.ext hn_
      have hf2 := H2.fz 2
      have hlt2 := H2.lt
      have hd2 := H2.c2
      go_wp2
      go_ret
      rw [HF.out]
      exact ⟨rfl, H2.bad, (Upd.of_ext [b] hn_).setCell (by simp) _⟩
set_option maxHeartbeats 1000000 in
theorem Many_spec (s : ByteArray) (b : Nat) (most : Int) (st : Int × Bool) (w : World) (h : SCur w b s st) (hs : (s.size : Int) ≤ 1048576) :
    Calls Try.prog 45 #[.pointer (some ⟨b, 0, none⟩), .int .i64 most] w fun e w' => e = .returned (.int .i64 (manyS s most st).1) ∧ SCur w' b s (manyS s most st).2 ∧ Upd [b] w w' := by
  have HNUM := Lib.hid (Num_spec s b st w h hs)
  have hcd : manyS s most st = (if most < (numS s st).1 then (0, ((numS s st).2.1, true)) else numS s st) := rfl
  have HC := Lib.hid hcd
  clear hcd h
  generalize numS s st = q at *
  by_cases hm : most < q.1
  · have HF := Lib.hid (show manyS s most st = (0, (q.2.1, true)) by rw [HC.out, if_pos hm])
    go_enter Try.func45, Try.ntmps45
    go_wp2_with fail
    refine HNUM.out.mono ?_
    rintro e w2 ⟨rfl, hI2, hu2⟩
    have H2 := Lib.hid hI2
    have hf2 := hI2.fz 2
    have hlt2 := hI2.lt
    have hd2 := hI2.c2
    clear hI2
    go_wp2
    go_ret
    rw [HF.out]
    exact ⟨rfl, H2.out.bad, hu2.setCell (by simp) _⟩
  · have HF := Lib.hid (show manyS s most st = q by rw [HC.out, if_neg hm])
    go_enter Try.func45, Try.ntmps45
    go_wp2_with fail
    refine HNUM.out.mono ?_
    rintro e w2 ⟨rfl, hI2, hu2⟩
    have H2 := Lib.hid hI2
    clear hI2
    go_wp2
    go_ret
    rw [HF.out]
    exact ⟨rfl, H2.out, hu2⟩

end Go.Proofs.Ytkgajoichmnaaaa
