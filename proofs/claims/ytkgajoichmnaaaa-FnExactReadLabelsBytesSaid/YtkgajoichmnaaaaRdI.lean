/- The program's byteReader. No condition. -/
import Derived.Test.YtkgajoichmnaaaaShortI
import Derived.Test.YtkgajoichmnaaaaMark
import Derived.Deep.RegionWith
namespace Go.Proofs.Ytkgajoichmnaaaa
open Dat (rd)
open Go.ChangeShapes Go.WideShapes Go.ChangeAt Go.RowKit
set_option linter.unusedVariables false
set_option linter.unusedSimpArgs false

/-- the program's reader lies in block b: the text, and its place -/
def ICur (w : World) (b : Nat) (s : ByteArray) (a : Int) : Prop := (∃ t, w.heap[b]? = some (.cells #[.string s, .int .i64 a] t (0, 0))) ∧ I64 a
section
variable {w w' : World} {b : Nat} {s : ByteArray} {a : Int}
theorem ICur.lt (h : ICur w b s a) : b < w.heap.size := by
  obtain ⟨⟨t, h⟩, _⟩ := h
  rcases Nat.lt_or_ge b w.heap.size with hlt | hge
  · exact hlt
  · rw [Array.getElem?_eq_none hge] at h; cases h
theorem ICur.c0 (h : ICur w b s a) : w.cell? ⟨b, 0, none⟩ = some (.string s) := by obtain ⟨⟨t, h⟩, _⟩ := h; rw [cell_of_row w b 0 _ t (0, 0) h]; rfl
theorem ICur.c1 (h : ICur w b s a) : w.cell? ⟨b, 1, none⟩ = some (.int .i64 a) := by obtain ⟨⟨t, h⟩, _⟩ := h; rw [cell_of_row w b 1 _ t (0, 0) h]; rfl
theorem ICur.fz (h : ICur w b s a) (i : Nat) : w.frozen? ⟨b, i, none⟩ = false := by obtain ⟨⟨t, h⟩, _⟩ := h; simp [World.frozen?, h]
theorem ICur.keep (h : ICur w b s a) (hk : w'.heap[b]? = w.heap[b]?) : ICur w' b s a := by obtain ⟨⟨t, h⟩, hi⟩ := h; exact ⟨⟨t, hk.trans h⟩, hi⟩
theorem ICur.ext (h : ICur w b s a) (hb : Below w.heap.size w w') : ICur w' b s a := h.keep (hb.block b h.lt)
theorem ICur.set (h : ICur w b s a) {a' : Int} (ha : I64 a') : ICur (w.setCell ⟨b, 1, none⟩ (.int .i64 a')) b s a' := by
  obtain ⟨⟨t, h⟩, _⟩ := h
  exact ⟨⟨t, by simp [World.setCell, Array.getElem?_modify, h]⟩, ha⟩
theorem upd_set (b i : Nat) (w : World) (u : Value) : Upd [b] w (w.setCell ⟨b, i, none⟩ u) := (Upd.refl [b] w).setCell (by simp) u
theorem I64_small {n : Int} (h : -1 ≤ n ∧ n ≤ 1048576) : I64 n := ⟨by omega, by omega⟩
end
set_option maxHeartbeats 1000000 in
theorem num_any (s : ByteArray) (b : Nat) (a : Int) (w : World) (h : ICur w b s a) (hs : (s.size : Int) ≤ 1048576) :
    Calls Try.prog 57 #[.pointer (some ⟨b, 0, none⟩)] w fun e w' => e = .returned (.int .i64 (varI s a).1) ∧ ICur w' b s (varI s a).2 ∧ Upd [b] w w' := by
  obtain ⟨hI1, hI2, hI3⟩ := varI_I64 s a hs
  have hc0 := h.c0
  have hc1 := h.c1
  have hf0 := h.fz 0
  have hf1 := h.fz 1
  have hlt := h.lt
  have HI := Lib.hid (I64_small hI2)
  have H := Lib.hid h
  have HRV := Lib.hid (fun wq => by have e := ReadVar_impl s a wq hs h.2; rw [rvV_eq] at e; exact e : ∀ wq, Calls Try.prog 63 #[.string s, .int .i64 a] wq fun e w' => e = .returned (.tuple #[.int .i64 (varI s a).1, .int .i64 (varI s a).2]) ∧ w' = wq)
  clear hI2 h
  generalize varI s a = q at *
  go_enter Try.func57, Try.ntmps57
  go_wp2_with fail
  go_region_with (go_at_call 63; refine (HRV.out _).mono ?_; rintro e w2 ⟨rfl, hw⟩; simp only [hw]; clear hw w2)
  all_goals
    go_wp2
    go_ret
    exact ⟨rfl, (ICur.keep (w' := w.drew) H.out rfl).set HI.out, ((Upd.refl [b] w).drew).setCell (by simp) _⟩
theorem bad_any (s : ByteArray) (b : Nat) (a : Int) (w : World) (h : ICur w b s a) :
    Calls Try.prog 42 #[.pointer (some ⟨b, 0, none⟩)] w fun e w' => e = .returned (.bool (decide (a < 0))) ∧ w' = w := by
  have hc1 := h.c1
  have hlt := h.lt
  go_enter Try.func42, Try.ntmps42
  go_wp2
  go_ret
  exact ⟨rfl, rfl⟩
theorem must_any (s : ByteArray) (b : Nat) (a : Int) (fine : Bool) (w : World) (h : ICur w b s a) :
    Calls Try.prog 51 #[.pointer (some ⟨b, 0, none⟩), .bool fine] w fun e w' => e = .returned (.tuple #[]) ∧ ICur w' b s (if fine = true then a else -1) ∧ Upd [b] w w' := by
  have hc1 := h.c1
  have hf1 := h.fz 1
  have hlt := h.lt
  have H := Lib.hid h
  have HS := Lib.hid (h.set (a' := -1) ⟨by omega, by omega⟩)
  have HU := Lib.hid (upd_set b 1 w (.int .i64 (-1)))
  clear h
  cases fine
  · go_enter Try.func51, Try.ntmps51
    go_wp2
    go_returns
    exact ⟨rfl, HS.out, HU.out⟩
  · go_enter Try.func51, Try.ntmps51
    go_wp2
    go_returns
    exact ⟨rfl, H.out, .refl _ _⟩
set_option maxHeartbeats 1000000 in
theorem count_any (s : ByteArray) (b : Nat) (a most : Int) (w : World) (h : ICur w b s a) (hs : (s.size : Int) ≤ 1048576) (hm : 0 ≤ most) :
    Calls Try.prog 49 #[.pointer (some ⟨b, 0, none⟩), .int .i64 most] w fun e w' => e = .returned (.int .i64 (countI s most a).1) ∧ ICur w' b s (countI s most a).2 ∧ Upd [b] w w' := by
  have HNUM := Lib.hid (num_any s b a w h hs)
  have hcd : countI s most a = (if (varI s a).1 ≤ most then (if (varI s a).2 < 0 then (0, (varI s a).2) else varI s a) else (0, -1)) := rfl
  have HC := Lib.hid hcd
  clear hcd
  generalize varI s a = q at *
  clear h
  by_cases hle : q.1 ≤ most
  · by_cases hn : q.2 < 0
    · have HF := Lib.hid (show countI s most a = (0, q.2) by rw [HC.out, if_pos hle, if_pos hn])
      go_enter Try.func49, Try.ntmps49
      go_wp2_with fail
      refine HNUM.out.mono ?_
      rintro e w2 ⟨rfl, hI2, hu2⟩
      have hd : decide (q.1 ≤ most) = true := by simp [hle]
      go_wp2_with fail
      refine (must_any s b q.2 _ _ hI2).mono ?_
      rintro e w3 ⟨rfl, hI3, hu3⟩
      rw [if_pos (by first | rfl | exact hd)] at hI3
      go_wp2_with fail
      refine (bad_any s b q.2 _ hI3).mono ?_
      rw [show decide (q.2 < 0) = true by simp [hn]]
      rintro e w4 ⟨rfl, hw⟩
      simp only [hw]
      clear hw w4
      go_wp2
      go_ret
      rw [HF.out]
      exact ⟨rfl, hI3, hu2.trans hu3⟩
    · have HF := Lib.hid (show countI s most a = q by rw [HC.out, if_pos hle, if_neg hn])
      go_enter Try.func49, Try.ntmps49
      go_wp2_with fail
      refine HNUM.out.mono ?_
      rintro e w2 ⟨rfl, hI2, hu2⟩
      have hd : decide (q.1 ≤ most) = true := by simp [hle]
      go_wp2_with fail
      refine (must_any s b q.2 _ _ hI2).mono ?_
      rintro e w3 ⟨rfl, hI3, hu3⟩
      rw [if_pos (by first | rfl | exact hd)] at hI3
      go_wp2_with fail
      refine (bad_any s b q.2 _ hI3).mono ?_
      rw [show decide (q.2 < 0) = false by simp; omega]
      rintro e w4 ⟨rfl, hw⟩
      simp only [hw]
      clear hw w4
      go_wp2
      go_ret
      rw [HF.out]
      exact ⟨rfl, hI3, hu2.trans hu3⟩
  · have HF := Lib.hid (show countI s most a = (0, -1) by rw [HC.out, if_neg hle])
    go_enter Try.func49, Try.ntmps49
    go_wp2_with fail
    refine HNUM.out.mono ?_
    rintro e w2 ⟨rfl, hI2, hu2⟩
    have hd : decide (q.1 ≤ most) = false := by simp; omega
    go_wp2_with fail
    refine (must_any s b q.2 _ _ hI2).mono ?_
    rintro e w3 ⟨rfl, hI3, hu3⟩
    rw [if_neg (by first | decide | (rw [hd]; decide))] at hI3
    go_wp2_with fail
    refine (bad_any s b (-1) _ hI3).mono ?_
    rintro e w4 ⟨rfl, hw⟩
    simp only [hw]
    clear hw w4
    go_wp2
    go_ret
    rw [HF.out]
    exact ⟨rfl, hI3, hu2.trans hu3⟩
set_option maxHeartbeats 1000000 in
theorem text_any (s : ByteArray) (b : Nat) (a : Int) (w : World) (h : ICur w b s a) (hs : (s.size : Int) ≤ 1048576) :
    Calls Try.prog 50 #[.pointer (some ⟨b, 0, none⟩)] w fun e w' => e = .returned (.string (textI s a).1) ∧ ICur w' b s (textI s a).2 ∧ Upd [b] w w' := by
  by_cases hn : a < 0
  · have HF := Lib.hid (show textI s a = (⟨#[]⟩, a) by unfold textI; rw [if_pos hn])
    go_enter Try.func50, Try.ntmps50
    go_wp2_with fail
    refine (bad_any s b a _ h).mono ?_
    rw [show decide (a < 0) = true by simp [hn]]
    rintro e w4 ⟨rfl, hw⟩
    simp only [hw]
    clear hw w4
    go_wp2
    go_ret
    rw [HF.out]
    exact ⟨rfl, h, .refl _ _⟩
  · have HF := Lib.hid (show textI s a = shortI s a by unfold textI; rw [if_neg hn])
    have hsp := shortI_spec s a hs
    have hc0 := h.c0
    have hc1 := h.c1
    have hf0 := h.fz 0
    have hf1 := h.fz 1
    have hlt := h.lt
    have HI := Lib.hid (I64_small (n := (shortI s a).2) ⟨hsp.2.1, by omega⟩)
    have H := Lib.hid h
    have HRV := Lib.hid (fun wq => ReadShort_impl s a wq hs h.2)
    clear hsp
    clear h
    generalize shortI s a = q at *
    go_enter Try.func50, Try.ntmps50
    go_wp2_with fail
    refine (bad_any s b a _ H.out).mono ?_
    rw [show decide (a < 0) = false by simp; omega]
    rintro e w4 ⟨rfl, hw⟩
    simp only [hw]
    clear hw w4
    go_wp2_with fail
    go_region_with (go_at_call 58; refine (HRV.out _).mono ?_; rintro e w2 ⟨rfl, hw⟩; simp only [hw]; clear hw w2)
    all_goals
      go_wp2
      go_ret
      rw [HF.out]
      exact ⟨rfl, (ICur.keep (w' := w.drew) H.out rfl).set HI.out, ((Upd.refl [b] w).drew).setCell (by simp) _⟩

end Go.Proofs.Ytkgajoichmnaaaa
