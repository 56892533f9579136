/- LabelsBytes of the program and of the reference. -/
import Derived.Test.YtkgajoichmnaaaaVar
import Derived.Test.YtkgajoichmnaaaaRegion
import Derived.Test.YtkgajoichmnaaaaSz
namespace Go.Proofs.Ytkgajoichmnaaaa
open Dat (rd)
open Go.ChangeShapes Go.WideShapes Go.ChangeAt Go.RowKit
set_option linter.unusedVariables false
set_option linter.unusedSimpArgs false
theorem Sl.label {w : World} {xs : List Label} {A : Option Addr} {c : Nat} {F : List Nat} (h : Sl w xs A c F) {k : Nat} (hk : k < xs.length) :
    ∃ b o, A = some ⟨b, o, none⟩ ∧ b ∈ F ∧ b < w.heap.size ∧ w.cell? ⟨b, o + k * 2, none⟩ = some (.string xs[k].key) ∧ w.cell? ⟨b, o + k * 2 + 1, none⟩ = some (.string xs[k].value) ∧ xs[k].key.size ≤ maxLen ∧ xs[k].value.size ≤ maxLen := by
  obtain ⟨b, o, ck, Fk, rfl, hb, hlt, hr, _, hc⟩ := h.get hk
  obtain ⟨rfl, rfl, h1, h2⟩ := rd_Label hr
  exact ⟨b, o, rfl, hb, hlt, hc 0 _ rfl, hc 1 _ rfl, h1, h2⟩
/-- a list of small labels -/
theorem labels_small {xs : List Label} (h : (wtL Label.wt xs : Int) ≤ 1048576) : ((xs.length : Int) ≤ 1048576) ∧ ∀ l ∈ xs, (l.key.size : Int) ≤ 1048576 ∧ (l.value.size : Int) ≤ 1048576 := by
  refine ⟨by have := wtL_len Label.wt xs; omega, fun l hl => ?_⟩
  have h1 := wtL_mem (f := Label.wt) hl
  have e : Label.wt l = l.key.size + l.value.size := rfl
  omega
def labelsBody (xs : List Label) : ByteArray := xs.foldl (fun s l => s ++ (shortText l.key ++ shortText l.value)) ByteArray.empty
def labelsBytes (xs : List Label) : ByteArray := xs.foldl (fun s l => s ++ (shortText l.key ++ shortText l.value)) (varText xs.length)
theorem foldl_take {α β : Type} (f : β → α → β) (b : β) (xs : List α) (k : Nat) (h : k < xs.length) : (xs.take (k + 1)).foldl f b = f ((xs.take k).foldl f b) xs[k] := by
  rw [List.take_succ_eq_append_getElem h, List.foldl_append]; rfl
theorem labels_size (xs : List Label) (b : ByteArray) (hx : ∀ l ∈ xs, (l.key.size : Int) ≤ 1048576 ∧ (l.value.size : Int) ≤ 1048576) : ∀ k, k ≤ xs.length → ((xs.take k).foldl (fun s l => s ++ (shortText l.key ++ shortText l.value)) b).size ≤ b.size + k * 2097172
  | 0, _ => by simp
  | k + 1, h => by
    rw [foldl_take _ _ _ _ (by omega), ByteArray.size_append, ByteArray.size_append]
    have h1 := labels_size xs b hx k (by omega)
    obtain ⟨h2, h3⟩ := hx xs[k] (List.getElem_mem ..)
    have h4 := shortText_size xs[k].key (by omega)
    have h5 := shortText_size xs[k].value (by omega)
    omega
set_option maxHeartbeats 400000 in
theorem LabelsBytes_impl (xs : List Label) (A : Option Addr) (c : Nat) (F : List Nat) (w : World) (h : Sl w xs A c F) (hl : (xs.length : Int) ≤ 1048576) (hx : ∀ l ∈ xs, (l.key.size : Int) ≤ 1048576 ∧ (l.value.size : Int) ≤ 1048576) :
    Calls Try.prog 20 #[.slice A xs.length c] w fun e w' => e = .returned (.string (labelsBytes xs)) ∧ Below w.heap.size w w' := by
  have hI : I64 xs.length := ⟨by omega, by omega⟩
  have hs0 := varText_size _ hI
  have HX := Lib.hid hx
  clear hx
  go_enter Try.func20, Try.ntmps20
  go_wp2_with (go_at_call 34; refine (VarText_impl _ _ hI).mono ?_; rintro e w1 ⟨rfl, hb1⟩)
  go_loopw [3, 11] (fun s i wr => ∃ k : Nat, k ≤ xs.length ∧ i = .int .i64 k ∧ s = .string ((xs.take k).foldl (fun s l => s ++ (shortText l.key ++ shortText l.value)) (varText xs.length)) ∧ Below w.heap.size w wr) (fun _ i _ => xs.length - (intOf i).toNat)
  case atStart => exact ⟨0, Nat.zero_le _, rfl, rfl, hb1⟩
  case round =>
    obtain ⟨k, hk, rfl, rfl, hbl⟩ := hrel
    by_cases hlt : k < xs.length
    · obtain ⟨b, o, rfl, hbF, hbs, hc0, hc1', hm0, hm1⟩ := (h.ext hbl).label hlt
      have hsz := labels_size xs (varText xs.length) HX.out k hk
      obtain ⟨hk1, hk2⟩ := HX.out xs[k] (List.getElem_mem ..)
      have hq1 := shortText_size xs[k].key (by omega)
      have hq2 := shortText_size xs[k].value (by omega)
      have hft := foldl_take (fun s (l : Label) => s ++ (shortText l.key ++ shortText l.value)) (varText xs.length) xs k hlt
      have HFT := Lib.hid hft
      clear hft
      generalize hS : (xs.take k).foldl (fun s l => s ++ (shortText l.key ++ shortText l.value)) (varText xs.length) = S at *
      have HS := Lib.hid hS
      clear hS
      go_wp2_with fail
      refine wp_region_grow _ (by kernel_rfl) (by kernel_rfl) (by first | exact ext_refl _ | assumption) ?_
      repeat (first
        | (apply inText_skip
           case hw => rfl
           simp only [Act.put, List.setIfInBounds_toArray, List.set_cons_zero, List.set_cons_succ])
        | (apply inText_step
           case hw => rfl
           case h =>
             intro wq hq
             obtain ⟨hcq, hfq⟩ := cls_cell hq
             go_simp
             first
               | exact ⟨hq, rfl⟩
               | exact ⟨cls_alloc hq _, rfl⟩
               | (refine (ShortText_impl _ _ (by omega)).mono ?_; rintro e w2 ⟨rfl, hb2⟩; exact ⟨rfl, cls_trans hq hb2⟩)
               | (simp only [↓IntWalk.iteOmega]; exact ⟨hq, rfl⟩)
           simp only [Act.put, List.setIfInBounds_toArray, List.set_cons_zero, List.set_cons_succ]))
      refine inText_nil ?_
      intro wn hn
      replace hn := hn.out
      have hbn : Below wr.heap.size wr wn := ext_trans (ext_alloc (ext_refl _) _) hn
      clear hn
      go_wp2
      go_roundw
      case rel => exact ⟨k + 1, by omega, by go_num, by rw [HFT.out], ext_trans hbl hbn⟩
      case measure => simp [intOf]; omega
    · have hkl : k = xs.length := by omega
      subst hkl
      go_wp2
      go_ret
      exact ⟨by rw [List.take_length]; rfl, hbl⟩

set_option maxHeartbeats 400000 in
theorem LabelsBytes_spec (xs : List Label) (A : Option Addr) (c : Nat) (F : List Nat) (w : World) (h : Sl w xs A c F) (hl : (xs.length : Int) ≤ 1048576) (hx : ∀ l ∈ xs, (l.key.size : Int) ≤ 1048576 ∧ (l.value.size : Int) ≤ 1048576) :
    Calls Try.prog 18 #[.slice A xs.length c] w fun e w' => e = .returned (.string (labelsBytes xs)) ∧ Below w.heap.size w w' := by
  have hI : I64 xs.length := ⟨by omega, by omega⟩
  have hs0 := varText_size _ hI
  have HX := Lib.hid hx
  clear hx
  go_enter Try.func18, Try.ntmps18
  go_wp2_with (go_at_call 31; refine (VarText_spec _ _ hI).mono ?_; rintro e w1 ⟨rfl, hb1⟩)
  go_loopw [3, 4] (fun s i wr => ∃ k : Nat, k ≤ xs.length ∧ i = .int .i64 k ∧ s = .string ((xs.take k).foldl (fun s l => s ++ (shortText l.key ++ shortText l.value)) (varText xs.length)) ∧ Below w.heap.size w wr) (fun _ i _ => xs.length - (intOf i).toNat)
  case atStart => exact ⟨0, Nat.zero_le _, rfl, rfl, hb1⟩
  case round =>
    obtain ⟨k, hk, rfl, rfl, hbl⟩ := hrel
    by_cases hlt : k < xs.length
    · obtain ⟨b, o, rfl, hbF, hbs, hc0, hc1', hm0, hm1⟩ := (h.ext hbl).label hlt
      have hsz := labels_size xs (varText xs.length) HX.out k hk
      obtain ⟨hk1, hk2⟩ := HX.out xs[k] (List.getElem_mem ..)
      have hq1 := shortText_size xs[k].key (by omega)
      have hq2 := shortText_size xs[k].value (by omega)
      have hft := foldl_take (fun s (l : Label) => s ++ (shortText l.key ++ shortText l.value)) (varText xs.length) xs k hlt
      have HFT := Lib.hid hft
      clear hft
      generalize hS : (xs.take k).foldl (fun s l => s ++ (shortText l.key ++ shortText l.value)) (varText xs.length) = S at *
      clear hS
      go_wp2_with fail
      refine wp_region_grow _ (by kernel_rfl) (by kernel_rfl) (by first | exact ext_refl _ | assumption) ?_
      repeat (first
        | (apply inText_skip
           case hw => rfl
           simp only [Act.put, List.setIfInBounds_toArray, List.set_cons_zero, List.set_cons_succ])
        | (apply inText_step
           case hw => rfl
           case h =>
             intro wq hq
             obtain ⟨hcq, hfq⟩ := cls_cell hq
             go_simp
             first
               | exact ⟨hq, rfl⟩
               | exact ⟨cls_alloc hq _, rfl⟩
               | (refine (ShortText_spec _ _ (by omega)).mono ?_; rintro e w2 ⟨rfl, hb2⟩; exact ⟨rfl, cls_trans hq hb2⟩)
               | (simp only [↓IntWalk.iteOmega]; exact ⟨hq, rfl⟩)
           simp only [Act.put, List.setIfInBounds_toArray, List.set_cons_zero, List.set_cons_succ]))
      refine inText_nil ?_
      intro wn hn
      replace hn := hn.out
      go_wp2
      go_roundw
      case rel => exact ⟨k + 1, by omega, by go_num, by rw [HFT.out, ByteArray.append_assoc], ext_trans hbl hn⟩
      case measure => simp [intOf]; omega
    · have hkl : k = xs.length := by omega
      subst hkl
      go_wp2
      go_ret
      exact ⟨by rw [List.take_length]; rfl, hbl⟩
end Go.Proofs.Ytkgajoichmnaaaa
