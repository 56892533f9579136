/- laws' copies of Label. -/
import Derived.Test.YtkgajoichmnaaaaToBase
namespace Go.Proofs.Ytkgajoichmnaaaa
open Dat (rd)
open Go.ChangeShapes Go.WideShapes Go.ChangeAt Go.RowKit
set_option linter.unusedVariables false
set_option linter.unusedSimpArgs false

theorem infoLabel : (Try.prog.info? 52).map (fun i => (i.zero, i.size, i.bytes)) = some (some (.agg #[.string ⟨#[]⟩, .string ⟨#[]⟩]), 2, 32) := by kernel_rfl
theorem elLabel : ElOk Try.prog 36 52 (.agg #[.string ⟨#[]⟩, .string ⟨#[]⟩]) 2 32 := ⟨Try.underlying36, infoLabel, rfl, by omega⟩
set_option maxHeartbeats 2000000 in
theorem toLabel_any (x : Label) (cs : List Value) (F : List Nat) (w : World) (h : rd w x cs F) (hw : (x.wt : Int) ≤ 1048576) :
    Calls Try.prog 33 #[.agg cs.toArray] w fun e w' => ∃ cs F, e = .returned (.agg cs.toArray) ∧ Own w' w.heap.size x cs F ∧ Below w.heap.size w w' := by
  have HW := Lib.hid hw
  clear hw
  obtain ⟨_, _, _, _, rfl, rfl, ⟨rfl, rfl, hkey⟩, ⟨rfl, rfl, hvalue⟩⟩ := h
  replace hkey := sz63 (s := x.key) hkey
  replace hvalue := sz63 (s := x.value) hvalue
  simp only [List.cons_append, List.nil_append]
  go_enter Try.func33, Try.ntmps33
  go_wp2
  refine bodyPost_ret (v := .agg #[.string x.key, .string x.value]) (by simp [results, Try.results33, go_sem, *]) rfl ⟨[.string x.key, .string x.value], [], rfl, ?_, by repeat (first | exact ext_refl _ | assumption | refine ext_alloc ?_ _ | refine ext_setCell ?_ (by first | exact Nat.le_refl _ | (simp; done) | omega | (simp; omega)) _ | refine ext_trans ?_ (by assumption))⟩
  exact Own.up (B' := w.heap.size) (fun x : Label => (x.key, x.value)) (Own.cons (rdStr _ x.key hkey) (Own.flat (rdStr _ x.value hvalue))) (by omega)
set_option maxHeartbeats 1000000 in
theorem toLabelS_any (xs : List Label) (A : Option Addr) (c : Nat) (F : List Nat) (w : World) (h : Sl w xs A c F) (hl : (wtL Label.wt xs : Int) ≤ 1048576) :
    Calls Try.prog 19 #[.slice A xs.length c] w fun e w' => ∃ A c F, e = .returned (.slice A xs.length c) ∧ Own w' w.heap.size xs [.slice A xs.length c] F ∧ Below w.heap.size w w' := by
  have hlen : (xs.length : Int) ≤ 1048576 := by have := wtL_len Label.wt xs; omega
  have HL := Lib.hid hl
  clear hl
  have hmk := run_make_full elLabel (by omega) xs.length (by omega)
  go_enter Try.func19, Try.ntmps19
  go_wp2_with fail
  go_loopw [4] (fun i wr => ∃ (k : Nat) (ds : List Value) (G : List Nat), k ≤ xs.length ∧ i = .int .i64 k ∧ Fill wr w.heap.size 52 (xs.length * 2) ds ∧ Hid (ds.length = k * 2) ∧ OwnCells wr (w.heap.size + 1) (xs.take k) ds G ∧ Below w.heap.size w wr) (fun i _ => xs.length - (intOf i).toNat)
  case atStart => exact ⟨0, [], [], Nat.zero_le _, rfl, Fill.made w _ _ _ (by simp [madeCells]), by show _ = _; simp, .nil _ _, ext_alloc (ext_refl _) _⟩
  case round =>
    obtain ⟨k, ds, G, hk, rfl, hf, hd, hO, hbl⟩ := hrel
    by_cases hlt : k < xs.length
    · obtain ⟨b, o, ck, Fk, rfl, hbF, hbs, hr, hsub, hc⟩ := (h.ext hbl).get hlt
      obtain ⟨hck, rfl, hkey1, hvalue1⟩ := rd_Label hr
      subst hck
      have q0 : wr.cell? ⟨b, o + k * 2, none⟩ = some (.string xs[k].key) := by exact hc 0 _ rfl
      have q1 : wr.cell? ⟨b, o + k * 2 + 1, none⟩ = some (.string xs[k].value) := by rw [Nat.add_assoc]; exact hc 1 _ rfl
      clear hc
      have hwk := wtL_get (f := Label.wt) hlt
      have hwk2 : (Label.wt xs[k] : Int) ≤ 1048576 := by have := HL.out; omega
      clear hwk
      go_wp2_with (go_at_call 33; refine (toLabel_any xs[k] _ _ _ hr hwk2).mono ?_; rintro e w2 ⟨cs2, G2, rfl, hO2, hb2⟩
                   have hR2 := hO2.rd
                   obtain ⟨hck, hG2, hkey2, hvalue2⟩ := rd_Label hR2
                   subst hck
                   have hf2 := hf.keep (hb2.block _ hf.lt)
                   obtain ⟨u0, hu0⟩ := hf2.cell (i := k * 2) (by omega); have hfz0 := hf2.frozen (k * 2)
                   obtain ⟨u1, hu1⟩ := hf2.cell (i := k * 2 + 1) (by omega); have hfz1 := hf2.frozen (k * 2 + 1))
      have hF := ((hf2.store_at (o := k * 2) (by have := hd.out; omega) (by omega) (.string xs[k].key)).store_at (o := k * 2 + 1) (by simp [hd.out]) (by omega) (.string xs[k].value))
      have hO3 := hO.ext hb2
      replace hO3 := hO3.setCell (p := ⟨w.heap.size, k * 2, none⟩) (Nat.lt_succ_self _) (.string xs[k].key)
      replace hO2 := hO2.setCell (p := ⟨w.heap.size, k * 2, none⟩) hf.lt (.string xs[k].key)
      replace hO3 := hO3.setCell (p := ⟨w.heap.size, k * 2 + 1, none⟩) (Nat.lt_succ_self _) (.string xs[k].value)
      replace hO2 := hO2.setCell (p := ⟨w.heap.size, k * 2 + 1, none⟩) hf.lt (.string xs[k].value)
      have hP := hO3.push (B' := wr.heap.size) (x := xs[k]) hO2 hf.lt hO.lt
      rw [← List.take_succ_eq_append_getElem hlt] at hP
      (try simp only [List.append_assoc, List.cons_append, List.nil_append] at hF)
      exact ⟨⟨k + 1, _, _, by omega, by go_num, hF, by show _ = _; (simp [hd.out]) <;> omega, hP, ext_setCell (ext_setCell (ext_trans hbl hb2) (Nat.le_refl _) _) (Nat.le_refl _) _⟩, by simp [intOf]; omega⟩
    · have hkl : k = xs.length := by omega
      subst hkl
      go_wp2
      go_ret
      rw [List.take_length] at hO
      exact ⟨_, _, _, rfl, Own.of_fill hf hO (Nat.le_refl _) (by unfold maxLen; omega), hbl⟩
end Go.Proofs.Ytkgajoichmnaaaa
