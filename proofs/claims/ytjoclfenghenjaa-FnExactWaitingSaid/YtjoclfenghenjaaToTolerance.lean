/- laws' copies of Tolerance. -/
import Derived.Test.YtjoclfenghenjaaToBase
namespace Go.Proofs.Ytjoclfenghenjaa
open Go.ChangeShapes Go.WideShapes Go.ChangeAt Go.RowKit
set_option linter.unusedVariables false
set_option linter.unusedSimpArgs false

theorem infoTolerance : (Try.prog.info? 109).map (fun i => (i.zero, i.size, i.bytes)) = some (some (.agg #[.string ⟨#[]⟩, .bool false, .string ⟨#[]⟩, .int .i64 0]), 4, 48) := by kernel_rfl
theorem elTolerance : ElOk Try.prog 47 109 (.agg #[.string ⟨#[]⟩, .bool false, .string ⟨#[]⟩, .int .i64 0]) 4 48 := ⟨Try.underlying47, infoTolerance, rfl, by omega⟩
set_option maxRecDepth 100000 in
set_option maxHeartbeats 2000000 in
theorem toTolerance_any (x : Tolerance) (cs : List Value) (F : List Nat) (w : World) (h : rd w x cs F) (hw : (x.wt : Int) ≤ 1048576) :
    Calls Try.prog 68 #[.agg cs.toArray] w fun e w' => ∃ cs F, e = .returned (.agg cs.toArray) ∧ Own w' w.heap.size x cs F ∧ Below w.heap.size w w' := by
  have HW := Lib.hid hw
  clear hw
  obtain ⟨_, _, _, _, rfl, rfl, ⟨rfl, rfl, hkey⟩, _, _, _, _, rfl, rfl, ⟨rfl, rfl⟩, _, _, _, _, rfl, rfl, ⟨rfl, rfl, hvalue⟩, ⟨rfl, rfl, heffect⟩⟩ := h
  replace hkey := sz63 (s := x.key) hkey
  replace hvalue := sz63 (s := x.value) hvalue
  replace heffect : I64 x.effect := heffect
  simp only [List.cons_append, List.nil_append]
  go_enter Try.func68, Try.ntmps68
  go_wp2
  refine bodyPost_ret (v := .agg #[.string x.key, .bool x.equal, .string x.value, .int .i64 x.effect]) (by simp [results, Try.results68, go_sem, *]) rfl ⟨[.string x.key, .bool x.equal, .string x.value, .int .i64 x.effect], [], rfl, ?_, by repeat (first | with_reducible exact ext_refl _ | with_reducible assumption | with_reducible refine ext_alloc ?_ _ | with_reducible refine ext_setCell ?_ (by first | exact Nat.le_refl _ | (simp; done) | omega | (simp; omega)) _ | with_reducible refine ext_trans ?_ (by assumption))⟩
  refine Own.up (B' := w.heap.size) (fun x : Tolerance => (x.key, x.equal, x.value, x.effect)) ?_ (by omega)
  refine Own.cons (c1 := [.string x.key]) (rdStr _ x.key hkey) ?_
  refine Own.cons (c1 := [.bool x.equal]) (rdBool _ x.equal) ?_
  refine Own.cons (c1 := [.string x.value]) (rdStr _ x.value hvalue) ?_
  exact Own.flat (rdInt _ x.effect heffect)
set_option maxHeartbeats 1000000 in
theorem toToleranceS_any (xs : List Tolerance) (A : Option Addr) (c : Nat) (F : List Nat) (w : World) (h : Sl w xs A c F) (hl : (wtL Tolerance.wt xs : Int) ≤ 1048576) :
    Calls Try.prog 59 #[.slice A xs.length c] w fun e w' => ∃ A c F, e = .returned (.slice A xs.length c) ∧ Own w' w.heap.size xs [.slice A xs.length c] F ∧ Below w.heap.size w w' := by
  have hlen : (xs.length : Int) ≤ 1048576 := by have := wtL_len Tolerance.wt xs; omega
  have HL := Lib.hid hl
  clear hl
  have hmk := run_make_full elTolerance (by omega) xs.length (by omega)
  go_enter Try.func59, Try.ntmps59
  go_wp2_with fail
  go_loopw [4] (fun i wr => ∃ (k : Nat) (ds : List Value) (G : List Nat), k ≤ xs.length ∧ i = .int .i64 k ∧ Fill wr w.heap.size 109 (xs.length * 4) ds ∧ Hid (ds.length = k * 4) ∧ OwnCells wr (w.heap.size + 1) (xs.take k) ds G ∧ Below w.heap.size w wr) (fun i _ => xs.length - (intOf i).toNat)
  case atStart => exact ⟨0, [], [], Nat.zero_le _, rfl, Fill.made w _ _ _ (by simp [madeCells]), by show _ = _; simp, .nil _ _, ext_alloc (ext_refl _) _⟩
  case round =>
    obtain ⟨k, ds, G, hk, rfl, hf, hd, hO, hbl⟩ := hrel
    by_cases hlt : k < xs.length
    · obtain ⟨b, o, ck, Fk, rfl, hbF, hbs, hr, hsub, hc⟩ := (h.ext hbl).get hlt
      obtain ⟨hck, rfl, hkey1, hvalue1, heffect1⟩ := rd_Tolerance hr
      subst hck
      have q0 : wr.cell? ⟨b, o + k * 4, none⟩ = some (.string xs[k].key) := by exact hc 0 _ rfl
      have q1 : wr.cell? ⟨b, o + k * 4 + 1, none⟩ = some (.bool xs[k].equal) := by rw [Nat.add_assoc]; exact hc 1 _ rfl
      have q2 : wr.cell? ⟨b, o + k * 4 + 2, none⟩ = some (.string xs[k].value) := by rw [Nat.add_assoc]; exact hc 2 _ rfl
      have q3 : wr.cell? ⟨b, o + k * 4 + 3, none⟩ = some (.int .i64 xs[k].effect) := by rw [Nat.add_assoc]; exact hc 3 _ rfl
      clear hc
      have hwk := wtL_get (f := Tolerance.wt) hlt
      have hwk2 : (Tolerance.wt xs[k] : Int) ≤ 1048576 := by have := HL.out; omega
      clear hwk
      go_wp2_with (go_at_call 68; refine (toTolerance_any xs[k] _ _ _ hr hwk2).mono ?_; rintro e w2 ⟨cs2, G2, rfl, hO2, hb2⟩
                   have hR2 := hO2.rd
                   obtain ⟨hck, hG2, hkey2, hvalue2, heffect2⟩ := rd_Tolerance hR2
                   subst hck
                   have hf2 := hf.keep (hb2.block _ hf.lt)
                   obtain ⟨u0, hu0⟩ := hf2.cell (i := k * 4) (by omega); have hfz0 := hf2.frozen (k * 4)
                   obtain ⟨u1, hu1⟩ := hf2.cell (i := k * 4 + 1) (by omega); have hfz1 := hf2.frozen (k * 4 + 1)
                   obtain ⟨u2, hu2⟩ := hf2.cell (i := k * 4 + 2) (by omega); have hfz2 := hf2.frozen (k * 4 + 2)
                   obtain ⟨u3, hu3⟩ := hf2.cell (i := k * 4 + 3) (by omega); have hfz3 := hf2.frozen (k * 4 + 3))
      have hF := ((((hf2.store_at (o := k * 4) (by have := hd.out; omega) (by omega) (.string xs[k].key)).store_at (o := k * 4 + 1) (by simp [hd.out]) (by omega) (.bool xs[k].equal)).store_at (o := k * 4 + 2) (by simp [hd.out]) (by omega) (.string xs[k].value)).store_at (o := k * 4 + 3) (by simp [hd.out]) (by omega) (.int .i64 xs[k].effect))
      have hO3 := hO.ext hb2
      replace hO3 := hO3.setCell (p := ⟨w.heap.size, k * 4, none⟩) (Nat.lt_succ_self _) (.string xs[k].key)
      replace hO2 := hO2.setCell (p := ⟨w.heap.size, k * 4, none⟩) hf.lt (.string xs[k].key)
      replace hO3 := hO3.setCell (p := ⟨w.heap.size, k * 4 + 1, none⟩) (Nat.lt_succ_self _) (.bool xs[k].equal)
      replace hO2 := hO2.setCell (p := ⟨w.heap.size, k * 4 + 1, none⟩) hf.lt (.bool xs[k].equal)
      replace hO3 := hO3.setCell (p := ⟨w.heap.size, k * 4 + 2, none⟩) (Nat.lt_succ_self _) (.string xs[k].value)
      replace hO2 := hO2.setCell (p := ⟨w.heap.size, k * 4 + 2, none⟩) hf.lt (.string xs[k].value)
      replace hO3 := hO3.setCell (p := ⟨w.heap.size, k * 4 + 3, none⟩) (Nat.lt_succ_self _) (.int .i64 xs[k].effect)
      replace hO2 := hO2.setCell (p := ⟨w.heap.size, k * 4 + 3, none⟩) hf.lt (.int .i64 xs[k].effect)
      have hP := hO3.push (B' := wr.heap.size) (x := xs[k]) hO2 hf.lt hO.lt
      rw [← List.take_succ_eq_append_getElem hlt] at hP
      (try simp only [List.append_assoc, List.cons_append, List.nil_append] at hF)
      exact ⟨⟨k + 1, _, _, by omega, by go_num, hF, by show _ = _; (simp [hd.out]) <;> omega, hP, ext_setCell (ext_setCell (ext_setCell (ext_setCell (ext_trans hbl hb2) (Nat.le_refl _) _) (Nat.le_refl _) _) (Nat.le_refl _) _) (Nat.le_refl _) _⟩, by simp [intOf]; omega⟩
    · have hkl : k = xs.length := by omega
      subst hkl
      go_wp2
      go_ret
      rw [List.take_length] at hO
      exact ⟨_, _, _, rfl, Own.of_fill hf hO (Nat.le_refl _) (by unfold maxLen; omega), hbl⟩
end Go.Proofs.Ytjoclfenghenjaa
