/- laws' copies of Need. -/
import Derived.Test.YtjoclfenghenjaaToBase
namespace Go.Proofs.Ytjoclfenghenjaa
open Go.ChangeShapes Go.WideShapes Go.ChangeAt Go.RowKit
set_option linter.unusedVariables false
set_option linter.unusedSimpArgs false

theorem infoNeed : (Try.prog.info? 107).map (fun i => (i.zero, i.size, i.bytes)) = some (some (.agg #[.string ⟨#[]⟩, .int .i64 0, .slice none 0 0]), 3, 48) := by kernel_rfl
theorem elNeed : ElOk Try.prog 46 107 (.agg #[.string ⟨#[]⟩, .int .i64 0, .slice none 0 0]) 3 48 := ⟨Try.underlying46, infoNeed, rfl, by omega⟩
set_option maxRecDepth 100000 in
set_option maxHeartbeats 2000000 in
theorem toNeed_any (x : Need) (cs : List Value) (F : List Nat) (w : World) (h : rd w x cs F) (hw : (x.wt : Int) ≤ 1048576) :
    Calls Try.prog 67 #[.agg cs.toArray] w fun e w' => ∃ cs F, e = .returned (.agg cs.toArray) ∧ Own w' w.heap.size x cs F ∧ Below w.heap.size w w' := by
  have HW := Lib.hid hw
  clear hw
  obtain ⟨_, _, _, _, rfl, rfl, ⟨rfl, rfl, hkey⟩, _, _, _, _, rfl, rfl, ⟨rfl, rfl, hop⟩, hvalues⟩ := h
  obtain ⟨Avalues, cvalues, rfl, hvalues⟩ := rd_list hvalues
  replace hkey := sz63 (s := x.key) hkey
  replace hop : I64 x.op := hop
  replace hvalues : Sl _ x.values Avalues cvalues _ := hvalues
  simp only [List.cons_append, List.nil_append]
  go_enter Try.func67, Try.ntmps67
  go_wp2_with (first | (go_at_call 73; refine (toStringS_any x.values _ _ _ _ (hvalues.ext (by repeat (first | with_reducible exact ext_refl _ | with_reducible assumption | with_reducible refine ext_alloc ?_ _ | with_reducible refine ext_setCell ?_ (by first | exact Nat.le_refl _ | (simp; done) | omega | (simp; omega)) _ | with_reducible refine ext_trans ?_ (by assumption)))) (by have := HW.out; unfold Need.wt at this; unfold wtS at this; omega)).mono ?_; rintro e w2 ⟨B2, d2, G2, rfl, hO2, hb2⟩; obtain ⟨hc2, hf2⟩ := bcell hb2; have hz20 : w.heap.size < w2.heap.size := (by have := hb2.size; (try simp at this); omega); have hz21 : w.heap.size + 1 < w2.heap.size := (by have := hb2.size; (try simp at this); omega); have hz22 : w.heap.size + 1 + 1 < w2.heap.size := (by have := hb2.size; (try simp at this); omega); replace hO2 := hO2.mono (B' := w.heap.size + 1 + 1 + 1) (by first | (simp; done) | omega | (simp; omega))))
  refine bodyPost_ret (v := .agg #[.string x.key, .int .i64 x.op, .slice B2 x.values.length d2]) (by simp [results, Try.results67, go_sem, *]) rfl ⟨[.string x.key, .int .i64 x.op, .slice B2 x.values.length d2], G2, rfl, ?_, by repeat (first | with_reducible exact ext_refl _ | with_reducible assumption | with_reducible refine ext_alloc ?_ _ | with_reducible refine ext_setCell ?_ (by first | exact Nat.le_refl _ | (simp; done) | omega | (simp; omega)) _ | with_reducible refine ext_trans ?_ (by assumption))⟩
  refine Own.up (B' := w.heap.size + 1 + 1 + 1) (fun x : Need => (x.key, x.op, x.values)) ?_ (by omega)
  refine Own.cons (c1 := [.string x.key]) (rdStr _ x.key hkey) ?_
  refine Own.cons (c1 := [.int .i64 x.op]) (rdInt _ x.op hop) ?_
  repeat (first | with_reducible exact hO2 | with_reducible refine Own.setCell ?_ (by first | omega | (show _ < _; omega) | (simp; done) | (simp; omega)) _ | with_reducible refine Own.ext ?_ (by assumption) | with_reducible refine Own.alloc ?_ _)
set_option maxHeartbeats 1000000 in
theorem toNeedS_any (xs : List Need) (A : Option Addr) (c : Nat) (F : List Nat) (w : World) (h : Sl w xs A c F) (hl : (wtL Need.wt xs : Int) ≤ 1048576) :
    Calls Try.prog 58 #[.slice A xs.length c] w fun e w' => ∃ A c F, e = .returned (.slice A xs.length c) ∧ Own w' w.heap.size xs [.slice A xs.length c] F ∧ Below w.heap.size w w' := by
  have hlen : (xs.length : Int) ≤ 1048576 := by have := wtL_len Need.wt xs; omega
  have HL := Lib.hid hl
  clear hl
  have hmk := run_make_full elNeed (by omega) xs.length (by omega)
  go_enter Try.func58, Try.ntmps58
  go_wp2_with fail
  go_loopw [4] (fun i wr => ∃ (k : Nat) (ds : List Value) (G : List Nat), k ≤ xs.length ∧ i = .int .i64 k ∧ Fill wr w.heap.size 107 (xs.length * 3) ds ∧ Hid (ds.length = k * 3) ∧ OwnCells wr (w.heap.size + 1) (xs.take k) ds G ∧ Below w.heap.size w wr) (fun i _ => xs.length - (intOf i).toNat)
  case atStart => exact ⟨0, [], [], Nat.zero_le _, rfl, Fill.made w _ _ _ (by simp [madeCells]), by show _ = _; simp, .nil _ _, ext_alloc (ext_refl _) _⟩
  case round =>
    obtain ⟨k, ds, G, hk, rfl, hf, hd, hO, hbl⟩ := hrel
    by_cases hlt : k < xs.length
    · obtain ⟨b, o, ck, Fk, rfl, hbF, hbs, hr, hsub, hc⟩ := (h.ext hbl).get hlt
      obtain ⟨Avalues1, cvalues1, Fvalues1, hck, rfl, hkey1, hop1, hvalues1⟩ := rd_Need hr
      subst hck
      have q0 : wr.cell? ⟨b, o + k * 3, none⟩ = some (.string xs[k].key) := by exact hc 0 _ rfl
      have q1 : wr.cell? ⟨b, o + k * 3 + 1, none⟩ = some (.int .i64 xs[k].op) := by rw [Nat.add_assoc]; exact hc 1 _ rfl
      have q2 : wr.cell? ⟨b, o + k * 3 + 2, none⟩ = some (.slice Avalues1 xs[k].values.length cvalues1) := by rw [Nat.add_assoc]; exact hc 2 _ rfl
      clear hc
      have hwk := wtL_get (f := Need.wt) hlt
      have hwk2 : (Need.wt xs[k] : Int) ≤ 1048576 := by have := HL.out; omega
      clear hwk
      go_wp2_with (go_at_call 67; refine (toNeed_any xs[k] _ _ _ hr hwk2).mono ?_; rintro e w2 ⟨cs2, G2, rfl, hO2, hb2⟩
                   have hR2 := hO2.rd
                   obtain ⟨Avalues2, cvalues2, Fvalues2, hck, hG2, hkey2, hop2, hvalues2⟩ := rd_Need hR2
                   subst hck
                   have hf2 := hf.keep (hb2.block _ hf.lt)
                   obtain ⟨u0, hu0⟩ := hf2.cell (i := k * 3) (by omega); have hfz0 := hf2.frozen (k * 3)
                   obtain ⟨u1, hu1⟩ := hf2.cell (i := k * 3 + 1) (by omega); have hfz1 := hf2.frozen (k * 3 + 1)
                   obtain ⟨u2, hu2⟩ := hf2.cell (i := k * 3 + 2) (by omega); have hfz2 := hf2.frozen (k * 3 + 2))
      have hF := (((hf2.store_at (o := k * 3) (by have := hd.out; omega) (by omega) (.string xs[k].key)).store_at (o := k * 3 + 1) (by simp [hd.out]) (by omega) (.int .i64 xs[k].op)).store_at (o := k * 3 + 2) (by simp [hd.out]) (by omega) (.slice Avalues2 xs[k].values.length cvalues2))
      have hO3 := hO.ext hb2
      replace hO3 := hO3.setCell (p := ⟨w.heap.size, k * 3, none⟩) (Nat.lt_succ_self _) (.string xs[k].key)
      replace hO2 := hO2.setCell (p := ⟨w.heap.size, k * 3, none⟩) hf.lt (.string xs[k].key)
      replace hO3 := hO3.setCell (p := ⟨w.heap.size, k * 3 + 1, none⟩) (Nat.lt_succ_self _) (.int .i64 xs[k].op)
      replace hO2 := hO2.setCell (p := ⟨w.heap.size, k * 3 + 1, none⟩) hf.lt (.int .i64 xs[k].op)
      replace hO3 := hO3.setCell (p := ⟨w.heap.size, k * 3 + 2, none⟩) (Nat.lt_succ_self _) (.slice Avalues2 xs[k].values.length cvalues2)
      replace hO2 := hO2.setCell (p := ⟨w.heap.size, k * 3 + 2, none⟩) hf.lt (.slice Avalues2 xs[k].values.length cvalues2)
      have hP := hO3.push (B' := wr.heap.size) (x := xs[k]) hO2 hf.lt hO.lt
      rw [← List.take_succ_eq_append_getElem hlt] at hP
      (try simp only [List.append_assoc, List.cons_append, List.nil_append] at hF)
      exact ⟨⟨k + 1, _, _, by omega, by go_num, hF, by show _ = _; (simp [hd.out]) <;> omega, hP, ext_setCell (ext_setCell (ext_setCell (ext_trans hbl hb2) (Nat.le_refl _) _) (Nat.le_refl _) _) (Nat.le_refl _) _⟩, by simp [intOf]; omega⟩
    · have hkl : k = xs.length := by omega
      subst hkl
      go_wp2
      go_ret
      rw [List.take_length] at hO
      exact ⟨_, _, _, rfl, Own.of_fill hf hO (Nat.le_refl _) (by unfold maxLen; omega), hbl⟩
end Go.Proofs.Ytjoclfenghenjaa
