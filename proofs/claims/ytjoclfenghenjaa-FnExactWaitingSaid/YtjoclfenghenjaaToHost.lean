/- laws' copies of Host. -/
import Derived.Test.YtjoclfenghenjaaToBase
import Derived.Test.YtjoclfenghenjaaToLabel
import Derived.Test.YtjoclfenghenjaaToTaint
namespace Go.Proofs.Ytjoclfenghenjaa
open Go.ChangeShapes Go.WideShapes Go.ChangeAt Go.RowKit
set_option linter.unusedVariables false
set_option linter.unusedSimpArgs false

theorem infoHost : (Try.prog.info? 80).map (fun i => (i.zero, i.size, i.bytes)) = some (some (.agg #[.string ⟨#[]⟩, .slice none 0 0, .int .i64 0, .int .i64 0, .int .i64 0, .slice none 0 0]), 6, 88) := by kernel_rfl
theorem elHost : ElOk Try.prog 31 80 (.agg #[.string ⟨#[]⟩, .slice none 0 0, .int .i64 0, .int .i64 0, .int .i64 0, .slice none 0 0]) 6 88 := ⟨Try.underlying31, infoHost, rfl, by omega⟩
set_option maxRecDepth 100000 in
set_option maxHeartbeats 2000000 in
theorem toHost_any (x : Host) (cs : List Value) (F : List Nat) (w : World) (h : rd w x cs F) (hw : (x.wt : Int) ≤ 1048576) :
    Calls Try.prog 31 #[.agg cs.toArray] w fun e w' => ∃ cs F, e = .returned (.agg cs.toArray) ∧ Own w' w.heap.size x cs F ∧ Below w.heap.size w w' := by
  have HW := Lib.hid hw
  clear hw
  obtain ⟨_, _, _, _, rfl, rfl, ⟨rfl, rfl, hname⟩, _, _, _, _, rfl, rfl, hlabels, _, _, _, _, rfl, rfl, ⟨rfl, rfl, hcpu⟩, _, _, _, _, rfl, rfl, ⟨rfl, rfl, hmem⟩, _, _, _, _, rfl, rfl, ⟨rfl, rfl, hslots⟩, htaints⟩ := h
  obtain ⟨Alabels, clabels, rfl, hlabels⟩ := rd_list hlabels
  obtain ⟨Ataints, ctaints, rfl, htaints⟩ := rd_list htaints
  replace hname := sz63 (s := x.name) hname
  replace hlabels : Sl _ x.labels Alabels clabels _ := hlabels
  replace hcpu : I64 x.cpu := hcpu
  replace hmem : I64 x.mem := hmem
  replace hslots : I64 x.slots := hslots
  replace htaints : Sl _ x.taints Ataints ctaints _ := htaints
  simp only [List.cons_append, List.nil_append]
  go_enter Try.func31, Try.ntmps31
  go_wp2_with (first | (go_at_call 44; refine (toLabelS_any x.labels _ _ _ _ (hlabels.ext (by repeat (first | with_reducible exact ext_refl _ | with_reducible assumption | with_reducible refine ext_alloc ?_ _ | with_reducible refine ext_setCell ?_ (by first | exact Nat.le_refl _ | (simp; done) | omega | (simp; omega)) _ | with_reducible refine ext_trans ?_ (by assumption)))) (by have := HW.out; unfold Host.wt at this; omega)).mono ?_; rintro e w1 ⟨B1, d1, G1, rfl, hO1, hb1⟩; obtain ⟨hc1, hf1⟩ := bcell hb1; have hz10 : w.heap.size < w1.heap.size := (by have := hb1.size; (try simp at this); omega); have hz11 : w.heap.size + 1 < w1.heap.size := (by have := hb1.size; (try simp at this); omega); have hz12 : w.heap.size + 1 + 1 < w1.heap.size := (by have := hb1.size; (try simp at this); omega); replace hO1 := hO1.mono (B' := w.heap.size + 1 + 1 + 1) (by first | (simp; done) | omega | (simp; omega))) | (go_at_call 45; refine (toTaintS_any x.taints _ _ _ _ (htaints.ext (by repeat (first | with_reducible exact ext_refl _ | with_reducible assumption | with_reducible refine ext_alloc ?_ _ | with_reducible refine ext_setCell ?_ (by first | exact Nat.le_refl _ | (simp; done) | omega | (simp; omega)) _ | with_reducible refine ext_trans ?_ (by assumption)))) (by have := HW.out; unfold Host.wt at this; omega)).mono ?_; rintro e w5 ⟨B5, d5, G5, rfl, hO5, hb5⟩; obtain ⟨hc5, hf5⟩ := bcell hb5; have hz50 : w.heap.size < w5.heap.size := (by have := hb5.size; (try simp at this); omega); have hz51 : w.heap.size + 1 < w5.heap.size := (by have := hb5.size; (try simp at this); omega); have hz52 : w.heap.size + 1 + 1 < w5.heap.size := (by have := hb5.size; (try simp at this); omega); have hy5 : w1.heap.size ≤ w5.heap.size := (by have := hb5.size; (try simp at this); omega); replace hO5 := hO5.mono (B' := w1.heap.size) (by first | (simp; done) | omega | (simp; omega))))
  refine bodyPost_ret (v := .agg #[.string x.name, .slice B1 x.labels.length d1, .int .i64 x.cpu, .int .i64 x.mem, .int .i64 x.slots, .slice B5 x.taints.length d5]) (by simp [results, Try.results31, go_sem, *]) rfl ⟨[.string x.name, .slice B1 x.labels.length d1, .int .i64 x.cpu, .int .i64 x.mem, .int .i64 x.slots, .slice B5 x.taints.length d5], G1 ++ (G5), rfl, ?_, by repeat (first | with_reducible exact ext_refl _ | with_reducible assumption | with_reducible refine ext_alloc ?_ _ | with_reducible refine ext_setCell ?_ (by first | exact Nat.le_refl _ | (simp; done) | omega | (simp; omega)) _ | with_reducible refine ext_trans ?_ (by assumption))⟩
  refine Own.up (B' := w.heap.size + 1 + 1 + 1) (fun x : Host => (x.name, x.labels, x.cpu, x.mem, x.slots, x.taints)) ?_ (by omega)
  refine Own.cons (c1 := [.string x.name]) (rdStr _ x.name hname) ?_
  refine Own.pair (B2 := w1.heap.size) (c1 := [.slice B1 x.labels.length d1]) (F1 := G1) ?_ ?_ (by omega) hO1.lt
  · repeat (first | with_reducible exact hO1 | with_reducible refine Own.setCell ?_ (by first | omega | (show _ < _; omega) | (simp; done) | (simp; omega)) _ | with_reducible refine Own.ext ?_ (by assumption) | with_reducible refine Own.alloc ?_ _)
  refine Own.cons (c1 := [.int .i64 x.cpu]) (rdInt _ x.cpu hcpu) ?_
  refine Own.cons (c1 := [.int .i64 x.mem]) (rdInt _ x.mem hmem) ?_
  refine Own.cons (c1 := [.int .i64 x.slots]) (rdInt _ x.slots hslots) ?_
  repeat (first | with_reducible exact hO5 | with_reducible refine Own.setCell ?_ (by first | omega | (show _ < _; omega) | (simp; done) | (simp; omega)) _ | with_reducible refine Own.ext ?_ (by assumption) | with_reducible refine Own.alloc ?_ _)
set_option maxHeartbeats 1000000 in
theorem toHostS_any (xs : List Host) (A : Option Addr) (c : Nat) (F : List Nat) (w : World) (h : Sl w xs A c F) (hl : (wtL Host.wt xs : Int) ≤ 1048576) :
    Calls Try.prog 16 #[.slice A xs.length c] w fun e w' => ∃ A c F, e = .returned (.slice A xs.length c) ∧ Own w' w.heap.size xs [.slice A xs.length c] F ∧ Below w.heap.size w w' := by
  have hlen : (xs.length : Int) ≤ 1048576 := by have := wtL_len Host.wt xs; omega
  have HL := Lib.hid hl
  clear hl
  have hmk := run_make_full elHost (by omega) xs.length (by omega)
  go_enter Try.func16, Try.ntmps16
  go_wp2_with fail
  go_loopw [4] (fun i wr => ∃ (k : Nat) (ds : List Value) (G : List Nat), k ≤ xs.length ∧ i = .int .i64 k ∧ Fill wr w.heap.size 80 (xs.length * 6) ds ∧ Hid (ds.length = k * 6) ∧ OwnCells wr (w.heap.size + 1) (xs.take k) ds G ∧ Below w.heap.size w wr) (fun i _ => xs.length - (intOf i).toNat)
  case atStart => exact ⟨0, [], [], Nat.zero_le _, rfl, Fill.made w _ _ _ (by simp [madeCells]), by show _ = _; simp, .nil _ _, ext_alloc (ext_refl _) _⟩
  case round =>
    obtain ⟨k, ds, G, hk, rfl, hf, hd, hO, hbl⟩ := hrel
    by_cases hlt : k < xs.length
    · obtain ⟨b, o, ck, Fk, rfl, hbF, hbs, hr, hsub, hc⟩ := (h.ext hbl).get hlt
      obtain ⟨Alabels1, clabels1, Flabels1, Ataints1, ctaints1, Ftaints1, hck, rfl, hname1, hlabels1, hcpu1, hmem1, hslots1, htaints1⟩ := rd_Host hr
      subst hck
      have q0 : wr.cell? ⟨b, o + k * 6, none⟩ = some (.string xs[k].name) := by exact hc 0 _ rfl
      have q1 : wr.cell? ⟨b, o + k * 6 + 1, none⟩ = some (.slice Alabels1 xs[k].labels.length clabels1) := by rw [Nat.add_assoc]; exact hc 1 _ rfl
      have q2 : wr.cell? ⟨b, o + k * 6 + 2, none⟩ = some (.int .i64 xs[k].cpu) := by rw [Nat.add_assoc]; exact hc 2 _ rfl
      have q3 : wr.cell? ⟨b, o + k * 6 + 3, none⟩ = some (.int .i64 xs[k].mem) := by rw [Nat.add_assoc]; exact hc 3 _ rfl
      have q4 : wr.cell? ⟨b, o + k * 6 + 4, none⟩ = some (.int .i64 xs[k].slots) := by rw [Nat.add_assoc]; exact hc 4 _ rfl
      have q5 : wr.cell? ⟨b, o + k * 6 + 5, none⟩ = some (.slice Ataints1 xs[k].taints.length ctaints1) := by rw [Nat.add_assoc]; exact hc 5 _ rfl
      clear hc
      have hwk := wtL_get (f := Host.wt) hlt
      have hwk2 : (Host.wt xs[k] : Int) ≤ 1048576 := by have := HL.out; omega
      clear hwk
      go_wp2_with (go_at_call 31; refine (toHost_any xs[k] _ _ _ hr hwk2).mono ?_; rintro e w2 ⟨cs2, G2, rfl, hO2, hb2⟩
                   have hR2 := hO2.rd
                   obtain ⟨Alabels2, clabels2, Flabels2, Ataints2, ctaints2, Ftaints2, hck, hG2, hname2, hlabels2, hcpu2, hmem2, hslots2, htaints2⟩ := rd_Host hR2
                   subst hck
                   have hf2 := hf.keep (hb2.block _ hf.lt)
                   obtain ⟨u0, hu0⟩ := hf2.cell (i := k * 6) (by omega); have hfz0 := hf2.frozen (k * 6)
                   obtain ⟨u1, hu1⟩ := hf2.cell (i := k * 6 + 1) (by omega); have hfz1 := hf2.frozen (k * 6 + 1)
                   obtain ⟨u2, hu2⟩ := hf2.cell (i := k * 6 + 2) (by omega); have hfz2 := hf2.frozen (k * 6 + 2)
                   obtain ⟨u3, hu3⟩ := hf2.cell (i := k * 6 + 3) (by omega); have hfz3 := hf2.frozen (k * 6 + 3)
                   obtain ⟨u4, hu4⟩ := hf2.cell (i := k * 6 + 4) (by omega); have hfz4 := hf2.frozen (k * 6 + 4)
                   obtain ⟨u5, hu5⟩ := hf2.cell (i := k * 6 + 5) (by omega); have hfz5 := hf2.frozen (k * 6 + 5))
      have hF := ((((((hf2.store_at (o := k * 6) (by have := hd.out; omega) (by omega) (.string xs[k].name)).store_at (o := k * 6 + 1) (by simp [hd.out]) (by omega) (.slice Alabels2 xs[k].labels.length clabels2)).store_at (o := k * 6 + 2) (by simp [hd.out]) (by omega) (.int .i64 xs[k].cpu)).store_at (o := k * 6 + 3) (by simp [hd.out]) (by omega) (.int .i64 xs[k].mem)).store_at (o := k * 6 + 4) (by simp [hd.out]) (by omega) (.int .i64 xs[k].slots)).store_at (o := k * 6 + 5) (by simp [hd.out]) (by omega) (.slice Ataints2 xs[k].taints.length ctaints2))
      have hO3 := hO.ext hb2
      replace hO3 := hO3.setCell (p := ⟨w.heap.size, k * 6, none⟩) (Nat.lt_succ_self _) (.string xs[k].name)
      replace hO2 := hO2.setCell (p := ⟨w.heap.size, k * 6, none⟩) hf.lt (.string xs[k].name)
      replace hO3 := hO3.setCell (p := ⟨w.heap.size, k * 6 + 1, none⟩) (Nat.lt_succ_self _) (.slice Alabels2 xs[k].labels.length clabels2)
      replace hO2 := hO2.setCell (p := ⟨w.heap.size, k * 6 + 1, none⟩) hf.lt (.slice Alabels2 xs[k].labels.length clabels2)
      replace hO3 := hO3.setCell (p := ⟨w.heap.size, k * 6 + 2, none⟩) (Nat.lt_succ_self _) (.int .i64 xs[k].cpu)
      replace hO2 := hO2.setCell (p := ⟨w.heap.size, k * 6 + 2, none⟩) hf.lt (.int .i64 xs[k].cpu)
      replace hO3 := hO3.setCell (p := ⟨w.heap.size, k * 6 + 3, none⟩) (Nat.lt_succ_self _) (.int .i64 xs[k].mem)
      replace hO2 := hO2.setCell (p := ⟨w.heap.size, k * 6 + 3, none⟩) hf.lt (.int .i64 xs[k].mem)
      replace hO3 := hO3.setCell (p := ⟨w.heap.size, k * 6 + 4, none⟩) (Nat.lt_succ_self _) (.int .i64 xs[k].slots)
      replace hO2 := hO2.setCell (p := ⟨w.heap.size, k * 6 + 4, none⟩) hf.lt (.int .i64 xs[k].slots)
      replace hO3 := hO3.setCell (p := ⟨w.heap.size, k * 6 + 5, none⟩) (Nat.lt_succ_self _) (.slice Ataints2 xs[k].taints.length ctaints2)
      replace hO2 := hO2.setCell (p := ⟨w.heap.size, k * 6 + 5, none⟩) hf.lt (.slice Ataints2 xs[k].taints.length ctaints2)
      have hP := hO3.push (B' := wr.heap.size) (x := xs[k]) hO2 hf.lt hO.lt
      rw [← List.take_succ_eq_append_getElem hlt] at hP
      (try simp only [List.append_assoc, List.cons_append, List.nil_append] at hF)
      exact ⟨⟨k + 1, _, _, by omega, by go_num, hF, by show _ = _; (simp [hd.out]) <;> omega, hP, ext_setCell (ext_setCell (ext_setCell (ext_setCell (ext_setCell (ext_setCell (ext_trans hbl hb2) (Nat.le_refl _) _) (Nat.le_refl _) _) (Nat.le_refl _) _) (Nat.le_refl _) _) (Nat.le_refl _) _) (Nat.le_refl _) _⟩, by simp [intOf]; omega⟩
    · have hkl : k = xs.length := by omega
      subst hkl
      go_wp2
      go_ret
      rw [List.take_length] at hO
      exact ⟨_, _, _, rfl, Own.of_fill hf hO (Nat.le_refl _) (by unfold maxLen; omega), hbl⟩
end Go.Proofs.Ytjoclfenghenjaa
