/- laws' copies of Placed. -/
import Derived.Test.YtjoclfenghenjaaToBase
import Derived.Test.YtjoclfenghenjaaToPod
namespace Go.Proofs.Ytjoclfenghenjaa
open Go.ChangeShapes Go.WideShapes Go.ChangeAt Go.RowKit
set_option linter.unusedVariables false
set_option linter.unusedSimpArgs false

theorem infoPlaced : (Try.prog.info? 51).map (fun i => (i.zero, i.size, i.bytes)) = some (some (.agg #[.string ⟨#[]⟩, .slice none 0 0, .int .i64 0, .int .i64 0, .int .i64 0, .slice none 0 0, .slice none 0 0, .string ⟨#[]⟩, .int .i64 0]), 9, 136) := by kernel_rfl
theorem elPlaced : ElOk Try.prog 32 51 (.agg #[.string ⟨#[]⟩, .slice none 0 0, .int .i64 0, .int .i64 0, .int .i64 0, .slice none 0 0, .slice none 0 0, .string ⟨#[]⟩, .int .i64 0]) 9 136 := ⟨Try.underlying32, infoPlaced, rfl, by omega⟩
set_option maxRecDepth 100000 in
set_option maxHeartbeats 2000000 in
theorem toPlaced_any (x : Placed) (cs : List Value) (F : List Nat) (w : World) (h : rd w x cs F) (hw : (x.wt : Int) ≤ 1048576) :
    Calls Try.prog 32 #[.agg cs.toArray] w fun e w' => ∃ cs F, e = .returned (.agg cs.toArray) ∧ Own w' w.heap.size x cs F ∧ Below w.heap.size w w' := by
  have HW := Lib.hid hw
  clear hw
  obtain ⟨_, _, _, _, rfl, rfl, hpod, _, _, _, _, rfl, rfl, ⟨rfl, rfl, hon⟩, ⟨rfl, rfl, hseq⟩⟩ := h
  have hrpod := hpod
  obtain ⟨Apodlabels, cpodlabels, Fpodlabels, Apodneeds, cpodneeds, Fpodneeds, Apodtolerances, cpodtolerances, Fpodtolerances, rfl, rfl, hpodname, hpodlabels, hpodcpu, hpodmem, hpodrank, hpodneeds, hpodtolerances⟩ := rd_Pod hpod
  replace hpodname := sz63 (s := x.pod.name) hpodname
  replace hpodlabels : Sl _ x.pod.labels Apodlabels cpodlabels _ := hpodlabels
  replace hpodcpu : I64 x.pod.cpu := hpodcpu
  replace hpodmem : I64 x.pod.mem := hpodmem
  replace hpodrank : I64 x.pod.rank := hpodrank
  replace hpodneeds : Sl _ x.pod.needs Apodneeds cpodneeds _ := hpodneeds
  replace hpodtolerances : Sl _ x.pod.tolerances Apodtolerances cpodtolerances _ := hpodtolerances
  replace hon := sz63 (s := x.on) hon
  replace hseq : I64 x.seq := hseq
  replace hrpod : rd _ x.pod [.string x.pod.name, .slice Apodlabels x.pod.labels.length cpodlabels, .int .i64 x.pod.cpu, .int .i64 x.pod.mem, .int .i64 x.pod.rank, .slice Apodneeds x.pod.needs.length cpodneeds, .slice Apodtolerances x.pod.tolerances.length cpodtolerances] _ := hrpod
  simp only [List.cons_append, List.nil_append]
  go_enter Try.func32, Try.ntmps32
  iterate 120 (first | go_step | skip)
  (refine calls_gen3 ?_; intro W0 x0 x1 x2 xz xb; refine (toPod_any x.pod _ _ W0 (Dat.frame hrpod (fun b hb => xb.block b (Dat.lt hrpod b hb)) xb.size) (by have := HW.out; unfold Placed.wt at this; omega)).mono ?_; rintro e w0 ⟨cs0, G0, rfl, hO0, hb0⟩; have hs0 := hb0.size; rw [xz] at hs0; replace x0 := (hb0.block _ (by omega)).trans x0; replace x1 := (hb0.block _ (by omega)).trans x1; replace x2 := (hb0.block _ (by omega)).trans x2; have hc0 := cells_row x0; have hc1 := cells_row x1; have hc2 := cells_row x2; have hf0 := frozen_row x0; have hf1 := frozen_row x1; have hf2 := frozen_row x2; clear x0 x1 x2; have hz00 : w.heap.size < w0.heap.size := (by omega); have hz01 : w.heap.size + 1 < w0.heap.size := (by omega); have hz02 : w.heap.size + 1 + 1 < w0.heap.size := (by omega); rw [xz] at hO0; have hR0 := hO0.rd; obtain ⟨Alabels0, clabels0, Flabels0, Aneeds0, cneeds0, Fneeds0, Atolerances0, ctolerances0, Ftolerances0, hck, hG0, hname0, hlabels0, hcpu0, hmem0, hrank0, hneeds0, htolerances0⟩ := rd_Pod hR0; subst hck; clear hG0 hR0)
  dsimp only
  iterate 160 (first | go_step | skip)
  refine bodyPost_ret (v := .agg #[.string x.pod.name, .slice Alabels0 x.pod.labels.length clabels0, .int .i64 x.pod.cpu, .int .i64 x.pod.mem, .int .i64 x.pod.rank, .slice Aneeds0 x.pod.needs.length cneeds0, .slice Atolerances0 x.pod.tolerances.length ctolerances0, .string x.on, .int .i64 x.seq]) (by simp [results, Try.results32, go_sem, *]) rfl ⟨[.string x.pod.name, .slice Alabels0 x.pod.labels.length clabels0, .int .i64 x.pod.cpu, .int .i64 x.pod.mem, .int .i64 x.pod.rank, .slice Aneeds0 x.pod.needs.length cneeds0, .slice Atolerances0 x.pod.tolerances.length ctolerances0, .string x.on, .int .i64 x.seq], G0 ++ ([]), rfl, ?_, by repeat (first | with_reducible exact ext_refl _ | with_reducible assumption | with_reducible refine ext_alloc ?_ _ | with_reducible refine ext_setCell ?_ (by first | exact Nat.le_refl _ | (simp; done) | omega | (simp; omega)) _ | with_reducible refine ext_trans ?_ (by assumption))⟩
  refine Own.up (B' := w.heap.size + 1 + 1 + 1) (fun x : Placed => (x.pod, x.on, x.seq)) ?_ (by omega)
  refine Own.pair (B2 := w0.heap.size) (c1 := [.string x.pod.name, .slice Alabels0 x.pod.labels.length clabels0, .int .i64 x.pod.cpu, .int .i64 x.pod.mem, .int .i64 x.pod.rank, .slice Aneeds0 x.pod.needs.length cneeds0, .slice Atolerances0 x.pod.tolerances.length ctolerances0]) (F1 := G0) ?_ ?_ (by omega) hO0.lt
  · repeat (first | with_reducible exact hO0 | with_reducible refine Own.setCell ?_ (by first | omega | (show _ < _; omega) | (simp; done) | (simp; omega)) _ | with_reducible refine Own.ext ?_ (by assumption) | with_reducible refine Own.alloc ?_ _)
  refine Own.cons (c1 := [.string x.on]) (rdStr _ x.on hon) ?_
  exact Own.flat (rdInt _ x.seq hseq)
set_option maxHeartbeats 1000000 in
theorem toPlacedS_any (xs : List Placed) (A : Option Addr) (c : Nat) (F : List Nat) (w : World) (h : Sl w xs A c F) (hl : (wtL Placed.wt xs : Int) ≤ 1048576) :
    Calls Try.prog 17 #[.slice A xs.length c] w fun e w' => ∃ A c F, e = .returned (.slice A xs.length c) ∧ Own w' w.heap.size xs [.slice A xs.length c] F ∧ Below w.heap.size w w' := by
  have hlen : (xs.length : Int) ≤ 1048576 := by have := wtL_len Placed.wt xs; omega
  have HL := Lib.hid hl
  clear hl
  have hmk := run_make_full elPlaced (by omega) xs.length (by omega)
  go_enter Try.func17, Try.ntmps17
  go_wp2_with fail
  go_loopw [4] (fun i wr => ∃ (k : Nat) (ds : List Value) (G : List Nat), k ≤ xs.length ∧ i = .int .i64 k ∧ Fill wr w.heap.size 51 (xs.length * 9) ds ∧ Hid (ds.length = k * 9) ∧ OwnCells wr (w.heap.size + 1) (xs.take k) ds G ∧ Below w.heap.size w wr) (fun i _ => xs.length - (intOf i).toNat)
  case atStart => exact ⟨0, [], [], Nat.zero_le _, rfl, Fill.made w _ _ _ (by simp [madeCells]), by show _ = _; simp, .nil _ _, ext_alloc (ext_refl _) _⟩
  case round =>
    obtain ⟨k, ds, G, hk, rfl, hf, hd, hO, hbl⟩ := hrel
    by_cases hlt : k < xs.length
    · obtain ⟨b, o, ck, Fk, rfl, hbF, hbs, hr, hsub, hc⟩ := (h.ext hbl).get hlt
      obtain ⟨Apodlabels1, cpodlabels1, Fpodlabels1, Apodneeds1, cpodneeds1, Fpodneeds1, Apodtolerances1, cpodtolerances1, Fpodtolerances1, hck, rfl, hpodname1, hpodlabels1, hpodcpu1, hpodmem1, hpodrank1, hpodneeds1, hpodtolerances1, hon1, hseq1⟩ := rd_Placed hr
      subst hck
      have q0 : wr.cell? ⟨b, o + k * 9, none⟩ = some (.string xs[k].pod.name) := by exact hc 0 _ rfl
      have q1 : wr.cell? ⟨b, o + k * 9 + 1, none⟩ = some (.slice Apodlabels1 xs[k].pod.labels.length cpodlabels1) := by rw [Nat.add_assoc]; exact hc 1 _ rfl
      have q2 : wr.cell? ⟨b, o + k * 9 + 2, none⟩ = some (.int .i64 xs[k].pod.cpu) := by rw [Nat.add_assoc]; exact hc 2 _ rfl
      have q3 : wr.cell? ⟨b, o + k * 9 + 3, none⟩ = some (.int .i64 xs[k].pod.mem) := by rw [Nat.add_assoc]; exact hc 3 _ rfl
      have q4 : wr.cell? ⟨b, o + k * 9 + 4, none⟩ = some (.int .i64 xs[k].pod.rank) := by rw [Nat.add_assoc]; exact hc 4 _ rfl
      have q5 : wr.cell? ⟨b, o + k * 9 + 5, none⟩ = some (.slice Apodneeds1 xs[k].pod.needs.length cpodneeds1) := by rw [Nat.add_assoc]; exact hc 5 _ rfl
      have q6 : wr.cell? ⟨b, o + k * 9 + 6, none⟩ = some (.slice Apodtolerances1 xs[k].pod.tolerances.length cpodtolerances1) := by rw [Nat.add_assoc]; exact hc 6 _ rfl
      have q7 : wr.cell? ⟨b, o + k * 9 + 7, none⟩ = some (.string xs[k].on) := by rw [Nat.add_assoc]; exact hc 7 _ rfl
      have q8 : wr.cell? ⟨b, o + k * 9 + 8, none⟩ = some (.int .i64 xs[k].seq) := by rw [Nat.add_assoc]; exact hc 8 _ rfl
      clear hc
      have hwk := wtL_get (f := Placed.wt) hlt
      have hwk2 : (Placed.wt xs[k] : Int) ≤ 1048576 := by have := HL.out; omega
      clear hwk
      go_wp2_with (go_at_call 32; refine (toPlaced_any xs[k] _ _ _ hr hwk2).mono ?_; rintro e w2 ⟨cs2, G2, rfl, hO2, hb2⟩
                   have hR2 := hO2.rd
                   obtain ⟨Apodlabels2, cpodlabels2, Fpodlabels2, Apodneeds2, cpodneeds2, Fpodneeds2, Apodtolerances2, cpodtolerances2, Fpodtolerances2, hck, hG2, hpodname2, hpodlabels2, hpodcpu2, hpodmem2, hpodrank2, hpodneeds2, hpodtolerances2, hon2, hseq2⟩ := rd_Placed hR2
                   subst hck
                   have hf2 := hf.keep (hb2.block _ hf.lt)
                   obtain ⟨u0, hu0⟩ := hf2.cell (i := k * 9) (by omega); have hfz0 := hf2.frozen (k * 9)
                   obtain ⟨u1, hu1⟩ := hf2.cell (i := k * 9 + 1) (by omega); have hfz1 := hf2.frozen (k * 9 + 1)
                   obtain ⟨u2, hu2⟩ := hf2.cell (i := k * 9 + 2) (by omega); have hfz2 := hf2.frozen (k * 9 + 2)
                   obtain ⟨u3, hu3⟩ := hf2.cell (i := k * 9 + 3) (by omega); have hfz3 := hf2.frozen (k * 9 + 3)
                   obtain ⟨u4, hu4⟩ := hf2.cell (i := k * 9 + 4) (by omega); have hfz4 := hf2.frozen (k * 9 + 4)
                   obtain ⟨u5, hu5⟩ := hf2.cell (i := k * 9 + 5) (by omega); have hfz5 := hf2.frozen (k * 9 + 5)
                   obtain ⟨u6, hu6⟩ := hf2.cell (i := k * 9 + 6) (by omega); have hfz6 := hf2.frozen (k * 9 + 6)
                   obtain ⟨u7, hu7⟩ := hf2.cell (i := k * 9 + 7) (by omega); have hfz7 := hf2.frozen (k * 9 + 7)
                   obtain ⟨u8, hu8⟩ := hf2.cell (i := k * 9 + 8) (by omega); have hfz8 := hf2.frozen (k * 9 + 8))
      have hF := (((((((((hf2.store_at (o := k * 9) (by have := hd.out; omega) (by omega) (.string xs[k].pod.name)).store_at (o := k * 9 + 1) (by simp [hd.out]) (by omega) (.slice Apodlabels2 xs[k].pod.labels.length cpodlabels2)).store_at (o := k * 9 + 2) (by simp [hd.out]) (by omega) (.int .i64 xs[k].pod.cpu)).store_at (o := k * 9 + 3) (by simp [hd.out]) (by omega) (.int .i64 xs[k].pod.mem)).store_at (o := k * 9 + 4) (by simp [hd.out]) (by omega) (.int .i64 xs[k].pod.rank)).store_at (o := k * 9 + 5) (by simp [hd.out]) (by omega) (.slice Apodneeds2 xs[k].pod.needs.length cpodneeds2)).store_at (o := k * 9 + 6) (by simp [hd.out]) (by omega) (.slice Apodtolerances2 xs[k].pod.tolerances.length cpodtolerances2)).store_at (o := k * 9 + 7) (by simp [hd.out]) (by omega) (.string xs[k].on)).store_at (o := k * 9 + 8) (by simp [hd.out]) (by omega) (.int .i64 xs[k].seq))
      have hO3 := hO.ext hb2
      replace hO3 := hO3.setCell (p := ⟨w.heap.size, k * 9, none⟩) (Nat.lt_succ_self _) (.string xs[k].pod.name)
      replace hO2 := hO2.setCell (p := ⟨w.heap.size, k * 9, none⟩) hf.lt (.string xs[k].pod.name)
      replace hO3 := hO3.setCell (p := ⟨w.heap.size, k * 9 + 1, none⟩) (Nat.lt_succ_self _) (.slice Apodlabels2 xs[k].pod.labels.length cpodlabels2)
      replace hO2 := hO2.setCell (p := ⟨w.heap.size, k * 9 + 1, none⟩) hf.lt (.slice Apodlabels2 xs[k].pod.labels.length cpodlabels2)
      replace hO3 := hO3.setCell (p := ⟨w.heap.size, k * 9 + 2, none⟩) (Nat.lt_succ_self _) (.int .i64 xs[k].pod.cpu)
      replace hO2 := hO2.setCell (p := ⟨w.heap.size, k * 9 + 2, none⟩) hf.lt (.int .i64 xs[k].pod.cpu)
      replace hO3 := hO3.setCell (p := ⟨w.heap.size, k * 9 + 3, none⟩) (Nat.lt_succ_self _) (.int .i64 xs[k].pod.mem)
      replace hO2 := hO2.setCell (p := ⟨w.heap.size, k * 9 + 3, none⟩) hf.lt (.int .i64 xs[k].pod.mem)
      replace hO3 := hO3.setCell (p := ⟨w.heap.size, k * 9 + 4, none⟩) (Nat.lt_succ_self _) (.int .i64 xs[k].pod.rank)
      replace hO2 := hO2.setCell (p := ⟨w.heap.size, k * 9 + 4, none⟩) hf.lt (.int .i64 xs[k].pod.rank)
      replace hO3 := hO3.setCell (p := ⟨w.heap.size, k * 9 + 5, none⟩) (Nat.lt_succ_self _) (.slice Apodneeds2 xs[k].pod.needs.length cpodneeds2)
      replace hO2 := hO2.setCell (p := ⟨w.heap.size, k * 9 + 5, none⟩) hf.lt (.slice Apodneeds2 xs[k].pod.needs.length cpodneeds2)
      replace hO3 := hO3.setCell (p := ⟨w.heap.size, k * 9 + 6, none⟩) (Nat.lt_succ_self _) (.slice Apodtolerances2 xs[k].pod.tolerances.length cpodtolerances2)
      replace hO2 := hO2.setCell (p := ⟨w.heap.size, k * 9 + 6, none⟩) hf.lt (.slice Apodtolerances2 xs[k].pod.tolerances.length cpodtolerances2)
      replace hO3 := hO3.setCell (p := ⟨w.heap.size, k * 9 + 7, none⟩) (Nat.lt_succ_self _) (.string xs[k].on)
      replace hO2 := hO2.setCell (p := ⟨w.heap.size, k * 9 + 7, none⟩) hf.lt (.string xs[k].on)
      replace hO3 := hO3.setCell (p := ⟨w.heap.size, k * 9 + 8, none⟩) (Nat.lt_succ_self _) (.int .i64 xs[k].seq)
      replace hO2 := hO2.setCell (p := ⟨w.heap.size, k * 9 + 8, none⟩) hf.lt (.int .i64 xs[k].seq)
      have hP := hO3.push (B' := wr.heap.size) (x := xs[k]) hO2 hf.lt hO.lt
      rw [← List.take_succ_eq_append_getElem hlt] at hP
      (try simp only [List.append_assoc, List.cons_append, List.nil_append] at hF)
      exact ⟨⟨k + 1, _, _, by omega, by go_num, hF, by show _ = _; (simp [hd.out]) <;> omega, hP, ext_setCell (ext_setCell (ext_setCell (ext_setCell (ext_setCell (ext_setCell (ext_setCell (ext_setCell (ext_setCell (ext_trans hbl hb2) (Nat.le_refl _) _) (Nat.le_refl _) _) (Nat.le_refl _) _) (Nat.le_refl _) _) (Nat.le_refl _) _) (Nat.le_refl _) _) (Nat.le_refl _) _) (Nat.le_refl _) _) (Nat.le_refl _) _⟩, by simp [intOf]; omega⟩
    · have hkl : k = xs.length := by omega
      subst hkl
      go_wp2
      go_ret
      rw [List.take_length] at hO
      exact ⟨_, _, _, rfl, Own.of_fill hf hO (Nat.le_refl _) (by unfold maxLen; omega), hbl⟩
end Go.Proofs.Ytjoclfenghenjaa
