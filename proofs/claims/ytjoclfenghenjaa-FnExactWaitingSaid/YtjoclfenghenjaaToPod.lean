/- laws' copies of Pod. -/
import Derived.Test.YtjoclfenghenjaaToBase
import Derived.Test.YtjoclfenghenjaaToLabel
import Derived.Test.YtjoclfenghenjaaToNeed
import Derived.Test.YtjoclfenghenjaaToTolerance
namespace Go.Proofs.Ytjoclfenghenjaa
open Go.ChangeShapes Go.WideShapes Go.ChangeAt Go.RowKit
set_option linter.unusedVariables false
set_option linter.unusedSimpArgs false

set_option maxRecDepth 100000 in
set_option maxHeartbeats 2000000 in
theorem toPod_any (x : Pod) (cs : List Value) (F : List Nat) (w : World) (h : rd w x cs F) (hw : (x.wt : Int) ≤ 1048576) :
    Calls Try.prog 46 #[.agg cs.toArray] w fun e w' => ∃ cs F, e = .returned (.agg cs.toArray) ∧ Own w' w.heap.size x cs F ∧ Below w.heap.size w w' := by
  have HW := Lib.hid hw
  clear hw
  obtain ⟨_, _, _, _, rfl, rfl, ⟨rfl, rfl, hname⟩, _, _, _, _, rfl, rfl, hlabels, _, _, _, _, rfl, rfl, ⟨rfl, rfl, hcpu⟩, _, _, _, _, rfl, rfl, ⟨rfl, rfl, hmem⟩, _, _, _, _, rfl, rfl, ⟨rfl, rfl, hrank⟩, _, _, _, _, rfl, rfl, hneeds, htolerances⟩ := h
  obtain ⟨Alabels, clabels, rfl, hlabels⟩ := rd_list hlabels
  obtain ⟨Aneeds, cneeds, rfl, hneeds⟩ := rd_list hneeds
  obtain ⟨Atolerances, ctolerances, rfl, htolerances⟩ := rd_list htolerances
  replace hname := sz63 (s := x.name) hname
  replace hlabels : Sl _ x.labels Alabels clabels _ := hlabels
  replace hcpu : I64 x.cpu := hcpu
  replace hmem : I64 x.mem := hmem
  replace hrank : I64 x.rank := hrank
  replace hneeds : Sl _ x.needs Aneeds cneeds _ := hneeds
  replace htolerances : Sl _ x.tolerances Atolerances ctolerances _ := htolerances
  simp only [List.cons_append, List.nil_append]
  go_enter Try.func46, Try.ntmps46
  go_wp2_with (first | (go_at_call 44; refine (toLabelS_any x.labels _ _ _ _ (hlabels.ext (by repeat (first | with_reducible exact ext_refl _ | with_reducible assumption | with_reducible refine ext_alloc ?_ _ | with_reducible refine ext_setCell ?_ (by first | exact Nat.le_refl _ | (simp; done) | omega | (simp; omega)) _ | with_reducible refine ext_trans ?_ (by assumption)))) (by have := HW.out; unfold Pod.wt at this; omega)).mono ?_; rintro e w1 ⟨B1, d1, G1, rfl, hO1, hb1⟩; obtain ⟨hc1, hf1⟩ := bcell hb1; have hz10 : w.heap.size < w1.heap.size := (by have := hb1.size; (try simp at this); omega); have hz11 : w.heap.size + 1 < w1.heap.size := (by have := hb1.size; (try simp at this); omega); have hz12 : w.heap.size + 1 + 1 < w1.heap.size := (by have := hb1.size; (try simp at this); omega); replace hO1 := hO1.mono (B' := w.heap.size + 1 + 1 + 1) (by first | (simp; done) | omega | (simp; omega))) | (go_at_call 58; refine (toNeedS_any x.needs _ _ _ _ (hneeds.ext (by repeat (first | with_reducible exact ext_refl _ | with_reducible assumption | with_reducible refine ext_alloc ?_ _ | with_reducible refine ext_setCell ?_ (by first | exact Nat.le_refl _ | (simp; done) | omega | (simp; omega)) _ | with_reducible refine ext_trans ?_ (by assumption)))) (by have := HW.out; unfold Pod.wt at this; omega)).mono ?_; rintro e w5 ⟨B5, d5, G5, rfl, hO5, hb5⟩; obtain ⟨hc5, hf5⟩ := bcell hb5; have hz50 : w.heap.size < w5.heap.size := (by have := hb5.size; (try simp at this); omega); have hz51 : w.heap.size + 1 < w5.heap.size := (by have := hb5.size; (try simp at this); omega); have hz52 : w.heap.size + 1 + 1 < w5.heap.size := (by have := hb5.size; (try simp at this); omega); have hy5 : w1.heap.size ≤ w5.heap.size := (by have := hb5.size; (try simp at this); omega); replace hO5 := hO5.mono (B' := w1.heap.size) (by first | (simp; done) | omega | (simp; omega))) | (go_at_call 59; refine (toToleranceS_any x.tolerances _ _ _ _ (htolerances.ext (by repeat (first | with_reducible exact ext_refl _ | with_reducible assumption | with_reducible refine ext_alloc ?_ _ | with_reducible refine ext_setCell ?_ (by first | exact Nat.le_refl _ | (simp; done) | omega | (simp; omega)) _ | with_reducible refine ext_trans ?_ (by assumption)))) (by have := HW.out; unfold Pod.wt at this; omega)).mono ?_; rintro e w6 ⟨B6, d6, G6, rfl, hO6, hb6⟩; obtain ⟨hc6, hf6⟩ := bcell hb6; have hz60 : w.heap.size < w6.heap.size := (by have := hb6.size; (try simp at this); omega); have hz61 : w.heap.size + 1 < w6.heap.size := (by have := hb6.size; (try simp at this); omega); have hz62 : w.heap.size + 1 + 1 < w6.heap.size := (by have := hb6.size; (try simp at this); omega); have hy6 : w5.heap.size ≤ w6.heap.size := (by have := hb6.size; (try simp at this); omega); replace hO6 := hO6.mono (B' := w5.heap.size) (by first | (simp; done) | omega | (simp; omega))))
  refine bodyPost_ret (v := .agg #[.string x.name, .slice B1 x.labels.length d1, .int .i64 x.cpu, .int .i64 x.mem, .int .i64 x.rank, .slice B5 x.needs.length d5, .slice B6 x.tolerances.length d6]) (by simp [results, Try.results46, go_sem, *]) rfl ⟨[.string x.name, .slice B1 x.labels.length d1, .int .i64 x.cpu, .int .i64 x.mem, .int .i64 x.rank, .slice B5 x.needs.length d5, .slice B6 x.tolerances.length d6], G1 ++ (G5 ++ (G6)), rfl, ?_, by repeat (first | with_reducible exact ext_refl _ | with_reducible assumption | with_reducible refine ext_alloc ?_ _ | with_reducible refine ext_setCell ?_ (by first | exact Nat.le_refl _ | (simp; done) | omega | (simp; omega)) _ | with_reducible refine ext_trans ?_ (by assumption))⟩
  refine Own.up (B' := w.heap.size + 1 + 1 + 1) (fun x : Pod => (x.name, x.labels, x.cpu, x.mem, x.rank, x.needs, x.tolerances)) ?_ (by omega)
  refine Own.cons (c1 := [.string x.name]) (rdStr _ x.name hname) ?_
  refine Own.pair (B2 := w1.heap.size) (c1 := [.slice B1 x.labels.length d1]) (F1 := G1) ?_ ?_ (by omega) hO1.lt
  · repeat (first | with_reducible exact hO1 | with_reducible refine Own.setCell ?_ (by first | omega | (show _ < _; omega) | (simp; done) | (simp; omega)) _ | with_reducible refine Own.ext ?_ (by assumption) | with_reducible refine Own.alloc ?_ _)
  refine Own.cons (c1 := [.int .i64 x.cpu]) (rdInt _ x.cpu hcpu) ?_
  refine Own.cons (c1 := [.int .i64 x.mem]) (rdInt _ x.mem hmem) ?_
  refine Own.cons (c1 := [.int .i64 x.rank]) (rdInt _ x.rank hrank) ?_
  refine Own.pair (B2 := w5.heap.size) (c1 := [.slice B5 x.needs.length d5]) (F1 := G5) ?_ ?_ (by omega) hO5.lt
  · repeat (first | with_reducible exact hO5 | with_reducible refine Own.setCell ?_ (by first | omega | (show _ < _; omega) | (simp; done) | (simp; omega)) _ | with_reducible refine Own.ext ?_ (by assumption) | with_reducible refine Own.alloc ?_ _)
  repeat (first | with_reducible exact hO6 | with_reducible refine Own.setCell ?_ (by first | omega | (show _ < _; omega) | (simp; done) | (simp; omega)) _ | with_reducible refine Own.ext ?_ (by assumption) | with_reducible refine Own.alloc ?_ _)
end Go.Proofs.Ytjoclfenghenjaa
