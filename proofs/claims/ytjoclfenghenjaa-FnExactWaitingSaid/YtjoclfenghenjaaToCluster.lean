/- laws' copies of Cluster. -/
import Derived.Test.YtjoclfenghenjaaToBase
import Derived.Test.YtjoclfenghenjaaToHost
import Derived.Test.YtjoclfenghenjaaToPlaced
import Derived.Test.YtjoclfenghenjaaToWeights
namespace Go.Proofs.Ytjoclfenghenjaa
open Go.ChangeShapes Go.WideShapes Go.ChangeAt Go.RowKit
set_option linter.unusedVariables false
set_option linter.unusedSimpArgs false

set_option maxRecDepth 100000 in
set_option maxHeartbeats 2000000 in
theorem toCluster_any (x : Cluster) (cs : List Value) (F : List Nat) (w : World) (h : rd w x cs F) (hw : (x.wt : Int) ≤ 1048576) :
    Calls Try.prog 6 #[.agg cs.toArray] w fun e w' => ∃ cs F, e = .returned (.agg cs.toArray) ∧ Own w' w.heap.size x cs F ∧ Below w.heap.size w w' := by
  have HW := Lib.hid hw
  clear hw
  obtain ⟨_, _, _, _, rfl, rfl, hhosts, _, _, _, _, rfl, rfl, hpods, _, _, _, _, rfl, rfl, ⟨rfl, rfl, hnext⟩, hweights⟩ := h
  obtain ⟨Ahosts, chosts, rfl, hhosts⟩ := rd_list hhosts
  obtain ⟨Apods, cpods, rfl, hpods⟩ := rd_list hpods
  have hrweights := hweights
  obtain ⟨rfl, rfl, hweightspack, hweightsspread, hweightssoft⟩ := rd_Weights hweights
  replace hhosts : Sl _ x.hosts Ahosts chosts _ := hhosts
  replace hpods : Sl _ x.pods Apods cpods _ := hpods
  replace hnext : I64 x.next := hnext
  replace hweightspack : I64 x.weights.pack := hweightspack
  replace hweightsspread : I64 x.weights.spread := hweightsspread
  replace hweightssoft : I64 x.weights.soft := hweightssoft
  replace hrweights : rd _ x.weights [.int .i64 x.weights.pack, .int .i64 x.weights.spread, .int .i64 x.weights.soft] _ := hrweights
  simp only [List.cons_append, List.nil_append]
  go_enter Try.func6, Try.ntmps6
  iterate 120 (first | go_step | skip)
  (refine (toHostS_any x.hosts _ _ _ _ (hhosts.ext (by repeat (first | with_reducible exact ext_refl _ | with_reducible assumption | with_reducible refine ext_alloc ?_ _ | with_reducible refine ext_setCell ?_ (by first | exact Nat.le_refl _ | (simp; done) | omega | (simp; omega)) _ | with_reducible refine ext_trans ?_ (by assumption)))) (by have := HW.out; unfold Cluster.wt at this; omega)).mono ?_; rintro e w0 ⟨B0, d0, G0, rfl, hO0, hb0⟩; obtain ⟨hc0, hf0⟩ := bcell hb0; have hz00 : w.heap.size < w0.heap.size := (by have := hb0.size; (try simp at this); omega); have hz01 : w.heap.size + 1 < w0.heap.size := (by have := hb0.size; (try simp at this); omega); have hz02 : w.heap.size + 1 + 1 < w0.heap.size := (by have := hb0.size; (try simp at this); omega); replace hO0 := hO0.mono (B' := w.heap.size + 1 + 1 + 1) (by first | (simp; done) | omega | (simp; omega)))
  dsimp only
  iterate 120 (first | go_step | skip)
  (refine (toPlacedS_any x.pods _ _ _ _ (hpods.ext (by repeat (first | with_reducible exact ext_refl _ | with_reducible assumption | with_reducible refine ext_alloc ?_ _ | with_reducible refine ext_setCell ?_ (by first | exact Nat.le_refl _ | (simp; done) | omega | (simp; omega)) _ | with_reducible refine ext_trans ?_ (by assumption)))) (by have := HW.out; unfold Cluster.wt at this; omega)).mono ?_; rintro e w1 ⟨B1, d1, G1, rfl, hO1, hb1⟩; obtain ⟨hc1, hf1⟩ := bcell hb1; have hz10 : w.heap.size < w1.heap.size := (by have := hb1.size; (try simp at this); omega); have hz11 : w.heap.size + 1 < w1.heap.size := (by have := hb1.size; (try simp at this); omega); have hz12 : w.heap.size + 1 + 1 < w1.heap.size := (by have := hb1.size; (try simp at this); omega); have hy1 : w0.heap.size ≤ w1.heap.size := (by have := hb1.size; (try simp at this); omega); replace hO1 := hO1.mono (B' := w0.heap.size) (by first | (simp; done) | omega | (simp; omega)))
  dsimp only
  iterate 120 (first | go_step | skip)
  (refine (toWeights_any x.weights _ _ _ (Dat.frame hrweights (fun b hb => (show Below w.heap.size w _ from (by repeat (first | with_reducible exact ext_refl _ | with_reducible assumption | with_reducible refine ext_alloc ?_ _ | with_reducible refine ext_setCell ?_ (by first | exact Nat.le_refl _ | (simp; done) | omega | (simp; omega)) _ | with_reducible refine ext_trans ?_ (by assumption)))).block b (Dat.lt hrweights b hb)) (show Below w.heap.size w _ from (by repeat (first | with_reducible exact ext_refl _ | with_reducible assumption | with_reducible refine ext_alloc ?_ _ | with_reducible refine ext_setCell ?_ (by first | exact Nat.le_refl _ | (simp; done) | omega | (simp; omega)) _ | with_reducible refine ext_trans ?_ (by assumption)))).size) ).mono ?_; rintro e w3 ⟨cs3, G3, rfl, hO3, hb3⟩; obtain ⟨hc3, hf3⟩ := bcell hb3; have hz30 : w.heap.size < w3.heap.size := (by have := hb3.size; (try simp at this); omega); have hz31 : w.heap.size + 1 < w3.heap.size := (by have := hb3.size; (try simp at this); omega); have hz32 : w.heap.size + 1 + 1 < w3.heap.size := (by have := hb3.size; (try simp at this); omega); have hy3 : w1.heap.size ≤ w3.heap.size := (by have := hb3.size; (try simp at this); omega); replace hO3 := hO3.mono (B' := w1.heap.size) (by first | (simp; done) | omega | (simp; omega)); have hR3 := hO3.rd; obtain ⟨hck, hG3, hpack3, hspread3, hsoft3⟩ := rd_Weights hR3; subst hck; clear hG3 hR3)
  dsimp only
  iterate 160 (first | go_step | skip)
  refine bodyPost_ret (v := .agg #[.slice B0 x.hosts.length d0, .slice B1 x.pods.length d1, .int .i64 x.next, .int .i64 x.weights.pack, .int .i64 x.weights.spread, .int .i64 x.weights.soft]) (by simp [results, Try.results6, go_sem, *]) rfl ⟨[.slice B0 x.hosts.length d0, .slice B1 x.pods.length d1, .int .i64 x.next, .int .i64 x.weights.pack, .int .i64 x.weights.spread, .int .i64 x.weights.soft], G0 ++ (G1 ++ (G3)), rfl, ?_, by repeat (first | with_reducible exact ext_refl _ | with_reducible assumption | with_reducible refine ext_alloc ?_ _ | with_reducible refine ext_setCell ?_ (by first | exact Nat.le_refl _ | (simp; done) | omega | (simp; omega)) _ | with_reducible refine ext_trans ?_ (by assumption))⟩
  refine Own.up (B' := w.heap.size + 1 + 1 + 1) (fun x : Cluster => (x.hosts, x.pods, x.next, x.weights)) ?_ (by omega)
  refine Own.pair (B2 := w0.heap.size) (c1 := [.slice B0 x.hosts.length d0]) (F1 := G0) ?_ ?_ (by omega) hO0.lt
  · repeat (first | with_reducible exact hO0 | with_reducible refine Own.setCell ?_ (by first | omega | (show _ < _; omega) | (simp; done) | (simp; omega)) _ | with_reducible refine Own.ext ?_ (by assumption) | with_reducible refine Own.alloc ?_ _)
  refine Own.pair (B2 := w1.heap.size) (c1 := [.slice B1 x.pods.length d1]) (F1 := G1) ?_ ?_ (by omega) hO1.lt
  · repeat (first | with_reducible exact hO1 | with_reducible refine Own.setCell ?_ (by first | omega | (show _ < _; omega) | (simp; done) | (simp; omega)) _ | with_reducible refine Own.ext ?_ (by assumption) | with_reducible refine Own.alloc ?_ _)
  refine Own.cons (c1 := [.int .i64 x.next]) (rdInt _ x.next hnext) ?_
  repeat (first | with_reducible exact hO3 | with_reducible refine Own.setCell ?_ (by first | omega | (show _ < _; omega) | (simp; done) | (simp; omega)) _ | with_reducible refine Own.ext ?_ (by assumption) | with_reducible refine Own.alloc ?_ _)
end Go.Proofs.Ytjoclfenghenjaa
