/- laws' copies of Weights. -/
import Derived.Test.YtjoclfenghenjaaToBase
namespace Go.Proofs.Ytjoclfenghenjaa
open Go.ChangeShapes Go.WideShapes Go.ChangeAt Go.RowKit
set_option linter.unusedVariables false
set_option linter.unusedSimpArgs false

set_option maxRecDepth 100000 in
set_option maxHeartbeats 2000000 in
theorem toWeights_any (x : Weights) (cs : List Value) (F : List Nat) (w : World) (h : rd w x cs F) :
    Calls Try.prog 18 #[.agg cs.toArray] w fun e w' => ∃ cs F, e = .returned (.agg cs.toArray) ∧ Own w' w.heap.size x cs F ∧ Below w.heap.size w w' := by
  obtain ⟨_, _, _, _, rfl, rfl, ⟨rfl, rfl, hpack⟩, _, _, _, _, rfl, rfl, ⟨rfl, rfl, hspread⟩, ⟨rfl, rfl, hsoft⟩⟩ := h
  replace hpack : I64 x.pack := hpack
  replace hspread : I64 x.spread := hspread
  replace hsoft : I64 x.soft := hsoft
  simp only [List.cons_append, List.nil_append]
  go_enter Try.func18, Try.ntmps18
  go_wp2
  refine bodyPost_ret (v := .agg #[.int .i64 x.pack, .int .i64 x.spread, .int .i64 x.soft]) (by simp [results, Try.results18, go_sem, *]) rfl ⟨[.int .i64 x.pack, .int .i64 x.spread, .int .i64 x.soft], [], rfl, ?_, by repeat (first | with_reducible exact ext_refl _ | with_reducible assumption | with_reducible refine ext_alloc ?_ _ | with_reducible refine ext_setCell ?_ (by first | exact Nat.le_refl _ | (simp; done) | omega | (simp; omega)) _ | with_reducible refine ext_trans ?_ (by assumption))⟩
  refine Own.up (B' := w.heap.size) (fun x : Weights => (x.pack, x.spread, x.soft)) ?_ (by omega)
  refine Own.cons (c1 := [.int .i64 x.pack]) (rdInt _ x.pack hpack) ?_
  refine Own.cons (c1 := [.int .i64 x.spread]) (rdInt _ x.spread hspread) ?_
  exact Own.flat (rdInt _ x.soft hsoft)
end Go.Proofs.Ytjoclfenghenjaa
