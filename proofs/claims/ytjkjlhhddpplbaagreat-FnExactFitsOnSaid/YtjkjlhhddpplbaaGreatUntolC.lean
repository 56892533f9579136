/- slices.ContainsFunc of the closure of Untolerated. No condition. -/
import Derived.Test.YtjkjlhhddpplbaaGreatUntolI
namespace Go.Proofs.YtjkjlhhddpplbaaGreat
open Go.ChangeShapes Go.WideShapes Go.ChangeAt Go.RowKit
set_option linter.unusedVariables false
set_option linter.unusedSimpArgs false
set_option maxRecDepth 100000 in
set_option maxHeartbeats 1000000 in
theorem Untol_contains (ts : List Tolerance) (A : Option Addr) (n c : Nat) (F : List Nat) (x : Taint) (q : Nat) (w : World) (h : Sl w ts A c F) (hn : n = ts.length) (hq0 : w.cell? ⟨q, 0, none⟩ = some (.string x.key)) (hq1 : w.cell? ⟨q, 1, none⟩ = some (.string x.value)) (hq2 : w.cell? ⟨q, 2, none⟩ = some (.int .i64 x.effect)) (hx : I64 x.effect) (hql : q < w.heap.size) (hl : (ts.length : Int) ≤ 1048576)
    (hsm : (∀ t ∈ ts, (t.key.size : Int) ≤ 1048576 ∧ (t.value.size : Int) ≤ 1048576)) (hks' : (x.key.size : Int) ≤ 1048576) (hvs' : (x.value.size : Int) ≤ 1048576) :
    Calls Tryz.prog 122 #[.slice A n c, .func (.func 123) #[] #[.pointer (some ⟨q, 0, none⟩)]] w fun e w' => e = .returned (.bool (ts.any fun t => tolerR t x)) ∧ Below w.heap.size w w' := by
  subst hn
  have hab := any_idx (fun t => tolerR t x) ts
  have HSM := Lib.hid hsm
  clear hsm
  have hix := Untol_index ts A _ c F x q w h rfl hq0 hq1 hq2 hx hql hl HSM.out hks' hvs'
  generalize idxI (fun t => tolerR t x) ts = z at hab hix
  rw [hab]
  clear hab HSM
  go_enter Tryz.func122, Tryz.ntmps122
  go_wp2_with fail
  refine hix.mono ?_
  rintro e w2 ⟨rfl, hb2⟩
  go_wp2
  go_ret
  exact ⟨rfl, hb2⟩

end Go.Proofs.YtjkjlhhddpplbaaGreat
