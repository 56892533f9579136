/- FnExactWeightsOk: for all weights the program's WeightsOk and the reference's answer the same. No condition. -/
import Derived.Test.YtkgajoichmnaaaaFrame
import Derived.Lib.SmallJoins
namespace Go.Proofs.Ytkgajoichmnaaaa.fnExactWeightsOk
open Go.ChangeShapes Go.WideShapes Go.ChangeAt Go.RowKit
theorem in_any (n a b : Int) (w : World) : Calls Try.prog 28 #[.int .i64 n, .int .i64 a, .int .i64 b] w fun e w' => e = .returned (.bool (decide (a ≤ n) && decide (n ≤ b))) ∧ w = w' := by
  go_enter Try.func28, Try.ntmps28
  go_wp2
  all_goals go_ret
  all_goals simp [*]
  all_goals omega
theorem within_any (n a b : Int) (w : World) : Calls Try.prog 29 #[.int .i64 n, .int .i64 a, .int .i64 b] w fun e w' => e = .returned (.bool (decide (a ≤ n) && decide (n ≤ b))) ∧ w = w' := by
  go_enter Try.func29, Try.ntmps29
  go_wp2
  all_goals go_ret
  all_goals simp [*]
  all_goals omega
def ok (p s f : Int) : Bool := (decide (0 ≤ p) && decide (p ≤ 10)) && (decide (0 ≤ s) && decide (s ≤ 10)) && (decide (0 ≤ f) && decide (f ≤ 10))
theorem spec_any (p s f : Int) (w : World) : Calls Try.prog 9 #[.agg #[.int .i64 p, .int .i64 s, .int .i64 f]] w fun e w' => e = .returned (.bool (ok p s f)) ∧ Below w.heap.size w w' := by
  go_enter Try.func9, Try.ntmps9
  go_wp2_with (go_at_call 28; refine (in_any _ _ _ _).mono ?_; rintro e w' ⟨rfl, rfl⟩)
  all_goals go_ret
  all_goals exact ⟨by simp [ok, *], (Below.refl _ _).alloc (Nat.le_refl _) _⟩
theorem impl_any (p s f : Int) (w : World) : Calls Try.prog 11 #[.agg #[.int .i64 p, .int .i64 s, .int .i64 f]] w fun e w' => e = .returned (.bool (ok p s f)) ∧ Below w.heap.size w w' := by
  go_enter Try.func11, Try.ntmps11
  go_wp2_with (go_at_call 29; refine (within_any _ _ _ _).mono ?_; rintro e w' ⟨rfl, rfl⟩)
  all_goals go_ret
  all_goals exact ⟨by simp [ok, *], (Below.refl _ _).alloc (Nat.le_refl _) _⟩
theorem walk (p s f : Int) (w : World) : Calls Try.prog 3 #[.agg #[.int .i64 p, .int .i64 s, .int .i64 f]] w fun e w' => e = .returned (.bool true) ∧ Below w.heap.size w w' := by
  go_enter Try.func3, Try.ntmps3
  go_wp2_with (first | (go_at_call 9; refine (spec_any _ _ _ _).mono ?_; rintro e w1 ⟨rfl, hb1⟩; obtain ⟨hc1, hf1⟩ := bcell hb1) | (go_at_call 11; refine (impl_any _ _ _ _).mono ?_; rintro e w2 ⟨rfl, hb2⟩) | go_in)
  go_ret
  exact ⟨rfl, by repeat (first | exact ext_refl _ | refine ext_alloc ?_ _ | refine ext_trans ?_ (by assumption))⟩

theorem law_walk {H : Type} {enc : TypeId × Value → H} (W : World) (base : Nat) (args : Array Value) (ds : List (DataW H)) (p : List MemPlace)
    (hval : ∀ (j : Nat) t v, Try.f3.params[j]? = some t → args[j]? = some v → Value.okWide Try.prog W .any base t v)
    (hA : DataW.TrodAll enc Try.prog W 0 (fun _ => true) true Try.f3.params.toList args.toList ds p) (hlt : ∀ x ∈ p, x.block < W.heap.size) :
    Calls Try.prog 3 args W fun e W' => e = .returned (.bool true) ∧ Below W.heap.size W W' := by
  rw [Try.params3] at hA hval
  obtain ⟨v0, vs0, d0, ds0, p0, q0, hargs, rfl, rfl, h0, r0⟩ := trodAll_cons hA
  obtain ⟨rfl, rfl, rfl⟩ := trodAll_nil r0
  obtain rfl : args = #[v0] := by cases args; simp_all
  obtain ⟨c0, c1, c2, y0, y1, y2, m, rfl, rfl, rfl, hy0, hy1, hy2⟩ := Joins.open_agg3 Try.underlying23 (by kernel_rfl) (by kernel_rfl) (hval 0 23 _ rfl rfl) h0
  obtain ⟨a, e0, rfl, wa⟩ := DataW.trod_int Try.underlying3 hy0
  obtain ⟨b, e1, rfl, wb⟩ := DataW.trod_int Try.underlying3 hy1
  obtain ⟨c, e2, rfl, wc⟩ := DataW.trod_int Try.underlying3 hy2
  simp at e0 e1 e2
  subst e0 e1 e2
  exact walk a b c W

theorem own : ownKnob Try.prog.godebug = none := by kernel_rfl
theorem laid : laidOutB Try.prog = true := by kernel_rfl
theorem readable : ∀ t ∈ Try.f3.params.toList, Try.prog.readableRec t = true ∧ t < Try.prog.types.size := by
  have h : (Try.f3.params.toList.all fun t => Try.prog.readableRec t && decide (t < Try.prog.types.size)) = true := by kernel_rfl
  intro t ht
  have := List.all_eq_true.1 h t ht
  simpa using this

theorem law_shape {H : Type} {enc : TypeId × Value → H} {W : World} {args : List Value} {ds : List (DataW H)} {p : List MemPlace}
    (h : DataW.TrodAll enc Try.prog W 0 (fun _ => true) true Try.f3.params.toList args ds p) : ∃ d0, ds = [d0] := by
  rw [Try.params3] at h
  obtain ⟨v0, vs0, d0, ds0, p0, q0, _, rfl, _, _, r0⟩ := trodAll_cons h
  obtain ⟨_, rfl, _⟩ := trodAll_nil r0
  exact ⟨d0, rfl⟩

set_option maxRecDepth 100000 in
theorem lifted (os : Os) (started : os.Started) (H : Type) (enc : TypeId × Value → H) :
    ReturnsInHanded {} Try.checked os 3 .any (Rows.fnExactWeightsOkSpec.pre6 enc Try.prog Try.f3 Rows.fnExactWeightsOkRow.domain false) (Rows.fnExactWeightsOkSpec.post enc Try.prog Try.f3 false true false false) := by
  refine returnsInHanded_of_change (C := Try.checked) own started (by kernel_rfl) Try.func3
    (ChangeSpec.witness6 (enc := enc) (C := Try.checked) false ⟨#[], #[.agg #[.int .i64 0, .int .i64 0, .int .i64 0]], []⟩ 8 (by kernel_rfl) (by kernel_rfl) (by kernel_rfl) (by kernel_rfl)) ?_
  intro W base args ds gs before hval0 hW hcnd _
  have hlt : ∀ x ∈ before, x.block < W.heap.size := fun x hx => hW.lt x hx
  have hW' := hW
  obtain ⟨p, q, hA, hV, rfl, _, _⟩ := hW'
  exact (law_walk W base args ds p hval0 hA (fun x hx => hlt x (List.mem_append_left _ hx))).mono fun e W' ⟨he, hb⟩ =>
    ⟨_, he, law_post laid readable rfl Try.underlying4 rfl (by obtain ⟨d0, hs⟩ := law_shape hA; rw [hs]; rfl) hW hb⟩

theorem over : Rows.fnExactWeightsOkRow.holds Try.pinned (OpenSpec.ofChange Rows.fnExactWeightsOkSpec) :=
  OpenClaim.holds_of_wide 3 Try.f3 rfl rfl rfl rfl rfl rfl rfl ⟨rfl, rfl, rfl, rfl, rfl⟩ rfl rfl rfl rfl rfl (by kernel_rfl) Try.func3 (by kernel_rfl)
    (of_decide_eq_true (by kernel_rfl)) (by unfold Func.isWrapper; first | (rw [if_pos (by decide +kernel)]; kernel_rfl) | (rw [if_neg (by decide +kernel)]; exact ⟨rfl, rfl⟩))
    (fun os started H enc _ => lifted os started H enc)

theorem proved : Rows.FnExactWeightsOkSaid :=
  over
#print axioms proved
end Go.Proofs.Ytkgajoichmnaaaa.fnExactWeightsOk
