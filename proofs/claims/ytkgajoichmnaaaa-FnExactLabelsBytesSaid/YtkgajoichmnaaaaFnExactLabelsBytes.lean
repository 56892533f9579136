/- FnExactLabelsBytes: for every list of labels the program's LabelsBytes and the reference's answer the same bytes, and the program leaves its argument as it was. No condition. -/
import Derived.Test.YtkgajoichmnaaaaLabelsBytes
import Derived.Test.YtkgajoichmnaaaaEq
import Derived.Test.YtkgajoichmnaaaaToLabel
import Derived.Test.YtkgajoichmnaaaaOpens
namespace Go.Proofs.Ytkgajoichmnaaaa.fnExactLabelsBytes
open Dat (rd)
open Go.ChangeShapes Go.WideShapes Go.ChangeAt Go.RowKit
set_option linter.unusedVariables false
set_option linter.unusedSimpArgs false
set_option maxHeartbeats 1000000 in
theorem walk (xs : List Label) (A : Option Addr) (c : Nat) (F : List Nat) (w : World) (h : Sl w xs A c F) :
    Calls Try.prog 6 #[.slice A xs.length c] w fun e w' => e = .returned (.bool true) ∧ Below w.heap.size w w' := by
  by_cases hw : (wtL Label.wt xs : Int) ≤ 1048576
  · have hsz : szR (wtL Label.wt xs) 1048576 = 1048576 - wtL Label.wt xs := by have := szR_spec (wtL Label.wt xs) 1048576; omega
    have HSZ := Lib.hid hsz
    clear hsz
    have hb0 : (0 : Int) ≤ 1048576 - wtL Label.wt xs := by omega
    have hsame := (same_iff eqLabel_iff xs xs).2 rfl
    have HSAME := Lib.hid hsame
    clear hsame
    have HWT := Lib.hid hw
    clear hw
    go_enter Try.func6, Try.ntmps6
    go_wp2_with fail
    refine (szLabelS_any xs _ _ _ _ _ h (by omega) (by omega)).mono ?_
    rw [HSZ.out]
    rintro e w1 ⟨rfl, hb1⟩
    go_wp2_with fail
    refine (toLabelS_any xs _ _ _ _ (h.ext hb1) HWT.out).mono ?_
    rintro e w2 ⟨A2, c2, F2, rfl, hO2, hb2⟩
    go_wp2_with fail
    refine (LabelsBytes_spec xs _ _ _ _ hO2.rd (labels_small HWT.out).1 (labels_small HWT.out).2).mono ?_
    rintro e w3 ⟨rfl, hb3⟩
    go_wp2_with fail
    have h3 : Below w.heap.size w w3 := ext_trans (ext_trans hb1 hb2) hb3
    refine (toLabelS_any xs _ _ _ _ (h.ext h3) HWT.out).mono ?_
    rintro e w4 ⟨A4, c4, F4, rfl, hO4, hb4⟩
    go_wp2_with fail
    refine (LabelsBytes_impl xs _ _ _ _ hO4.rd (labels_small HWT.out).1 (labels_small HWT.out).2).mono ?_
    rintro e w5 ⟨rfl, hb5⟩
    go_wp2_with fail
    have h5 : Below w.heap.size w w5 := ext_trans (ext_trans h3 hb4) hb5
    refine (toLabelS_any xs _ _ _ _ (h.ext h5) HWT.out).mono ?_
    rintro e w6 ⟨A6, c6, F6, rfl, hO6, hb6⟩
    go_wp2_with fail
    refine (eqLabelS_any xs xs _ _ _ _ _ _ _ ((hO4.ext hb5).ext hb6).rd hO6.rd).mono ?_
    rw [HSAME.out]
    rintro e w7 ⟨rfl, hb7⟩
    go_wp2
    go_ret
    exact ⟨rfl, ext_trans (ext_trans h5 hb6) hb7⟩
  · have hsz : szR (wtL Label.wt xs) 1048576 = -1 := by have := szR_spec (wtL Label.wt xs) 1048576; omega
    have HSZ := Lib.hid hsz
    clear hsz hw
    go_enter Try.func6, Try.ntmps6
    go_wp2_with fail
    refine (szLabelS_any xs _ _ _ _ _ h (by omega) (by omega)).mono ?_
    rw [HSZ.out]
    rintro e w1 ⟨rfl, hb1⟩
    go_wp2
    go_ret
    exact ⟨rfl, hb1⟩

theorem law_walk {H : Type} {enc : TypeId × Value → H} (W : World) (base : Nat) (args : Array Value) (ds : List (DataW H)) (p : List MemPlace)
    (hval : ∀ (j : Nat) t v, Try.f6.params[j]? = some t → args[j]? = some v → Value.okWide Try.prog W .any base t v)
    (hA : DataW.TrodAll enc Try.prog W 0 (fun _ => true) true Try.f6.params.toList args.toList ds p) (hlt : ∀ x ∈ p, x.block < W.heap.size) :
    Calls Try.prog 6 args W fun e W' => e = .returned (.bool true) ∧ Below W.heap.size W W' := by
  rw [Try.params6] at hA hval
  obtain ⟨v0, vs0, d0, ds0, p0, q0, hargs, rfl, rfl, h0, r0⟩ := trodAll_cons hA
  obtain ⟨rfl, rfl, rfl⟩ := trodAll_nil r0
  obtain rfl : args = #[v0] := by cases args; simp_all
  obtain ⟨fuel, hf⟩ := h0
  obtain ⟨xs, F, hr⟩ := opens_LabelS H enc W 0 fuel _ _ _ _ hf
  obtain ⟨A, c, hv, hS⟩ := rd_list hr
  obtain ⟨B, n, d, rfl⟩ := okWide_slice Try.underlying33 (hval 0 33 v0 rfl rfl)
  simp [Value.cells] at hv
  obtain ⟨rfl, rfl, rfl⟩ := hv
  exact walk xs B d F W hS

theorem own : ownKnob Try.prog.godebug = none := by kernel_rfl
theorem laid : laidOutB Try.prog = true := by kernel_rfl
theorem readable : ∀ t ∈ Try.f6.params.toList, Try.prog.readableRec t = true ∧ t < Try.prog.types.size := by
  have h : (Try.f6.params.toList.all fun t => Try.prog.readableRec t && decide (t < Try.prog.types.size)) = true := by kernel_rfl
  intro t ht
  have := List.all_eq_true.1 h t ht
  simpa using this

theorem law_shape {H : Type} {enc : TypeId × Value → H} {W : World} {args : List Value} {ds : List (DataW H)} {p : List MemPlace}
    (h : DataW.TrodAll enc Try.prog W 0 (fun _ => true) true Try.f6.params.toList args ds p) : ∃ d0, ds = [d0] := by
  rw [Try.params6] at h
  obtain ⟨v0, vs0, d0, ds0, p0, q0, _, rfl, _, _, r0⟩ := trodAll_cons h
  obtain ⟨_, rfl, _⟩ := trodAll_nil r0
  exact ⟨d0, rfl⟩

set_option maxRecDepth 100000 in
theorem lifted (os : Os) (started : os.Started) (H : Type) (enc : TypeId × Value → H) :
    ReturnsInHanded {} Try.checked os 6 .any (Rows.fnExactLabelsBytesSpec.pre6 enc Try.prog Try.f6 Rows.fnExactLabelsBytesRow.domain false) (Rows.fnExactLabelsBytesSpec.post enc Try.prog Try.f6 false true false false) := by
  refine returnsInHanded_of_change (C := Try.checked) own started (by kernel_rfl) Try.func6
    (ChangeSpec.witness6 (enc := enc) (C := Try.checked) false ⟨#[], #[.slice none 0 0], []⟩ 8 (by kernel_rfl) (by kernel_rfl) (by kernel_rfl) (by kernel_rfl)) ?_
  intro W base args ds gs before hval0 hW hcnd _
  have hlt : ∀ x ∈ before, x.block < W.heap.size := fun x hx => hW.lt x hx
  have hW' := hW
  obtain ⟨p, q, hA, hV, rfl, _, _⟩ := hW'
  exact (law_walk W base args ds p hval0 hA (fun x hx => hlt x (List.mem_append_left _ hx))).mono fun e W' ⟨he, hb⟩ =>
    ⟨_, he, law_post laid readable rfl Try.underlying4 rfl (by obtain ⟨d0, hs⟩ := law_shape hA; rw [hs]; rfl) hW hb⟩

theorem over : Rows.fnExactLabelsBytesRow.holds Try.pinned (OpenSpec.ofChange Rows.fnExactLabelsBytesSpec) :=
  OpenClaim.holds_of_wide 6 Try.f6 rfl rfl rfl rfl rfl rfl rfl ⟨rfl, rfl, rfl, rfl, rfl⟩ rfl rfl rfl rfl rfl (by kernel_rfl) Try.func6 (by kernel_rfl)
    (of_decide_eq_true (by kernel_rfl)) (by unfold Func.isWrapper; first | (rw [if_pos (by decide +kernel)]; kernel_rfl) | (rw [if_neg (by decide +kernel)]; exact ⟨rfl, rfl⟩))
    (fun os started H enc _ => lifted os started H enc)

theorem proved : Rows.FnExactLabelsBytesSaid :=
  over
#print axioms proved
end Go.Proofs.Ytkgajoichmnaaaa.fnExactLabelsBytes
