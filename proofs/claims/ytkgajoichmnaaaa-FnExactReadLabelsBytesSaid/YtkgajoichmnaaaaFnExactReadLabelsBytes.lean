/- FnExactReadLabelsBytes: for every text and place the program's ReadLabelsBytes and the reference's read the same labels, in memory of their own, and end at the same place. No condition. -/
import Derived.Test.YtkgajoichmnaaaaRdLB
import Derived.Test.YtkgajoichmnaaaaLaw
import Derived.Test.YtkgajoichmnaaaaMiLabel
import Derived.StillTailTactics
namespace Go.Proofs.Ytkgajoichmnaaaa.fnExactReadLabelsBytes
open Dat (rd)
open Go.ChangeShapes Go.WideShapes Go.ChangeAt Go.RowKit
set_option linter.unusedVariables false
set_option linter.unusedSimpArgs false
set_option maxRecDepth 100000 in
set_option maxHeartbeats 4000000 in
theorem walk (s : ByteArray) (a : Int) (w : World) (ha : I64 a) :
    Calls Try.prog 8 #[.string s, .int .i64 a] w fun e w' => e = .returned (.bool true) ∧ Below w.heap.size w w' := by
  by_cases hs : (1048576 : Int) < s.size
  · go_enter Try.func8, Try.ntmps8
    go_wp2
    go_ret
    exact ⟨rfl, ext_refl _⟩
  have hs2 : (s.size : Int) ≤ 1048576 := by omega
  have HSP := Lib.hid (fun wq => ReadLabels_spec s a wq hs2 ha)
  have HIM := Lib.hid (fun wq => ReadLabels_impl s a wq hs2 ha)
  have hcnt : (cntL cntLabel (readLabelsI s a).1 : Int) ≤ 1048576 := readLabelsI_cnt s a
  generalize readLabelsI s a = R at *
  obtain ⟨xs, n⟩ := R
  dsimp only at *
  have HSL := Lib.hid (same_self (fun l => (eqLabel_iff l l).2 rfl) xs)
  have hnn : (n != n) = false := by simp
  go_enter Try.func8, Try.ntmps8
  go_wp2_with fail
  refine (HSP.out _).mono ?_
  rintro e w1 ⟨A1, c1, G1, rfl, hO1, hb1⟩
  obtain ⟨hc1, hf1⟩ := bcell hb1
  have hB1 : Below w.heap.size w w1 := ext_trans (by repeat (first | with_reducible exact ext_refl _ | with_reducible assumption | with_reducible refine ext_alloc ?_ _ | with_reducible refine ext_drew ?_ | with_reducible refine ext_trans ?_ (by assumption))) hb1
  have hlt1 := hO1.lt
  go_wp2_with fail
  refine (HIM.out _).mono ?_
  rintro e w2 ⟨A2, c2, G2, rfl, hO2, hb2⟩
  obtain ⟨hc2, hf2⟩ := bcell hb2
  have hB2 : Below w.heap.size w w2 := ext_trans (by repeat (first | with_reducible exact ext_refl _ | with_reducible assumption | with_reducible refine ext_alloc ?_ _ | with_reducible refine ext_drew ?_ | with_reducible refine ext_trans ?_ (by assumption))) hb2
  first | replace hO1 := Own.ext hO1 hb2 | replace hO1 := Own.ext (hO1.alloc _) hb2
  have hbs2 := hO2.base
  have hs12 : w1.heap.size ≤ w2.heap.size := by have := hb2.size; (try simp at this); omega
  go_wp2_with fail
  refine (eqLabelS_any xs xs A2 A1 _ _ _ _ _ hO2.rd hO1.rd).mono ?_
  rw [HSL.out]
  rintro e w3 ⟨rfl, hb3⟩
  obtain ⟨hc3, hf3⟩ := bcell hb3
  have hB3 : Below w.heap.size w w3 := ext_trans (by repeat (first | with_reducible exact ext_refl _ | with_reducible assumption | with_reducible refine ext_alloc ?_ _ | with_reducible refine ext_drew ?_ | with_reducible refine ext_trans ?_ (by assumption))) hb3
  first | replace hO1 := Own.ext hO1 hb3 | replace hO1 := Own.ext (hO1.alloc _) hb3
  first | replace hO2 := Own.ext hO2 hb3 | replace hO2 := Own.ext (hO2.alloc _) hb3
  replace hbs2 : ∀ b ∈ G2, w1.heap.size ≤ b := fun b hb => by have := hbs2 b hb; (try simp at this); omega
  have hs13 : w1.heap.size ≤ w3.heap.size := by have := hb3.size; (try simp at this); omega
  go_wp2_with fail
  refine (markLabelS_any xs A2 _ _ G2 _ 1 _ hO2 rfl (by omega) (by omega)).mono ?_
  rintro e w4 ⟨rfl, hO4, hU4⟩
  have hb4 : Below w1.heap.size w3 w4 := hU4.below hbs2 (by omega)
  obtain ⟨hc4, hf4⟩ := bcellB hb4
  have hB4 : Below w.heap.size w w4 := hB3.trans (hb4.mono (by have := hB1.size; omega))
  replace hO1 := hU4.own hO1 (fun b hb hg => by have := hlt1 b hb; have := hbs2 b hg; omega)
  go_wp2_with fail
  refine (heldLabelS_any (mkL mkLabel cntLabel xs 1) A2 _ _ G2 1 _ hO4.rd (by rw [mkL_len]) (mkL_idem cntLabel_mk mkLabel_idem _ _) (by omega) (by rw [cntL_mkL cntLabel_mk]; omega)).mono ?_
  rw [cntL_mkL cntLabel_mk]
  rintro e w5 ⟨rfl, hb5⟩
  obtain ⟨hc5, hf5⟩ := bcell hb5
  have hB5 : Below w.heap.size w w5 := ext_trans (by repeat (first | with_reducible exact ext_refl _ | with_reducible assumption | with_reducible refine ext_alloc ?_ _ | with_reducible refine ext_drew ?_ | with_reducible refine ext_trans ?_ (by assumption))) hb5
  first | replace hO1 := Own.ext hO1 hb5 | replace hO1 := Own.ext (hO1.alloc _) hb5
  first | replace hO4 := Own.ext hO4 hb5 | replace hO4 := Own.ext (hO4.alloc _) hb5
  go_wp2_with fail
  refine (HIM.out _).mono ?_
  rintro e w6 ⟨A6, c6, G6, rfl, hO6, hb6⟩
  obtain ⟨hc6, hf6⟩ := bcell hb6
  have hB6 : Below w.heap.size w w6 := ext_trans (by repeat (first | with_reducible exact ext_refl _ | with_reducible assumption | with_reducible refine ext_alloc ?_ _ | with_reducible refine ext_drew ?_ | with_reducible refine ext_trans ?_ (by assumption))) hb6
  first | replace hO1 := Own.ext hO1 hb6 | replace hO1 := Own.ext (hO1.alloc _) hb6
  first | replace hO4 := Own.ext hO4 hb6 | replace hO4 := Own.ext (hO4.alloc _) hb6
  go_wp2_with fail
  refine (eqLabelS_any xs xs A6 A1 _ _ _ _ _ hO6.rd hO1.rd).mono ?_
  rw [HSL.out]
  rintro e w7 ⟨rfl, hb7⟩
  obtain ⟨hc7, hf7⟩ := bcell hb7
  have hB7 : Below w.heap.size w w7 := ext_trans (by repeat (first | with_reducible exact ext_refl _ | with_reducible assumption | with_reducible refine ext_alloc ?_ _ | with_reducible refine ext_drew ?_ | with_reducible refine ext_trans ?_ (by assumption))) hb7
  first | replace hO4 := Own.ext hO4 hb7 | replace hO4 := Own.ext (hO4.alloc _) hb7
  go_wp2_with fail
  refine (heldLabelS_any (mkL mkLabel cntLabel xs 1) A2 _ _ G2 1 _ hO4.rd (by rw [mkL_len]) (mkL_idem cntLabel_mk mkLabel_idem _ _) (by omega) (by rw [cntL_mkL cntLabel_mk]; omega)).mono ?_
  rw [cntL_mkL cntLabel_mk]
  rintro e w8 ⟨rfl, hb8⟩
  obtain ⟨hc8, hf8⟩ := bcell hb8
  have hB8 : Below w.heap.size w w8 := ext_trans (by repeat (first | with_reducible exact ext_refl _ | with_reducible assumption | with_reducible refine ext_alloc ?_ _ | with_reducible refine ext_drew ?_ | with_reducible refine ext_trans ?_ (by assumption))) hb8
  go_wp2
  go_ret
  exact ⟨rfl, hB8⟩

set_option maxRecDepth 100000 in
theorem law_walk {H : Type} {enc : TypeId × Value → H} (W : World) (base : Nat) (args : Array Value) (ds : List (DataW H)) (p : List MemPlace)
    (hval : ∀ (j : Nat) t v, Try.f8.params[j]? = some t → args[j]? = some v → Value.okWide Try.prog W .any base t v)
    (hA : DataW.TrodAll enc Try.prog W 0 (fun _ => true) true Try.f8.params.toList args.toList ds p) (hlt : ∀ x ∈ p, x.block < W.heap.size) :
    Calls Try.prog 8 args W fun e W' => e = .returned (.bool true) ∧ Below W.heap.size W W' := by
  rw [Try.params8] at hA hval
  obtain ⟨v0, vs0, d0, ds0, p0, q0, hargs, rfl, rfl, h0, r0⟩ := trodAll_cons hA
  obtain ⟨v1, vs1, d1, ds1, p1, q1, rfl, rfl, rfl, h1, r1⟩ := trodAll_cons r0
  obtain ⟨rfl, rfl, rfl⟩ := trodAll_nil r1
  obtain rfl : args = #[v0, v1] := by cases args; simp_all
  obtain ⟨s, rfl⟩ := okWide_string Try.underlying9 (hval 0 9 v0 rfl rfl)
  obtain ⟨a, rfl, rfl, rfl, hw⟩ := open_int Try.underlying3 (hval 1 3 v1 rfl rfl) h1
  exact walk s a W (by simp only [Lit.wf, Bool.and_eq_true, decide_eq_true_eq] at hw; exact ⟨hw.1, hw.2⟩)

theorem own : ownKnob Try.prog.godebug = none := by kernel_rfl
theorem laid : laidOutB Try.prog = true := by kernel_rfl
theorem readable : ∀ t ∈ Try.f8.params.toList, Try.prog.readableRec t = true ∧ t < Try.prog.types.size := by
  have h : (Try.f8.params.toList.all fun t => Try.prog.readableRec t && decide (t < Try.prog.types.size)) = true := by kernel_rfl
  intro t ht
  have := List.all_eq_true.1 h t ht
  simpa using this

theorem law_shape {H : Type} {enc : TypeId × Value → H} {W : World} {args : List Value} {ds : List (DataW H)} {p : List MemPlace}
    (h : DataW.TrodAll enc Try.prog W 0 (fun _ => true) true Try.f8.params.toList args ds p) : ∃ d0 d1, ds = [d0, d1] := by
  rw [Try.params8] at h
  obtain ⟨v0, vs0, d0, ds0, p0, q0, _, rfl, _, _, r0⟩ := trodAll_cons h
  obtain ⟨v1, vs1, d1, ds1, p1, q1, _, rfl, _, _, r1⟩ := trodAll_cons r0
  obtain ⟨_, rfl, _⟩ := trodAll_nil r1
  exact ⟨d0, d1, rfl⟩

set_option maxRecDepth 100000 in
theorem lifted (os : Os) (started : os.Started) (H : Type) (enc : TypeId × Value → H) :
    ReturnsInHanded {} Try.checked os 8 .any (Rows.fnExactReadLabelsBytesSpec.pre6 enc Try.prog Try.f8 Rows.fnExactReadLabelsBytesRow.domain false) (Rows.fnExactReadLabelsBytesSpec.post enc Try.prog Try.f8 false true false false) := by
  refine returnsInHanded_of_change (C := Try.checked) own started (by kernel_rfl) Try.func8
    (ChangeSpec.witness6 (enc := enc) (C := Try.checked) false ⟨#[], #[.string ⟨#[]⟩, .int .i64 0], []⟩ 8 (by kernel_rfl) (by kernel_rfl) (by kernel_rfl) (by kernel_rfl)) ?_
  intro W base args ds gs before hval0 hW hcnd _
  have hlt : ∀ x ∈ before, x.block < W.heap.size := fun x hx => hW.lt x hx
  have hW' := hW
  obtain ⟨p, q, hA, hV, rfl, _, _⟩ := hW'
  exact (law_walk W base args ds p hval0 hA (fun x hx => hlt x (List.mem_append_left _ hx))).mono fun e W' ⟨he, hb⟩ =>
    ⟨_, he, law_post laid readable rfl Try.underlying4 rfl (by obtain ⟨d0, d1, hs⟩ := law_shape hA; rw [hs]; rfl) hW hb⟩

theorem over : Rows.fnExactReadLabelsBytesRow.holds Try.pinned (OpenSpec.ofChange Rows.fnExactReadLabelsBytesSpec) :=
  OpenClaim.holds_of_wide 8 Try.f8 rfl rfl rfl rfl rfl rfl rfl ⟨rfl, rfl, rfl, rfl, rfl⟩ rfl rfl rfl rfl rfl (by kernel_rfl) Try.func8 (by kernel_rfl)
    (of_decide_eq_true (by kernel_rfl)) (by unfold Func.isWrapper; first | (rw [if_pos (by decide +kernel)]; kernel_rfl) | (rw [if_neg (by decide +kernel)]; exact ⟨rfl, rfl⟩))
    (fun os started H enc _ => lifted os started H enc)

theorem proved : Rows.FnExactReadLabelsBytesSaid :=
  over
#print axioms proved
end Go.Proofs.Ytkgajoichmnaaaa.fnExactReadLabelsBytes
