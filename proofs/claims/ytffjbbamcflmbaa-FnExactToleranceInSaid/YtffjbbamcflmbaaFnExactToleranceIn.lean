/- FnExactToleranceIn: for every tree and path the program's ToleranceIn and the reference's answer the same, and the program leaves the tree as it was. No condition. -/
import Derived.Test.YtffjbbamcflmbaaToleranceInP
import Derived.Test.YtffjbbamcflmbaaOpensTree
import Derived.Test.YtffjbbamcflmbaaEqTree
import Derived.Test.YtffjbbamcflmbaaLaw0
import Derived.StillTailTactics
namespace Go.Proofs.Ytffjbbamcflmbaa.fnExactToleranceIn
open Go.ChangeShapes Go.WideShapes Go.ChangeAt Go.RowKit
set_option linter.unusedVariables false
set_option linter.unusedSimpArgs false
set_option maxRecDepth 100000 in
set_option maxHeartbeats 4000000 in
theorem walk (x : Tree) (cs : List Value) (F : List Nat) (nm : ByteArray) (w : World) (h : rd w x cs F) :
    Calls Try.prog 4 #[.agg cs.toArray, .string nm] w fun e w' => e = .returned (.bool true) ∧ Below w.heap.size w w' := by
  by_cases hnm : (1048576 : Int) < nm.size
  · go_enter Try.func4, Try.ntmps4
    go_wp2
    go_ret
    exact ⟨rfl, (by repeat (first | with_reducible exact ext_refl _ | with_reducible assumption | with_reducible refine ext_alloc ?_ _ | with_reducible refine ext_setCell ?_ (by first | exact Nat.le_refl _ | (simp; done) | omega | (simp; omega)) _ | with_reducible refine ext_drew ?_ | with_reducible refine ext_trans ?_ (by assumption)))⟩
  have hnm2 : (nm.size : Int) ≤ 1048576 := by omega
  by_cases hw : (x.wt : Int) ≤ 1048576
  · have hsz : szR x.wt 1048576 = 1048576 - x.wt := by have := szR_spec x.wt 1048576; omega
    have HSZ := Lib.hid hsz
    have hb0 : (0 : Int) ≤ 1048576 - x.wt := by omega
    have HSAME := Lib.hid ((eqTree_iff x x).2 rfl)
    obtain ⟨v, f, hv⟩ : ∃ v f, tolInR x nm = (v, f) := ⟨_, _, rfl⟩
    have KS := Lib.hid (fun wq cq Fq (hq : rd wq x cq Fq) => by have k := ToleranceIn_spec x cq Fq nm wq hq hw hnm2; rw [tolIn_eq, hv] at k; exact k)
    have KI := Lib.hid (fun wq cq Fq (hq : rd wq x cq Fq) => by have k := ToleranceIn_impl x cq Fq nm wq hq hw hnm2; rw [hv] at k; exact k)
    have hok := tolInR_ok x nm hw hnm2
    rw [hv] at hok
    dsimp only at hok
    have HRV := Lib.hid (fun (wq : World) => tolInR_rd (w := wq) hok.1 hw)
    have HRF := Lib.hid (fun (wq : World) => rd_Fault_mk wq f ⟨by have := hok.2.1; omega, by have := hok.2.2.1; omega⟩ (by rw [hok.2.2.2.1]; exact ⟨by decide, by decide⟩) (by have := hok.2.2.2.2; unfold maxLen; omega))
    have HEV := Lib.hid ((eqTolerance_iff v v).2 rfl)
    have HEF := Lib.hid ((eqFault_iff f f).2 rfl)
    clear hsz hok hv
    have HWT := Lib.hid hw
    clear hw
    have hr := h
    obtain ⟨Ak, ck, Fk, Ac, cc, Fc, hck, hF0, hkind, hnum, htext, hkeys, hkids⟩ := rd_Tree hr
    subst hck
    clear hF0 hr
    go_enter Try.func4, Try.ntmps4
    go_wp2_with fail
    refine (szTree_any x _ _ _ _ (rd_ext h (by repeat (first | with_reducible exact ext_refl _ | with_reducible assumption | with_reducible refine ext_alloc ?_ _ | with_reducible refine ext_setCell ?_ (by first | exact Nat.le_refl _ | (simp; done) | omega | (simp; omega)) _ | with_reducible refine ext_drew ?_ | with_reducible refine ext_trans ?_ (by assumption)))) (by omega) (by omega)).mono ?_
    rw [HSZ.out]
    rintro e w1 ⟨rfl, hb1⟩
    obtain ⟨hc1, hf1⟩ := bcell hb1
    have hz1 : w.heap.size < w1.heap.size := by have := hb1.size; first | omega | (simp at this; omega)
    go_wp2_with fail
    refine (toTree_any x _ _ _ (rd_ext h (by repeat (first | with_reducible exact ext_refl _ | with_reducible assumption | with_reducible refine ext_alloc ?_ _ | with_reducible refine ext_setCell ?_ (by first | exact Nat.le_refl _ | (simp; done) | omega | (simp; omega)) _ | with_reducible refine ext_drew ?_ | with_reducible refine ext_trans ?_ (by assumption)))) HWT.out).mono ?_
    rintro e w2 ⟨cs2, G2, rfl, hO2, hb2⟩
    have hR2 := hO2.rd
    obtain ⟨Ak2, ck2, Fk2, Ac2, cc2, Fc2, hck, hG2, hkind2, hnum2, htext2, hkeys2, hkids2⟩ := rd_Tree hR2
    subst hck
    clear hG2 hR2
    obtain ⟨hc2, hf2⟩ := bcell hb2
    have hz2 : w.heap.size < w2.heap.size := by have := hb2.size; first | omega | (simp at this; omega)
    go_wp2_with fail
    refine (KS.out _ _ _ hO2.rd).mono ?_
    rintro e w3 ⟨rfl, hb3⟩
    obtain ⟨hc3, hf3⟩ := bcell hb3
    have hz3 : w.heap.size < w3.heap.size := by have := hb3.size; omega
    go_wp2_with fail
    refine (toTree_any x _ _ _ (rd_ext h (by repeat (first | with_reducible exact ext_refl _ | with_reducible assumption | with_reducible refine ext_alloc ?_ _ | with_reducible refine ext_setCell ?_ (by first | exact Nat.le_refl _ | (simp; done) | omega | (simp; omega)) _ | with_reducible refine ext_drew ?_ | with_reducible refine ext_trans ?_ (by assumption)))) HWT.out).mono ?_
    rintro e w4 ⟨cs4, G4, rfl, hO4, hb4⟩
    have hR4 := hO4.rd
    obtain ⟨Ak4, ck4, Fk4, Ac4, cc4, Fc4, hck, hG4, hkind4, hnum4, htext4, hkeys4, hkids4⟩ := rd_Tree hR4
    subst hck
    clear hG4 hR4
    obtain ⟨hc4, hf4⟩ := bcell hb4
    have hz4 : w.heap.size < w4.heap.size := by have := hb4.size; first | omega | (simp at this; omega)
    go_wp2_with fail
    refine (KI.out _ _ _ (hO4.alloc _).rd).mono ?_
    rintro e w5 ⟨rfl, hb5⟩
    obtain ⟨hc5, hf5⟩ := bcell hb5
    have hz5 : w.heap.size < w5.heap.size ∧ w4.heap.size < w5.heap.size ∧ w3.heap.size < w5.heap.size ∧ w3.heap.size + 1 < w5.heap.size := by have h1 := hb5.size; have h2 := hb4.size; simp at h1 h2; omega
    obtain ⟨hz50, hz51, hz52, hz53⟩ := hz5
    have hzC : w.heap.size < w3.heap.size + 1 + 1 := by omega
    have hzA : w4.heap.size < w5.heap.size + 1 + 1 := by omega
    have hzB : w.heap.size < w5.heap.size + 1 + 1 := by omega
    have hO5 := (hO4.alloc (.cells #[.int .i64 x.kind, .bool x.flag, .int .i64 x.num, .string x.text, .slice Ak4 x.keys.length ck4, .slice Ac4 x.kids.length cc4] 35)).ext hb5
    have hz43 : w3.heap.size + 1 < w4.heap.size := by have := hb4.size; first | omega | (simp at this; omega)
    have hz430 : w3.heap.size < w4.heap.size := by omega
    go_wp2_with (first
      | (go_at_call 14; refine (eqTolerance_any v v _ _ _ _ _ (HRV.out _) (HRV.out _)).mono ?_; rw [HEV.out]; rintro e w6 ⟨rfl, hb6⟩; obtain ⟨hc6, hf6⟩ := bcell hb6; have hz6 : w.heap.size < w6.heap.size ∧ w5.heap.size < w6.heap.size ∧ w5.heap.size + 1 < w6.heap.size ∧ w4.heap.size < w6.heap.size ∧ w3.heap.size < w6.heap.size ∧ w3.heap.size + 1 < w6.heap.size := (by have h1 := hb6.size; simp at h1; omega); obtain ⟨hz60, hz61, hz62, hz63, hz64, hz65⟩ := hz6)
      | (go_at_call 10; refine (eqFault_any f f _ _ _ _ _ (HRF.out _) (HRF.out _)).mono ?_; rw [HEF.out]; rintro e w7 ⟨rfl, hb7⟩; obtain ⟨hc7, hf7⟩ := bcell hb7; have hz7 : w.heap.size < w7.heap.size ∧ w4.heap.size < w7.heap.size := (by have h1 := hb7.size; omega); obtain ⟨hz70, hz71⟩ := hz7))
    have hO7 := (((hO5.alloc (.cells #[.string v.key, .bool v.equal, .string v.value, .int .i64 v.effect] 42)).alloc (.cells #[.int .i64 f.code, .int .i64 f.at_, .string f.path] 30)).ext hb6).ext hb7
    refine wp_region_head w7 2 (by kernel_rfl) (by kernel_rfl) (fun _ _ d _ _ h => by cases d <;> exact h) (ext_refl _) ?_
    simp only [List.take_succ_cons, List.take_zero, List.drop_succ_cons, List.drop_zero]
    iterate 2
      (apply headC_step
       case hy =>
         refine Or.inl ⟨rfl, fun wq hq => ?_⟩
         have hcq := (cls_cell hq).1
         go_simp
         try rfl
       simp only [Act.put, List.setIfInBounds_toArray, List.set_cons_zero, List.set_cons_succ])
    refine headC_nil ?_
    refine wpListC_step rfl (fun K hK => ?_)
    go_simp
    refine (toTree_any x _ _ _ (rd_ext h (by repeat (first | with_reducible exact ext_refl _ | with_reducible assumption | with_reducible refine ext_alloc ?_ _ | with_reducible refine ext_setCell ?_ (by first | exact Nat.le_refl _ | (simp; done) | omega | (simp; omega)) _ | with_reducible refine ext_drew ?_ | with_reducible refine ext_trans ?_ (by assumption)))) HWT.out).mono ?_
    rintro e w8 ⟨cs8, G8, rfl, hO8, hb8⟩
    have hR8 := hO8.rd
    obtain ⟨Ak8, ck8, Fk8, Ac8, cc8, Fc8, hck, hG8, hkind8, hnum8, htext8, hkeys8, hkids8⟩ := rd_Tree hR8
    subst hck
    clear hG8 hR8
    have hb78 : Below w7.heap.size w7 w8 := ext_trans (ext_drew (ext_refl _)) hb8
    refine hK _ _ hb78 (fun _ => ?_)
    try simp only [Act.put, List.setIfInBounds_toArray, List.set_cons_zero, List.set_cons_succ]
    clear hK K
    refine wpListC_step rfl (fun K hK => ?_)
    go_simp
    refine (eqTree_any x x _ _ _ _ _ (hO7.ext hb78).rd hO8.rd).mono ?_
    rw [HSAME.out]
    rintro e w9 ⟨rfl, hb9⟩
    refine hK _ _ (ext_trans hb78 hb9) (fun _ => ?_)
    try simp only [Act.put, List.setIfInBounds_toArray, List.set_cons_zero, List.set_cons_succ]
    clear hK K
    refine wpListC_step rfl (fun K hK => ?_)
    go_simp
    refine hK _ _ (ext_trans hb78 hb9) (fun _ => ?_)
    try simp only [Act.put, List.setIfInBounds_toArray, List.set_cons_zero, List.set_cons_succ]
    clear hK K
    refine wpListC_nil ?_
    go_wp2
    go_ret
    exact ⟨rfl, (by repeat (first | with_reducible exact ext_refl _ | with_reducible assumption | with_reducible refine ext_alloc ?_ _ | with_reducible refine ext_setCell ?_ (by first | exact Nat.le_refl _ | (simp; done) | omega | (simp; omega)) _ | with_reducible refine ext_drew ?_ | with_reducible refine ext_trans ?_ (by assumption)))⟩
  · have hsz : szR x.wt 1048576 = -1 := by have := szR_spec x.wt 1048576; omega
    have HSZ := Lib.hid hsz
    clear hsz hw
    have hr := h
    obtain ⟨Ak, ck, Fk, Ac, cc, Fc, hck, hF0, hkind, hnum, htext, hkeys, hkids⟩ := rd_Tree hr
    subst hck
    clear hF0 hr
    go_enter Try.func4, Try.ntmps4
    go_wp2_with fail
    refine (szTree_any x _ _ _ _ (rd_ext h (by repeat (first | with_reducible exact ext_refl _ | with_reducible assumption | with_reducible refine ext_alloc ?_ _ | with_reducible refine ext_setCell ?_ (by first | exact Nat.le_refl _ | (simp; done) | omega | (simp; omega)) _ | with_reducible refine ext_drew ?_ | with_reducible refine ext_trans ?_ (by assumption)))) (by omega) (by omega)).mono ?_
    rw [HSZ.out]
    rintro e w1 ⟨rfl, hb1⟩
    go_wp2
    go_ret
    exact ⟨rfl, (by repeat (first | with_reducible exact ext_refl _ | with_reducible assumption | with_reducible refine ext_alloc ?_ _ | with_reducible refine ext_setCell ?_ (by first | exact Nat.le_refl _ | (simp; done) | omega | (simp; omega)) _ | with_reducible refine ext_drew ?_ | with_reducible refine ext_trans ?_ (by assumption)))⟩
set_option maxRecDepth 100000 in
theorem law_walk {H : Type} {enc : TypeId × Value → H} (W : World) (base : Nat) (args : Array Value) (ds : List (DataW H)) (p : List MemPlace)
    (hval : ∀ (j : Nat) t v, Try.f4.params[j]? = some t → args[j]? = some v → Value.okWide Try.prog W .any base t v)
    (hA : DataW.TrodAll enc Try.prog W 0 (fun _ => true) true Try.f4.params.toList args.toList ds p) (hlt : ∀ x ∈ p, x.block < W.heap.size) :
    Calls Try.prog 4 args W fun e W' => e = .returned (.bool true) ∧ Below W.heap.size W W' := by
  rw [Try.params4] at hA hval
  obtain ⟨v0, vs0, d0, ds0, p0, q0, hargs, rfl, rfl, h0, r0⟩ := trodAll_cons hA
  obtain ⟨v1, vs1, d1, ds1, p1, q1, rfl, rfl, rfl, h1, r1⟩ := trodAll_cons r0
  obtain ⟨rfl, rfl, rfl⟩ := trodAll_nil r1
  obtain rfl : args = #[v0, v1] := by cases args; simp_all
  have hv0 := hval 0 25 v0 rfl rfl
  obtain ⟨cs, rfl, _⟩ := okWide_struct Try.underlying25 hv0
  clear hv0
  obtain ⟨nm, rfl⟩ := okWide_string Try.underlying9 (hval 1 9 v1 rfl rfl)
  obtain ⟨fuel, hf⟩ := h0
  obtain ⟨x, F, hr⟩ := opens_Tree H enc W 0 fuel _ _ _ _ hf
  exact walk x cs.toList F nm W hr

theorem own : ownKnob Try.prog.godebug = none := by kernel_rfl
theorem laid : laidOutB Try.prog = true := by kernel_rfl
theorem readable : ∀ t ∈ Try.f4.params.toList, Try.prog.readableRec t = true ∧ t < Try.prog.types.size := by
  have h : (Try.f4.params.toList.all fun t => Try.prog.readableRec t && decide (t < Try.prog.types.size)) = true := by kernel_rfl
  intro t ht
  have := List.all_eq_true.1 h t ht
  simpa using this

theorem law_shape {H : Type} {enc : TypeId × Value → H} {W : World} {args : List Value} {ds : List (DataW H)} {p : List MemPlace}
    (h : DataW.TrodAll enc Try.prog W 0 (fun _ => true) true Try.f4.params.toList args ds p) : ∃ d0 d1, ds = [d0, d1] := by
  rw [Try.params4] at h
  obtain ⟨v0, vs0, d0, ds0, p0, q0, _, rfl, _, _, r0⟩ := trodAll_cons h
  obtain ⟨v1, vs1, d1, ds1, p1, q1, _, rfl, _, _, r1⟩ := trodAll_cons r0
  obtain ⟨_, rfl, _⟩ := trodAll_nil r1
  exact ⟨d0, d1, rfl⟩

set_option maxRecDepth 100000 in
theorem lifted (os : Os) (started : os.Started) (H : Type) (enc : TypeId × Value → H) :
    ReturnsInHanded {} Try.checked os 4 .any (Rows.fnExactToleranceInSpec.pre6 enc Try.prog Try.f4 Rows.fnExactToleranceInRow.domain false) (Rows.fnExactToleranceInSpec.post enc Try.prog Try.f4 false true false false) := by
  refine returnsInHanded_of_change (C := Try.checked) own started (by kernel_rfl) Try.func4
    (ChangeSpec.witness6 (enc := enc) (C := Try.checked) false ⟨#[], #[.agg #[.int .i64 0, .bool false, .int .i64 0, .string ⟨#[]⟩, .slice none 0 0, .slice none 0 0], .string ⟨#[]⟩], []⟩ 8 (by kernel_rfl) (by kernel_rfl) (by kernel_rfl) (by kernel_rfl)) ?_
  intro W base args ds gs before hval0 hW hcnd _
  have hlt : ∀ x ∈ before, x.block < W.heap.size := fun x hx => hW.lt x hx
  have hW' := hW
  obtain ⟨p, q, hA, hV, rfl, _, _⟩ := hW'
  exact (law_walk W base args ds p hval0 hA (fun x hx => hlt x (List.mem_append_left _ hx))).mono fun e W' ⟨he, hb⟩ =>
    ⟨_, he, law_post laid readable rfl Try.underlying4 rfl (by obtain ⟨d0, d1, hs⟩ := law_shape hA; rw [hs]; rfl) hW hb⟩

theorem over : Rows.fnExactToleranceInRow.holds Try.pinned (OpenSpec.ofChange Rows.fnExactToleranceInSpec) :=
  OpenClaim.holds_of_wide 4 Try.f4 rfl rfl rfl rfl rfl rfl rfl ⟨rfl, rfl, rfl, rfl, rfl⟩ rfl rfl rfl rfl rfl (by kernel_rfl) Try.func4 (by kernel_rfl)
    (of_decide_eq_true (by kernel_rfl)) (by unfold Func.isWrapper; first | (rw [if_pos (by decide +kernel)]; kernel_rfl) | (rw [if_neg (by decide +kernel)]; exact ⟨rfl, rfl⟩))
    (fun os started H enc _ => lifted os started H enc)

theorem proved : Rows.FnExactToleranceInSaid :=
  over
#print axioms proved
end Go.Proofs.Ytffjbbamcflmbaa.fnExactToleranceIn
