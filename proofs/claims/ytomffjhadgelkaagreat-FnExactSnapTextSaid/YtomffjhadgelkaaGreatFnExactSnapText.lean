/- FnExactSnapText: for every cluster the program's SnapText and the reference's answer the same bytes, and the program leaves the cluster as it was. No condition. -/
import Derived.Test.YtomffjhadgelkaaGreatSnap
import Derived.Test.YtomffjhadgelkaaGreatToCluster
import Derived.Test.YtomffjhadgelkaaGreatOpenAll
import Derived.Test.YtomffjhadgelkaaGreatLaw1
import Derived.StillTailTactics
namespace Go.Proofs.YtomffjhadgelkaaGreat.fnExactSnapText
open Go.ChangeShapes Go.WideShapes Go.ChangeAt Go.RowKit
set_option linter.unusedVariables false
set_option linter.unusedSimpArgs false
set_option maxRecDepth 100000 in
set_option maxHeartbeats 4000000 in
theorem walk (x : Cluster) (cs : List Value) (F : List Nat) (w : World) (h : rd w x cs F) :
    Calls Tryz.prog 4 #[.agg cs.toArray] w fun e w' => e = .returned (.bool true) ∧ Below w.heap.size w w' := by
  by_cases hw : (x.wt : Int) ≤ 1048576
  · have hsz : szR x.wt 1048576 = 1048576 - x.wt := by have := szR_spec x.wt 1048576; omega
    have HSZ := Lib.hid hsz
    have hb0 : (0 : Int) ≤ 1048576 - x.wt := by omega
    have HWTCluster := Lib.hid hw
    have HSAMECluster := Lib.hid ((eqCluster_iff x x).2 rfl)
    clear hsz hw
    have hr := h
    obtain ⟨Ahosts, chosts, Fhosts, Apods, cpods, Fpods, hck, hF0, hhosts, hpods, hnext, hweightspack, hweightsspread, hweightssoft⟩ := rd_Cluster hr
    subst hck
    clear hF0 hr
    go_enter Tryz.func4, Tryz.ntmps4
    go_wp2_with fail
    refine (szCluster_any x _ _ _ _ (rd_ext h (by repeat (first | with_reducible exact ext_refl _ | with_reducible assumption | with_reducible refine ext_alloc ?_ _ | with_reducible refine ext_drew ?_ | with_reducible refine ext_trans ?_ (by assumption)))) (by omega) (by omega)).mono ?_
    rw [HSZ.out]
    rintro e w1 ⟨rfl, hb1⟩
    obtain ⟨hc1, hf1⟩ := bcell hb1
    have hB1 : Below w.heap.size w w1 := ext_trans (by repeat (first | with_reducible exact ext_refl _ | with_reducible assumption | with_reducible refine ext_alloc ?_ _ | with_reducible refine ext_drew ?_ | with_reducible refine ext_trans ?_ (by assumption))) hb1
    have hzw0_1 : w.heap.size < w1.heap.size := by have := hb1.size; (try simp at this); omega
    go_wp2_with fail
    refine (toCluster_any x _ _ _ (rd_ext h (by repeat (first | with_reducible exact ext_refl _ | with_reducible assumption | with_reducible refine ext_alloc ?_ _ | with_reducible refine ext_drew ?_ | with_reducible refine ext_trans ?_ (by assumption)))) HWTCluster.out).mono ?_
    rintro e w2 ⟨cs2, G2, rfl, hO2, hb2⟩
    obtain ⟨hc2, hf2⟩ := bcell hb2
    have hB2 : Below w.heap.size w w2 := ext_trans (by repeat (first | with_reducible exact ext_refl _ | with_reducible assumption | with_reducible refine ext_alloc ?_ _ | with_reducible refine ext_drew ?_ | with_reducible refine ext_trans ?_ (by assumption))) hb2
    have hzw0_2 : w.heap.size < w2.heap.size := by have := hb2.size; (try simp at this); omega
    have hR2 := hO2.rd
    obtain ⟨Ahosts2, chosts2, Fhosts2, Apods2, cpods2, Fpods2, hck, hG2, hhosts2, hpods2, hnext2, hweightspack2, hweightsspread2, hweightssoft2⟩ := rd_Cluster hR2
    subst hck
    clear hG2 hR2
    go_wp2_with fail
    refine (SnapText_spec x _ _ _ hO2.rd HWTCluster.out).mono ?_
    rintro e w3 ⟨rfl, hb3⟩
    obtain ⟨hc3, hf3⟩ := bcell hb3
    have hB3 : Below w.heap.size w w3 := ext_trans (by repeat (first | with_reducible exact ext_refl _ | with_reducible assumption | with_reducible refine ext_alloc ?_ _ | with_reducible refine ext_drew ?_ | with_reducible refine ext_trans ?_ (by assumption))) hb3
    have hzw0_3 : w.heap.size < w3.heap.size := by have := hb3.size; (try simp at this); omega
    go_wp2_with fail
    refine (toCluster_any x _ _ _ (rd_ext h (by repeat (first | with_reducible exact ext_refl _ | with_reducible assumption | with_reducible refine ext_alloc ?_ _ | with_reducible refine ext_drew ?_ | with_reducible refine ext_trans ?_ (by assumption)))) HWTCluster.out).mono ?_
    rintro e w4 ⟨cs4, G4, rfl, hO4, hb4⟩
    obtain ⟨hc4, hf4⟩ := bcell hb4
    have hB4 : Below w.heap.size w w4 := ext_trans (by repeat (first | with_reducible exact ext_refl _ | with_reducible assumption | with_reducible refine ext_alloc ?_ _ | with_reducible refine ext_drew ?_ | with_reducible refine ext_trans ?_ (by assumption))) hb4
    have hzw0_4 : w.heap.size < w4.heap.size := by have := hb4.size; (try simp at this); omega
    have hR4 := hO4.rd
    obtain ⟨Ahosts4, chosts4, Fhosts4, Apods4, cpods4, Fpods4, hck, hG4, hhosts4, hpods4, hnext4, hweightspack4, hweightsspread4, hweightssoft4⟩ := rd_Cluster hR4
    subst hck
    clear hG4 hR4
    go_wp2_with fail
    refine (SnapText_impl x _ _ _ (hO4.alloc _).rd HWTCluster.out).mono ?_
    rintro e w5 ⟨rfl, hb5⟩
    obtain ⟨hc5, hf5⟩ := bcell hb5
    have hB5 : Below w.heap.size w w5 := ext_trans (by repeat (first | with_reducible exact ext_refl _ | with_reducible assumption | with_reducible refine ext_alloc ?_ _ | with_reducible refine ext_drew ?_ | with_reducible refine ext_trans ?_ (by assumption))) hb5
    have hzw0_5 : w.heap.size < w5.heap.size := by have := hb5.size; (try simp at this); omega
    have hzw40_5 : w4.heap.size < w5.heap.size := by have := hb5.size; (try simp at this); omega
    first | replace hO4 := Own.ext hO4 hb5 | replace hO4 := Own.ext (hO4.alloc _) hb5 | replace hO4 := Own.ext ((hO4.alloc _).alloc _) hb5
    go_wp2_with fail
    refine wp_region_head w5 2 (by kernel_rfl) (by kernel_rfl) (fun _ _ d _ _ h => by cases d <;> exact h) (ext_refl _) ?_
    simp only [List.take_succ_cons, List.take_zero, List.drop_succ_cons, List.drop_zero]
    iterate 2
      (apply headC_step
       case hy =>
         refine Or.inl ⟨rfl, fun wq hq => ?_⟩
         have hcq := (cls_cell hq).1
         go_simp
         try rfl
       simp only [Act.put, List.setIfInBounds_toArray, List.set_cons_zero, List.set_cons_succ])
    refine headC_nil ?_
    refine wpListC_step rfl (fun K hK => ?_)
    go_simp
    refine (toCluster_any x _ _ _ (rd_ext h (by repeat (first | with_reducible exact ext_refl _ | with_reducible assumption | with_reducible refine ext_alloc ?_ _ | with_reducible refine ext_drew ?_ | with_reducible refine ext_trans ?_ (by assumption)))) HWTCluster.out).mono ?_
    rintro e w6 ⟨cs6, G6, rfl, hO6, hb6⟩
    have hR6 := hO6.rd
    obtain ⟨Ahosts6, chosts6, Fhosts6, Apods6, cpods6, Fpods6, hck, hG6, hhosts6, hpods6, hnext6, hweightspack6, hweightsspread6, hweightssoft6⟩ := rd_Cluster hR6
    subst hck
    clear hG6 hR6
    have hbx : Below w5.heap.size w5 w6 := ext_trans (ext_drew (ext_refl _)) hb6
    refine hK _ _ hbx (fun _ => ?_)
    try simp only [Act.put, List.setIfInBounds_toArray, List.set_cons_zero, List.set_cons_succ]
    clear hK K
    refine wpListC_step rfl (fun K hK => ?_)
    go_simp
    refine (eqCluster_any x x _ _ _ _ _ (hO4.ext hbx).rd hO6.rd).mono ?_
    rw [HSAMECluster.out]
    rintro e w7 ⟨rfl, hb7⟩
    replace hbx := ext_trans hbx hb7
    refine hK _ _ hbx (fun _ => ?_)
    try simp only [Act.put, List.setIfInBounds_toArray, List.set_cons_zero, List.set_cons_succ]
    clear hK K
    refine wpListC_step rfl (fun K hK => ?_)
    go_simp
    refine hK _ _ hbx (fun _ => ?_)
    try simp only [Act.put, List.setIfInBounds_toArray, List.set_cons_zero, List.set_cons_succ]
    clear hK K
    refine wpListC_nil ?_
    replace hb7 := hbx
    clear hbx hb6 hO6
    obtain ⟨hc7, hf7⟩ := bcell hb7
    have hB7 : Below w.heap.size w w7 := ext_trans hB5 hb7
    have hzw0_7 : w.heap.size < w7.heap.size := by have := hb7.size; (try simp at this); omega
    have hzw40_7 : w4.heap.size < w7.heap.size := by have := hb7.size; (try simp at this); omega
    first | replace hO4 := Own.ext hO4 hb7 | replace hO4 := Own.ext (hO4.alloc _) hb7 | replace hO4 := Own.ext ((hO4.alloc _).alloc _) hb7
    go_wp2
    go_ret
    exact ⟨rfl, hB7⟩
  · have hsz : szR x.wt 1048576 = -1 := by have := szR_spec x.wt 1048576; omega
    have HSZ := Lib.hid hsz
    clear hsz hw
    have hr := h
    obtain ⟨Ahosts, chosts, Fhosts, Apods, cpods, Fpods, hck, hF0, hhosts, hpods, hnext, hweightspack, hweightsspread, hweightssoft⟩ := rd_Cluster hr
    subst hck
    clear hF0 hr
    go_enter Tryz.func4, Tryz.ntmps4
    go_wp2_with fail
    refine (szCluster_any x _ _ _ _ (rd_ext h (by repeat (first | with_reducible exact ext_refl _ | with_reducible assumption | with_reducible refine ext_alloc ?_ _ | with_reducible refine ext_drew ?_ | with_reducible refine ext_trans ?_ (by assumption)))) (by omega) (by omega)).mono ?_
    rw [HSZ.out]
    rintro e w1 ⟨rfl, hb1⟩
    go_wp2
    go_ret
    exact ⟨rfl, (by repeat (first | with_reducible exact ext_refl _ | with_reducible assumption | with_reducible refine ext_alloc ?_ _ | with_reducible refine ext_drew ?_ | with_reducible refine ext_trans ?_ (by assumption)))⟩

set_option maxRecDepth 100000 in
theorem law_walk {H : Type} {enc : TypeId × Value → H} (W : World) (base : Nat) (args : Array Value) (ds : List (DataW H)) (p : List MemPlace)
    (hval : ∀ (j : Nat) t v, Tryz.f4.params[j]? = some t → args[j]? = some v → Value.okWide Tryz.prog W .any base t v)
    (hA : DataW.TrodAll enc Tryz.prog W 0 (fun _ => true) true Tryz.f4.params.toList args.toList ds p) (hlt : ∀ x ∈ p, x.block < W.heap.size) :
    Calls Tryz.prog 4 args W fun e W' => e = .returned (.bool true) ∧ Below W.heap.size W W' := by
  rw [Tryz.params4] at hA hval
  obtain ⟨v0, vs0, d0, ds0, p0, q0, hargs, rfl, rfl, h0, r0⟩ := trodAll_cons hA
  obtain ⟨rfl, rfl, rfl⟩ := trodAll_nil r0
  obtain rfl : args = #[v0] := by cases args; simp_all
  have hv0 := hval 0 27 v0 rfl rfl
  obtain ⟨cs, rfl, _⟩ := okWide_struct Tryz.underlying27 hv0
  clear hv0
  obtain ⟨fuel, hf⟩ := h0
  obtain ⟨x, F, hr⟩ := opens_Cluster H enc W 0 fuel _ _ _ _ hf
  exact walk x cs.toList F W hr

theorem own : ownKnob Tryz.prog.godebug = none := by kernel_rfl
theorem laid : laidOutB Tryz.prog = true := by kernel_rfl
theorem readable : ∀ t ∈ Tryz.f4.params.toList, Tryz.prog.readableRec t = true ∧ t < Tryz.prog.types.size := by
  have h : (Tryz.f4.params.toList.all fun t => Tryz.prog.readableRec t && decide (t < Tryz.prog.types.size)) = true := by kernel_rfl
  intro t ht
  have := List.all_eq_true.1 h t ht
  simpa using this

theorem law_shape {H : Type} {enc : TypeId × Value → H} {W : World} {args : List Value} {ds : List (DataW H)} {p : List MemPlace}
    (h : DataW.TrodAll enc Tryz.prog W 0 (fun _ => true) true Tryz.f4.params.toList args ds p) : ∃ d0, ds = [d0] := by
  rw [Tryz.params4] at h
  obtain ⟨v0, vs0, d0, ds0, p0, q0, _, rfl, _, _, r0⟩ := trodAll_cons h
  obtain ⟨_, rfl, _⟩ := trodAll_nil r0
  exact ⟨d0, rfl⟩

set_option maxRecDepth 100000 in
theorem lifted (os : Os) (started : os.Started) (H : Type) (enc : TypeId × Value → H) :
    ReturnsInHanded {} Tryz.checked os 4 .any (Rows.fnExactSnapTextSpec.pre6 enc Tryz.prog Tryz.f4 Rows.fnExactSnapTextRow.domain false) (Rows.fnExactSnapTextSpec.post enc Tryz.prog Tryz.f4 false true false false) := by
  refine returnsInHanded_of_change (C := Tryz.checked) own started (by kernel_rfl) Tryz.func4
    (ChangeSpec.witness6 (enc := enc) (C := Tryz.checked) false ⟨#[], #[.agg #[.slice none 0 0, .slice none 0 0, .int .i64 0, .int .i64 0, .int .i64 0, .int .i64 0]], []⟩ 8 (by kernel_rfl) (by kernel_rfl) (by kernel_rfl) (by kernel_rfl)) ?_
  intro W base args ds gs before hval0 hW hcnd _
  have hlt : ∀ x ∈ before, x.block < W.heap.size := fun x hx => hW.lt x hx
  have hW' := hW
  obtain ⟨p, q, hA, hV, rfl, _, _⟩ := hW'
  exact (law_walk W base args ds p hval0 hA (fun x hx => hlt x (List.mem_append_left _ hx))).mono fun e W' ⟨he, hb⟩ =>
    ⟨_, he, law_post laid readable rfl Tryz.underlying4 rfl (by obtain ⟨d0, hs⟩ := law_shape hA; rw [hs]; rfl) hW hb⟩

theorem over : Rows.fnExactSnapTextRow.holds Tryz.pinned (OpenSpec.ofChange Rows.fnExactSnapTextSpec) :=
  OpenClaim.holds_of_wide 4 Tryz.f4 rfl rfl rfl rfl rfl rfl rfl ⟨rfl, rfl, rfl, rfl, rfl⟩ rfl rfl rfl rfl rfl (by kernel_rfl) Tryz.func4 (by kernel_rfl)
    (of_decide_eq_true (by kernel_rfl)) (by unfold Func.isWrapper; first | (rw [if_pos (by decide +kernel)]; kernel_rfl) | (rw [if_neg (by decide +kernel)]; exact ⟨rfl, rfl⟩))
    (fun os started H enc _ => lifted os started H enc)

theorem proved : Rows.FnExactSnapTextSaid :=
  over
#print axioms proved
end Go.Proofs.YtomffjhadgelkaaGreat.fnExactSnapText
