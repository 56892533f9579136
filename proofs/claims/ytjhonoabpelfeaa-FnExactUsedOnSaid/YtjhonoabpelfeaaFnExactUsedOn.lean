/- FnExactUsedOn: for every cluster and name the program's UsedOn and the reference's answer the same sums, and the program leaves the cluster as it was. No condition. -/
import Derived.Test.YtjhonoabpelfeaaUsed
import Derived.Test.YtjhonoabpelfeaaEq
import Derived.Test.YtjhonoabpelfeaaToCluster
import Derived.Test.YtjhonoabpelfeaaOpens
import Derived.StillTailTactics
namespace Go.Proofs.Ytjhonoabpelfeaa.fnExactUsedOn
open Go.ChangeShapes Go.WideShapes Go.ChangeAt Go.RowKit
set_option linter.unusedVariables false
set_option linter.unusedSimpArgs false
set_option maxRecDepth 100000 in
set_option maxHeartbeats 2000000 in
theorem walk (x : Cluster) (cs : List Value) (F : List Nat) (nm : ByteArray) (w : World) (h : rd w x cs F) :
    Calls Try.prog 8 #[.agg cs.toArray, .string nm] w fun e w' => e = .returned (.bool true) ∧ Below w.heap.size w w' := by
  by_cases hnm : (1048576 : Int) < nm.size
  · go_enter Try.func8, Try.ntmps8
    go_wp2
    go_ret
    exact ⟨rfl, (by repeat (first | with_reducible exact ext_refl _ | with_reducible assumption | with_reducible refine ext_alloc ?_ _ | with_reducible refine ext_trans ?_ (by assumption)))⟩
  have hnm2 : (nm.size : Int) ≤ 1048576 := by omega
  by_cases hw : (x.wt : Int) ≤ 1048576
  · have hsz : szR x.wt 1048576 = 1048576 - x.wt := by have := szR_spec x.wt 1048576; omega
    have HSZ := Lib.hid hsz
    have hb0 : (0 : Int) ≤ 1048576 - x.wt := by omega
    have hlen : (x.pods.length : Int) ≤ 1048576 := by
      have h1 := wtL_len Placed.wt x.pods
      have h2 : x.wt = wtL Host.wt x.hosts + wtL Placed.wt x.pods := rfl
      omega
    have hsame := (eqCluster_iff x x).2 rfl
    have HSAME := Lib.hid hsame
    clear hsame hsz
    have HWT := Lib.hid hw
    have HLEN := Lib.hid hlen
    clear hw hlen
    have hr := h
    obtain ⟨Ahosts, chosts, Fhosts, Apods, cpods, Fpods, hck, hF0, hhosts, hpods, hnext, hweightspack, hweightsspread, hweightssoft⟩ := rd_Cluster hr
    subst hck
    clear hF0 hr
    rcases hr1 : sumsR (onL nm x.pods) with _ | ⟨a, b⟩
    all_goals
      have hU : usedV nm x.pods = _ := (by unfold usedV; rw [hr1])
      have HU := Lib.hid hU
      clear hU hr1
      go_enter Try.func8, Try.ntmps8
      go_wp2_with fail
      refine (szCluster_any x _ _ _ _ (Dat.frame h (fun b hb => (show Below w.heap.size w _ from (by repeat (first | with_reducible exact ext_refl _ | with_reducible assumption | with_reducible refine ext_alloc ?_ _ | with_reducible refine ext_trans ?_ (by assumption)))).block b (Dat.lt h b hb)) (show Below w.heap.size w _ from (by repeat (first | with_reducible exact ext_refl _ | with_reducible assumption | with_reducible refine ext_alloc ?_ _ | with_reducible refine ext_trans ?_ (by assumption)))).size) (by omega) (by omega)).mono ?_
      rw [HSZ.out]
      rintro e w1 ⟨rfl, hb1⟩
      obtain ⟨hc1, hf1⟩ := bcell hb1
      have hz1 : w.heap.size < w1.heap.size := by have := hb1.size; simp at this; omega
      go_wp2_with fail
      refine (toCluster_any x _ _ _ (Dat.frame h (fun b hb => (show Below w.heap.size w _ from (by repeat (first | with_reducible exact ext_refl _ | with_reducible assumption | with_reducible refine ext_alloc ?_ _ | with_reducible refine ext_trans ?_ (by assumption)))).block b (Dat.lt h b hb)) (show Below w.heap.size w _ from (by repeat (first | with_reducible exact ext_refl _ | with_reducible assumption | with_reducible refine ext_alloc ?_ _ | with_reducible refine ext_trans ?_ (by assumption)))).size) HWT.out).mono ?_
      rintro e w2 ⟨cs2, G2, rfl, hO2, hb2⟩
      have hR2 := hO2.rd
      obtain ⟨Ahosts2, chosts2, Fhosts2, Apods2, cpods2, Fpods2, hck, hG2, hhosts2, hpods2, hnext2, hweightspack2, hweightsspread2, hweightssoft2⟩ := rd_Cluster hR2
      subst hck
      clear hG2 hR2
      obtain ⟨hc2, hf2⟩ := bcell hb2
      have hz2 : w.heap.size < w2.heap.size := by have := hb2.size; omega
      go_wp2_with fail
      refine (UsedOn_spec x _ _ nm _ hO2.rd HLEN.out).mono ?_
      rw [HU.out]
      rintro e w3 ⟨rfl, hb3⟩
      obtain ⟨hc3, hf3⟩ := bcell hb3
      have hz3 : w.heap.size < w3.heap.size := by have := hb3.size; omega
      go_wp2_with fail
      refine (toCluster_any x _ _ _ (Dat.frame h (fun b hb => (show Below w.heap.size w _ from (by repeat (first | with_reducible exact ext_refl _ | with_reducible assumption | with_reducible refine ext_alloc ?_ _ | with_reducible refine ext_trans ?_ (by assumption)))).block b (Dat.lt h b hb)) (show Below w.heap.size w _ from (by repeat (first | with_reducible exact ext_refl _ | with_reducible assumption | with_reducible refine ext_alloc ?_ _ | with_reducible refine ext_trans ?_ (by assumption)))).size) HWT.out).mono ?_
      rintro e w4 ⟨cs4, G4, rfl, hO4, hb4⟩
      have hR4 := hO4.rd
      obtain ⟨Ahosts4, chosts4, Fhosts4, Apods4, cpods4, Fpods4, hck, hG4, hhosts4, hpods4, hnext4, hweightspack4, hweightsspread4, hweightssoft4⟩ := rd_Cluster hR4
      subst hck
      clear hG4 hR4
      obtain ⟨hc4, hf4⟩ := bcell hb4
      have hz4 : w.heap.size < w4.heap.size := by have := hb4.size; omega
      go_wp2_with fail
      refine (UsedOn_impl x _ _ nm _ (hO4.alloc _).rd HLEN.out).mono ?_
      rw [HU.out]
      rintro e w5 ⟨rfl, hb5⟩
      obtain ⟨hc5, hf5⟩ := bcell hb5
      have hz5 : w.heap.size < w5.heap.size ∧ w4.heap.size < w5.heap.size := by have := hb5.size; simp at this; omega
      obtain ⟨hz50, hz51⟩ := hz5
      have hO5 := (hO4.alloc _).ext hb5
      go_wp2_with fail
      refine wp_region_head w5 2 (by kernel_rfl) (by kernel_rfl) (fun _ _ d _ _ h => by cases d <;> exact h) (ext_refl _) ?_
      simp only [List.take_succ_cons, List.take_zero, List.drop_succ_cons, List.drop_zero]
      iterate 2
        (apply headC_step
         case hy =>
           refine Or.inl ⟨rfl, fun wq hq => ?_⟩
           have hcq := (cls_cell hq).1
           go_simp
           try rfl
         simp only [Act.put, List.setIfInBounds_toArray, List.set_cons_zero, List.set_cons_succ])
      refine headC_nil ?_
      refine wpListC_step rfl (fun K hK => ?_)
      go_simp
      refine (toCluster_any x _ _ _ (Dat.frame h (fun b hb => (show Below w.heap.size w _ from (by repeat (first | with_reducible exact ext_refl _ | with_reducible assumption | with_reducible refine ext_alloc ?_ _ | with_reducible refine ext_drew ?_ | with_reducible refine ext_trans ?_ (by assumption)))).block b (Dat.lt h b hb)) (show Below w.heap.size w _ from (by repeat (first | with_reducible exact ext_refl _ | with_reducible assumption | with_reducible refine ext_alloc ?_ _ | with_reducible refine ext_drew ?_ | with_reducible refine ext_trans ?_ (by assumption)))).size) HWT.out).mono ?_
      rintro e w6 ⟨cs6, G6, rfl, hO6, hb6⟩
      have hR6 := hO6.rd
      obtain ⟨Ahosts6, chosts6, Fhosts6, Apods6, cpods6, Fpods6, hck, hG6, hhosts6, hpods6, hnext6, hweightspack6, hweightsspread6, hweightssoft6⟩ := rd_Cluster hR6
      subst hck
      clear hG6 hR6
      have hb56 : Below w5.heap.size w5 w6 := ext_trans (ext_drew (ext_refl _)) hb6
      refine hK _ _ hb56 (fun _ => ?_)
      try simp only [Act.put, List.setIfInBounds_toArray, List.set_cons_zero, List.set_cons_succ]
      clear hK K
      refine wpListC_step rfl (fun K hK => ?_)
      go_simp
      refine (eqCluster_any x x _ _ _ _ _ (hO5.ext hb56).rd hO6.rd).mono ?_
      rw [HSAME.out]
      rintro e w7 ⟨rfl, hb7⟩
      refine hK _ _ (ext_trans hb56 hb7) (fun _ => ?_)
      try simp only [Act.put, List.setIfInBounds_toArray, List.set_cons_zero, List.set_cons_succ]
      clear hK K
      refine wpListC_step rfl (fun K hK => ?_)
      go_simp
      refine hK _ _ (ext_trans hb56 hb7) (fun _ => ?_)
      try simp only [Act.put, List.setIfInBounds_toArray, List.set_cons_zero, List.set_cons_succ]
      clear hK K
      refine wpListC_nil ?_
      go_wp2
      go_ret
      exact ⟨rfl, ext_trans (ext_trans (ext_trans (ext_alloc (ext_trans (ext_trans (ext_trans (ext_trans (ext_alloc (ext_refl _) _) hb1) hb2) hb3) hb4) _) hb5) hb56) hb7⟩
  · have hsz : szR x.wt 1048576 = -1 := by have := szR_spec x.wt 1048576; omega
    have HSZ := Lib.hid hsz
    clear hsz hw
    have hr := h
    obtain ⟨Ahosts, chosts, Fhosts, Apods, cpods, Fpods, hck, hF0, hhosts, hpods, hnext, hweightspack, hweightsspread, hweightssoft⟩ := rd_Cluster hr
    subst hck
    clear hF0 hr
    go_enter Try.func8, Try.ntmps8
    go_wp2_with fail
    refine (szCluster_any x _ _ _ _ (Dat.frame h (fun b hb => (show Below w.heap.size w _ from (by repeat (first | with_reducible exact ext_refl _ | with_reducible assumption | with_reducible refine ext_alloc ?_ _ | with_reducible refine ext_trans ?_ (by assumption)))).block b (Dat.lt h b hb)) (show Below w.heap.size w _ from (by repeat (first | with_reducible exact ext_refl _ | with_reducible assumption | with_reducible refine ext_alloc ?_ _ | with_reducible refine ext_trans ?_ (by assumption)))).size) (by omega) (by omega)).mono ?_
    rw [HSZ.out]
    rintro e w1 ⟨rfl, hb1⟩
    go_wp2
    go_ret
    exact ⟨rfl, (by repeat (first | with_reducible exact ext_refl _ | with_reducible assumption | with_reducible refine ext_alloc ?_ _ | with_reducible refine ext_trans ?_ (by assumption)))⟩

set_option maxRecDepth 100000 in
theorem law_walk {H : Type} {enc : TypeId × Value → H} (W : World) (base : Nat) (args : Array Value) (ds : List (DataW H)) (p : List MemPlace)
    (hval : ∀ (j : Nat) t v, Try.f8.params[j]? = some t → args[j]? = some v → Value.okWide Try.prog W .any base t v)
    (hA : DataW.TrodAll enc Try.prog W 0 (fun _ => true) true Try.f8.params.toList args.toList ds p) (hlt : ∀ x ∈ p, x.block < W.heap.size) :
    Calls Try.prog 8 args W fun e W' => e = .returned (.bool true) ∧ Below W.heap.size W W' := by
  rw [Try.params8] at hA hval
  obtain ⟨v0, vs0, d0, ds0, p0, q0, hargs, rfl, rfl, h0, r0⟩ := trodAll_cons hA
  obtain ⟨v1, vs1, d1, ds1, p1, q1, rfl, rfl, rfl, h1, r1⟩ := trodAll_cons r0
  obtain ⟨rfl, rfl, rfl⟩ := trodAll_nil r1
  obtain rfl : args = #[v0, v1] := by cases args; simp_all
  have hv0 := hval 0 53 v0 rfl rfl
  obtain ⟨cs, rfl, _⟩ := okWide_struct Try.underlying53 hv0
  clear hv0
  obtain ⟨nm, rfl⟩ := okWide_string Try.underlying9 (hval 1 9 v1 rfl rfl)
  obtain ⟨fuel, hf⟩ := h0
  obtain ⟨x, F, hr⟩ := opens_Cluster H enc W 0 fuel _ _ _ _ hf
  exact walk x cs.toList F nm W hr

theorem own : ownKnob Try.prog.godebug = none := by kernel_rfl
theorem laid : laidOutB Try.prog = true := by kernel_rfl
theorem readable : ∀ t ∈ Try.f8.params.toList, Try.prog.readableRec t = true ∧ t < Try.prog.types.size := by
  have h : (Try.f8.params.toList.all fun t => Try.prog.readableRec t && decide (t < Try.prog.types.size)) = true := by kernel_rfl
  intro t ht
  have := List.all_eq_true.1 h t ht
  simpa using this

theorem law_shape {H : Type} {enc : TypeId × Value → H} {W : World} {args : List Value} {ds : List (DataW H)} {p : List MemPlace}
    (h : DataW.TrodAll enc Try.prog W 0 (fun _ => true) true Try.f8.params.toList args ds p) : ∃ d0 d1, ds = [d0, d1] := by
  rw [Try.params8] at h
  obtain ⟨v0, vs0, d0, ds0, p0, q0, _, rfl, _, _, r0⟩ := trodAll_cons h
  obtain ⟨v1, vs1, d1, ds1, p1, q1, _, rfl, _, _, r1⟩ := trodAll_cons r0
  obtain ⟨_, rfl, _⟩ := trodAll_nil r1
  exact ⟨d0, d1, rfl⟩

set_option maxRecDepth 100000 in
theorem lifted (os : Os) (started : os.Started) (H : Type) (enc : TypeId × Value → H) :
    ReturnsInHanded {} Try.checked os 8 .any (Rows.fnExactUsedOnSpec.pre6 enc Try.prog Try.f8 Rows.fnExactUsedOnRow.domain false) (Rows.fnExactUsedOnSpec.post enc Try.prog Try.f8 false true false false) := by
  refine returnsInHanded_of_change (C := Try.checked) own started (by kernel_rfl) Try.func8
    (ChangeSpec.witness6 (enc := enc) (C := Try.checked) false ⟨#[], #[.agg #[.slice none 0 0, .slice none 0 0, .int .i64 0, .int .i64 0, .int .i64 0, .int .i64 0], .string ⟨#[]⟩], []⟩ 8 (by kernel_rfl) (by kernel_rfl) (by kernel_rfl) (by kernel_rfl)) ?_
  intro W base args ds gs before hval0 hW hcnd _
  have hlt : ∀ x ∈ before, x.block < W.heap.size := fun x hx => hW.lt x hx
  have hW' := hW
  obtain ⟨p, q, hA, hV, rfl, _, _⟩ := hW'
  exact (law_walk W base args ds p hval0 hA (fun x hx => hlt x (List.mem_append_left _ hx))).mono fun e W' ⟨he, hb⟩ =>
    ⟨_, he, law_post laid readable rfl Try.underlying4 rfl (by obtain ⟨d0, d1, hs⟩ := law_shape hA; rw [hs]; rfl) hW hb⟩

theorem over : Rows.fnExactUsedOnRow.holds Try.pinned (OpenSpec.ofChange Rows.fnExactUsedOnSpec) :=
  OpenClaim.holds_of_wide 8 Try.f8 rfl rfl rfl rfl rfl rfl rfl ⟨rfl, rfl, rfl, rfl, rfl⟩ rfl rfl rfl rfl rfl (by kernel_rfl) Try.func8 (by kernel_rfl)
    (of_decide_eq_true (by kernel_rfl)) (by unfold Func.isWrapper; first | (rw [if_pos (by decide +kernel)]; kernel_rfl) | (rw [if_neg (by decide +kernel)]; exact ⟨rfl, rfl⟩))
    (fun os started H enc _ => lifted os started H enc)

theorem proved : Rows.FnExactUsedOnSaid :=
  over
#print axioms proved
end Go.Proofs.Ytjhonoabpelfeaa.fnExactUsedOn
