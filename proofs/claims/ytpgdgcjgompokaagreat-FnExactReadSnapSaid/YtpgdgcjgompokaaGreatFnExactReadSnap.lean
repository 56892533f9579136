/- FnExactReadSnap: for every text the program's ReadSnap and the reference's read the same cluster, in memory of its own, and say alike whether it is right. No condition. -/
import Derived.Test.YtpgdgcjgompokaaGreatRdSnI
import Derived.Test.YtpgdgcjgompokaaGreatRdSnS
import Derived.Test.YtpgdgcjgompokaaGreatRdSnB
import Derived.Test.YtpgdgcjgompokaaGreatLawA
import Derived.Test.YtpgdgcjgompokaaGreatToBase
import Derived.StillTailTactics
namespace Go.Proofs.YtpgdgcjgompokaaGreat.fnExactReadSnap
open Go.ChangeShapes Go.WideShapes Go.ChangeAt Go.RowKit
set_option linter.unusedVariables false
set_option linter.unusedSimpArgs false
set_option maxRecDepth 100000 in
set_option maxHeartbeats 4000000 in
theorem walk (s : ByteArray) (w : World) :
    Calls Tryz.prog 3 #[.string s] w fun e w' => e = .returned (.bool true) ∧ Below w.heap.size w w' := by
  by_cases hs : (1048576 : Int) < s.size
  · go_enter Tryz.func3, Tryz.ntmps3
    go_wp2
    go_ret
    exact ⟨rfl, ext_refl _⟩
  have hs2 : (s.size : Int) ≤ 1048576 := by omega
  have HSP := Lib.hid (fun wq => by have h9 := ReadSnap_spec s wq hs2; rw [← readSnap_same] at h9; exact h9)
  have HIM := Lib.hid (fun wq => ReadSnap_impl s wq hs2)
  have hcnt : (cntTopCluster (readSnapI s).1 : Int) ≤ 1048576 := readSnapI_cnt s
  generalize readSnapI s = R at *
  obtain ⟨xs, n⟩ := R
  dsimp only at *
  have HSL := Lib.hid ((eqCluster_iff xs xs).2 rfl)
  have hnn : (n != n) = false := by simp
  go_enter Tryz.func3, Tryz.ntmps3
  go_wp2_with fail
  refine (HSP.out _).mono ?_
  rintro e w1 ⟨ds1, G1, rfl, hO1, hb1⟩
  obtain ⟨hc1, hf1⟩ := bcell hb1
  have hB1 : Below w.heap.size w w1 := ext_trans (by repeat (first | with_reducible exact ext_refl _ | with_reducible assumption | with_reducible refine ext_alloc ?_ _ | with_reducible refine ext_drew ?_ | with_reducible refine ext_trans ?_ (by assumption))) hb1
  have hR1 := hO1.rd
  obtain ⟨Ahosts1, chosts1, Fhosts1, Apods1, cpods1, Fpods1, hck, hG1, hhosts1, hpods1, hnext1, hweightspack1, hweightsspread1, hweightssoft1⟩ := rd_Cluster hR1
  subst hck
  clear hG1 hR1
  have hlt1 := hO1.lt
  go_wp2_with fail
  refine (HIM.out _).mono ?_
  rintro e w2 ⟨ds2, G2, rfl, hO2, hb2⟩
  obtain ⟨hc2, hf2⟩ := bcell hb2
  have hB2 : Below w.heap.size w w2 := ext_trans (by repeat (first | with_reducible exact ext_refl _ | with_reducible assumption | with_reducible refine ext_alloc ?_ _ | with_reducible refine ext_drew ?_ | with_reducible refine ext_trans ?_ (by assumption))) hb2
  have hz1_2 : w1.heap.size < w2.heap.size := by have := hb2.size; (try simp at this); omega
  first | replace hO1 := Own.ext hO1 hb2 | replace hO1 := Own.ext (hO1.alloc _) hb2
  have hR2 := hO2.rd
  obtain ⟨Ahosts2, chosts2, Fhosts2, Apods2, cpods2, Fpods2, hck, hG2, hhosts2, hpods2, hnext2, hweightspack2, hweightsspread2, hweightssoft2⟩ := rd_Cluster hR2
  subst hck
  clear hG2 hR2
  have hbs2 := hO2.base
  have hs12 : w1.heap.size ≤ w2.heap.size := by have := hb2.size; (try simp at this); omega
  have hlt2 := hO2.lt
  go_wp2_with fail
  refine (eqCluster_any xs xs _ _ _ _ _ (rd_ext hO2.rd (by repeat (first | with_reducible exact ext_refl _ | with_reducible assumption | with_reducible refine ext_alloc ?_ _ | with_reducible refine ext_drew ?_ | with_reducible refine ext_trans ?_ (by assumption)))) (rd_ext hO1.rd (by repeat (first | with_reducible exact ext_refl _ | with_reducible assumption | with_reducible refine ext_alloc ?_ _ | with_reducible refine ext_drew ?_ | with_reducible refine ext_trans ?_ (by assumption))))).mono ?_
  rw [HSL.out]
  rintro e w3 ⟨rfl, hb3⟩
  obtain ⟨hc3, hf3⟩ := bcell hb3
  have hB3 : Below w.heap.size w w3 := ext_trans (by repeat (first | with_reducible exact ext_refl _ | with_reducible assumption | with_reducible refine ext_alloc ?_ _ | with_reducible refine ext_drew ?_ | with_reducible refine ext_trans ?_ (by assumption))) hb3
  have hz1_3 : w1.heap.size < w3.heap.size := by have := hb3.size; (try simp at this); omega
  have hz2_3 : w2.heap.size < w3.heap.size := by have := hb3.size; (try simp at this); omega
  first | replace hO1 := Own.ext hO1 hb3 | replace hO1 := Own.ext (hO1.alloc _) hb3
  first | replace hO2 := Own.ext hO2 hb3 | replace hO2 := Own.ext (hO2.alloc _) hb3
  have hbs2s : ∀ b ∈ G2, w1.heap.size < b := fun b hb => by have := hbs2 b hb; (try simp at this); omega
  replace hbs2 : ∀ b ∈ G2, w1.heap.size ≤ b := fun b hb => by have := hbs2 b hb; (try simp at this); omega
  have hs13 : w1.heap.size ≤ w3.heap.size := by have := hb3.size; (try simp at this); omega
  go_wp2_with fail
  refine (markCluster_any xs _ G2 _ 1 _ hO2 (by omega) (by omega)).mono ?_
  rintro e w4 ⟨rfl, hO4, hU4⟩
  have hb4 : Below w1.heap.size w3 w4 := hU4.below hbs2 (by omega)
  obtain ⟨hc4, hf4⟩ := bcellB hb4
  have hB4 : Below w.heap.size w w4 := hB3.trans (hb4.mono (by have := hB1.size; omega))
  have hx4a : ∀ o, w4.cell? ⟨w1.heap.size, o, none⟩ = w3.cell? ⟨w1.heap.size, o, none⟩ := fun o => World.cell?_of_block (hU4.block _ (by omega) (fun hg => by have h99 : w1.heap.size < w1.heap.size := hbs2s _ hg; omega))
  have hx4b : ∀ o, w4.cell? ⟨w2.heap.size, o, none⟩ = w3.cell? ⟨w2.heap.size, o, none⟩ := fun o => World.cell?_of_block (hU4.block _ (by omega) (fun hg => by have h99 : w2.heap.size < w2.heap.size := hlt2 _ hg; omega))
  have hz1_4 : w1.heap.size < w4.heap.size := by have := hU4.size; omega
  have hz2_4 : w2.heap.size < w4.heap.size := by have := hU4.size; omega
  replace hO1 := hU4.own hO1 (fun b hb hg => by have := hlt1 b hb; have := hbs2 b hg; omega)
  go_wp2_with fail
  refine (heldCluster_any (mkTopCluster xs 1) _ G2 1 _ hO4.rd (mkTopCluster_idem _ _) (by omega) (by rw [cntTopCluster_mk]; omega)).mono ?_
  rw [cntTopCluster_mk]
  rintro e w5 ⟨rfl, hb5⟩
  obtain ⟨hc5, hf5⟩ := bcell hb5
  have hB5 : Below w.heap.size w w5 := ext_trans (by repeat (first | with_reducible exact ext_refl _ | with_reducible assumption | with_reducible refine ext_alloc ?_ _ | with_reducible refine ext_drew ?_ | with_reducible refine ext_trans ?_ (by assumption))) hb5
  have hz1_5 : w1.heap.size < w5.heap.size := by have := hb5.size; (try simp at this); omega
  have hz2_5 : w2.heap.size < w5.heap.size := by have := hb5.size; (try simp at this); omega
  first | replace hO1 := Own.ext hO1 hb5 | replace hO1 := Own.ext (hO1.alloc _) hb5
  first | replace hO4 := Own.ext hO4 hb5 | replace hO4 := Own.ext (hO4.alloc _) hb5
  go_wp2_with fail
  refine (HIM.out _).mono ?_
  rintro e w6 ⟨ds6, G6, rfl, hO6, hb6⟩
  obtain ⟨hc6, hf6⟩ := bcell hb6
  have hB6 : Below w.heap.size w w6 := ext_trans (by repeat (first | with_reducible exact ext_refl _ | with_reducible assumption | with_reducible refine ext_alloc ?_ _ | with_reducible refine ext_drew ?_ | with_reducible refine ext_trans ?_ (by assumption))) hb6
  have hz1_6 : w1.heap.size < w6.heap.size := by have := hb6.size; (try simp at this); omega
  have hz2_6 : w2.heap.size < w6.heap.size := by have := hb6.size; (try simp at this); omega
  first | replace hO1 := Own.ext hO1 hb6 | replace hO1 := Own.ext (hO1.alloc _) hb6
  first | replace hO4 := Own.ext hO4 hb6 | replace hO4 := Own.ext (hO4.alloc _) hb6
  have hR6 := hO6.rd
  obtain ⟨Ahosts6, chosts6, Fhosts6, Apods6, cpods6, Fpods6, hck, hG6, hhosts6, hpods6, hnext6, hweightspack6, hweightsspread6, hweightssoft6⟩ := rd_Cluster hR6
  subst hck
  clear hG6 hR6
  go_wp2_with fail
  refine (eqCluster_any xs xs _ _ _ _ _ (rd_ext hO6.rd (by repeat (first | with_reducible exact ext_refl _ | with_reducible assumption | with_reducible refine ext_alloc ?_ _ | with_reducible refine ext_drew ?_ | with_reducible refine ext_trans ?_ (by assumption)))) (rd_ext hO1.rd (by repeat (first | with_reducible exact ext_refl _ | with_reducible assumption | with_reducible refine ext_alloc ?_ _ | with_reducible refine ext_drew ?_ | with_reducible refine ext_trans ?_ (by assumption))))).mono ?_
  rw [HSL.out]
  rintro e w7 ⟨rfl, hb7⟩
  obtain ⟨hc7, hf7⟩ := bcell hb7
  have hB7 : Below w.heap.size w w7 := ext_trans (by repeat (first | with_reducible exact ext_refl _ | with_reducible assumption | with_reducible refine ext_alloc ?_ _ | with_reducible refine ext_drew ?_ | with_reducible refine ext_trans ?_ (by assumption))) hb7
  have hz1_7 : w1.heap.size < w7.heap.size := by have := hb7.size; (try simp at this); omega
  have hz2_7 : w2.heap.size < w7.heap.size := by have := hb7.size; (try simp at this); omega
  have hz6_7 : w6.heap.size < w7.heap.size := by have := hb7.size; (try simp at this); omega
  first | replace hO4 := Own.ext hO4 hb7 | replace hO4 := Own.ext (hO4.alloc _) hb7
  go_wp2_with fail
  refine (heldCluster_any (mkTopCluster xs 1) _ G2 1 _ hO4.rd (mkTopCluster_idem _ _) (by omega) (by rw [cntTopCluster_mk]; omega)).mono ?_
  rw [cntTopCluster_mk]
  rintro e w8 ⟨rfl, hb8⟩
  obtain ⟨hc8, hf8⟩ := bcell hb8
  have hB8 : Below w.heap.size w w8 := ext_trans (by repeat (first | with_reducible exact ext_refl _ | with_reducible assumption | with_reducible refine ext_alloc ?_ _ | with_reducible refine ext_drew ?_ | with_reducible refine ext_trans ?_ (by assumption))) hb8
  have hz1_8 : w1.heap.size < w8.heap.size := by have := hb8.size; (try simp at this); omega
  have hz2_8 : w2.heap.size < w8.heap.size := by have := hb8.size; (try simp at this); omega
  have hz6_8 : w6.heap.size < w8.heap.size := by have := hb8.size; (try simp at this); omega
  go_wp2
  go_ret
  exact ⟨rfl, hB8⟩

set_option maxRecDepth 100000 in
theorem law_walk {H : Type} {enc : TypeId × Value → H} (W : World) (base : Nat) (args : Array Value) (ds : List (DataW H)) (p : List MemPlace)
    (hval : ∀ (j : Nat) t v, Tryz.f3.params[j]? = some t → args[j]? = some v → Value.okWide Tryz.prog W .any base t v)
    (hA : DataW.TrodAll enc Tryz.prog W 0 (fun _ => true) true Tryz.f3.params.toList args.toList ds p) (hlt : ∀ x ∈ p, x.block < W.heap.size) :
    Calls Tryz.prog 3 args W fun e W' => e = .returned (.bool true) ∧ Below W.heap.size W W' := by
  rw [Tryz.params3] at hA hval
  obtain ⟨v0, vs0, d0, ds0, p0, q0, hargs, rfl, rfl, h0, r0⟩ := trodAll_cons hA
  obtain ⟨rfl, rfl, rfl⟩ := trodAll_nil r0
  obtain rfl : args = #[v0] := by cases args; simp_all
  obtain ⟨s, rfl⟩ := okWide_string Tryz.underlying9 (hval 0 9 v0 rfl rfl)
  exact walk s W

theorem own : ownKnob Tryz.prog.godebug = none := by kernel_rfl
theorem laid : laidOutB Tryz.prog = true := by kernel_rfl
theorem readable : ∀ t ∈ Tryz.f3.params.toList, Tryz.prog.readableRec t = true ∧ t < Tryz.prog.types.size := by
  have h : (Tryz.f3.params.toList.all fun t => Tryz.prog.readableRec t && decide (t < Tryz.prog.types.size)) = true := by kernel_rfl
  intro t ht
  have := List.all_eq_true.1 h t ht
  simpa using this

theorem law_shape {H : Type} {enc : TypeId × Value → H} {W : World} {args : List Value} {ds : List (DataW H)} {p : List MemPlace}
    (h : DataW.TrodAll enc Tryz.prog W 0 (fun _ => true) true Tryz.f3.params.toList args ds p) : ∃ d0, ds = [d0] := by
  rw [Tryz.params3] at h
  obtain ⟨v0, vs0, d0, ds0, p0, q0, _, rfl, _, _, r0⟩ := trodAll_cons h
  obtain ⟨_, rfl, _⟩ := trodAll_nil r0
  exact ⟨d0, rfl⟩

set_option maxRecDepth 100000 in
theorem lifted (os : Os) (started : os.Started) (H : Type) (enc : TypeId × Value → H) :
    ReturnsInHanded {} Tryz.checked os 3 .any (Rows.fnExactReadSnapSpec.pre6 enc Tryz.prog Tryz.f3 Rows.fnExactReadSnapRow.domain false) (Rows.fnExactReadSnapSpec.post enc Tryz.prog Tryz.f3 false true false false) := by
  refine returnsInHanded_of_change (C := Tryz.checked) own started (by kernel_rfl) Tryz.func3
    (ChangeSpec.witness6 (enc := enc) (C := Tryz.checked) false ⟨#[], #[.string ⟨#[]⟩], []⟩ 8 (by kernel_rfl) (by kernel_rfl) (by kernel_rfl) (by kernel_rfl)) ?_
  intro W base args ds gs before hval0 hW hcnd _
  have hlt : ∀ x ∈ before, x.block < W.heap.size := fun x hx => hW.lt x hx
  have hW' := hW
  obtain ⟨p, q, hA, hV, rfl, _, _⟩ := hW'
  exact (law_walk W base args ds p hval0 hA (fun x hx => hlt x (List.mem_append_left _ hx))).mono fun e W' ⟨he, hb⟩ =>
    ⟨_, he, law_post laid readable rfl Tryz.underlying4 rfl (by obtain ⟨d0, hs⟩ := law_shape hA; rw [hs]; rfl) hW hb⟩

theorem over : Rows.fnExactReadSnapRow.holds Tryz.pinned (OpenSpec.ofChange Rows.fnExactReadSnapSpec) :=
  OpenClaim.holds_of_wide 3 Tryz.f3 rfl rfl rfl rfl rfl rfl rfl ⟨rfl, rfl, rfl, rfl, rfl⟩ rfl rfl rfl rfl rfl (by kernel_rfl) Tryz.func3 (by kernel_rfl)
    (of_decide_eq_true (by kernel_rfl)) (by unfold Func.isWrapper; first | (rw [if_pos (by decide +kernel)]; kernel_rfl) | (rw [if_neg (by decide +kernel)]; exact ⟨rfl, rfl⟩))
    (fun os started H enc _ => lifted os started H enc)

theorem proved : Rows.FnExactReadSnapSaid :=
  over
#print axioms proved
end Go.Proofs.YtpgdgcjgompokaaGreat.fnExactReadSnap
