/- SetWeights, of the program and of the reference. No condition. -/
import Derived.Test.YtjoclfenghenjaaGreatCopyCS
import Derived.Test.YtjoclfenghenjaaGreatClusterI
import Derived.Test.YtjoclfenghenjaaGreatClusterS
import Derived.Test.YtjoclfenghenjaaGreatLaw1
import Derived.Test.YtjoclfenghenjaaGreatMtTop
namespace Go.Proofs.YtjoclfenghenjaaGreat
open Go.ChangeShapes Go.WideShapes Go.ChangeAt Go.RowKit
set_option linter.unusedVariables false
set_option linter.unusedSimpArgs false

def setW (x : Cluster) (u : Weights) : Cluster × Int := if clusterR x = true ∧ weightsR u.pack u.spread u.soft = true then (⟨x.hosts, x.pods, x.next, u⟩, 0) else (x, 1)
theorem setW_cnt (x : Cluster) (u : Weights) : cntTopCluster (setW x u).1 = cntTopCluster x := by unfold setW; split <;> rfl
theorem Own.setWeights {w : World} {B : Nat} {x : Cluster} {Ah Ap : Option Addr} {nh ch np cp : Nat} {n p q f : Int} {G : List Nat} (h : Own w B x [.slice Ah nh ch, .slice Ap np cp, .int .i64 n, .int .i64 p, .int .i64 q, .int .i64 f] G) (u : Weights) (h1 : I64 u.pack) (h2 : I64 u.spread) (h3 : I64 u.soft) :
    Own w B (⟨x.hosts, x.pods, x.next, u⟩ : Cluster) [.slice Ah nh ch, .slice Ap np cp, .int .i64 n, .int .i64 u.pack, .int .i64 u.spread, .int .i64 u.soft] G := by
  obtain ⟨⟨c1, c2, F1, F2, e1, e2, hh, d1, d2, G1, G2, e3, e4, hp, g1, g2, H1, H2, e5, e6, ⟨e7, e8, hn⟩, hwt⟩, hnd, hb, hpl⟩ := h
  obtain ⟨A, c, rfl, _⟩ := rd_list hh
  obtain ⟨A2, c2', rfl, _⟩ := rd_list hp
  subst e7 e5 e3
  simp only [List.cons_append, List.nil_append, List.cons.injEq] at e1
  obtain ⟨ea, eb, ec, _⟩ := e1
  refine ⟨⟨_, [.slice Ap np cp, .int .i64 n, .int .i64 u.pack, .int .i64 u.spread, .int .i64 u.soft], F1, F2, (by rw [ea]; rfl), e2, hh, _, [.int .i64 n, .int .i64 u.pack, .int .i64 u.spread, .int .i64 u.soft], G1, G2, (by rw [eb]; rfl), e4, hp, _, [.int .i64 u.pack, .int .i64 u.spread, .int .i64 u.soft], H1, H2, (by rw [ec]; rfl), e6, ⟨rfl, e8, hn⟩, ?_⟩, hnd, hb, hpl⟩
  obtain ⟨rfl, hF, _⟩ := rd_Weights hwt
  rw [hF]
  exact rd_Weights_mk w u h1 h2 h3
set_option maxRecDepth 100000 in
set_option maxHeartbeats 4000000 in
theorem SetWeights_impl (x : Cluster) (cs : List Value) (F : List Nat) (u : Weights) (us : List Value) (Fu : List Nat) (w : World) (h : rd w x cs F) (h' : rd w u us Fu) (hw : (x.wt : Int) ≤ 1048576) :
    Calls Tryz.prog 12 #[.agg cs.toArray, .agg us.toArray] w fun e w' => ∃ ds G, e = .returned (.tuple #[.agg ds.toArray, .int .i64 (setW x u).2]) ∧ Own w' w.heap.size (setW x u).1 ds G ∧ Below w.heap.size w w' := by
  have HW := Lib.hid hw
  clear hw
  have hr := h
  have hr' := h'
  obtain ⟨Ahosts, chosts, Fhosts, Apods, cpods, Fpods, hck, hF0, hhosts, hpods, hnext, hweightspack, hweightsspread, hweightssoft⟩ := rd_Cluster hr
  subst hck
  obtain ⟨hck, hG0, hpack2, hspread2, hsoft2⟩ := rd_Weights hr'
  subst hck
  clear hF0 hG0 hr hr'
  cases hc : clusterR x <;> cases hwt : weightsR u.pack u.spread u.soft
  · have HF := Lib.hid (show setW x u = (x, 1) by unfold setW; rw [hc, hwt]; simp)
    have HC := Lib.hid hc
    have HWT := Lib.hid hwt
    clear hc hwt
    go_enter Tryz.func12, Tryz.ntmps12
    go_wp2_with fail
    refine (copyCluster_any x _ _ _ (rd_ext h (by repeat (first | with_reducible exact ext_refl _ | with_reducible assumption | with_reducible refine ext_alloc ?_ _ | with_reducible refine ext_drew ?_ | with_reducible refine ext_trans ?_ (by assumption)))) HW.out).mono ?_
    rintro e w1 ⟨cs1, G1, rfl, hO1, hb1⟩
    have hR1 := hO1.rd
    obtain ⟨Ahosts1, chosts1, Fhosts1, Apods1, cpods1, Fpods1, hck, hG1, hhosts1, hpods1, hnext1, hweightspack1, hweightsspread1, hweightssoft1⟩ := rd_Cluster hR1
    subst hck
    clear hG1 hR1
    obtain ⟨hc1, hf1⟩ := bcell hb1
    have hz1a : w.heap.size < w1.heap.size := by have := hb1.size; (try simp at this); omega
    have hz1b : w.heap.size + 1 < w1.heap.size := by have := hb1.size; (try simp at this); omega
    have hz1c : w.heap.size + 1 + 1 < w1.heap.size := by have := hb1.size; (try simp at this); omega
    have hlt1 := hO1.lt
    go_wp2_with fail
    refine (ClusterOk_impl x _ _ _ (rd_ext h (by repeat (first | with_reducible exact ext_refl _ | with_reducible assumption | with_reducible refine ext_alloc ?_ _ | with_reducible refine ext_drew ?_ | with_reducible refine ext_trans ?_ (by assumption)))) HW.out).mono ?_
    rw [HC.out]
    rintro e w2 ⟨rfl, hb2⟩
    obtain ⟨hc2, hf2⟩ := bcell hb2
    have hz2a : w.heap.size < w2.heap.size := by have := hb2.size; (try simp at this); omega
    have hz2b : w.heap.size + 1 < w2.heap.size := by have := hb2.size; (try simp at this); omega
    have hz2c : w.heap.size + 1 + 1 < w2.heap.size := by have := hb2.size; (try simp at this); omega
    have hz2d : w1.heap.size < w2.heap.size := by have := hb2.size; (try simp at this); omega
    have hO2 : Own w2 (w.heap.size + 1 + 1 + 1) x [.slice Ahosts1 x.hosts.length chosts1, .slice Apods1 x.pods.length cpods1, .int .i64 x.next, .int .i64 x.weights.pack, .int .i64 x.weights.spread, .int .i64 x.weights.soft] G1 := ((hO1.mono (by simp)).alloc _).ext hb2
    have HO2 := Lib.hid hO2
    clear hO1 hO2 h h'
    go_wp2_with fail
    try dsimp only
    iterate 60 (first | go_step | skip)
    refine bodyPost_ret (v := .tuple #[.agg #[.slice Ahosts1 x.hosts.length chosts1, .slice Apods1 x.pods.length cpods1, .int .i64 x.next, .int .i64 x.weights.pack, .int .i64 x.weights.spread, .int .i64 x.weights.soft], .int .i64 1]) (by simp [results, Tryz.results12, go_sem, *]) rfl ?_
    rw [HF.out]
    first
      | refine ⟨[.slice Ahosts1 x.hosts.length chosts1, .slice Apods1 x.pods.length cpods1, .int .i64 x.next, .int .i64 x.weights.pack, .int .i64 x.weights.spread, .int .i64 x.weights.soft], G1, rfl, ?_, ?_⟩
      | refine ⟨[.slice Ahosts1 x.hosts.length chosts1, .slice Apods1 x.pods.length cpods1, .int .i64 x.next, .int .i64 x.weights.pack, .int .i64 x.weights.spread, .int .i64 x.weights.soft], rfl, ⟨G1, ?_⟩, ?_⟩
    · try dsimp only
      refine Own.mono (B := w.heap.size + 1 + 1 + 1) ?_ (by omega)
      repeat (first | with_reducible exact HO2.out | with_reducible refine Own.setCell ?_ (by dsimp only; omega) _)
    · repeat (first | with_reducible exact ext_refl _ | with_reducible assumption | with_reducible refine ext_setCell ?_ (by dsimp only; omega) _ | with_reducible refine ext_alloc ?_ _ | with_reducible refine ext_drew ?_ | with_reducible refine ext_trans ?_ (by assumption))
  · have HF := Lib.hid (show setW x u = (x, 1) by unfold setW; rw [hc, hwt]; simp)
    have HC := Lib.hid hc
    have HWT := Lib.hid hwt
    clear hc hwt
    go_enter Tryz.func12, Tryz.ntmps12
    go_wp2_with fail
    refine (copyCluster_any x _ _ _ (rd_ext h (by repeat (first | with_reducible exact ext_refl _ | with_reducible assumption | with_reducible refine ext_alloc ?_ _ | with_reducible refine ext_drew ?_ | with_reducible refine ext_trans ?_ (by assumption)))) HW.out).mono ?_
    rintro e w1 ⟨cs1, G1, rfl, hO1, hb1⟩
    have hR1 := hO1.rd
    obtain ⟨Ahosts1, chosts1, Fhosts1, Apods1, cpods1, Fpods1, hck, hG1, hhosts1, hpods1, hnext1, hweightspack1, hweightsspread1, hweightssoft1⟩ := rd_Cluster hR1
    subst hck
    clear hG1 hR1
    obtain ⟨hc1, hf1⟩ := bcell hb1
    have hz1a : w.heap.size < w1.heap.size := by have := hb1.size; (try simp at this); omega
    have hz1b : w.heap.size + 1 < w1.heap.size := by have := hb1.size; (try simp at this); omega
    have hz1c : w.heap.size + 1 + 1 < w1.heap.size := by have := hb1.size; (try simp at this); omega
    have hlt1 := hO1.lt
    go_wp2_with fail
    refine (ClusterOk_impl x _ _ _ (rd_ext h (by repeat (first | with_reducible exact ext_refl _ | with_reducible assumption | with_reducible refine ext_alloc ?_ _ | with_reducible refine ext_drew ?_ | with_reducible refine ext_trans ?_ (by assumption)))) HW.out).mono ?_
    rw [HC.out]
    rintro e w2 ⟨rfl, hb2⟩
    obtain ⟨hc2, hf2⟩ := bcell hb2
    have hz2a : w.heap.size < w2.heap.size := by have := hb2.size; (try simp at this); omega
    have hz2b : w.heap.size + 1 < w2.heap.size := by have := hb2.size; (try simp at this); omega
    have hz2c : w.heap.size + 1 + 1 < w2.heap.size := by have := hb2.size; (try simp at this); omega
    have hz2d : w1.heap.size < w2.heap.size := by have := hb2.size; (try simp at this); omega
    have hO2 : Own w2 (w.heap.size + 1 + 1 + 1) x [.slice Ahosts1 x.hosts.length chosts1, .slice Apods1 x.pods.length cpods1, .int .i64 x.next, .int .i64 x.weights.pack, .int .i64 x.weights.spread, .int .i64 x.weights.soft] G1 := ((hO1.mono (by simp)).alloc _).ext hb2
    have HO2 := Lib.hid hO2
    clear hO1 hO2 h h'
    go_wp2_with fail
    try dsimp only
    iterate 60 (first | go_step | skip)
    refine bodyPost_ret (v := .tuple #[.agg #[.slice Ahosts1 x.hosts.length chosts1, .slice Apods1 x.pods.length cpods1, .int .i64 x.next, .int .i64 x.weights.pack, .int .i64 x.weights.spread, .int .i64 x.weights.soft], .int .i64 1]) (by simp [results, Tryz.results12, go_sem, *]) rfl ?_
    rw [HF.out]
    first
      | refine ⟨[.slice Ahosts1 x.hosts.length chosts1, .slice Apods1 x.pods.length cpods1, .int .i64 x.next, .int .i64 x.weights.pack, .int .i64 x.weights.spread, .int .i64 x.weights.soft], G1, rfl, ?_, ?_⟩
      | refine ⟨[.slice Ahosts1 x.hosts.length chosts1, .slice Apods1 x.pods.length cpods1, .int .i64 x.next, .int .i64 x.weights.pack, .int .i64 x.weights.spread, .int .i64 x.weights.soft], rfl, ⟨G1, ?_⟩, ?_⟩
    · try dsimp only
      refine Own.mono (B := w.heap.size + 1 + 1 + 1) ?_ (by omega)
      repeat (first | with_reducible exact HO2.out | with_reducible refine Own.setCell ?_ (by dsimp only; omega) _)
    · repeat (first | with_reducible exact ext_refl _ | with_reducible assumption | with_reducible refine ext_setCell ?_ (by dsimp only; omega) _ | with_reducible refine ext_alloc ?_ _ | with_reducible refine ext_drew ?_ | with_reducible refine ext_trans ?_ (by assumption))
  · have HF := Lib.hid (show setW x u = (x, 1) by unfold setW; rw [hc, hwt]; simp)
    have HC := Lib.hid hc
    have HWT := Lib.hid hwt
    clear hc hwt
    go_enter Tryz.func12, Tryz.ntmps12
    go_wp2_with fail
    refine (copyCluster_any x _ _ _ (rd_ext h (by repeat (first | with_reducible exact ext_refl _ | with_reducible assumption | with_reducible refine ext_alloc ?_ _ | with_reducible refine ext_drew ?_ | with_reducible refine ext_trans ?_ (by assumption)))) HW.out).mono ?_
    rintro e w1 ⟨cs1, G1, rfl, hO1, hb1⟩
    have hR1 := hO1.rd
    obtain ⟨Ahosts1, chosts1, Fhosts1, Apods1, cpods1, Fpods1, hck, hG1, hhosts1, hpods1, hnext1, hweightspack1, hweightsspread1, hweightssoft1⟩ := rd_Cluster hR1
    subst hck
    clear hG1 hR1
    obtain ⟨hc1, hf1⟩ := bcell hb1
    have hz1a : w.heap.size < w1.heap.size := by have := hb1.size; (try simp at this); omega
    have hz1b : w.heap.size + 1 < w1.heap.size := by have := hb1.size; (try simp at this); omega
    have hz1c : w.heap.size + 1 + 1 < w1.heap.size := by have := hb1.size; (try simp at this); omega
    have hlt1 := hO1.lt
    go_wp2_with fail
    refine (ClusterOk_impl x _ _ _ (rd_ext h (by repeat (first | with_reducible exact ext_refl _ | with_reducible assumption | with_reducible refine ext_alloc ?_ _ | with_reducible refine ext_drew ?_ | with_reducible refine ext_trans ?_ (by assumption)))) HW.out).mono ?_
    rw [HC.out]
    rintro e w2 ⟨rfl, hb2⟩
    obtain ⟨hc2, hf2⟩ := bcell hb2
    have hz2a : w.heap.size < w2.heap.size := by have := hb2.size; (try simp at this); omega
    have hz2b : w.heap.size + 1 < w2.heap.size := by have := hb2.size; (try simp at this); omega
    have hz2c : w.heap.size + 1 + 1 < w2.heap.size := by have := hb2.size; (try simp at this); omega
    have hz2d : w1.heap.size < w2.heap.size := by have := hb2.size; (try simp at this); omega
    go_wp2_with fail
    refine (WeightsOk_impl u.pack u.spread u.soft _).mono ?_
    rw [HWT.out]
    rintro e w3 ⟨rfl, hb3⟩
    obtain ⟨hc3, hf3⟩ := bcell hb3
    have hz3a : w.heap.size < w3.heap.size := by have := hb3.size; (try simp at this); omega
    have hz3b : w.heap.size + 1 < w3.heap.size := by have := hb3.size; (try simp at this); omega
    have hz3c : w.heap.size + 1 + 1 < w3.heap.size := by have := hb3.size; (try simp at this); omega
    have hz3d : w1.heap.size < w3.heap.size := by have := hb3.size; (try simp at this); omega
    have hO2 : Own w3 (w.heap.size + 1 + 1 + 1) x [.slice Ahosts1 x.hosts.length chosts1, .slice Apods1 x.pods.length cpods1, .int .i64 x.next, .int .i64 x.weights.pack, .int .i64 x.weights.spread, .int .i64 x.weights.soft] G1 := (((hO1.mono (by simp)).alloc _).ext hb2).ext hb3
    have HO2 := Lib.hid hO2
    clear hO1 hO2 h h'
    go_wp2_with fail
    try dsimp only
    iterate 60 (first | go_step | skip)
    refine bodyPost_ret (v := .tuple #[.agg #[.slice Ahosts1 x.hosts.length chosts1, .slice Apods1 x.pods.length cpods1, .int .i64 x.next, .int .i64 x.weights.pack, .int .i64 x.weights.spread, .int .i64 x.weights.soft], .int .i64 1]) (by simp [results, Tryz.results12, go_sem, *]) rfl ?_
    rw [HF.out]
    first
      | refine ⟨[.slice Ahosts1 x.hosts.length chosts1, .slice Apods1 x.pods.length cpods1, .int .i64 x.next, .int .i64 x.weights.pack, .int .i64 x.weights.spread, .int .i64 x.weights.soft], G1, rfl, ?_, ?_⟩
      | refine ⟨[.slice Ahosts1 x.hosts.length chosts1, .slice Apods1 x.pods.length cpods1, .int .i64 x.next, .int .i64 x.weights.pack, .int .i64 x.weights.spread, .int .i64 x.weights.soft], rfl, ⟨G1, ?_⟩, ?_⟩
    · try dsimp only
      refine Own.mono (B := w.heap.size + 1 + 1 + 1) ?_ (by omega)
      repeat (first | with_reducible exact HO2.out | with_reducible refine Own.setCell ?_ (by dsimp only; omega) _)
    · repeat (first | with_reducible exact ext_refl _ | with_reducible assumption | with_reducible refine ext_setCell ?_ (by dsimp only; omega) _ | with_reducible refine ext_alloc ?_ _ | with_reducible refine ext_drew ?_ | with_reducible refine ext_trans ?_ (by assumption))
  · have HF := Lib.hid (show setW x u = (⟨x.hosts, x.pods, x.next, u⟩, 0) by unfold setW; rw [hc, hwt]; simp)
    have HC := Lib.hid hc
    have HWT := Lib.hid hwt
    clear hc hwt
    go_enter Tryz.func12, Tryz.ntmps12
    go_wp2_with fail
    refine (copyCluster_any x _ _ _ (rd_ext h (by repeat (first | with_reducible exact ext_refl _ | with_reducible assumption | with_reducible refine ext_alloc ?_ _ | with_reducible refine ext_drew ?_ | with_reducible refine ext_trans ?_ (by assumption)))) HW.out).mono ?_
    rintro e w1 ⟨cs1, G1, rfl, hO1, hb1⟩
    have hR1 := hO1.rd
    obtain ⟨Ahosts1, chosts1, Fhosts1, Apods1, cpods1, Fpods1, hck, hG1, hhosts1, hpods1, hnext1, hweightspack1, hweightsspread1, hweightssoft1⟩ := rd_Cluster hR1
    subst hck
    clear hG1 hR1
    obtain ⟨hc1, hf1⟩ := bcell hb1
    have hz1a : w.heap.size < w1.heap.size := by have := hb1.size; (try simp at this); omega
    have hz1b : w.heap.size + 1 < w1.heap.size := by have := hb1.size; (try simp at this); omega
    have hz1c : w.heap.size + 1 + 1 < w1.heap.size := by have := hb1.size; (try simp at this); omega
    have hlt1 := hO1.lt
    go_wp2_with fail
    refine (ClusterOk_impl x _ _ _ (rd_ext h (by repeat (first | with_reducible exact ext_refl _ | with_reducible assumption | with_reducible refine ext_alloc ?_ _ | with_reducible refine ext_drew ?_ | with_reducible refine ext_trans ?_ (by assumption)))) HW.out).mono ?_
    rw [HC.out]
    rintro e w2 ⟨rfl, hb2⟩
    obtain ⟨hc2, hf2⟩ := bcell hb2
    have hz2a : w.heap.size < w2.heap.size := by have := hb2.size; (try simp at this); omega
    have hz2b : w.heap.size + 1 < w2.heap.size := by have := hb2.size; (try simp at this); omega
    have hz2c : w.heap.size + 1 + 1 < w2.heap.size := by have := hb2.size; (try simp at this); omega
    have hz2d : w1.heap.size < w2.heap.size := by have := hb2.size; (try simp at this); omega
    go_wp2_with fail
    refine (WeightsOk_impl u.pack u.spread u.soft _).mono ?_
    rw [HWT.out]
    rintro e w3 ⟨rfl, hb3⟩
    obtain ⟨hc3, hf3⟩ := bcell hb3
    have hz3a : w.heap.size < w3.heap.size := by have := hb3.size; (try simp at this); omega
    have hz3b : w.heap.size + 1 < w3.heap.size := by have := hb3.size; (try simp at this); omega
    have hz3c : w.heap.size + 1 + 1 < w3.heap.size := by have := hb3.size; (try simp at this); omega
    have hz3d : w1.heap.size < w3.heap.size := by have := hb3.size; (try simp at this); omega
    have hO2 : Own w3 (w.heap.size + 1 + 1 + 1) x [.slice Ahosts1 x.hosts.length chosts1, .slice Apods1 x.pods.length cpods1, .int .i64 x.next, .int .i64 x.weights.pack, .int .i64 x.weights.spread, .int .i64 x.weights.soft] G1 := (((hO1.mono (by simp)).alloc _).ext hb2).ext hb3
    have HO2 := Lib.hid hO2
    clear hO1 hO2 h h'
    go_wp2_with fail
    try dsimp only
    iterate 60 (first | go_step | skip)
    refine bodyPost_ret (v := .tuple #[.agg #[.slice Ahosts1 x.hosts.length chosts1, .slice Apods1 x.pods.length cpods1, .int .i64 x.next, .int .i64 u.pack, .int .i64 u.spread, .int .i64 u.soft], .int .i64 0]) (by simp [results, Tryz.results12, go_sem, *]) rfl ?_
    rw [HF.out]
    first
      | refine ⟨[.slice Ahosts1 x.hosts.length chosts1, .slice Apods1 x.pods.length cpods1, .int .i64 x.next, .int .i64 u.pack, .int .i64 u.spread, .int .i64 u.soft], G1, rfl, ?_, ?_⟩
      | refine ⟨[.slice Ahosts1 x.hosts.length chosts1, .slice Apods1 x.pods.length cpods1, .int .i64 x.next, .int .i64 u.pack, .int .i64 u.spread, .int .i64 u.soft], rfl, ⟨G1, ?_⟩, ?_⟩
    · try dsimp only
      refine Own.mono (B := w.heap.size + 1 + 1 + 1) ?_ (by omega)
      repeat (first | with_reducible exact (HO2.out.setWeights u hpack2 hspread2 hsoft2) | with_reducible refine Own.setCell ?_ (by dsimp only; omega) _ | with_reducible refine ownFar ?_ (fun y hy => hlt1 y hy))
    · repeat (first | with_reducible exact ext_refl _ | with_reducible assumption | with_reducible refine ext_setCell ?_ (by dsimp only; omega) _ | with_reducible refine ext_alloc ?_ _ | with_reducible refine ext_drew ?_ | with_reducible refine ext_trans ?_ (by assumption))
set_option maxRecDepth 100000 in
set_option maxHeartbeats 4000000 in
theorem SetWeights_spec (x : Cluster) (cs : List Value) (F : List Nat) (u : Weights) (us : List Value) (Fu : List Nat) (w : World) (h : rd w x cs F) (h' : rd w u us Fu) (hw : (x.wt : Int) ≤ 1048576) :
    Calls Tryz.prog 9 #[.agg cs.toArray, .agg us.toArray] w fun e w' => ∃ ds G, e = .returned (.tuple #[.agg ds.toArray, .int .i64 (setW x u).2]) ∧ Own w' w.heap.size (setW x u).1 ds G ∧ Below w.heap.size w w' := by
  have HW := Lib.hid hw
  clear hw
  have hr := h
  have hr' := h'
  obtain ⟨Ahosts, chosts, Fhosts, Apods, cpods, Fpods, hck, hF0, hhosts, hpods, hnext, hweightspack, hweightsspread, hweightssoft⟩ := rd_Cluster hr
  subst hck
  obtain ⟨hck, hG0, hpack2, hspread2, hsoft2⟩ := rd_Weights hr'
  subst hck
  clear hF0 hG0 hr hr'
  cases hc : clusterR x <;> cases hwt : weightsR u.pack u.spread u.soft
  · have HF := Lib.hid (show setW x u = (x, 1) by unfold setW; rw [hc, hwt]; simp)
    have HC := Lib.hid hc
    have HWT := Lib.hid hwt
    clear hc hwt
    go_enter Tryz.func9, Tryz.ntmps9
    go_wp2_with fail
    refine (l22Copy_any x _ _ _ (rd_ext h (by repeat (first | with_reducible exact ext_refl _ | with_reducible assumption | with_reducible refine ext_alloc ?_ _ | with_reducible refine ext_drew ?_ | with_reducible refine ext_trans ?_ (by assumption)))) HW.out).mono ?_
    rintro e w1 ⟨cs1, G1, rfl, hO1, hb1⟩
    have hR1 := hO1.rd
    obtain ⟨Ahosts1, chosts1, Fhosts1, Apods1, cpods1, Fpods1, hck, hG1, hhosts1, hpods1, hnext1, hweightspack1, hweightsspread1, hweightssoft1⟩ := rd_Cluster hR1
    subst hck
    clear hG1 hR1
    obtain ⟨hc1, hf1⟩ := bcell hb1
    have hz1a : w.heap.size < w1.heap.size := by have := hb1.size; (try simp at this); omega
    have hz1b : w.heap.size + 1 < w1.heap.size := by have := hb1.size; (try simp at this); omega
    have hz1c : w.heap.size + 1 + 1 < w1.heap.size := by have := hb1.size; (try simp at this); omega
    have hlt1 := hO1.lt
    go_wp2_with fail
    refine (ClusterOk_spec x _ _ _ (rd_ext h (by repeat (first | with_reducible exact ext_refl _ | with_reducible assumption | with_reducible refine ext_alloc ?_ _ | with_reducible refine ext_drew ?_ | with_reducible refine ext_trans ?_ (by assumption)))) HW.out).mono ?_
    rw [HC.out]
    rintro e w2 ⟨rfl, hb2⟩
    obtain ⟨hc2, hf2⟩ := bcell hb2
    have hz2a : w.heap.size < w2.heap.size := by have := hb2.size; (try simp at this); omega
    have hz2b : w.heap.size + 1 < w2.heap.size := by have := hb2.size; (try simp at this); omega
    have hz2c : w.heap.size + 1 + 1 < w2.heap.size := by have := hb2.size; (try simp at this); omega
    have hz2d : w1.heap.size < w2.heap.size := by have := hb2.size; (try simp at this); omega
    have hO2 : Own w2 (w.heap.size + 1 + 1 + 1) x [.slice Ahosts1 x.hosts.length chosts1, .slice Apods1 x.pods.length cpods1, .int .i64 x.next, .int .i64 x.weights.pack, .int .i64 x.weights.spread, .int .i64 x.weights.soft] G1 := ((hO1.mono (by simp)).alloc _).ext hb2
    have HO2 := Lib.hid hO2
    clear hO1 hO2 h h'
    go_wp2_with fail
    try dsimp only
    iterate 60 (first | go_step | skip)
    refine bodyPost_ret (v := .tuple #[.agg #[.slice Ahosts1 x.hosts.length chosts1, .slice Apods1 x.pods.length cpods1, .int .i64 x.next, .int .i64 x.weights.pack, .int .i64 x.weights.spread, .int .i64 x.weights.soft], .int .i64 1]) (by simp [results, Tryz.results9, go_sem, *]) rfl ?_
    rw [HF.out]
    first
      | refine ⟨[.slice Ahosts1 x.hosts.length chosts1, .slice Apods1 x.pods.length cpods1, .int .i64 x.next, .int .i64 x.weights.pack, .int .i64 x.weights.spread, .int .i64 x.weights.soft], G1, rfl, ?_, ?_⟩
      | refine ⟨[.slice Ahosts1 x.hosts.length chosts1, .slice Apods1 x.pods.length cpods1, .int .i64 x.next, .int .i64 x.weights.pack, .int .i64 x.weights.spread, .int .i64 x.weights.soft], rfl, ⟨G1, ?_⟩, ?_⟩
    · try dsimp only
      refine Own.mono (B := w.heap.size + 1 + 1 + 1) ?_ (by omega)
      repeat (first | with_reducible exact HO2.out | with_reducible refine Own.setCell ?_ (by dsimp only; omega) _)
    · repeat (first | with_reducible exact ext_refl _ | with_reducible assumption | with_reducible refine ext_setCell ?_ (by dsimp only; omega) _ | with_reducible refine ext_alloc ?_ _ | with_reducible refine ext_drew ?_ | with_reducible refine ext_trans ?_ (by assumption))
  · have HF := Lib.hid (show setW x u = (x, 1) by unfold setW; rw [hc, hwt]; simp)
    have HC := Lib.hid hc
    have HWT := Lib.hid hwt
    clear hc hwt
    go_enter Tryz.func9, Tryz.ntmps9
    go_wp2_with fail
    refine (l22Copy_any x _ _ _ (rd_ext h (by repeat (first | with_reducible exact ext_refl _ | with_reducible assumption | with_reducible refine ext_alloc ?_ _ | with_reducible refine ext_drew ?_ | with_reducible refine ext_trans ?_ (by assumption)))) HW.out).mono ?_
    rintro e w1 ⟨cs1, G1, rfl, hO1, hb1⟩
    have hR1 := hO1.rd
    obtain ⟨Ahosts1, chosts1, Fhosts1, Apods1, cpods1, Fpods1, hck, hG1, hhosts1, hpods1, hnext1, hweightspack1, hweightsspread1, hweightssoft1⟩ := rd_Cluster hR1
    subst hck
    clear hG1 hR1
    obtain ⟨hc1, hf1⟩ := bcell hb1
    have hz1a : w.heap.size < w1.heap.size := by have := hb1.size; (try simp at this); omega
    have hz1b : w.heap.size + 1 < w1.heap.size := by have := hb1.size; (try simp at this); omega
    have hz1c : w.heap.size + 1 + 1 < w1.heap.size := by have := hb1.size; (try simp at this); omega
    have hlt1 := hO1.lt
    go_wp2_with fail
    refine (ClusterOk_spec x _ _ _ (rd_ext h (by repeat (first | with_reducible exact ext_refl _ | with_reducible assumption | with_reducible refine ext_alloc ?_ _ | with_reducible refine ext_drew ?_ | with_reducible refine ext_trans ?_ (by assumption)))) HW.out).mono ?_
    rw [HC.out]
    rintro e w2 ⟨rfl, hb2⟩
    obtain ⟨hc2, hf2⟩ := bcell hb2
    have hz2a : w.heap.size < w2.heap.size := by have := hb2.size; (try simp at this); omega
    have hz2b : w.heap.size + 1 < w2.heap.size := by have := hb2.size; (try simp at this); omega
    have hz2c : w.heap.size + 1 + 1 < w2.heap.size := by have := hb2.size; (try simp at this); omega
    have hz2d : w1.heap.size < w2.heap.size := by have := hb2.size; (try simp at this); omega
    have hO2 : Own w2 (w.heap.size + 1 + 1 + 1) x [.slice Ahosts1 x.hosts.length chosts1, .slice Apods1 x.pods.length cpods1, .int .i64 x.next, .int .i64 x.weights.pack, .int .i64 x.weights.spread, .int .i64 x.weights.soft] G1 := ((hO1.mono (by simp)).alloc _).ext hb2
    have HO2 := Lib.hid hO2
    clear hO1 hO2 h h'
    go_wp2_with fail
    try dsimp only
    iterate 60 (first | go_step | skip)
    refine bodyPost_ret (v := .tuple #[.agg #[.slice Ahosts1 x.hosts.length chosts1, .slice Apods1 x.pods.length cpods1, .int .i64 x.next, .int .i64 x.weights.pack, .int .i64 x.weights.spread, .int .i64 x.weights.soft], .int .i64 1]) (by simp [results, Tryz.results9, go_sem, *]) rfl ?_
    rw [HF.out]
    first
      | refine ⟨[.slice Ahosts1 x.hosts.length chosts1, .slice Apods1 x.pods.length cpods1, .int .i64 x.next, .int .i64 x.weights.pack, .int .i64 x.weights.spread, .int .i64 x.weights.soft], G1, rfl, ?_, ?_⟩
      | refine ⟨[.slice Ahosts1 x.hosts.length chosts1, .slice Apods1 x.pods.length cpods1, .int .i64 x.next, .int .i64 x.weights.pack, .int .i64 x.weights.spread, .int .i64 x.weights.soft], rfl, ⟨G1, ?_⟩, ?_⟩
    · try dsimp only
      refine Own.mono (B := w.heap.size + 1 + 1 + 1) ?_ (by omega)
      repeat (first | with_reducible exact HO2.out | with_reducible refine Own.setCell ?_ (by dsimp only; omega) _)
    · repeat (first | with_reducible exact ext_refl _ | with_reducible assumption | with_reducible refine ext_setCell ?_ (by dsimp only; omega) _ | with_reducible refine ext_alloc ?_ _ | with_reducible refine ext_drew ?_ | with_reducible refine ext_trans ?_ (by assumption))
  · have HF := Lib.hid (show setW x u = (x, 1) by unfold setW; rw [hc, hwt]; simp)
    have HC := Lib.hid hc
    have HWT := Lib.hid hwt
    clear hc hwt
    go_enter Tryz.func9, Tryz.ntmps9
    go_wp2_with fail
    refine (l22Copy_any x _ _ _ (rd_ext h (by repeat (first | with_reducible exact ext_refl _ | with_reducible assumption | with_reducible refine ext_alloc ?_ _ | with_reducible refine ext_drew ?_ | with_reducible refine ext_trans ?_ (by assumption)))) HW.out).mono ?_
    rintro e w1 ⟨cs1, G1, rfl, hO1, hb1⟩
    have hR1 := hO1.rd
    obtain ⟨Ahosts1, chosts1, Fhosts1, Apods1, cpods1, Fpods1, hck, hG1, hhosts1, hpods1, hnext1, hweightspack1, hweightsspread1, hweightssoft1⟩ := rd_Cluster hR1
    subst hck
    clear hG1 hR1
    obtain ⟨hc1, hf1⟩ := bcell hb1
    have hz1a : w.heap.size < w1.heap.size := by have := hb1.size; (try simp at this); omega
    have hz1b : w.heap.size + 1 < w1.heap.size := by have := hb1.size; (try simp at this); omega
    have hz1c : w.heap.size + 1 + 1 < w1.heap.size := by have := hb1.size; (try simp at this); omega
    have hlt1 := hO1.lt
    go_wp2_with fail
    refine (ClusterOk_spec x _ _ _ (rd_ext h (by repeat (first | with_reducible exact ext_refl _ | with_reducible assumption | with_reducible refine ext_alloc ?_ _ | with_reducible refine ext_drew ?_ | with_reducible refine ext_trans ?_ (by assumption)))) HW.out).mono ?_
    rw [HC.out]
    rintro e w2 ⟨rfl, hb2⟩
    obtain ⟨hc2, hf2⟩ := bcell hb2
    have hz2a : w.heap.size < w2.heap.size := by have := hb2.size; (try simp at this); omega
    have hz2b : w.heap.size + 1 < w2.heap.size := by have := hb2.size; (try simp at this); omega
    have hz2c : w.heap.size + 1 + 1 < w2.heap.size := by have := hb2.size; (try simp at this); omega
    have hz2d : w1.heap.size < w2.heap.size := by have := hb2.size; (try simp at this); omega
    go_wp2_with fail
    refine (WeightsOk_spec u.pack u.spread u.soft _).mono ?_
    rw [HWT.out]
    rintro e w3 ⟨rfl, hb3⟩
    obtain ⟨hc3, hf3⟩ := bcell hb3
    have hz3a : w.heap.size < w3.heap.size := by have := hb3.size; (try simp at this); omega
    have hz3b : w.heap.size + 1 < w3.heap.size := by have := hb3.size; (try simp at this); omega
    have hz3c : w.heap.size + 1 + 1 < w3.heap.size := by have := hb3.size; (try simp at this); omega
    have hz3d : w1.heap.size < w3.heap.size := by have := hb3.size; (try simp at this); omega
    have hO2 : Own w3 (w.heap.size + 1 + 1 + 1) x [.slice Ahosts1 x.hosts.length chosts1, .slice Apods1 x.pods.length cpods1, .int .i64 x.next, .int .i64 x.weights.pack, .int .i64 x.weights.spread, .int .i64 x.weights.soft] G1 := (((hO1.mono (by simp)).alloc _).ext hb2).ext hb3
    have HO2 := Lib.hid hO2
    clear hO1 hO2 h h'
    go_wp2_with fail
    try dsimp only
    iterate 60 (first | go_step | skip)
    refine bodyPost_ret (v := .tuple #[.agg #[.slice Ahosts1 x.hosts.length chosts1, .slice Apods1 x.pods.length cpods1, .int .i64 x.next, .int .i64 x.weights.pack, .int .i64 x.weights.spread, .int .i64 x.weights.soft], .int .i64 1]) (by simp [results, Tryz.results9, go_sem, *]) rfl ?_
    rw [HF.out]
    first
      | refine ⟨[.slice Ahosts1 x.hosts.length chosts1, .slice Apods1 x.pods.length cpods1, .int .i64 x.next, .int .i64 x.weights.pack, .int .i64 x.weights.spread, .int .i64 x.weights.soft], G1, rfl, ?_, ?_⟩
      | refine ⟨[.slice Ahosts1 x.hosts.length chosts1, .slice Apods1 x.pods.length cpods1, .int .i64 x.next, .int .i64 x.weights.pack, .int .i64 x.weights.spread, .int .i64 x.weights.soft], rfl, ⟨G1, ?_⟩, ?_⟩
    · try dsimp only
      refine Own.mono (B := w.heap.size + 1 + 1 + 1) ?_ (by omega)
      repeat (first | with_reducible exact HO2.out | with_reducible refine Own.setCell ?_ (by dsimp only; omega) _)
    · repeat (first | with_reducible exact ext_refl _ | with_reducible assumption | with_reducible refine ext_setCell ?_ (by dsimp only; omega) _ | with_reducible refine ext_alloc ?_ _ | with_reducible refine ext_drew ?_ | with_reducible refine ext_trans ?_ (by assumption))
  · have HF := Lib.hid (show setW x u = (⟨x.hosts, x.pods, x.next, u⟩, 0) by unfold setW; rw [hc, hwt]; simp)
    have HC := Lib.hid hc
    have HWT := Lib.hid hwt
    clear hc hwt
    go_enter Tryz.func9, Tryz.ntmps9
    go_wp2_with fail
    refine (l22Copy_any x _ _ _ (rd_ext h (by repeat (first | with_reducible exact ext_refl _ | with_reducible assumption | with_reducible refine ext_alloc ?_ _ | with_reducible refine ext_drew ?_ | with_reducible refine ext_trans ?_ (by assumption)))) HW.out).mono ?_
    rintro e w1 ⟨cs1, G1, rfl, hO1, hb1⟩
    have hR1 := hO1.rd
    obtain ⟨Ahosts1, chosts1, Fhosts1, Apods1, cpods1, Fpods1, hck, hG1, hhosts1, hpods1, hnext1, hweightspack1, hweightsspread1, hweightssoft1⟩ := rd_Cluster hR1
    subst hck
    clear hG1 hR1
    obtain ⟨hc1, hf1⟩ := bcell hb1
    have hz1a : w.heap.size < w1.heap.size := by have := hb1.size; (try simp at this); omega
    have hz1b : w.heap.size + 1 < w1.heap.size := by have := hb1.size; (try simp at this); omega
    have hz1c : w.heap.size + 1 + 1 < w1.heap.size := by have := hb1.size; (try simp at this); omega
    have hlt1 := hO1.lt
    go_wp2_with fail
    refine (ClusterOk_spec x _ _ _ (rd_ext h (by repeat (first | with_reducible exact ext_refl _ | with_reducible assumption | with_reducible refine ext_alloc ?_ _ | with_reducible refine ext_drew ?_ | with_reducible refine ext_trans ?_ (by assumption)))) HW.out).mono ?_
    rw [HC.out]
    rintro e w2 ⟨rfl, hb2⟩
    obtain ⟨hc2, hf2⟩ := bcell hb2
    have hz2a : w.heap.size < w2.heap.size := by have := hb2.size; (try simp at this); omega
    have hz2b : w.heap.size + 1 < w2.heap.size := by have := hb2.size; (try simp at this); omega
    have hz2c : w.heap.size + 1 + 1 < w2.heap.size := by have := hb2.size; (try simp at this); omega
    have hz2d : w1.heap.size < w2.heap.size := by have := hb2.size; (try simp at this); omega
    go_wp2_with fail
    refine (WeightsOk_spec u.pack u.spread u.soft _).mono ?_
    rw [HWT.out]
    rintro e w3 ⟨rfl, hb3⟩
    obtain ⟨hc3, hf3⟩ := bcell hb3
    have hz3a : w.heap.size < w3.heap.size := by have := hb3.size; (try simp at this); omega
    have hz3b : w.heap.size + 1 < w3.heap.size := by have := hb3.size; (try simp at this); omega
    have hz3c : w.heap.size + 1 + 1 < w3.heap.size := by have := hb3.size; (try simp at this); omega
    have hz3d : w1.heap.size < w3.heap.size := by have := hb3.size; (try simp at this); omega
    have hO2 : Own w3 (w.heap.size + 1 + 1 + 1) x [.slice Ahosts1 x.hosts.length chosts1, .slice Apods1 x.pods.length cpods1, .int .i64 x.next, .int .i64 x.weights.pack, .int .i64 x.weights.spread, .int .i64 x.weights.soft] G1 := (((hO1.mono (by simp)).alloc _).ext hb2).ext hb3
    have HO2 := Lib.hid hO2
    clear hO1 hO2 h h'
    go_wp2_with fail
    try dsimp only
    iterate 60 (first | go_step | skip)
    refine bodyPost_ret (v := .tuple #[.agg #[.slice Ahosts1 x.hosts.length chosts1, .slice Apods1 x.pods.length cpods1, .int .i64 x.next, .int .i64 u.pack, .int .i64 u.spread, .int .i64 u.soft], .int .i64 0]) (by simp [results, Tryz.results9, go_sem, *]) rfl ?_
    rw [HF.out]
    first
      | refine ⟨[.slice Ahosts1 x.hosts.length chosts1, .slice Apods1 x.pods.length cpods1, .int .i64 x.next, .int .i64 u.pack, .int .i64 u.spread, .int .i64 u.soft], G1, rfl, ?_, ?_⟩
      | refine ⟨[.slice Ahosts1 x.hosts.length chosts1, .slice Apods1 x.pods.length cpods1, .int .i64 x.next, .int .i64 u.pack, .int .i64 u.spread, .int .i64 u.soft], rfl, ⟨G1, ?_⟩, ?_⟩
    · try dsimp only
      refine Own.mono (B := w.heap.size + 1 + 1 + 1) ?_ (by omega)
      repeat (first | with_reducible exact (HO2.out.setWeights u hpack2 hspread2 hsoft2) | with_reducible refine Own.setCell ?_ (by dsimp only; omega) _ | with_reducible refine ownFar ?_ (fun y hy => hlt1 y hy))
    · repeat (first | with_reducible exact ext_refl _ | with_reducible assumption | with_reducible refine ext_setCell ?_ (by dsimp only; omega) _ | with_reducible refine ext_alloc ?_ _ | with_reducible refine ext_drew ?_ | with_reducible refine ext_trans ?_ (by assumption))

end Go.Proofs.YtjoclfenghenjaaGreat
