/- DeletePod, of the program. No condition. -/
import Derived.Test.YtjoclfenghenjaaGreatCopyCS
import Derived.Test.YtjoclfenghenjaaGreatDelete
import Derived.Test.YtjoclfenghenjaaGreatAt
import Derived.Test.YtjoclfenghenjaaGreatClusterI
import Derived.Test.YtjoclfenghenjaaGreatLaw1
import Derived.Test.YtjoclfenghenjaaGreatMtTop
namespace Go.Proofs.YtjoclfenghenjaaGreat
open Go.ChangeShapes Go.WideShapes Go.ChangeAt Go.RowKit
set_option linter.unusedVariables false
set_option linter.unusedSimpArgs false

theorem Own.join {α β : Type} [Dat α] [Dat β] {w : World} {B : Nat} {x : α} {y : β} {c1 c2 : List Value} {F1 F2 : List Nat} (h1 : Own w B x c1 F1) (h2 : Own w B y c2 F2) (hd : ∀ b ∈ F1, b ∉ F2) : Own w B (x, y) (c1 ++ c2) (F1 ++ F2) := by
  refine ⟨⟨c1, c2, F1, F2, rfl, rfl, h1.rd, h2.rd⟩, ?_, ?_, ?_⟩
  · rw [List.nodup_append]
    exact ⟨h1.nodup, h2.nodup, fun a ha b hb e => hd a ha (e ▸ hb)⟩
  · intro b hb
    rcases List.mem_append.1 hb with hb | hb
    · exact h1.base b hb
    · exact h2.base b hb
  · intro b hb
    rcases List.mem_append.1 hb with hb | hb
    · exact h1.plain b hb
    · exact h2.plain b hb
/-- a cluster of the call's own: its hosts and its pods, apart -/
theorem Own.parts {w : World} {B : Nat} {x : Cluster} {Ah Ap : Option Addr} {nh ch np cp : Nat} {n p q f : Int} {G : List Nat} (h : Own w B x [.slice Ah nh ch, .slice Ap np cp, .int .i64 n, .int .i64 p, .int .i64 q, .int .i64 f] G) :
    ∃ Gh Gp, Own w B x.hosts [.slice Ah nh ch] Gh ∧ Own w B x.pods [.slice Ap np cp] Gp ∧ (∀ y ∈ Gh, y ∉ Gp) ∧ (∀ y ∈ Gh, y ∈ G) ∧ (∀ y ∈ Gp, y ∈ G) := by
  obtain ⟨⟨c1, c2, F1, F2, e1, rfl, hh, d1, d2, G1, G2, e3, rfl, hp, g1, g2, H1, H2, e5, e6, ⟨e7, e8, hn⟩, hwt⟩, hnd, hb, hpl⟩ := h
  obtain ⟨A, c, rfl, _⟩ := rd_list hh
  obtain ⟨A2, c2', rfl, _⟩ := rd_list hp
  subst e7 e5 e3
  simp only [List.cons_append, List.nil_append, List.cons.injEq] at e1
  obtain ⟨ea, eb, _⟩ := e1
  rw [List.nodup_append, List.nodup_append] at hnd
  refine ⟨F1, G1, ⟨by rw [ea]; exact hh, hnd.1, fun y hy => hb y (by simp [hy]), fun y hy => hpl y (by simp [hy])⟩, ⟨by rw [eb]; exact hp, hnd.2.1.1, fun y hy => hb y (by simp [hy]), fun y hy => hpl y (by simp [hy])⟩, fun y hy hy' => hnd.2.2 y hy y (by simp [hy']) rfl, fun y hy => by simp [hy], fun y hy => by simp [hy]⟩
theorem Own.whole {w : World} {B : Nat} {H : List Host} {Q : List Placed} {Ah Ap : Option Addr} {nh ch np cp : Nat} {n p q f : Int} {Gh Gp : List Nat} (h : Own w B H [.slice Ah nh ch] Gh) (k : Own w B Q [.slice Ap np cp] Gp) (hd : ∀ y ∈ Gh, y ∉ Gp) (hn : I64 n) (hp : I64 p) (hq : I64 q) (hf : I64 f) :
    Own w B (⟨H, Q, n, ⟨p, q, f⟩⟩ : Cluster) [.slice Ah nh ch, .slice Ap np cp, .int .i64 n, .int .i64 p, .int .i64 q, .int .i64 f] (Gh ++ Gp) := by
  refine Own.up (B' := B) (fun x : Cluster => (x.hosts, x.pods, x.next, x.weights)) ?_ (Nat.le_refl _)
  have h5 : Own w B (⟨p, q, f⟩ : Weights) ([.int .i64 p] ++ ([.int .i64 q] ++ [.int .i64 f])) [] := by
    refine Own.up (B' := B) (fun x : Weights => (x.pack, x.spread, x.soft)) ?_ (Nat.le_refl _)
    exact Own.cons (rdInt w p hp) (Own.cons (rdInt w q hq) (Own.flat (rdInt w f hf)))
  have h6 := Own.cons (rdInt w n hn) h5
  have h7 := Own.join h (Own.join k h6 (fun b _ hb => by cases hb)) (fun b hb hb' => hd b hb (by simpa using hb'))
  simpa using h7
def delP (x : Cluster) (nm : ByteArray) : Cluster × Int :=
  if clusterR x = true then (if idxI (podatP nm) x.pods < 0 then (x, 3) else (⟨x.hosts, x.pods.eraseIdx (idxI (podatP nm) x.pods).toNat, x.next, x.weights⟩, 0)) else (x, 1)
theorem cntL_erase {α : Type} {cnt : α → Nat} : ∀ (xs : List α) (i : Nat), cntL cnt (xs.eraseIdx i) ≤ cntL cnt xs
  | [], _ => Nat.le_refl _
  | x :: xs, 0 => by simp only [List.eraseIdx_zero, List.tail_cons, cntL]; omega
  | x :: xs, i + 1 => by have := cntL_erase (cnt := cnt) xs i; simp only [List.eraseIdx_cons_succ, cntL] at this ⊢; omega
theorem delP_cnt (x : Cluster) (nm : ByteArray) : cntTopCluster (delP x nm).1 ≤ cntTopCluster x := by
  unfold delP
  split
  · split
    · exact Nat.le_refl _
    · have := cntL_erase (cnt := cntPlaced) x.pods (idxI (podatP nm) x.pods).toNat
      simp only [cntTopCluster] at this ⊢
      omega
  · exact Nat.le_refl _
set_option maxRecDepth 100000 in
set_option maxHeartbeats 4000000 in
theorem DeletePod_impl (x : Cluster) (cs : List Value) (F : List Nat) (nm : ByteArray) (w : World) (h : rd w x cs F) (hw : (x.wt : Int) ≤ 1048576) :
    Calls Tryz.prog 19 #[.agg cs.toArray, .string nm] w fun e w' => ∃ ds G, e = .returned (.tuple #[.agg ds.toArray, .int .i64 (delP x nm).2]) ∧ Own w' w.heap.size (delP x nm).1 ds G ∧ Below w.heap.size w w' := by
  have hpl : (x.pods.length : Int) ≤ 1048576 := by have h1 := wtL_len Placed.wt x.pods; have h2 : x.wt = wtL Host.wt x.hosts + wtL Placed.wt x.pods := rfl; omega
  have HW := Lib.hid hw
  have HPL := Lib.hid hpl
  clear hw
  have hr := h
  obtain ⟨Ahosts, chosts, Fhosts, Apods, cpods, Fpods, hck, hF0, hhosts, hpods, hnext, hweightspack, hweightsspread, hweightssoft⟩ := rd_Cluster hr
  subst hck
  clear hF0 hr
  have hil := idxI_lt (p := podatP nm) x.pods
  cases hc : clusterR x
  · have HF := Lib.hid (show delP x nm = (x, 1) by unfold delP; rw [hc]; simp)
    have HC := Lib.hid hc
    clear hc
    obtain ⟨r, hr0⟩ : ∃ r, idxI (podatP nm) x.pods = r := ⟨_, rfl⟩
    have HI := Lib.hid hr0
    clear hr0
    go_enter Tryz.func19, Tryz.ntmps19
    go_wp2_with fail
    refine (copyCluster_any x _ _ _ (rd_ext h (by repeat (first | with_reducible exact ext_refl _ | with_reducible assumption | with_reducible refine ext_alloc ?_ _ | with_reducible refine ext_drew ?_ | with_reducible refine ext_trans ?_ (by assumption)))) HW.out).mono ?_
    rintro e w1 ⟨cs1, G1, rfl, hO1, hb1⟩
    have hR1 := hO1.rd
    obtain ⟨Ahosts1, chosts1, Fhosts1, Apods1, cpods1, Fpods1, hck, hG1, hhosts1, hpods1, hnext1, hweightspack1, hweightsspread1, hweightssoft1⟩ := rd_Cluster hR1
    subst hck
    clear hG1 hR1
    obtain ⟨hc1, hf1⟩ := bcell hb1
    have hz1a : w.heap.size < w1.heap.size := by have := hb1.size; (try simp at this); omega
    have hz1b : w.heap.size + 1 < w1.heap.size := by have := hb1.size; (try simp at this); omega
    have hlt1 := hO1.lt
    go_wp2_with fail
    refine (PodAt_impl x _ _ nm _ (rd_ext h (by repeat (first | with_reducible exact ext_refl _ | with_reducible assumption | with_reducible refine ext_alloc ?_ _ | with_reducible refine ext_drew ?_ | with_reducible refine ext_trans ?_ (by assumption)))) HPL.out).mono ?_
    rw [HI.out]
    rintro e w2 ⟨rfl, hb2⟩
    obtain ⟨hc2, hf2⟩ := bcell hb2
    have hz2a : w.heap.size < w2.heap.size := by have := hb2.size; (try simp at this); omega
    have hz2b : w.heap.size + 1 < w2.heap.size := by have := hb2.size; (try simp at this); omega
    have hz2d : w1.heap.size < w2.heap.size := by have := hb2.size; (try simp at this); omega
    go_wp2_with fail
    refine (ClusterOk_impl x _ _ _ (rd_ext h (by repeat (first | with_reducible exact ext_refl _ | with_reducible assumption | with_reducible refine ext_alloc ?_ _ | with_reducible refine ext_drew ?_ | with_reducible refine ext_trans ?_ (by assumption)))) HW.out).mono ?_
    rw [HC.out]
    rintro e w3 ⟨rfl, hb3⟩
    obtain ⟨hc3, hf3⟩ := bcell hb3
    have hz3a : w.heap.size < w3.heap.size := by have := hb3.size; (try simp at this); omega
    have hz3b : w.heap.size + 1 < w3.heap.size := by have := hb3.size; (try simp at this); omega
    have hz3d : w1.heap.size < w3.heap.size := by have := hb3.size; (try simp at this); omega
    have hO2 : Own w3 (w.heap.size + 1 + 1) x [.slice Ahosts1 x.hosts.length chosts1, .slice Apods1 x.pods.length cpods1, .int .i64 x.next, .int .i64 x.weights.pack, .int .i64 x.weights.spread, .int .i64 x.weights.soft] G1 := (((hO1.mono (by simp)).alloc _).ext hb2).ext hb3
    have HO2 := Lib.hid hO2
    clear hO1 hO2 h
    go_wp2_with fail
    try dsimp only
    iterate 60 (first | go_step | skip)
    refine bodyPost_ret (v := .tuple #[.agg #[.slice Ahosts1 x.hosts.length chosts1, .slice Apods1 x.pods.length cpods1, .int .i64 x.next, .int .i64 x.weights.pack, .int .i64 x.weights.spread, .int .i64 x.weights.soft], .int .i64 1]) (by simp [results, Tryz.results19, go_sem, *]) rfl ?_
    rw [HF.out]
    first
      | refine ⟨[.slice Ahosts1 x.hosts.length chosts1, .slice Apods1 x.pods.length cpods1, .int .i64 x.next, .int .i64 x.weights.pack, .int .i64 x.weights.spread, .int .i64 x.weights.soft], G1, rfl, ?_, ?_⟩
      | refine ⟨[.slice Ahosts1 x.hosts.length chosts1, .slice Apods1 x.pods.length cpods1, .int .i64 x.next, .int .i64 x.weights.pack, .int .i64 x.weights.spread, .int .i64 x.weights.soft], rfl, ⟨G1, ?_⟩, ?_⟩
    · try dsimp only
      refine Own.mono (B := w.heap.size + 1 + 1) ?_ (by omega)
      repeat (first | with_reducible exact HO2.out | with_reducible refine Own.setCell ?_ (by dsimp only; omega) _)
    · repeat (first | with_reducible exact ext_refl _ | with_reducible assumption | with_reducible refine ext_setCell ?_ (by dsimp only; omega) _ | with_reducible refine ext_alloc ?_ _ | with_reducible refine ext_drew ?_ | with_reducible refine ext_trans ?_ (by assumption))
  · by_cases hng : idxI (podatP nm) x.pods < 0
    · have HF := Lib.hid (show delP x nm = (x, 3) by unfold delP; rw [hc, if_pos rfl, if_pos hng])
      have HC := Lib.hid hc
      clear hc
      obtain ⟨r, hr0⟩ : ∃ r, idxI (podatP nm) x.pods = r := ⟨_, rfl⟩
      have HI := Lib.hid hr0
      rw [hr0] at hng
      clear hr0
      go_enter Tryz.func19, Tryz.ntmps19
      go_wp2_with fail
      refine (copyCluster_any x _ _ _ (rd_ext h (by repeat (first | with_reducible exact ext_refl _ | with_reducible assumption | with_reducible refine ext_alloc ?_ _ | with_reducible refine ext_drew ?_ | with_reducible refine ext_trans ?_ (by assumption)))) HW.out).mono ?_
      rintro e w1 ⟨cs1, G1, rfl, hO1, hb1⟩
      have hR1 := hO1.rd
      obtain ⟨Ahosts1, chosts1, Fhosts1, Apods1, cpods1, Fpods1, hck, hG1, hhosts1, hpods1, hnext1, hweightspack1, hweightsspread1, hweightssoft1⟩ := rd_Cluster hR1
      subst hck
      clear hG1 hR1
      obtain ⟨hc1, hf1⟩ := bcell hb1
      have hz1a : w.heap.size < w1.heap.size := by have := hb1.size; (try simp at this); omega
      have hz1b : w.heap.size + 1 < w1.heap.size := by have := hb1.size; (try simp at this); omega
      have hlt1 := hO1.lt
      go_wp2_with fail
      refine (PodAt_impl x _ _ nm _ (rd_ext h (by repeat (first | with_reducible exact ext_refl _ | with_reducible assumption | with_reducible refine ext_alloc ?_ _ | with_reducible refine ext_drew ?_ | with_reducible refine ext_trans ?_ (by assumption)))) HPL.out).mono ?_
      rw [HI.out]
      rintro e w2 ⟨rfl, hb2⟩
      obtain ⟨hc2, hf2⟩ := bcell hb2
      have hz2a : w.heap.size < w2.heap.size := by have := hb2.size; (try simp at this); omega
      have hz2b : w.heap.size + 1 < w2.heap.size := by have := hb2.size; (try simp at this); omega
      have hz2d : w1.heap.size < w2.heap.size := by have := hb2.size; (try simp at this); omega
      go_wp2_with fail
      refine (ClusterOk_impl x _ _ _ (rd_ext h (by repeat (first | with_reducible exact ext_refl _ | with_reducible assumption | with_reducible refine ext_alloc ?_ _ | with_reducible refine ext_drew ?_ | with_reducible refine ext_trans ?_ (by assumption)))) HW.out).mono ?_
      rw [HC.out]
      rintro e w3 ⟨rfl, hb3⟩
      obtain ⟨hc3, hf3⟩ := bcell hb3
      have hz3a : w.heap.size < w3.heap.size := by have := hb3.size; (try simp at this); omega
      have hz3b : w.heap.size + 1 < w3.heap.size := by have := hb3.size; (try simp at this); omega
      have hz3d : w1.heap.size < w3.heap.size := by have := hb3.size; (try simp at this); omega
      have hO2 : Own w3 (w.heap.size + 1 + 1) x [.slice Ahosts1 x.hosts.length chosts1, .slice Apods1 x.pods.length cpods1, .int .i64 x.next, .int .i64 x.weights.pack, .int .i64 x.weights.spread, .int .i64 x.weights.soft] G1 := (((hO1.mono (by simp)).alloc _).ext hb2).ext hb3
      have HO2 := Lib.hid hO2
      clear hO1 hO2 h
      go_wp2_with fail
      try dsimp only
      iterate 60 (first | go_step | skip)
      refine bodyPost_ret (v := .tuple #[.agg #[.slice Ahosts1 x.hosts.length chosts1, .slice Apods1 x.pods.length cpods1, .int .i64 x.next, .int .i64 x.weights.pack, .int .i64 x.weights.spread, .int .i64 x.weights.soft], .int .i64 3]) (by simp [results, Tryz.results19, go_sem, *]) rfl ?_
      rw [HF.out]
      first
        | refine ⟨[.slice Ahosts1 x.hosts.length chosts1, .slice Apods1 x.pods.length cpods1, .int .i64 x.next, .int .i64 x.weights.pack, .int .i64 x.weights.spread, .int .i64 x.weights.soft], G1, rfl, ?_, ?_⟩
        | refine ⟨[.slice Ahosts1 x.hosts.length chosts1, .slice Apods1 x.pods.length cpods1, .int .i64 x.next, .int .i64 x.weights.pack, .int .i64 x.weights.spread, .int .i64 x.weights.soft], rfl, ⟨G1, ?_⟩, ?_⟩
      · try dsimp only
        refine Own.mono (B := w.heap.size + 1 + 1) ?_ (by omega)
        repeat (first | with_reducible exact HO2.out | with_reducible refine Own.setCell ?_ (by dsimp only; omega) _)
      · repeat (first | with_reducible exact ext_refl _ | with_reducible assumption | with_reducible refine ext_setCell ?_ (by dsimp only; omega) _ | with_reducible refine ext_alloc ?_ _ | with_reducible refine ext_drew ?_ | with_reducible refine ext_trans ?_ (by assumption))
    · obtain ⟨k, hk0⟩ : ∃ k : Nat, idxI (podatP nm) x.pods = k := ⟨(idxI (podatP nm) x.pods).toNat, by omega⟩
      have hk : k < x.pods.length := by omega
      have HF := Lib.hid (show delP x nm = (⟨x.hosts, x.pods.eraseIdx k, x.next, x.weights⟩, 0) by unfold delP; rw [hc, if_pos rfl, if_neg (by omega), hk0, Int.toNat_natCast])
      have HC := Lib.hid hc
      clear hc
      have HI := Lib.hid hk0
      clear hk0 hng
      go_enter Tryz.func19, Tryz.ntmps19
      go_wp2_with fail
      refine (copyCluster_any x _ _ _ (rd_ext h (by repeat (first | with_reducible exact ext_refl _ | with_reducible assumption | with_reducible refine ext_alloc ?_ _ | with_reducible refine ext_drew ?_ | with_reducible refine ext_trans ?_ (by assumption)))) HW.out).mono ?_
      rintro e w1 ⟨cs1, G1, rfl, hO1, hb1⟩
      have hR1 := hO1.rd
      obtain ⟨Ahosts1, chosts1, Fhosts1, Apods1, cpods1, Fpods1, hck, hG1, hhosts1, hpods1, hnext1, hweightspack1, hweightsspread1, hweightssoft1⟩ := rd_Cluster hR1
      subst hck
      clear hG1 hR1
      obtain ⟨hc1, hf1⟩ := bcell hb1
      have hz1a : w.heap.size < w1.heap.size := by have := hb1.size; (try simp at this); omega
      have hz1b : w.heap.size + 1 < w1.heap.size := by have := hb1.size; (try simp at this); omega
      have hlt1 := hO1.lt
      go_wp2_with fail
      refine (PodAt_impl x _ _ nm _ (rd_ext h (by repeat (first | with_reducible exact ext_refl _ | with_reducible assumption | with_reducible refine ext_alloc ?_ _ | with_reducible refine ext_drew ?_ | with_reducible refine ext_trans ?_ (by assumption)))) HPL.out).mono ?_
      rw [HI.out]
      rintro e w2 ⟨rfl, hb2⟩
      obtain ⟨hc2, hf2⟩ := bcell hb2
      have hz2a : w.heap.size < w2.heap.size := by have := hb2.size; (try simp at this); omega
      have hz2b : w.heap.size + 1 < w2.heap.size := by have := hb2.size; (try simp at this); omega
      have hz2d : w1.heap.size < w2.heap.size := by have := hb2.size; (try simp at this); omega
      go_wp2_with fail
      refine (ClusterOk_impl x _ _ _ (rd_ext h (by repeat (first | with_reducible exact ext_refl _ | with_reducible assumption | with_reducible refine ext_alloc ?_ _ | with_reducible refine ext_drew ?_ | with_reducible refine ext_trans ?_ (by assumption)))) HW.out).mono ?_
      rw [HC.out]
      rintro e w3 ⟨rfl, hb3⟩
      obtain ⟨hc3, hf3⟩ := bcell hb3
      have hz3a : w.heap.size < w3.heap.size := by have := hb3.size; (try simp at this); omega
      have hz3b : w.heap.size + 1 < w3.heap.size := by have := hb3.size; (try simp at this); omega
      have hz3d : w1.heap.size < w3.heap.size := by have := hb3.size; (try simp at this); omega
      have hO2 : Own w3 (w.heap.size + 1 + 1) x [.slice Ahosts1 x.hosts.length chosts1, .slice Apods1 x.pods.length cpods1, .int .i64 x.next, .int .i64 x.weights.pack, .int .i64 x.weights.spread, .int .i64 x.weights.soft] G1 := (((hO1.mono (by simp)).alloc _).ext hb2).ext hb3
      obtain ⟨Gh, Gp, hOh, hOp, hdis, hsh, hsp⟩ := hO2.parts
      go_wp2_with fail
      refine (deletePlaced_any x.pods _ _ _ k (k + 1) _ _ hOp hk (by omega) (Lib.hid rfl)).mono ?_
      rintro e w4 ⟨F', rfl, hOe, hse, hU4⟩
      have hOh4 := hU4.own hOh hdis
      have hg : ∀ y ∈ Gp, w.heap.size + 1 < y ∧ y < w1.heap.size := fun y hy => ⟨by have := hOp.base y hy; omega, hlt1 y (hsp y hy)⟩
      have hzz : w3.heap.size ≤ w4.heap.size := hU4.size
      have KB : Blk w4 w1.heap.size [.slice Ahosts1 x.hosts.length chosts1, .slice Apods1 x.pods.length cpods1, .int .i64 x.next, .int .i64 x.weights.pack, .int .i64 x.weights.spread, .int .i64 x.weights.soft] := ((((Blk.new w1 [.slice Ahosts1 x.hosts.length chosts1, .slice Apods1 x.pods.length cpods1, .int .i64 x.next, .int .i64 x.weights.pack, .int .i64 x.weights.spread, .int .i64 x.weights.soft] 33).ext hb2).ext hb3)).keep (hU4.block _ (by omega) (fun hm => by have := hg _ hm; omega))
      have KR0 : Blk ((w.alloc (.cells ([.slice Ahosts x.hosts.length chosts, .slice Apods x.pods.length cpods, .int .i64 x.next, .int .i64 x.weights.pack, .int .i64 x.weights.spread, .int .i64 x.weights.soft] : List Value).toArray 33)).alloc (.cells ([.slice none 0 0, .slice none 0 0, .int .i64 0, .int .i64 0, .int .i64 0, .int .i64 0] : List Value).toArray 33)) (w.heap.size + 1) [.slice none 0 0, .slice none 0 0, .int .i64 0, .int .i64 0, .int .i64 0, .int .i64 0] := by have := Blk.new (w.alloc (.cells ([.slice Ahosts x.hosts.length chosts, .slice Apods x.pods.length cpods, .int .i64 x.next, .int .i64 x.weights.pack, .int .i64 x.weights.spread, .int .i64 x.weights.soft] : List Value).toArray 33)) [.slice none 0 0, .slice none 0 0, .int .i64 0, .int .i64 0, .int .i64 0, .int .i64 0] 33; rw [World.size_alloc] at this; exact this
      have KR : Blk w4 (w.heap.size + 1) [.slice none 0 0, .slice none 0 0, .int .i64 0, .int .i64 0, .int .i64 0, .int .i64 0] := ((((KR0.ext hb1).ext (ext_alloc (ext_refl _) _)).ext hb2).ext hb3).keep (hU4.block _ (by omega) (fun hm => by have := hg _ hm; omega))
      have m0 := KB.cell (i := 0) (u := .slice Ahosts1 x.hosts.length chosts1) rfl
      have m1 := KB.cell (i := 1) (u := .slice Apods1 x.pods.length cpods1) rfl
      have m2 := KB.cell (i := 2) (u := .int .i64 x.next) rfl
      have m3 := KB.cell (i := 3) (u := .int .i64 x.weights.pack) rfl
      have m4 := KB.cell (i := 4) (u := .int .i64 x.weights.spread) rfl
      have m5 := KB.cell (i := 5) (u := .int .i64 x.weights.soft) rfl
      have mf := KB.fz
      have ml := KB.lt
      have r0 := KR.cell (i := 0) (u := .slice none 0 0) rfl
      have r1 := KR.cell (i := 1) (u := .slice none 0 0) rfl
      have r2 := KR.cell (i := 2) (u := .int .i64 0) rfl
      have r3 := KR.cell (i := 3) (u := .int .i64 0) rfl
      have r4 := KR.cell (i := 4) (u := .int .i64 0) rfl
      have r5 := KR.cell (i := 5) (u := .int .i64 0) rfl
      have rf := KR.fz
      have rl := KR.lt
      have hB4 : Below w.heap.size w w4 := (show Below w.heap.size w w3 from (by repeat (first | with_reducible exact ext_refl _ | with_reducible assumption | with_reducible refine ext_alloc ?_ _ | with_reducible refine ext_drew ?_ | with_reducible refine ext_trans ?_ (by assumption)))).trans (hU4.below (fun y hy => by have := hg y hy; omega) (by omega))
      have HOW := Lib.hid (Own.whole hOh4 hOe (fun y hy hy' => hdis y hy (hse y hy')) hnext1 hweightspack1 hweightsspread1 hweightssoft1)
      have HFG := Lib.hid (show ∀ y ∈ Gh ++ F', y < w1.heap.size from fun y hy => by rcases List.mem_append.1 hy with hy | hy; exact hlt1 y (hsh y hy); exact hlt1 y (hsp y (hse y hy)))
      clear hc1 hc2 hc3 hf1 hf2 hf3 hO1 hO2 hOh hOp hOe hOh4 KB KR KR0 hU4 h hg hb1 hb2 hb3
      go_wp2_with fail
      try dsimp only
      iterate 60 (first | go_step | skip)
      refine bodyPost_ret (v := .tuple #[.agg #[.slice Ahosts1 x.hosts.length chosts1, .slice Apods1 (x.pods.length - 1) cpods1, .int .i64 x.next, .int .i64 x.weights.pack, .int .i64 x.weights.spread, .int .i64 x.weights.soft], .int .i64 0]) (by simp [results, Tryz.results19, go_sem, *]) rfl ?_
      rw [HF.out]
      first
        | refine ⟨[.slice Ahosts1 x.hosts.length chosts1, .slice Apods1 (x.pods.length - 1) cpods1, .int .i64 x.next, .int .i64 x.weights.pack, .int .i64 x.weights.spread, .int .i64 x.weights.soft], Gh ++ F', rfl, ?_, ?_⟩
        | refine ⟨[.slice Ahosts1 x.hosts.length chosts1, .slice Apods1 (x.pods.length - 1) cpods1, .int .i64 x.next, .int .i64 x.weights.pack, .int .i64 x.weights.spread, .int .i64 x.weights.soft], rfl, ⟨Gh ++ F', ?_⟩, ?_⟩
      · try dsimp only
        refine Own.mono (B := w.heap.size + 1 + 1) ?_ (by omega)
        repeat (first | with_reducible exact HOW.out | with_reducible refine Own.setCell ?_ (by dsimp only; omega) _ | with_reducible refine ownFar ?_ (fun y hy => HFG.out y hy))
      · repeat (first | with_reducible exact ext_refl _ | with_reducible assumption | with_reducible refine ext_setCell ?_ (by dsimp only; omega) _ | with_reducible refine ext_alloc ?_ _ | with_reducible refine ext_drew ?_ | with_reducible refine ext_trans ?_ (by assumption))

end Go.Proofs.YtjoclfenghenjaaGreat
