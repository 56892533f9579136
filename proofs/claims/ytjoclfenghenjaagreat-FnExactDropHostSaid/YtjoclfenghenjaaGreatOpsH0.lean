/- A host's pods are set free, in plain Lean. No condition. -/
import Derived.Test.YtjoclfenghenjaaGreatOpsP
import Derived.Test.YtjoclfenghenjaaGreatOpsPS
namespace Go.Proofs.YtjoclfenghenjaaGreat
open Go.ChangeShapes Go.WideShapes Go.ChangeAt Go.RowKit
set_option linter.unusedVariables false
set_option linter.unusedSimpArgs false

def offP (nm : ByteArray) (p : Placed) : Placed := if p.on.toList == nm.toList then ⟨p.pod, ⟨#[]⟩, p.seq⟩ else p
def offL (nm : ByteArray) (k : Nat) (xs : List Placed) : List Placed := (xs.take k).map (offP nm) ++ xs.drop k
theorem offL_len (nm : ByteArray) (k : Nat) (xs : List Placed) (hk : k ≤ xs.length) : (offL nm k xs).length = xs.length := by unfold offL; rw [List.length_append, List.length_map, List.length_take, List.length_drop]; omega
theorem offL_zero (nm : ByteArray) (xs : List Placed) : offL nm 0 xs = xs := by simp [offL]
theorem offL_all (nm : ByteArray) (xs : List Placed) : offL nm xs.length xs = xs.map (offP nm) := by simp [offL]
theorem offL_get {nm : ByteArray} {k : Nat} {xs : List Placed} (hk : k < xs.length) (h : k < (offL nm k xs).length) : (offL nm k xs)[k] = xs[k] := by
  have h1 : ((xs.take k).map (offP nm)).length = k := by rw [List.length_map, List.length_take]; omega
  simp only [offL]
  rw [List.getElem_append_right (by omega)]
  simp [show min k xs.length = k from by omega]
theorem offL_set {nm : ByteArray} {k : Nat} {xs : List Placed} (hk : k < xs.length) : (offL nm k xs).set k (offP nm xs[k]) = offL nm (k + 1) xs := by
  have h1 : ((xs.take k).map (offP nm)).length = k := by rw [List.length_map, List.length_take]; omega
  unfold offL
  rw [List.set_append_right _ _ (by omega), h1, Nat.sub_self, ← List.getElem_cons_drop hk, List.set_cons_zero, List.take_succ_eq_append_getElem hk, List.map_append]
  simp
theorem offL_same {nm : ByteArray} {k : Nat} {xs : List Placed} (hk : k < xs.length) (h : offP nm xs[k] = xs[k]) : offL nm (k + 1) xs = offL nm k xs := by
  rw [← offL_set hk, h]
  have h2 : k < (offL nm k xs).length := by rw [offL_len nm k xs (by omega)]; exact hk
  rw [← offL_get (nm := nm) hk h2, List.set_getElem_self]
theorem Own.off {w : World} {B : Nat} {p : Placed} {ck : List Value} {F : List Nat} (h : Own w B p ck F) : Own w B (⟨p.pod, ⟨#[]⟩, p.seq⟩ : Placed) (ck.set 7 (.string ⟨#[]⟩)) F := by
  obtain ⟨⟨c1, c2, F1, F2, rfl, rfl, hrp, c3, c4, F3, F4, rfl, rfl, ⟨rfl, rfl, hon⟩, ⟨rfl, rfl, hsq⟩⟩, hnd, hb, hpl⟩ := h
  have hl : c1.length = 7 := Dat.len hrp
  have e : (c1 ++ ([Value.string p.on] ++ [Value.int .i64 p.seq])).set 7 (.string ⟨#[]⟩) = c1 ++ ([.string ⟨#[]⟩] ++ [.int .i64 p.seq]) := by
    rw [List.set_append_right _ _ (by omega), hl]; rfl
  rw [e]
  exact ⟨⟨c1, _, F1, _, rfl, rfl, hrp, _, _, _, _, rfl, rfl, ⟨rfl, rfl, (show (0 : Nat) ≤ maxLen from Nat.zero_le _)⟩, ⟨rfl, rfl, hsq⟩⟩, hnd, hb, hpl⟩
theorem ownNeH {α : Type} [Dat α] {w : World} {B c i : Nat} {u : Value} {x : α} {cs : List Value} {F : List Nat} (h : Own w B x cs F) (hF : ∀ y ∈ F, y ≠ c) : Own (w.setCell ⟨c, i, none⟩ u) B x cs F :=
  h.keep (fun y hy => Below.heap_setCell _ _ _ _ (by have := hF y hy; dsimp only; omega)) (by simp [World.setCell])
def dropH (x : Cluster) (nm : ByteArray) : Cluster × Int :=
  if clusterR x = true then (if idxI (hostatP nm) x.hosts < 0 then (x, 3) else (⟨x.hosts.eraseIdx (idxI (hostatP nm) x.hosts).toNat, x.pods.map (offP nm), x.next, x.weights⟩, 0)) else (x, 1)
theorem cntL_off (nm : ByteArray) : ∀ xs : List Placed, cntL cntPlaced (xs.map (offP nm)) = cntL cntPlaced xs
  | [] => rfl
  | x :: xs => by
    have := cntL_off nm xs
    have e : cntPlaced (offP nm x) = cntPlaced x := by unfold offP; split <;> rfl
    simp only [List.map_cons, cntL, e, this]
theorem dropH_cnt (x : Cluster) (nm : ByteArray) : cntTopCluster (dropH x nm).1 ≤ cntTopCluster x := by
  unfold dropH
  split
  · split
    · exact Nat.le_refl _
    · have h1 := cntL_erase (cnt := cntHost) x.hosts (idxI (hostatP nm) x.hosts).toNat
      have h2 := cntL_off nm x.pods
      simp only [cntTopCluster, h2] at h1 ⊢
      omega
  · exact Nat.le_refl _

end Go.Proofs.YtjoclfenghenjaaGreat

namespace Go.Proofs.YtjoclfenghenjaaGreat
open Go.ChangeShapes Go.WideShapes Go.ChangeAt Go.RowKit
set_option linter.unusedVariables false
set_option linter.unusedSimpArgs false
set_option maxRecDepth 100000 in
set_option maxHeartbeats 4000000 in
theorem DropHost_impl (x : Cluster) (cs : List Value) (F : List Nat) (nm : ByteArray) (w : World) (h : rd w x cs F) (hw : (x.wt : Int) ≤ 1048576) :
    Calls Tryz.prog 17 #[.agg cs.toArray, .string nm] w fun e w' => ∃ ds G, e = .returned (.tuple #[.agg ds.toArray, .int .i64 (dropH x nm).2]) ∧ Own w' w.heap.size (dropH x nm).1 ds G ∧ Below w.heap.size w w' := by
  have hpl : (x.hosts.length : Int) ≤ 1048576 := by have h1 := wtL_len Host.wt x.hosts; have h2 : x.wt = wtL Host.wt x.hosts + wtL Placed.wt x.pods := rfl; omega
  have hpp : (x.pods.length : Int) ≤ 1048576 := by have h1 := wtL_len Placed.wt x.pods; have h2 : x.wt = wtL Host.wt x.hosts + wtL Placed.wt x.pods := rfl; omega
  have HW := Lib.hid hw
  have HPL := Lib.hid hpl
  clear hw
  have hr := h
  obtain ⟨Ahosts, chosts, Fhosts, Apods, cpods, Fpods, hck, hF0, hhosts, hpods, hnext, hweightspack, hweightsspread, hweightssoft⟩ := rd_Cluster hr
  subst hck
  clear hF0 hr
  have hil := idxI_lt (p := hostatP nm) x.hosts
  cases hc : clusterR x
  · have HF := Lib.hid (show dropH x nm = (x, 1) by unfold dropH; rw [hc]; simp)
    have HC := Lib.hid hc
    clear hc
    obtain ⟨r, hr0⟩ : ∃ r, idxI (hostatP nm) x.hosts = r := ⟨_, rfl⟩
    have HI := Lib.hid hr0
    clear hr0
    go_enter Tryz.func17, Tryz.ntmps17
    go_wp2_with fail
    refine (copyCluster_any x _ _ _ (rd_ext h (by repeat (first | with_reducible exact ext_refl _ | with_reducible assumption | with_reducible refine ext_alloc ?_ _ | with_reducible refine ext_drew ?_ | with_reducible refine ext_trans ?_ (by assumption)))) HW.out).mono ?_
    rintro e w1 ⟨cs1, G1, rfl, hO1, hb1⟩
    have hR1 := hO1.rd
    obtain ⟨Ahosts1, chosts1, Fhosts1, Apods1, cpods1, Fpods1, hck, hG1, hhosts1, hpods1, hnext1, hweightspack1, hweightsspread1, hweightssoft1⟩ := rd_Cluster hR1
    subst hck
    clear hG1 hR1
    obtain ⟨hc1, hf1⟩ := bcell hb1
    have hz1a : w.heap.size < w1.heap.size := by have := hb1.size; (try simp at this); omega
    have hz1b : w.heap.size + 1 < w1.heap.size := by have := hb1.size; (try simp at this); omega
    have hlt1 := hO1.lt
    go_wp2_with fail
    refine (HostAt_impl x _ _ nm _ (rd_ext h (by repeat (first | with_reducible exact ext_refl _ | with_reducible assumption | with_reducible refine ext_alloc ?_ _ | with_reducible refine ext_drew ?_ | with_reducible refine ext_trans ?_ (by assumption)))) HPL.out).mono ?_
    rw [HI.out]
    rintro e w2 ⟨rfl, hb2⟩
    obtain ⟨hc2, hf2⟩ := bcell hb2
    have hz2a : w.heap.size < w2.heap.size := by have := hb2.size; (try simp at this); omega
    have hz2b : w.heap.size + 1 < w2.heap.size := by have := hb2.size; (try simp at this); omega
    have hz2d : w1.heap.size < w2.heap.size := by have := hb2.size; (try simp at this); omega
    go_wp2_with fail
    refine (ClusterOk_impl x _ _ _ (rd_ext h (by repeat (first | with_reducible exact ext_refl _ | with_reducible assumption | with_reducible refine ext_alloc ?_ _ | with_reducible refine ext_drew ?_ | with_reducible refine ext_trans ?_ (by assumption)))) HW.out).mono ?_
    rw [HC.out]
    rintro e w3 ⟨rfl, hb3⟩
    obtain ⟨hc3, hf3⟩ := bcell hb3
    have hz3a : w.heap.size < w3.heap.size := by have := hb3.size; (try simp at this); omega
    have hz3b : w.heap.size + 1 < w3.heap.size := by have := hb3.size; (try simp at this); omega
    have hz3d : w1.heap.size < w3.heap.size := by have := hb3.size; (try simp at this); omega
    have hO2 : Own w3 (w.heap.size + 1 + 1) x [.slice Ahosts1 x.hosts.length chosts1, .slice Apods1 x.pods.length cpods1, .int .i64 x.next, .int .i64 x.weights.pack, .int .i64 x.weights.spread, .int .i64 x.weights.soft] G1 := (((hO1.mono (by simp)).alloc _).ext hb2).ext hb3
    have HO2 := Lib.hid hO2
    clear hO1 hO2 h
    go_wp2_with fail
    try dsimp only
    iterate 60 (first | go_step | skip)
    refine bodyPost_ret (v := .tuple #[.agg #[.slice Ahosts1 x.hosts.length chosts1, .slice Apods1 x.pods.length cpods1, .int .i64 x.next, .int .i64 x.weights.pack, .int .i64 x.weights.spread, .int .i64 x.weights.soft], .int .i64 1]) (by simp [results, Tryz.results17, go_sem, *]) rfl ?_
    rw [HF.out]
    first
      | refine ⟨[.slice Ahosts1 x.hosts.length chosts1, .slice Apods1 x.pods.length cpods1, .int .i64 x.next, .int .i64 x.weights.pack, .int .i64 x.weights.spread, .int .i64 x.weights.soft], G1, rfl, ?_, ?_⟩
      | refine ⟨[.slice Ahosts1 x.hosts.length chosts1, .slice Apods1 x.pods.length cpods1, .int .i64 x.next, .int .i64 x.weights.pack, .int .i64 x.weights.spread, .int .i64 x.weights.soft], rfl, ⟨G1, ?_⟩, ?_⟩
    · try dsimp only
      refine Own.mono (B := w.heap.size + 1 + 1) ?_ (by omega)
      repeat (first | with_reducible exact HO2.out | with_reducible refine Own.setCell ?_ (by dsimp only; omega) _)
    · repeat (first | with_reducible exact ext_refl _ | with_reducible assumption | with_reducible refine ext_setCell ?_ (by dsimp only; omega) _ | with_reducible refine ext_alloc ?_ _ | with_reducible refine ext_drew ?_ | with_reducible refine ext_trans ?_ (by assumption))
  · by_cases hng : idxI (hostatP nm) x.hosts < 0
    · have HF := Lib.hid (show dropH x nm = (x, 3) by unfold dropH; rw [hc, if_pos rfl, if_pos hng])
      have HC := Lib.hid hc
      clear hc
      obtain ⟨r, hr0⟩ : ∃ r, idxI (hostatP nm) x.hosts = r := ⟨_, rfl⟩
      have HI := Lib.hid hr0
      rw [hr0] at hng
      clear hr0
      go_enter Tryz.func17, Tryz.ntmps17
      go_wp2_with fail
      refine (copyCluster_any x _ _ _ (rd_ext h (by repeat (first | with_reducible exact ext_refl _ | with_reducible assumption | with_reducible refine ext_alloc ?_ _ | with_reducible refine ext_drew ?_ | with_reducible refine ext_trans ?_ (by assumption)))) HW.out).mono ?_
      rintro e w1 ⟨cs1, G1, rfl, hO1, hb1⟩
      have hR1 := hO1.rd
      obtain ⟨Ahosts1, chosts1, Fhosts1, Apods1, cpods1, Fpods1, hck, hG1, hhosts1, hpods1, hnext1, hweightspack1, hweightsspread1, hweightssoft1⟩ := rd_Cluster hR1
      subst hck
      clear hG1 hR1
      obtain ⟨hc1, hf1⟩ := bcell hb1
      have hz1a : w.heap.size < w1.heap.size := by have := hb1.size; (try simp at this); omega
      have hz1b : w.heap.size + 1 < w1.heap.size := by have := hb1.size; (try simp at this); omega
      have hlt1 := hO1.lt
      go_wp2_with fail
      refine (HostAt_impl x _ _ nm _ (rd_ext h (by repeat (first | with_reducible exact ext_refl _ | with_reducible assumption | with_reducible refine ext_alloc ?_ _ | with_reducible refine ext_drew ?_ | with_reducible refine ext_trans ?_ (by assumption)))) HPL.out).mono ?_
      rw [HI.out]
      rintro e w2 ⟨rfl, hb2⟩
      obtain ⟨hc2, hf2⟩ := bcell hb2
      have hz2a : w.heap.size < w2.heap.size := by have := hb2.size; (try simp at this); omega
      have hz2b : w.heap.size + 1 < w2.heap.size := by have := hb2.size; (try simp at this); omega
      have hz2d : w1.heap.size < w2.heap.size := by have := hb2.size; (try simp at this); omega
      go_wp2_with fail
      refine (ClusterOk_impl x _ _ _ (rd_ext h (by repeat (first | with_reducible exact ext_refl _ | with_reducible assumption | with_reducible refine ext_alloc ?_ _ | with_reducible refine ext_drew ?_ | with_reducible refine ext_trans ?_ (by assumption)))) HW.out).mono ?_
      rw [HC.out]
      rintro e w3 ⟨rfl, hb3⟩
      obtain ⟨hc3, hf3⟩ := bcell hb3
      have hz3a : w.heap.size < w3.heap.size := by have := hb3.size; (try simp at this); omega
      have hz3b : w.heap.size + 1 < w3.heap.size := by have := hb3.size; (try simp at this); omega
      have hz3d : w1.heap.size < w3.heap.size := by have := hb3.size; (try simp at this); omega
      have hO2 : Own w3 (w.heap.size + 1 + 1) x [.slice Ahosts1 x.hosts.length chosts1, .slice Apods1 x.pods.length cpods1, .int .i64 x.next, .int .i64 x.weights.pack, .int .i64 x.weights.spread, .int .i64 x.weights.soft] G1 := (((hO1.mono (by simp)).alloc _).ext hb2).ext hb3
      have HO2 := Lib.hid hO2
      clear hO1 hO2 h
      go_wp2_with fail
      try dsimp only
      iterate 60 (first | go_step | skip)
      refine bodyPost_ret (v := .tuple #[.agg #[.slice Ahosts1 x.hosts.length chosts1, .slice Apods1 x.pods.length cpods1, .int .i64 x.next, .int .i64 x.weights.pack, .int .i64 x.weights.spread, .int .i64 x.weights.soft], .int .i64 3]) (by simp [results, Tryz.results17, go_sem, *]) rfl ?_
      rw [HF.out]
      first
        | refine ⟨[.slice Ahosts1 x.hosts.length chosts1, .slice Apods1 x.pods.length cpods1, .int .i64 x.next, .int .i64 x.weights.pack, .int .i64 x.weights.spread, .int .i64 x.weights.soft], G1, rfl, ?_, ?_⟩
        | refine ⟨[.slice Ahosts1 x.hosts.length chosts1, .slice Apods1 x.pods.length cpods1, .int .i64 x.next, .int .i64 x.weights.pack, .int .i64 x.weights.spread, .int .i64 x.weights.soft], rfl, ⟨G1, ?_⟩, ?_⟩
      · try dsimp only
        refine Own.mono (B := w.heap.size + 1 + 1) ?_ (by omega)
        repeat (first | with_reducible exact HO2.out | with_reducible refine Own.setCell ?_ (by dsimp only; omega) _)
      · repeat (first | with_reducible exact ext_refl _ | with_reducible assumption | with_reducible refine ext_setCell ?_ (by dsimp only; omega) _ | with_reducible refine ext_alloc ?_ _ | with_reducible refine ext_drew ?_ | with_reducible refine ext_trans ?_ (by assumption))
    · obtain ⟨k, hk0⟩ : ∃ k : Nat, idxI (hostatP nm) x.hosts = k := ⟨(idxI (hostatP nm) x.hosts).toNat, by omega⟩
      have hk : k < x.hosts.length := by omega
      have HF := Lib.hid (show dropH x nm = (⟨x.hosts.eraseIdx k, x.pods.map (offP nm), x.next, x.weights⟩, 0) by unfold dropH; rw [hc, if_pos rfl, if_neg (by omega), hk0, Int.toNat_natCast])
      have HC := Lib.hid hc
      clear hc
      have HI := Lib.hid hk0
      clear hk0 hng
      go_enter Tryz.func17, Tryz.ntmps17
      go_wp2_with fail
      refine (copyCluster_any x _ _ _ (rd_ext h (by repeat (first | with_reducible exact ext_refl _ | with_reducible assumption | with_reducible refine ext_alloc ?_ _ | with_reducible refine ext_drew ?_ | with_reducible refine ext_trans ?_ (by assumption)))) HW.out).mono ?_
      rintro e w1 ⟨cs1, G1, rfl, hO1, hb1⟩
      have hR1 := hO1.rd
      obtain ⟨Ahosts1, chosts1, Fhosts1, Apods1, cpods1, Fpods1, hck, hG1, hhosts1, hpods1, hnext1, hweightspack1, hweightsspread1, hweightssoft1⟩ := rd_Cluster hR1
      subst hck
      clear hG1 hR1
      obtain ⟨hc1, hf1⟩ := bcell hb1
      have hz1a : w.heap.size < w1.heap.size := by have := hb1.size; (try simp at this); omega
      have hz1b : w.heap.size + 1 < w1.heap.size := by have := hb1.size; (try simp at this); omega
      have hlt1 := hO1.lt
      go_wp2_with fail
      refine (HostAt_impl x _ _ nm _ (rd_ext h (by repeat (first | with_reducible exact ext_refl _ | with_reducible assumption | with_reducible refine ext_alloc ?_ _ | with_reducible refine ext_drew ?_ | with_reducible refine ext_trans ?_ (by assumption)))) HPL.out).mono ?_
      rw [HI.out]
      rintro e w2 ⟨rfl, hb2⟩
      obtain ⟨hc2, hf2⟩ := bcell hb2
      have hz2a : w.heap.size < w2.heap.size := by have := hb2.size; (try simp at this); omega
      have hz2b : w.heap.size + 1 < w2.heap.size := by have := hb2.size; (try simp at this); omega
      have hz2d : w1.heap.size < w2.heap.size := by have := hb2.size; (try simp at this); omega
      go_wp2_with fail
      refine (ClusterOk_impl x _ _ _ (rd_ext h (by repeat (first | with_reducible exact ext_refl _ | with_reducible assumption | with_reducible refine ext_alloc ?_ _ | with_reducible refine ext_drew ?_ | with_reducible refine ext_trans ?_ (by assumption)))) HW.out).mono ?_
      rw [HC.out]
      rintro e w3 ⟨rfl, hb3⟩
      obtain ⟨hc3, hf3⟩ := bcell hb3
      have hz3a : w.heap.size < w3.heap.size := by have := hb3.size; (try simp at this); omega
      have hz3b : w.heap.size + 1 < w3.heap.size := by have := hb3.size; (try simp at this); omega
      have hz3d : w1.heap.size < w3.heap.size := by have := hb3.size; (try simp at this); omega
      have hO2 : Own w3 (w.heap.size + 1 + 1) x [.slice Ahosts1 x.hosts.length chosts1, .slice Apods1 x.pods.length cpods1, .int .i64 x.next, .int .i64 x.weights.pack, .int .i64 x.weights.spread, .int .i64 x.weights.soft] G1 := (((hO1.mono (by simp)).alloc _).ext hb2).ext hb3
      obtain ⟨Gh, Gp, hOh, hOp, hdis, hsh, hsp⟩ := hO2.parts
      go_wp2_with fail
      refine (deleteHost_any x.hosts _ _ _ k (k + 1) _ _ hOh hk (by omega) (Lib.hid rfl)).mono ?_
      rintro e w4 ⟨F', rfl, hOe, hse, hU4⟩
      have hOp4 := hU4.own hOp (fun y hy hy' => hdis y hy' hy)
      have hg : ∀ y ∈ Gh, w.heap.size + 1 < y ∧ y < w1.heap.size := fun y hy => ⟨by have := hOh.base y hy; omega, hlt1 y (hsh y hy)⟩
      have hgp : ∀ y ∈ Gp, w.heap.size + 1 < y ∧ y < w1.heap.size := fun y hy => ⟨by have := hOp.base y hy; omega, hlt1 y (hsp y hy)⟩
      have hzz : w3.heap.size ≤ w4.heap.size := hU4.size
      have KB : Blk w4 w1.heap.size [.slice Ahosts1 x.hosts.length chosts1, .slice Apods1 x.pods.length cpods1, .int .i64 x.next, .int .i64 x.weights.pack, .int .i64 x.weights.spread, .int .i64 x.weights.soft] := ((((Blk.new w1 [.slice Ahosts1 x.hosts.length chosts1, .slice Apods1 x.pods.length cpods1, .int .i64 x.next, .int .i64 x.weights.pack, .int .i64 x.weights.spread, .int .i64 x.weights.soft] 33).ext hb2).ext hb3)).keep (hU4.block _ (by omega) (fun hm => by have := hg _ hm; omega))
      have KR0 : Blk ((w.alloc (.cells ([.slice Ahosts x.hosts.length chosts, .slice Apods x.pods.length cpods, .int .i64 x.next, .int .i64 x.weights.pack, .int .i64 x.weights.spread, .int .i64 x.weights.soft] : List Value).toArray 33)).alloc (.cells ([.slice none 0 0, .slice none 0 0, .int .i64 0, .int .i64 0, .int .i64 0, .int .i64 0] : List Value).toArray 33)) (w.heap.size + 1) [.slice none 0 0, .slice none 0 0, .int .i64 0, .int .i64 0, .int .i64 0, .int .i64 0] := by have := Blk.new (w.alloc (.cells ([.slice Ahosts x.hosts.length chosts, .slice Apods x.pods.length cpods, .int .i64 x.next, .int .i64 x.weights.pack, .int .i64 x.weights.spread, .int .i64 x.weights.soft] : List Value).toArray 33)) [.slice none 0 0, .slice none 0 0, .int .i64 0, .int .i64 0, .int .i64 0, .int .i64 0] 33; rw [World.size_alloc] at this; exact this
      have KR : Blk w4 (w.heap.size + 1) [.slice none 0 0, .slice none 0 0, .int .i64 0, .int .i64 0, .int .i64 0, .int .i64 0] := ((((KR0.ext hb1).ext (ext_alloc (ext_refl _) _)).ext hb2).ext hb3).keep (hU4.block _ (by omega) (fun hm => by have := hg _ hm; omega))
      have hB4 : Below w.heap.size w w4 := (show Below w.heap.size w w3 from (by repeat (first | with_reducible exact ext_refl _ | with_reducible assumption | with_reducible refine ext_alloc ?_ _ | with_reducible refine ext_drew ?_ | with_reducible refine ext_trans ?_ (by assumption)))).trans (hU4.below (fun y hy => by have := hg y hy; omega) (by omega))
      have m0 := KB.cell (i := 0) (u := .slice Ahosts1 x.hosts.length chosts1) rfl
      have m1 := KB.cell (i := 1) (u := .slice Apods1 x.pods.length cpods1) rfl
      have mf := KB.fz
      have ml := KB.lt
      have hdis4 : ∀ y ∈ F', y ∉ Gp := fun y hy hy' => hdis y (hse y hy) hy'
      have hgf : ∀ y ∈ F', w.heap.size + 1 < y ∧ y ≠ w1.heap.size := fun y hy => by have := hg y (hse y hy); omega
      obtain ⟨A9, hA9⟩ : ∃ A9, A9 = Ahosts1 := ⟨_, rfl⟩
      obtain ⟨c9, hc9⟩ : ∃ c9, c9 = chosts1 := ⟨_, rfl⟩
      have KB5 := KB.put 0 (.slice A9 (x.hosts.length - 1) c9)
      have KR5 := KR.far (c := w1.heap.size) (by omega) 0 (.slice A9 (x.hosts.length - 1) c9)
      have hOh5 : Own (w4.setCell ⟨w1.heap.size, 0, none⟩ (.slice A9 (x.hosts.length - 1) c9)) (w.heap.size + 1 + 1) (x.hosts.eraseIdx k) [.slice A9 (x.hosts.length - 1) c9] F' := ownNeH (by rw [hA9, hc9]; exact hOe) (fun y hy => (hgf y hy).2)
      have hOp5 : Own (w4.setCell ⟨w1.heap.size, 0, none⟩ (.slice A9 (x.hosts.length - 1) c9)) (w.heap.size + 1 + 1) x.pods [.slice Apods1 x.pods.length cpods1] Gp := ownFar hOp4 (fun y hy => (hgp y hy).2)
      have hB5 : Below w.heap.size w (w4.setCell ⟨w1.heap.size, 0, none⟩ (.slice A9 (x.hosts.length - 1) c9)) := ext_setCell hB4 (by dsimp only; omega) _
      subst hA9 hc9
      clear hc1 hc2 hc3 hf1 hf2 hf3 hO1 hO2 hOh hOp hOe hOp4 KB KR KR0 hU4 hg hb1 hb2 hb3 hse hdis hsh hsp hB4
      go_wp2_with fail
      obtain ⟨kh, hkh⟩ : ∃ kh, kh = k := ⟨_, rfl⟩
      subst hkh
      clear m0 m1 mf ml
      go_loopw [32] (fun i wr => ∃ (k : Nat), k ≤ x.pods.length ∧ i = .int .i64 k ∧ Own wr (w.heap.size + 1 + 1) (offL nm k x.pods) [.slice Apods1 x.pods.length cpods1] Gp ∧ Own wr (w.heap.size + 1 + 1) (x.hosts.eraseIdx kh) [.slice A9 (x.hosts.length - 1) c9] F' ∧ Blk wr w1.heap.size [.slice A9 (x.hosts.length - 1) c9, .slice Apods1 x.pods.length cpods1, .int .i64 x.next, .int .i64 x.weights.pack, .int .i64 x.weights.spread, .int .i64 x.weights.soft] ∧ Blk wr (w.heap.size + 1) [.slice none 0 0, .slice none 0 0, .int .i64 0, .int .i64 0, .int .i64 0, .int .i64 0] ∧ Below w.heap.size w wr) (fun i _ => x.pods.length - (intOf i).toNat)
      case atStart => exact ⟨0, Nat.zero_le _, rfl, by rw [offL_zero]; exact hOp5, hOh5, KB5, KR5, hB5⟩
      case round =>
        clear hOp5 hOh5 KB5 KR5 hB5
        obtain ⟨k, hkk, rfl, hP, hH, hKB, hKR, hBl⟩ := hrel
        have hlw := hKB.lt
        have HGP := Lib.hid hgp
        have HGF := Lib.hid hgf
        have HD4 := Lib.hid hdis4
        by_cases hlt : k < x.pods.length
        · have hll : k < (offL nm k x.pods).length := by rw [offL_len nm k x.pods hkk]; exact hlt
          have hcp := hP.rd
          obtain ⟨b, o, ck, Fk, rfl, hbF, hFk, hbn, hE0, hE, hback⟩ := Own.elt hP hll
          rw [offL_get hlt hll] at hE0
          have hRk := hE0.rd
          obtain ⟨Apodlabels3, cpodlabels3, Fpodlabels3, Apodneeds3, cpodneeds3, Fpodneeds3, Apodtolerances3, cpodtolerances3, Fpodtolerances3, hck, hF3, hpodname3, hpodlabels3, hpodcpu3, hpodmem3, hpodrank3, hpodneeds3, hpodtolerances3, hon3, hseq3⟩ := rd_Placed hRk
          subst hck
          clear hF3 hRk hcp
          have hS : Dat.size Placed = 9 := rfl
          rw [hS] at hE hback
          have hbg := hgp b hbF
          have q0 := hE.at_ (j := 0) (q := o + k * 9) rfl (u := .string x.pods[k].pod.name) rfl
          have q1 := hE.at_ (j := 1) (q := o + k * 9 + 1) rfl (u := .slice Apodlabels3 x.pods[k].pod.labels.length cpodlabels3) rfl
          have q2 := hE.at_ (j := 2) (q := o + k * 9 + 2) rfl (u := .int .i64 x.pods[k].pod.cpu) rfl
          have q3 := hE.at_ (j := 3) (q := o + k * 9 + 3) rfl (u := .int .i64 x.pods[k].pod.mem) rfl
          have q4 := hE.at_ (j := 4) (q := o + k * 9 + 4) rfl (u := .int .i64 x.pods[k].pod.rank) rfl
          have q5 := hE.at_ (j := 5) (q := o + k * 9 + 5) rfl (u := .slice Apodneeds3 x.pods[k].pod.needs.length cpodneeds3) rfl
          have q6 := hE.at_ (j := 6) (q := o + k * 9 + 6) rfl (u := .slice Apodtolerances3 x.pods[k].pod.tolerances.length cpodtolerances3) rfl
          have q7 := hE.at_ (j := 7) (q := o + k * 9 + 7) rfl (u := .string x.pods[k].on) rfl
          have q8 := hE.at_ (j := 8) (q := o + k * 9 + 8) rfl (u := .int .i64 x.pods[k].seq) rfl
          have qf := hE.plain.frozen
          have ql := hE.plain.lt
          have m0 := hKB.cell (i := 1) (u := .slice (some ⟨b, o, none⟩) x.pods.length cpods1) rfl
          have HBK := Lib.hid hback
          have HE := Lib.hid hE
          have HE0 := Lib.hid hE0
          have HH := Lib.hid hH
          have HKB := Lib.hid hKB
          have HKR := Lib.hid hKR
          have HP := Lib.hid hP
          have HB := Lib.hid hBl
          clear hback hE hE0 hH hKB hKR hP hBl hgp hgf hdis4
          cases hs : (x.pods[k].on.toList == nm.toList)
          · have hof : offP nm x.pods[k] = x.pods[k] := by unfold offP; rw [hs]; rfl
            have HOF := Lib.hid (offL_same hlt hof)
            clear hof
            go_wp2
            exact ⟨⟨k + 1, by omega, by go_num, (by rw [HOF.out]; exact HP.out.alloc _), HH.out.alloc _, HKB.out.ext (ext_alloc (ext_refl _) _), HKR.out.ext (ext_alloc (ext_refl _) _), ext_alloc HB.out _⟩, by simp [intOf]; omega⟩
          · have hof : offP nm x.pods[k] = ⟨x.pods[k].pod, ⟨#[]⟩, x.pods[k].seq⟩ := by unfold offP; rw [hs]; rfl
            have HOF := Lib.hid (offL_set (nm := nm) hlt)
            rw [hof] at HOF
            clear hof
            go_wp2
            have hE2 := HE.out.set (j := 7) (q := o + k * 9 + 7) (by simp) rfl (.string ⟨#[]⟩)
            have hO2 : Own (wr.setCell ⟨b, o + k * 9 + 7, none⟩ (.string ⟨#[]⟩)) (w.heap.size + 1 + 1) (⟨x.pods[k].pod, ⟨#[]⟩, x.pods[k].seq⟩ : Placed) _ Fk := (Own.off HE0.out).keep (fun y hy => Below.heap_setCell _ _ _ _ (by dsimp only; rintro rfl; exact hbn hy)) (by simp [World.setCell])
            have hL := HBK.out _ _ _ hO2 hE2
            rw [HOF.out] at hL
            have hH2 : Own (wr.setCell ⟨b, o + k * 9 + 7, none⟩ (.string ⟨#[]⟩)) (w.heap.size + 1 + 1) (x.hosts.eraseIdx kh) _ F' := HH.out.keep (fun y hy => Below.heap_setCell _ _ _ _ (by dsimp only; rintro rfl; exact HD4.out _ hy hbF)) (by simp [World.setCell])
            exact ⟨⟨k + 1, by omega, by go_num, hL.alloc _, hH2.alloc _, (HKB.out.far (c := b) (by omega) _ _).ext (ext_alloc (ext_refl _) _), (HKR.out.far (c := b) (by omega) _ _).ext (ext_alloc (ext_refl _) _), ext_alloc (ext_setCell HB.out (by dsimp only; omega) _) _⟩, by simp [intOf]; omega⟩
        · have hkl : k = x.pods.length := by omega
          subst hkl
          rw [offL_all] at hP
          have hlen2 : (x.pods.map (offP nm)).length = x.pods.length := by simp
          have HOW := Lib.hid (Own.whole hH hP HD4.out hnext1 hweightspack1 hweightsspread1 hweightssoft1)
          have HFG := Lib.hid (show ∀ y ∈ F' ++ Gp, y ≠ w1.heap.size from fun y hy => by rcases List.mem_append.1 hy with hy | hy; exact (HGF.out y hy).2; exact Nat.ne_of_lt (HGP.out y hy).2)
          have m0 := hKB.cell (i := 0) (u := .slice A9 (x.hosts.length - 1) c9) rfl
          have m1 := hKB.cell (i := 1) (u := .slice Apods1 x.pods.length cpods1) rfl
          have m2 := hKB.cell (i := 2) (u := .int .i64 x.next) rfl
          have m3 := hKB.cell (i := 3) (u := .int .i64 x.weights.pack) rfl
          have m4 := hKB.cell (i := 4) (u := .int .i64 x.weights.spread) rfl
          have m5 := hKB.cell (i := 5) (u := .int .i64 x.weights.soft) rfl
          have mf := hKB.fz
          have r0 := hKR.cell (i := 0) (u := .slice none 0 0) rfl
          have r1 := hKR.cell (i := 1) (u := .slice none 0 0) rfl
          have r2 := hKR.cell (i := 2) (u := .int .i64 0) rfl
          have r3 := hKR.cell (i := 3) (u := .int .i64 0) rfl
          have r4 := hKR.cell (i := 4) (u := .int .i64 0) rfl
          have r5 := hKR.cell (i := 5) (u := .int .i64 0) rfl
          have rf := hKR.fz
          have rl := hKR.lt
          clear hP hH hKB hKR hgp hgf hdis4
          go_wp2_with fail
          try dsimp only
          iterate 60 (first | go_step | skip)
          refine bodyPost_ret (v := .tuple #[.agg #[.slice A9 (x.hosts.length - 1) c9, .slice Apods1 x.pods.length cpods1, .int .i64 x.next, .int .i64 x.weights.pack, .int .i64 x.weights.spread, .int .i64 x.weights.soft], .int .i64 0]) (by simp [results, Tryz.results17, go_sem, *]) rfl ?_
          rw [HF.out]
          first
            | refine ⟨[.slice A9 (x.hosts.length - 1) c9, .slice Apods1 x.pods.length cpods1, .int .i64 x.next, .int .i64 x.weights.pack, .int .i64 x.weights.spread, .int .i64 x.weights.soft], F' ++ Gp, rfl, ?_, ?_⟩
            | refine ⟨[.slice A9 (x.hosts.length - 1) c9, .slice Apods1 x.pods.length cpods1, .int .i64 x.next, .int .i64 x.weights.pack, .int .i64 x.weights.spread, .int .i64 x.weights.soft], rfl, ⟨F' ++ Gp, ?_⟩, ?_⟩
          · try dsimp only
            refine Own.mono (B := w.heap.size + 1 + 1) ?_ (by omega)
            repeat (first | with_reducible exact HOW.out | with_reducible refine Own.setCell ?_ (by dsimp only; omega) _ | with_reducible refine ownNeH ?_ HFG.out)
          · repeat (first | with_reducible exact ext_refl _ | with_reducible assumption | with_reducible refine ext_setCell ?_ (by dsimp only; omega) _ | with_reducible refine ext_alloc ?_ _ | with_reducible refine ext_drew ?_ | with_reducible refine ext_trans ?_ (by assumption))

end Go.Proofs.YtjoclfenghenjaaGreat

namespace Go.Proofs.YtjoclfenghenjaaGreat
open Go.ChangeShapes Go.WideShapes Go.ChangeAt Go.RowKit
set_option linter.unusedVariables false
set_option linter.unusedSimpArgs false
set_option maxRecDepth 100000 in
set_option maxHeartbeats 4000000 in
theorem DropHost_spec (x : Cluster) (cs : List Value) (F : List Nat) (nm : ByteArray) (w : World) (h : rd w x cs F) (hw : (x.wt : Int) ≤ 1048576) :
    Calls Tryz.prog 16 #[.agg cs.toArray, .string nm] w fun e w' => ∃ ds G, e = .returned (.tuple #[.agg ds.toArray, .int .i64 (dropH x nm).2]) ∧ Own w' w.heap.size (dropH x nm).1 ds G ∧ Below w.heap.size w w' := by
  have hpl : (x.hosts.length : Int) ≤ 1048576 := by have h1 := wtL_len Host.wt x.hosts; have h2 : x.wt = wtL Host.wt x.hosts + wtL Placed.wt x.pods := rfl; omega
  have hpp : (x.pods.length : Int) ≤ 1048576 := by have h1 := wtL_len Placed.wt x.pods; have h2 : x.wt = wtL Host.wt x.hosts + wtL Placed.wt x.pods := rfl; omega
  have HW := Lib.hid hw
  have HPL := Lib.hid hpl
  clear hw
  have hr := h
  obtain ⟨Ahosts, chosts, Fhosts, Apods, cpods, Fpods, hck, hF0, hhosts, hpods, hnext, hweightspack, hweightsspread, hweightssoft⟩ := rd_Cluster hr
  subst hck
  clear hF0 hr
  have hil := idxI_lt (p := hostatP nm) x.hosts
  cases hc : clusterR x
  · have HF := Lib.hid (show dropH x nm = (x, 1) by unfold dropH; rw [hc]; simp)
    have HC := Lib.hid hc
    clear hc
    obtain ⟨r, hr0⟩ : ∃ r, idxI (hostatP nm) x.hosts = r := ⟨_, rfl⟩
    have HI := Lib.hid hr0
    clear hr0
    go_enter Tryz.func16, Tryz.ntmps16
    go_wp2_with fail
    refine (l22Copy_any x _ _ _ (rd_ext h (by repeat (first | with_reducible exact ext_refl _ | with_reducible assumption | with_reducible refine ext_alloc ?_ _ | with_reducible refine ext_drew ?_ | with_reducible refine ext_trans ?_ (by assumption)))) HW.out).mono ?_
    rintro e w1 ⟨cs1, G1, rfl, hO1, hb1⟩
    have hR1 := hO1.rd
    obtain ⟨Ahosts1, chosts1, Fhosts1, Apods1, cpods1, Fpods1, hck, hG1, hhosts1, hpods1, hnext1, hweightspack1, hweightsspread1, hweightssoft1⟩ := rd_Cluster hR1
    subst hck
    clear hG1 hR1
    obtain ⟨hc1, hf1⟩ := bcell hb1
    have hz1a : w.heap.size < w1.heap.size := by have := hb1.size; (try simp at this); omega
    have hz1b : w.heap.size + 1 < w1.heap.size := by have := hb1.size; (try simp at this); omega
    have hlt1 := hO1.lt
    go_wp2_with fail
    refine (ClusterOk_spec x _ _ _ (rd_ext h (by repeat (first | with_reducible exact ext_refl _ | with_reducible assumption | with_reducible refine ext_alloc ?_ _ | with_reducible refine ext_drew ?_ | with_reducible refine ext_trans ?_ (by assumption)))) HW.out).mono ?_
    rw [HC.out]
    rintro e w2 ⟨rfl, hb2⟩
    obtain ⟨hc2, hf2⟩ := bcell hb2
    have hz2a : w.heap.size < w2.heap.size := by have := hb2.size; (try simp at this); omega
    have hz2b : w.heap.size + 1 < w2.heap.size := by have := hb2.size; (try simp at this); omega
    have hz2d : w1.heap.size < w2.heap.size := by have := hb2.size; (try simp at this); omega
    have hO2 : Own w2 (w.heap.size + 1 + 1) x [.slice Ahosts1 x.hosts.length chosts1, .slice Apods1 x.pods.length cpods1, .int .i64 x.next, .int .i64 x.weights.pack, .int .i64 x.weights.spread, .int .i64 x.weights.soft] G1 := ((hO1.mono (by simp)).alloc _).ext hb2
    have HO2 := Lib.hid hO2
    clear hO1 hO2 h
    go_wp2_with fail
    try dsimp only
    iterate 60 (first | go_step | skip)
    refine bodyPost_ret (v := .tuple #[.agg #[.slice Ahosts1 x.hosts.length chosts1, .slice Apods1 x.pods.length cpods1, .int .i64 x.next, .int .i64 x.weights.pack, .int .i64 x.weights.spread, .int .i64 x.weights.soft], .int .i64 1]) (by simp [results, Tryz.results16, go_sem, *]) rfl ?_
    rw [HF.out]
    first
      | refine ⟨[.slice Ahosts1 x.hosts.length chosts1, .slice Apods1 x.pods.length cpods1, .int .i64 x.next, .int .i64 x.weights.pack, .int .i64 x.weights.spread, .int .i64 x.weights.soft], G1, rfl, ?_, ?_⟩
      | refine ⟨[.slice Ahosts1 x.hosts.length chosts1, .slice Apods1 x.pods.length cpods1, .int .i64 x.next, .int .i64 x.weights.pack, .int .i64 x.weights.spread, .int .i64 x.weights.soft], rfl, ⟨G1, ?_⟩, ?_⟩
    · try dsimp only
      refine Own.mono (B := w.heap.size + 1 + 1) ?_ (by omega)
      repeat (first | with_reducible exact HO2.out | with_reducible refine Own.setCell ?_ (by dsimp only; omega) _)
    · repeat (first | with_reducible exact ext_refl _ | with_reducible assumption | with_reducible refine ext_setCell ?_ (by dsimp only; omega) _ | with_reducible refine ext_alloc ?_ _ | with_reducible refine ext_drew ?_ | with_reducible refine ext_trans ?_ (by assumption))
  · by_cases hng : idxI (hostatP nm) x.hosts < 0
    · have HF := Lib.hid (show dropH x nm = (x, 3) by unfold dropH; rw [hc, if_pos rfl, if_pos hng])
      have HC := Lib.hid hc
      clear hc
      obtain ⟨r, hr0⟩ : ∃ r, idxI (hostatP nm) x.hosts = r := ⟨_, rfl⟩
      have HI := Lib.hid hr0
      rw [hr0] at hng
      clear hr0
      go_enter Tryz.func16, Tryz.ntmps16
      go_wp2_with fail
      refine (l22Copy_any x _ _ _ (rd_ext h (by repeat (first | with_reducible exact ext_refl _ | with_reducible assumption | with_reducible refine ext_alloc ?_ _ | with_reducible refine ext_drew ?_ | with_reducible refine ext_trans ?_ (by assumption)))) HW.out).mono ?_
      rintro e w1 ⟨cs1, G1, rfl, hO1, hb1⟩
      have hR1 := hO1.rd
      obtain ⟨Ahosts1, chosts1, Fhosts1, Apods1, cpods1, Fpods1, hck, hG1, hhosts1, hpods1, hnext1, hweightspack1, hweightsspread1, hweightssoft1⟩ := rd_Cluster hR1
      subst hck
      clear hG1 hR1
      obtain ⟨hc1, hf1⟩ := bcell hb1
      have hz1a : w.heap.size < w1.heap.size := by have := hb1.size; (try simp at this); omega
      have hz1b : w.heap.size + 1 < w1.heap.size := by have := hb1.size; (try simp at this); omega
      have hlt1 := hO1.lt
      go_wp2_with fail
      refine (ClusterOk_spec x _ _ _ (rd_ext h (by repeat (first | with_reducible exact ext_refl _ | with_reducible assumption | with_reducible refine ext_alloc ?_ _ | with_reducible refine ext_drew ?_ | with_reducible refine ext_trans ?_ (by assumption)))) HW.out).mono ?_
      rw [HC.out]
      rintro e w2 ⟨rfl, hb2⟩
      obtain ⟨hc2, hf2⟩ := bcell hb2
      have hz2a : w.heap.size < w2.heap.size := by have := hb2.size; (try simp at this); omega
      have hz2b : w.heap.size + 1 < w2.heap.size := by have := hb2.size; (try simp at this); omega
      have hz2d : w1.heap.size < w2.heap.size := by have := hb2.size; (try simp at this); omega
      go_wp2_with fail
      refine (HostAt_spec x _ _ nm _ (rd_ext h (by repeat (first | with_reducible exact ext_refl _ | with_reducible assumption | with_reducible refine ext_alloc ?_ _ | with_reducible refine ext_drew ?_ | with_reducible refine ext_trans ?_ (by assumption)))) HPL.out).mono ?_
      rw [HI.out]
      rintro e w3 ⟨rfl, hb3⟩
      obtain ⟨hc3, hf3⟩ := bcell hb3
      have hz3a : w.heap.size < w3.heap.size := by have := hb3.size; (try simp at this); omega
      have hz3b : w.heap.size + 1 < w3.heap.size := by have := hb3.size; (try simp at this); omega
      have hz3d : w1.heap.size < w3.heap.size := by have := hb3.size; (try simp at this); omega
      have hO2 : Own w3 (w.heap.size + 1 + 1) x [.slice Ahosts1 x.hosts.length chosts1, .slice Apods1 x.pods.length cpods1, .int .i64 x.next, .int .i64 x.weights.pack, .int .i64 x.weights.spread, .int .i64 x.weights.soft] G1 := (((hO1.mono (by simp)).alloc _).ext hb2).ext hb3
      have HO2 := Lib.hid hO2
      clear hO1 hO2 h
      go_wp2_with fail
      try dsimp only
      iterate 60 (first | go_step | skip)
      refine bodyPost_ret (v := .tuple #[.agg #[.slice Ahosts1 x.hosts.length chosts1, .slice Apods1 x.pods.length cpods1, .int .i64 x.next, .int .i64 x.weights.pack, .int .i64 x.weights.spread, .int .i64 x.weights.soft], .int .i64 3]) (by simp [results, Tryz.results16, go_sem, *]) rfl ?_
      rw [HF.out]
      first
        | refine ⟨[.slice Ahosts1 x.hosts.length chosts1, .slice Apods1 x.pods.length cpods1, .int .i64 x.next, .int .i64 x.weights.pack, .int .i64 x.weights.spread, .int .i64 x.weights.soft], G1, rfl, ?_, ?_⟩
        | refine ⟨[.slice Ahosts1 x.hosts.length chosts1, .slice Apods1 x.pods.length cpods1, .int .i64 x.next, .int .i64 x.weights.pack, .int .i64 x.weights.spread, .int .i64 x.weights.soft], rfl, ⟨G1, ?_⟩, ?_⟩
      · try dsimp only
        refine Own.mono (B := w.heap.size + 1 + 1) ?_ (by omega)
        repeat (first | with_reducible exact HO2.out | with_reducible refine Own.setCell ?_ (by dsimp only; omega) _)
      · repeat (first | with_reducible exact ext_refl _ | with_reducible assumption | with_reducible refine ext_setCell ?_ (by dsimp only; omega) _ | with_reducible refine ext_alloc ?_ _ | with_reducible refine ext_drew ?_ | with_reducible refine ext_trans ?_ (by assumption))
    · obtain ⟨k, hk0⟩ : ∃ k : Nat, idxI (hostatP nm) x.hosts = k := ⟨(idxI (hostatP nm) x.hosts).toNat, by omega⟩
      have hk : k < x.hosts.length := by omega
      have HF := Lib.hid (show dropH x nm = (⟨x.hosts.eraseIdx k, x.pods.map (offP nm), x.next, x.weights⟩, 0) by unfold dropH; rw [hc, if_pos rfl, if_neg (by omega), hk0, Int.toNat_natCast])
      have HC := Lib.hid hc
      clear hc
      have HI := Lib.hid hk0
      clear hk0 hng
      go_enter Tryz.func16, Tryz.ntmps16
      go_wp2_with fail
      refine (l22Copy_any x _ _ _ (rd_ext h (by repeat (first | with_reducible exact ext_refl _ | with_reducible assumption | with_reducible refine ext_alloc ?_ _ | with_reducible refine ext_drew ?_ | with_reducible refine ext_trans ?_ (by assumption)))) HW.out).mono ?_
      rintro e w1 ⟨cs1, G1, rfl, hO1, hb1⟩
      have hR1 := hO1.rd
      obtain ⟨Ahosts1, chosts1, Fhosts1, Apods1, cpods1, Fpods1, hck, hG1, hhosts1, hpods1, hnext1, hweightspack1, hweightsspread1, hweightssoft1⟩ := rd_Cluster hR1
      subst hck
      clear hG1 hR1
      obtain ⟨hc1, hf1⟩ := bcell hb1
      have hz1a : w.heap.size < w1.heap.size := by have := hb1.size; (try simp at this); omega
      have hz1b : w.heap.size + 1 < w1.heap.size := by have := hb1.size; (try simp at this); omega
      have hlt1 := hO1.lt
      go_wp2_with fail
      refine (ClusterOk_spec x _ _ _ (rd_ext h (by repeat (first | with_reducible exact ext_refl _ | with_reducible assumption | with_reducible refine ext_alloc ?_ _ | with_reducible refine ext_drew ?_ | with_reducible refine ext_trans ?_ (by assumption)))) HW.out).mono ?_
      rw [HC.out]
      rintro e w2 ⟨rfl, hb2⟩
      obtain ⟨hc2, hf2⟩ := bcell hb2
      have hz2a : w.heap.size < w2.heap.size := by have := hb2.size; (try simp at this); omega
      have hz2b : w.heap.size + 1 < w2.heap.size := by have := hb2.size; (try simp at this); omega
      have hz2d : w1.heap.size < w2.heap.size := by have := hb2.size; (try simp at this); omega
      go_wp2_with fail
      refine (HostAt_spec x _ _ nm _ (rd_ext h (by repeat (first | with_reducible exact ext_refl _ | with_reducible assumption | with_reducible refine ext_alloc ?_ _ | with_reducible refine ext_drew ?_ | with_reducible refine ext_trans ?_ (by assumption)))) HPL.out).mono ?_
      rw [HI.out]
      rintro e w3 ⟨rfl, hb3⟩
      obtain ⟨hc3, hf3⟩ := bcell hb3
      have hz3a : w.heap.size < w3.heap.size := by have := hb3.size; (try simp at this); omega
      have hz3b : w.heap.size + 1 < w3.heap.size := by have := hb3.size; (try simp at this); omega
      have hz3d : w1.heap.size < w3.heap.size := by have := hb3.size; (try simp at this); omega
      have hO2 : Own w3 (w.heap.size + 1 + 1) x [.slice Ahosts1 x.hosts.length chosts1, .slice Apods1 x.pods.length cpods1, .int .i64 x.next, .int .i64 x.weights.pack, .int .i64 x.weights.spread, .int .i64 x.weights.soft] G1 := (((hO1.mono (by simp)).alloc _).ext hb2).ext hb3
      obtain ⟨Gh, Gp, hOh, hOp, hdis, hsh, hsp⟩ := hO2.parts
      obtain ⟨b, o, ds, G3, rfl, hbF, hbs, hcap, hmx, hdl, hone, hcell, hOC, hG3⟩ := hOh.delCells hk
      have hS : Dat.size Host = 6 := rfl
      rw [hS] at hdl hOC
      clear hS
      have hg : ∀ y ∈ Gh, w.heap.size + 1 < y ∧ y < w1.heap.size := fun y hy => ⟨by have := hOh.base y hy; omega, hlt1 y (hsh y hy)⟩
      have hgp : ∀ y ∈ Gp, w.heap.size + 1 < y ∧ y < w1.heap.size := fun y hy => ⟨by have := hOp.base y hy; omega, hlt1 y (hsp y hy)⟩
      have hbl := hg b hbF
      have KB : Blk w3 w1.heap.size [.slice (some ⟨b, o, none⟩) x.hosts.length chosts1, .slice Apods1 x.pods.length cpods1, .int .i64 x.next, .int .i64 x.weights.pack, .int .i64 x.weights.spread, .int .i64 x.weights.soft] := (((Blk.new w1 [.slice (some ⟨b, o, none⟩) x.hosts.length chosts1, .slice Apods1 x.pods.length cpods1, .int .i64 x.next, .int .i64 x.weights.pack, .int .i64 x.weights.spread, .int .i64 x.weights.soft] 33).ext hb2).ext hb3)
      have KR0 : Blk ((w.alloc (.cells ([.slice Ahosts x.hosts.length chosts, .slice Apods x.pods.length cpods, .int .i64 x.next, .int .i64 x.weights.pack, .int .i64 x.weights.spread, .int .i64 x.weights.soft] : List Value).toArray 33)).alloc (.cells ([.slice none 0 0, .slice none 0 0, .int .i64 0, .int .i64 0, .int .i64 0, .int .i64 0] : List Value).toArray 33)) (w.heap.size + 1) [.slice none 0 0, .slice none 0 0, .int .i64 0, .int .i64 0, .int .i64 0, .int .i64 0] := by have := Blk.new (w.alloc (.cells ([.slice Ahosts x.hosts.length chosts, .slice Apods x.pods.length cpods, .int .i64 x.next, .int .i64 x.weights.pack, .int .i64 x.weights.spread, .int .i64 x.weights.soft] : List Value).toArray 33)) [.slice none 0 0, .slice none 0 0, .int .i64 0, .int .i64 0, .int .i64 0, .int .i64 0] 33; rw [World.size_alloc] at this; exact this
      have KR : Blk w3 (w.heap.size + 1) [.slice none 0 0, .slice none 0 0, .int .i64 0, .int .i64 0, .int .i64 0, .int .i64 0] := ((((KR0.ext hb1).ext (ext_alloc (ext_refl _) _)).ext hb2).ext hb3)
      have hB3 : Below w.heap.size w w3 := (by repeat (first | with_reducible exact ext_refl _ | with_reducible assumption | with_reducible refine ext_alloc ?_ _ | with_reducible refine ext_drew ?_ | with_reducible refine ext_trans ?_ (by assumption)))
      have HG3B := Lib.hid (show ∀ y ∈ G3, w.heap.size + 1 < y ∧ y < w1.heap.size from fun y hy => hg y (hG3 y hy))
      have HGPB := Lib.hid hgp
      have HDIS := Lib.hid (show ∀ y ∈ G3, y ∉ Gp from fun y hy hy' => hdis y (hG3 y hy) hy')
      have hl1 : (ds.take (k * 6)).length = k * 6 := by rw [List.length_take, hdl]; omega
      have hl2 : (ds.drop ((k + 1) * 6)).length = (x.hosts.length - (k + 1)) * 6 := by rw [List.length_drop, hdl]; omega
      have hk1 : (k : Int) + 1 ≤ x.hosts.length := by omega
      have hkc : k ≤ chosts1 := by omega
      have hkc1 : k + 1 ≤ chosts1 := by omega
      obtain ⟨A0, hA0, hsrc⟩ : ∃ A0 : Addr, (if chosts1 = k + 1 then some (⟨b, o, none⟩ : Addr) else some ⟨b, o + (k + 1) * 6, none⟩) = some A0 ∧ Hid (A0.block = b ∧ ∀ q u, (ds.drop ((k + 1) * 6))[q]? = some u → w3.cell? (A0.add q) = some u) := by
        by_cases hc : chosts1 = k + 1
        · refine ⟨⟨b, o, none⟩, by simp [hc], rfl, fun q u hu => ?_⟩
          have h0 : (ds.drop ((k + 1) * 6)).length = 0 := by rw [hl2]; omega
          rw [List.length_eq_zero_iff.1 h0] at hu
          simp at hu
        · refine ⟨⟨b, o + (k + 1) * 6, none⟩, by simp [hc], rfl, fun q u hu => ?_⟩
          rw [List.getElem?_drop] at hu
          rw [Addr.add_lit, show o + (k + 1) * 6 + q = o + ((k + 1) * 6 + q) by omega]
          exact hcell _ u hu
      have hw1 : IntKind.i64.wrap ((k : Int) + 1) = (k : Int) + 1 := IntWalk.i64_in _ (by omega)
      have hw2 : ((k : Int) + 1).toNat = k + 1 := by omega
      have x0 : (fun w' => w'.cell? ⟨w1.heap.size, 0, none⟩ = some (.slice (some ⟨b, o, none⟩) x.hosts.length chosts1)) w3.drew := (KB.ext (ext_drew (ext_refl _))).cell (i := 0) (u := .slice (some ⟨b, o, none⟩) x.hosts.length chosts1) rfl
      have HCELL := Lib.hid hcell
      have HOC := Lib.hid hOC
      have HONE := Lib.hid hone
      have HOP := Lib.hid hOp
      clear hcell hOC hone hOh hdl hO1 hO2 hOp hdis hsh hsp hG3
      go_wp2_with fail
      refine wp_region_cut (fun w' => w'.cell? ⟨w1.heap.size, 0, none⟩ = some (.slice (some ⟨b, o, none⟩) x.hosts.length chosts1)) [1, 2, 3, 4, 6, 7, 8, 9, 10] [0, 5, 11] [12, 13] (by kernel_rfl) (by kernel_rfl) (fun _ _ d _ _ h => by cases d <;> exact h) x0 ?_
      clear x0
      simp only [pick, List.getElem?_cons_succ, List.getElem?_cons_zero]
      iterate 9
        (apply headC_step
         case hy =>
           refine Or.inl ⟨rfl, fun wq hq => ?_⟩
           go_simp
           try rfl
         simp only [Act.put, List.setIfInBounds_toArray, List.set_cons_zero, List.set_cons_succ])
      refine headC_nil ?_
      have hbd : Below w3.heap.size w3 (w3.alloc (.cells #[] 82)).drew := ext_drew (ext_alloc (ext_refl _) _)
      have KBd := KB.ext hbd
      have KRd := KR.ext hbd
      have hownd : (w3.alloc (.cells #[] 82)).drew.ownsRow w3.heap.size 82 6 (.slice (some ⟨w3.heap.size, 0, none⟩) 0 0) 0 [] := row_new w3 82 6 w3.heap.size rfl
      refine wpListK_step rfl (fun K hK => ?_)
      go_simp
      refine hK _ _ (KBd.cell (i := 0) (u := .slice (some ⟨b, o, none⟩) x.hosts.length chosts1) rfl) ?_
      try simp only [Act.put, List.setIfInBounds_toArray, List.set_cons_zero, List.set_cons_succ]
      clear hK K
      have hsz : (w3.alloc (.cells #[] 82)).drew.heap.size = w3.heap.size + 1 := by simp
      generalize (w3.alloc (.cells #[] 82)).drew = wd at *
      refine wpListK_step rfl (fun K hK => ?_)
      refine wp_appendCK elCHost _ _ (by rfl) wd w3.heap.size _ 0 [] hownd (by rfl) ⟨b, o, none⟩ k chosts1 (ds.take (k * 6)) (by rfl) hl1 (fun q u hu => by
          rw [List.getElem?_take] at hu
          split at hu
          · rw [Addr.add_lit]; exact (hbd.cell (p := ⟨b, o + q, none⟩) (by dsimp only; omega)).trans (HCELL.out q u hu)
          · cases hu) (fun u hu => HONE.out u (List.mem_of_mem_take hu)) (by omega) (by omega) (by omega) ?_
      intro v5 w5 hown5 hg5 hat5
      have hr5 : ∀ q, (Value.slice (some ⟨w3.heap.size, 0, none⟩) 0 0).ownBlock = some q → q = w3.heap.size := fun q hq => by simp [Value.ownBlock] at hq; omega
      have KB5 := KBd.grown hg5 (fun q hq => by have := hr5 q hq; omega)
      have KR5 := KRd.grown hg5 (fun q hq => by have := hr5 q hq; omega)
      have hfar5 : ∀ y, y < w3.heap.size → w5.heap[y]? = w3.heap[y]? := fun y hy => (hg5.block y (by omega) (fun e => by have := hr5 y e.symm; omega)).trans (hbd.block y hy)
      have hv5 : ∀ q, v5.ownBlock = some q → w3.heap.size ≤ q := fun q hq => (hown5.lt q hq).1
      refine hK _ _ (KB5.cell (i := 0) (u := .slice (some ⟨b, o, none⟩) x.hosts.length chosts1) rfl) ?_
      try simp only [Act.put, List.setIfInBounds_toArray, List.set_cons_zero, List.set_cons_succ]
      clear hK K
      refine wpListK_step rfl (fun K hK => ?_)
      refine wp_appendCK elCHost _ _ (by rfl) w5 w3.heap.size v5 _ _ hown5 (by rfl) A0 (x.hosts.length - (k + 1)) (chosts1 - (k + 1)) (ds.drop ((k + 1) * 6)) (by rfl) hl2 (fun q u hu => by
          refine (World.cell?_of_block ?_).trans (hsrc.out.2 q u hu)
          refine hfar5 _ ?_
          rw [show (A0.add q).block = A0.block from by unfold Addr.add; split <;> rfl, hsrc.out.1]
          omega) (fun u hu => HONE.out u (List.mem_of_mem_drop hu)) (by omega) (by omega) (by have := hg5.size; omega) ?_
      intro v7 w7 hown7 hg7 hat7
      have hz7 := hg7.size
      have hz5 := hg5.size
      have KB7 := KB5.grown hg7 (fun q hq => by have := hv5 q hq; omega)
      have KR7 := KR5.grown hg7 (fun q hq => by have := hv5 q hq; omega)
      have hfar7 : ∀ y, y < w3.heap.size → w7.heap[y]? = w3.heap[y]? := fun y hy => (hg7.block y (by omega) (fun e => by have := hv5 y e.symm; omega)).trans (hfar5 y hy)
      rw [show 0 + k + (x.hosts.length - (k + 1)) = x.hosts.length - 1 by omega, List.nil_append] at hown7
      obtain ⟨A9, c9, hv7⟩ := row_sliceK hown7
      subst hv7
      refine hK _ _ (KB7.cell (i := 0) (u := .slice (some ⟨b, o, none⟩) x.hosts.length chosts1) rfl) ?_
      try simp only [Act.put, List.setIfInBounds_toArray, List.set_cons_zero, List.set_cons_succ]
      clear hK K
      have hle : (x.hosts.eraseIdx k).length = x.hosts.length - 1 := by rw [List.length_eraseIdx, if_pos hk]
      have hoc7 : OwnCells w7 (w.heap.size + 1 + 1) (x.hosts.eraseIdx k) (ds.take (k * 6) ++ ds.drop ((k + 1) * 6)) G3 := HOC.out.keep (fun y hy => hfar7 y (by have := HG3B.out y hy; omega)) (by omega)
      obtain ⟨A8, c8, F', hv8, hO8, hG8⟩ := Own.of_rowK (xs := x.hosts.eraseIdx k) (by rw [hle]; exact row_mono hown7 (by omega)) hoc7 (fun g hg' hm => by have := (hown7.lt g hg').1; have := HG3B.out g hm; omega)
      rw [hle] at hv8 hO8
      simp only [Value.slice.injEq, true_and] at hv8
      obtain ⟨rfl, rfl⟩ := hv8
      have hop7 : Own w7 (w.heap.size + 1 + 1) x.pods [.slice Apods1 x.pods.length cpods1] Gp := HOP.out.keep (fun y hy => hfar7 y (by have := HGPB.out y hy; omega)) (by omega)
      have hdis4 : ∀ y ∈ F', y ∉ Gp := fun y hy hy' => by
        rcases hG8 y hy with h9 | h9
        · exact HDIS.out y h9 hy'
        · have := (hown7.lt y h9).1; have := HGPB.out y hy'; omega
      have hgf : ∀ y ∈ F', w.heap.size + 1 < y ∧ y ≠ w1.heap.size := fun y hy => by
        rcases hG8 y hy with h9 | h9
        · have := HG3B.out y h9; omega
        · have := (hown7.lt y h9).1; omega
      have hB7 : Below w.heap.size w w7 := hB3.trans ⟨hg7.os.trans (hg5.os.trans hbd.os), hg7.tape.trans (hg5.tape.trans hbd.tape), hg7.output.trans (hg5.output.trans hbd.output), by omega, fun y hy => hfar7 y (by omega)⟩
      have m0 := KB7.cell (i := 0) (u := .slice (some ⟨b, o, none⟩) x.hosts.length chosts1) rfl
      have m1 := KB7.cell (i := 1) (u := .slice Apods1 x.pods.length cpods1) rfl
      have mf := KB7.fz
      have ml := KB7.lt
      have KB5' := KB7.put 0 (.slice A9 (x.hosts.length - 1) c9)
      have KR5' := KR7.far (c := w1.heap.size) (by omega) 0 (.slice A9 (x.hosts.length - 1) c9)
      have hOh5 : Own (w7.setCell ⟨w1.heap.size, 0, none⟩ (.slice A9 (x.hosts.length - 1) c9)) (w.heap.size + 1 + 1) (x.hosts.eraseIdx k) [.slice A9 (x.hosts.length - 1) c9] F' := ownNeH hO8 (fun y hy => (hgf y hy).2)
      have hOp5 : Own (w7.setCell ⟨w1.heap.size, 0, none⟩ (.slice A9 (x.hosts.length - 1) c9)) (w.heap.size + 1 + 1) x.pods [.slice Apods1 x.pods.length cpods1] Gp := ownFar hop7 (fun y hy => (hgp y hy).2)
      have hB5 : Below w.heap.size w (w7.setCell ⟨w1.heap.size, 0, none⟩ (.slice A9 (x.hosts.length - 1) c9)) := ext_setCell hB7 (by dsimp only; omega) _
      clear hc1 hc2 hc3 hf1 hf2 hf3 KB KR KR0 KBd KRd KB5 KR5 KB7 KR7 hownd hown5 hown7 hg5 hg7 hat5 hat7 hfar5 hfar7 hr5 hv5 hoc7 hO8 hop7 hG8 hb1 hb2 hb3 hbd hg h hw1 hw2 hA0 hB7 hB3
      have KB5 := KB5'
      have KR5 := KR5'
      clear KB5' KR5'
      refine wpListK_nil ?_
      go_wp2_with fail
      obtain ⟨kh, hkh⟩ : ∃ kh, kh = k := ⟨_, rfl⟩
      subst hkh
      clear m0 m1 mf ml
      go_loopw [8] (fun i wr => ∃ (k : Nat), k ≤ x.pods.length ∧ i = .int .i64 k ∧ Own wr (w.heap.size + 1 + 1) (offL nm k x.pods) [.slice Apods1 x.pods.length cpods1] Gp ∧ Own wr (w.heap.size + 1 + 1) (x.hosts.eraseIdx kh) [.slice A9 (x.hosts.length - 1) c9] F' ∧ Blk wr w1.heap.size [.slice A9 (x.hosts.length - 1) c9, .slice Apods1 x.pods.length cpods1, .int .i64 x.next, .int .i64 x.weights.pack, .int .i64 x.weights.spread, .int .i64 x.weights.soft] ∧ Blk wr (w.heap.size + 1) [.slice none 0 0, .slice none 0 0, .int .i64 0, .int .i64 0, .int .i64 0, .int .i64 0] ∧ Below w.heap.size w wr) (fun i _ => x.pods.length - (intOf i).toNat)
      case atStart => exact ⟨0, Nat.zero_le _, rfl, by rw [offL_zero]; exact hOp5, hOh5, KB5, KR5, hB5⟩
      case round =>
        clear hOp5 hOh5 KB5 KR5 hB5
        obtain ⟨k, hkk, rfl, hP, hH, hKB, hKR, hBl⟩ := hrel
        have hlw := hKB.lt
        have HGP := Lib.hid hgp
        have HGF := Lib.hid hgf
        have HD4 := Lib.hid hdis4
        by_cases hlt : k < x.pods.length
        · have hll : k < (offL nm k x.pods).length := by rw [offL_len nm k x.pods hkk]; exact hlt
          have hcp := hP.rd
          obtain ⟨b, o, ck, Fk, rfl, hbF, hFk, hbn, hE0, hE, hback⟩ := Own.elt hP hll
          rw [offL_get hlt hll] at hE0
          have hRk := hE0.rd
          obtain ⟨Apodlabels3, cpodlabels3, Fpodlabels3, Apodneeds3, cpodneeds3, Fpodneeds3, Apodtolerances3, cpodtolerances3, Fpodtolerances3, hck, hF3, hpodname3, hpodlabels3, hpodcpu3, hpodmem3, hpodrank3, hpodneeds3, hpodtolerances3, hon3, hseq3⟩ := rd_Placed hRk
          subst hck
          clear hF3 hRk hcp
          have hS : Dat.size Placed = 9 := rfl
          rw [hS] at hE hback
          have hbg := hgp b hbF
          have q0 := hE.at_ (j := 0) (q := o + k * 9) rfl (u := .string x.pods[k].pod.name) rfl
          have q1 := hE.at_ (j := 1) (q := o + k * 9 + 1) rfl (u := .slice Apodlabels3 x.pods[k].pod.labels.length cpodlabels3) rfl
          have q2 := hE.at_ (j := 2) (q := o + k * 9 + 2) rfl (u := .int .i64 x.pods[k].pod.cpu) rfl
          have q3 := hE.at_ (j := 3) (q := o + k * 9 + 3) rfl (u := .int .i64 x.pods[k].pod.mem) rfl
          have q4 := hE.at_ (j := 4) (q := o + k * 9 + 4) rfl (u := .int .i64 x.pods[k].pod.rank) rfl
          have q5 := hE.at_ (j := 5) (q := o + k * 9 + 5) rfl (u := .slice Apodneeds3 x.pods[k].pod.needs.length cpodneeds3) rfl
          have q6 := hE.at_ (j := 6) (q := o + k * 9 + 6) rfl (u := .slice Apodtolerances3 x.pods[k].pod.tolerances.length cpodtolerances3) rfl
          have q7 := hE.at_ (j := 7) (q := o + k * 9 + 7) rfl (u := .string x.pods[k].on) rfl
          have q8 := hE.at_ (j := 8) (q := o + k * 9 + 8) rfl (u := .int .i64 x.pods[k].seq) rfl
          have qf := hE.plain.frozen
          have ql := hE.plain.lt
          have m0 := hKB.cell (i := 1) (u := .slice (some ⟨b, o, none⟩) x.pods.length cpods1) rfl
          have HBK := Lib.hid hback
          have HE := Lib.hid hE
          have HE0 := Lib.hid hE0
          have HH := Lib.hid hH
          have HKB := Lib.hid hKB
          have HKR := Lib.hid hKR
          have HP := Lib.hid hP
          have HB := Lib.hid hBl
          clear hback hE hE0 hH hKB hKR hP hBl hgp hgf hdis4
          cases hs : (x.pods[k].on.toList == nm.toList)
          · have hof : offP nm x.pods[k] = x.pods[k] := by unfold offP; rw [hs]; rfl
            have HOF := Lib.hid (offL_same hlt hof)
            clear hof
            go_wp2
            exact ⟨⟨k + 1, by omega, by go_num, (by rw [HOF.out]; exact HP.out), HH.out, HKB.out, HKR.out, HB.out⟩, by simp [intOf]; omega⟩
          · have hof : offP nm x.pods[k] = ⟨x.pods[k].pod, ⟨#[]⟩, x.pods[k].seq⟩ := by unfold offP; rw [hs]; rfl
            have HOF := Lib.hid (offL_set (nm := nm) hlt)
            rw [hof] at HOF
            clear hof
            go_wp2
            have hE2 := HE.out.set (j := 7) (q := o + k * 9 + 7) (by simp) rfl (.string ⟨#[]⟩)
            have hO2 : Own (wr.setCell ⟨b, o + k * 9 + 7, none⟩ (.string ⟨#[]⟩)) (w.heap.size + 1 + 1) (⟨x.pods[k].pod, ⟨#[]⟩, x.pods[k].seq⟩ : Placed) _ Fk := (Own.off HE0.out).keep (fun y hy => Below.heap_setCell _ _ _ _ (by dsimp only; rintro rfl; exact hbn hy)) (by simp [World.setCell])
            have hL := HBK.out _ _ _ hO2 hE2
            rw [HOF.out] at hL
            have hH2 : Own (wr.setCell ⟨b, o + k * 9 + 7, none⟩ (.string ⟨#[]⟩)) (w.heap.size + 1 + 1) (x.hosts.eraseIdx kh) _ F' := HH.out.keep (fun y hy => Below.heap_setCell _ _ _ _ (by dsimp only; rintro rfl; exact HD4.out _ hy hbF)) (by simp [World.setCell])
            exact ⟨⟨k + 1, by omega, by go_num, hL, hH2, (HKB.out.far (c := b) (by omega) _ _), (HKR.out.far (c := b) (by omega) _ _), (ext_setCell HB.out (by dsimp only; omega) _)⟩, by simp [intOf]; omega⟩
        · have hkl : k = x.pods.length := by omega
          subst hkl
          rw [offL_all] at hP
          have hlen2 : (x.pods.map (offP nm)).length = x.pods.length := by simp
          have HOW := Lib.hid (Own.whole hH hP HD4.out hnext1 hweightspack1 hweightsspread1 hweightssoft1)
          have HFG := Lib.hid (show ∀ y ∈ F' ++ Gp, y ≠ w1.heap.size from fun y hy => by rcases List.mem_append.1 hy with hy | hy; exact (HGF.out y hy).2; exact Nat.ne_of_lt (HGP.out y hy).2)
          have m0 := hKB.cell (i := 0) (u := .slice A9 (x.hosts.length - 1) c9) rfl
          have m1 := hKB.cell (i := 1) (u := .slice Apods1 x.pods.length cpods1) rfl
          have m2 := hKB.cell (i := 2) (u := .int .i64 x.next) rfl
          have m3 := hKB.cell (i := 3) (u := .int .i64 x.weights.pack) rfl
          have m4 := hKB.cell (i := 4) (u := .int .i64 x.weights.spread) rfl
          have m5 := hKB.cell (i := 5) (u := .int .i64 x.weights.soft) rfl
          have mf := hKB.fz
          have r0 := hKR.cell (i := 0) (u := .slice none 0 0) rfl
          have r1 := hKR.cell (i := 1) (u := .slice none 0 0) rfl
          have r2 := hKR.cell (i := 2) (u := .int .i64 0) rfl
          have r3 := hKR.cell (i := 3) (u := .int .i64 0) rfl
          have r4 := hKR.cell (i := 4) (u := .int .i64 0) rfl
          have r5 := hKR.cell (i := 5) (u := .int .i64 0) rfl
          have rf := hKR.fz
          have rl := hKR.lt
          clear hP hH hKB hKR hgp hgf hdis4
          go_wp2_with fail
          try dsimp only
          iterate 60 (first | go_step | skip)
          refine bodyPost_ret (v := .tuple #[.agg #[.slice A9 (x.hosts.length - 1) c9, .slice Apods1 x.pods.length cpods1, .int .i64 x.next, .int .i64 x.weights.pack, .int .i64 x.weights.spread, .int .i64 x.weights.soft], .int .i64 0]) (by simp [results, Tryz.results16, go_sem, *]) rfl ?_
          rw [HF.out]
          first
            | refine ⟨[.slice A9 (x.hosts.length - 1) c9, .slice Apods1 x.pods.length cpods1, .int .i64 x.next, .int .i64 x.weights.pack, .int .i64 x.weights.spread, .int .i64 x.weights.soft], F' ++ Gp, rfl, ?_, ?_⟩
            | refine ⟨[.slice A9 (x.hosts.length - 1) c9, .slice Apods1 x.pods.length cpods1, .int .i64 x.next, .int .i64 x.weights.pack, .int .i64 x.weights.spread, .int .i64 x.weights.soft], rfl, ⟨F' ++ Gp, ?_⟩, ?_⟩
          · try dsimp only
            refine Own.mono (B := w.heap.size + 1 + 1) ?_ (by omega)
            repeat (first | with_reducible exact HOW.out | with_reducible refine Own.setCell ?_ (by dsimp only; omega) _ | with_reducible refine ownNeH ?_ HFG.out)
          · repeat (first | with_reducible exact ext_refl _ | with_reducible assumption | with_reducible refine ext_setCell ?_ (by dsimp only; omega) _ | with_reducible refine ext_alloc ?_ _ | with_reducible refine ext_drew ?_ | with_reducible refine ext_trans ?_ (by assumption))

end Go.Proofs.YtjoclfenghenjaaGreat
