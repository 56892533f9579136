/- RankingOf of the program. No condition. -/
import Derived.Test.YtjoclfenghenjaaGreatRank0
import Derived.Test.YtjoclfenghenjaaGreatValCmp
import Derived.Test.YtjoclfenghenjaaGreatLaw1
namespace Go.Proofs.YtjoclfenghenjaaGreat
open Go.ChangeShapes Go.WideShapes Go.ChangeAt Go.RowKit
set_option linter.unusedVariables false
set_option linter.unusedSimpArgs false

theorem Sl.ints2 (W : World) (a b : Int) (t : TypeId) (ha : I64 a) (hb : I64 b) (N : Nat) (hN : W.heap.size = N) : Sl (W.alloc (.cells #[.int .i64 a, .int .i64 b] t)) [a, b] (some ⟨N, 0, none⟩) 2 [N] := by
  subst hN
  exact Sl.ints_alloc W [a, b] t (by intro x hx; simp only [List.mem_cons, List.not_mem_nil, or_false] at hx; rcases hx with rfl | rfl <;> assumption) (by unfold maxLen; simp)
set_option maxRecDepth 100000 in
set_option maxHeartbeats 4000000 in
theorem Rank_clo (x : Cluster) (p : Pod) (Ahosts Apods Alabels2 Aneeds2 Atolerances2 : Option Addr) (chosts cpods clabels2 cneeds2 ctolerances2 : Nat) (F G : List Nat) (g1 g2 : Nat) (w : World) (h : rd w x [.slice Ahosts x.hosts.length chosts, .slice Apods x.pods.length cpods, .int .i64 x.next, .int .i64 x.weights.pack, .int .i64 x.weights.spread, .int .i64 x.weights.soft] F) (h' : rd w p [.string p.name, .slice Alabels2 p.labels.length clabels2, .int .i64 p.cpu, .int .i64 p.mem, .int .i64 p.rank, .slice Aneeds2 p.needs.length cneeds2, .slice Atolerances2 p.tolerances.length ctolerances2] G) (hw : (x.wt : Int) ≤ 1048576) (hw' : (p.wt : Int) ≤ 1048576)
    (c0 : w.cell? ⟨g1, 0, none⟩ = some (.slice Ahosts x.hosts.length chosts)) (c1 : w.cell? ⟨g1, 1, none⟩ = some (.slice Apods x.pods.length cpods)) (c2 : w.cell? ⟨g1, 2, none⟩ = some (.int .i64 x.next)) (c3 : w.cell? ⟨g1, 3, none⟩ = some (.int .i64 x.weights.pack)) (c4 : w.cell? ⟨g1, 4, none⟩ = some (.int .i64 x.weights.spread)) (c5 : w.cell? ⟨g1, 5, none⟩ = some (.int .i64 x.weights.soft)) (d0 : w.cell? ⟨g2, 0, none⟩ = some (.string p.name)) (d1 : w.cell? ⟨g2, 1, none⟩ = some (.slice Alabels2 p.labels.length clabels2)) (d2 : w.cell? ⟨g2, 2, none⟩ = some (.int .i64 p.cpu)) (d3 : w.cell? ⟨g2, 3, none⟩ = some (.int .i64 p.mem)) (d4 : w.cell? ⟨g2, 4, none⟩ = some (.int .i64 p.rank)) (d5 : w.cell? ⟨g2, 5, none⟩ = some (.slice Aneeds2 p.needs.length cneeds2)) (d6 : w.cell? ⟨g2, 6, none⟩ = some (.slice Atolerances2 p.tolerances.length ctolerances2)) (hg1 : g1 < w.heap.size) (hg2 : g2 < w.heap.size) (a b : ByteArray) :
    Calls Tryz.prog 64 #[.string a, .string b, .pointer (some ⟨g1, 0, none⟩), .pointer (some ⟨g2, 0, none⟩)] w fun e w' => e = .returned (.int .i64 (rankV x p a b)) ∧ Below w.heap.size w w' := by
  have hr1 := compareInt_range (markR b x p) (markR a x p)
  have hr2 := compareBytes_range a.data.toList b.data.toList
  have HWX := Lib.hid hw
  have HWP := Lib.hid hw'
  clear hw hw'
  go_enter Tryz.func64, Tryz.ntmps64
  go_wp2_with fail
  refine wp_region_ix w [0, 1, 2, 4, 5, 6, 9, 10] [3, 7, 8, 11, 12, 13, 14] (by kernel_rfl) (by kernel_rfl) (fun _ _ d _ _ h => by cases d <;> exact h) (ext_refl _) ?_
  simp only [pick, List.getElem?_cons_succ, List.getElem?_cons_zero]
  iterate 8
    (apply headC_step
     case hy =>
       refine Or.inl ⟨rfl, fun wq hq => ?_⟩
       have hcq := (cls_cell hq).1
       go_simp
       try rfl
     simp only [Act.put, List.setIfInBounds_toArray, List.set_cons_zero, List.set_cons_succ])
  refine headC_nil ?_
  have hbx : Below w.heap.size w w.drew := ext_drew (ext_refl _)
  refine wpListC_step rfl (fun K hK => ?_)
  go_simp
  refine (MarkOn_impl x p _ _ _ _ b _ (rd_extT h hbx) (rd_extT h' hbx) HWX.out HWP.out).mono ?_
  rintro e w1 ⟨rfl, hb1⟩
  replace hbx := ext_trans hbx hb1
  refine hK _ _ hbx (fun _ => ?_)
  try simp only [Act.put, List.setIfInBounds_toArray, List.set_cons_zero, List.set_cons_succ]
  clear hK K
  refine wpListC_step rfl (fun K hK => ?_)
  go_simp
  refine (MarkOn_impl x p _ _ _ _ a _ (rd_extT h hbx) (rd_extT h' hbx) HWX.out HWP.out).mono ?_
  rintro e w2 ⟨rfl, hb2⟩
  replace hbx := ext_trans hbx hb2
  refine hK _ _ hbx (fun _ => ?_)
  try simp only [Act.put, List.setIfInBounds_toArray, List.set_cons_zero, List.set_cons_succ]
  clear hK K
  refine wpListC_step rfl (fun K hK => ?_)
  go_simp
  refine (CompareInt_any (markR b x p) (markR a x p) _).mono ?_
  rintro e wz ⟨rfl, hw⟩
  simp only [hw]
  clear hw wz
  refine hK _ _ hbx (fun _ => ?_)
  try simp only [Act.put, List.setIfInBounds_toArray, List.set_cons_zero, List.set_cons_succ]
  clear hK K
  refine wpListC_step rfl (fun K hK => ?_)
  go_simp
  refine (CompareStr_any a b _).mono ?_
  rintro e wz ⟨rfl, hw⟩
  simp only [hw]
  clear hw wz
  refine hK _ _ hbx (fun _ => ?_)
  try simp only [Act.put, List.setIfInBounds_toArray, List.set_cons_zero, List.set_cons_succ]
  clear hK K
  refine wpListC_step rfl (fun K hK => ?_)
  go_simp
  have hS := Sl.ints2 w2 _ _ 3 (I64.small hr1) (I64.small hr2) w2.heap.size rfl
  replace hbx := ext_alloc hbx (.cells #[.int .i64 (Lib.compareInt (markR b x p) (markR a x p)), .int .i64 (Lib.compareBytes a.data.toList b.data.toList)] 3)
  refine hK _ _ hbx (fun _ => ?_)
  try simp only [Act.put, List.setIfInBounds_toArray, List.set_cons_zero, List.set_cons_succ]
  clear hK K
  refine wpListC_step rfl (fun K hK => ?_)
  go_simp
  refine (Or_any _ _ 2 _ _ _ hS rfl (by simp)).mono ?_
  rintro e wz ⟨rfl, hw⟩
  simp only [hw]
  clear hw wz
  refine hK _ _ hbx (fun _ => ?_)
  try simp only [Act.put, List.setIfInBounds_toArray, List.set_cons_zero, List.set_cons_succ]
  clear hK K
  refine wpListC_step rfl (fun K hK => ?_)
  go_simp
  refine hK _ _ hbx (fun _ => ?_)
  try simp only [Act.put, List.setIfInBounds_toArray, List.set_cons_zero, List.set_cons_succ]
  clear hK K
  refine wpListC_nil ?_
  go_wp2
  go_ret
  exact ⟨rfl, hbx⟩
end Go.Proofs.YtjoclfenghenjaaGreat

namespace Go.Proofs.YtjoclfenghenjaaGreat
open Go.ChangeShapes Go.WideShapes Go.ChangeAt Go.RowKit
set_option linter.unusedVariables false
set_option linter.unusedSimpArgs false

/-- a list of strings of the call's own is a table; a table with some of the same strings is such a list -/
theorem stab_own {w : World} {B c : Nat} {xs : List ByteArray} {A : Option Addr} {F : List Nat} (h : Own w B xs [.slice A xs.length c] F) (hne : xs ≠ []) :
    ∃ b o, A = some ⟨b, o, none⟩ ∧ B ≤ b ∧ Stab (fun s : ByteArray => [Value.string s]) 1 w w b o xs ∧
      ∀ w' ys, ys.length = xs.length → (∀ y ∈ ys, y ∈ xs) → Stab (fun s : ByteArray => [Value.string s]) 1 w w' b o ys → Own w' B ys [.slice (some ⟨b, o, none⟩) ys.length c] [b] := by
  obtain ⟨⟨A', c', G, ds, e, hc1, hc2, hc, h0⟩, hnd, hbase, hplain⟩ := h
  simp only [List.cons.injEq, Value.slice.injEq, and_true, true_and] at e
  obtain ⟨rfl, rfl⟩ := e
  rcases h0 with h0 | ⟨b, o, rfl, rfl, hb, hcell⟩
  · exact absurd h0.1 hne
  obtain ⟨rfl, rfl, hsz⟩ := rdCells_strs_inv _ _ _ hc
  refine ⟨b, o, rfl, hbase b (List.mem_cons_self ..), ⟨fun k x hk j u hj => ?_, hplain b (List.mem_cons_self ..), .refl _ _⟩, fun w' ys hl hm hS => ?_⟩
  · rcases j with _ | j
    · simp at hj
      subst hj
      have := hcell k (.string x) (by rw [List.getElem?_map, hk]; rfl)
      simpa using this
    · simp at hj
  · refine ⟨⟨_, c, [], ys.map Value.string, rfl, by omega, hc2, rdCells_strs w' ys fun y hy => hsz y (hm y hy), .inr ⟨b, o, rfl, rfl, Nat.lt_of_lt_of_le hb hS.upd.size, fun j u hj => ?_⟩⟩, by simp, fun x hx => ?_, fun x hx => ?_⟩
    · rw [List.getElem?_map] at hj
      cases hk : ys[j]? with
      | none => rw [hk] at hj; cases hj
      | some y =>
        rw [hk] at hj
        cases hj
        have := hS.tab j y hk 0 _ rfl
        simpa using this
    · rw [List.mem_singleton.1 hx]; exact hbase b (List.mem_cons_self ..)
    · rw [List.mem_singleton.1 hx]; exact hS.plain
set_option maxRecDepth 100000 in
set_option maxHeartbeats 4000000 in
theorem RankingOf_impl (x : Cluster) (p : Pod) (cs ps : List Value) (F G : List Nat) (w : World) (h : rd w x cs F) (h' : rd w p ps G) (hw : (x.wt : Int) ≤ 1048576) (hw' : (p.wt : Int) ≤ 1048576) :
    Calls Tryz.prog 23 #[.agg cs.toArray, .agg ps.toArray] w fun e w' => ∃ A c G, e = .returned (.slice A (rankL x p).length c) ∧ Own w' w.heap.size (rankL x p) [.slice A (rankL x p).length c] G ∧ Below w.heap.size w w' := by
  have hwx : x.wt = wtL Host.wt x.hosts + wtL Placed.wt x.pods := rfl
  have hlen : (feasL x p x.hosts).length ≤ 1048576 := by have := wtL_len Host.wt x.hosts; have := feasL_len x p x.hosts; omega
  have HLEN := Lib.hid hlen
  have HRL := Lib.hid (rankL_len x p)
  have HW := Lib.hid hw
  have HWP := Lib.hid hw'
  clear hw hw' hwx hlen
  have hr := h
  have hr' := h'
  obtain ⟨Ahosts, chosts, Fhosts, Apods, cpods, Fpods, hck, hF, hhosts, hpods, hnext, hweightspack, hweightsspread, hweightssoft⟩ := rd_Cluster hr
  obtain ⟨Alabels2, clabels2, Flabels2, Aneeds2, cneeds2, Fneeds2, Atolerances2, ctolerances2, Ftolerances2, hck2, hG, hname2, hlabels2, hcpu2, hmem2, hrank2, hneeds2, htolerances2⟩ := rd_Pod hr'
  subst hck hck2
  clear hF hG hr hr'
  go_enter Tryz.func23, Tryz.ntmps23
  go_wp2_with fail
  refine (Feasible_impl x p _ _ _ _ _ (rd_extT h (by repeat (first | with_reducible exact ext_refl _ | with_reducible assumption | with_reducible refine ext_alloc ?_ _ | with_reducible refine ext_drew ?_ | with_reducible refine ext_trans ?_ (by assumption)))) (rd_extT h' (by repeat (first | with_reducible exact ext_refl _ | with_reducible assumption | with_reducible refine ext_alloc ?_ _ | with_reducible refine ext_drew ?_ | with_reducible refine ext_trans ?_ (by assumption)))) HW.out HWP.out).mono ?_
  rintro e w1 ⟨A, c, G1, rfl, hO, hb1⟩
  obtain ⟨hc1, hf1⟩ := bcell hb1
  have hz1 : w.heap.size < w1.heap.size := by have := hb1.size; (try simp at this); omega
  have hy1 : w.heap.size + 1 < w1.heap.size := by have := hb1.size; (try simp at this); omega
  have hBB : Below w.heap.size w w1 := ext_trans (by repeat (first | with_reducible exact ext_refl _ | with_reducible assumption | with_reducible refine ext_alloc ?_ _ | with_reducible refine ext_drew ?_ | with_reducible refine ext_trans ?_ (by assumption))) hb1
  have c0 : w1.cell? ⟨w.heap.size, 0, none⟩ = some (.slice Ahosts x.hosts.length chosts) := by rw [hc1 _ _ (by simp; omega), World.cell?_of_block (heap_alloc_old _ _ (by simp)), cell_of_row _ _ _ _ _ _ (heap_alloc_new w _)]; rfl
  have c1 : w1.cell? ⟨w.heap.size, 1, none⟩ = some (.slice Apods x.pods.length cpods) := by rw [hc1 _ _ (by simp; omega), World.cell?_of_block (heap_alloc_old _ _ (by simp)), cell_of_row _ _ _ _ _ _ (heap_alloc_new w _)]; rfl
  have c2 : w1.cell? ⟨w.heap.size, 2, none⟩ = some (.int .i64 x.next) := by rw [hc1 _ _ (by simp; omega), World.cell?_of_block (heap_alloc_old _ _ (by simp)), cell_of_row _ _ _ _ _ _ (heap_alloc_new w _)]; rfl
  have c3 : w1.cell? ⟨w.heap.size, 3, none⟩ = some (.int .i64 x.weights.pack) := by rw [hc1 _ _ (by simp; omega), World.cell?_of_block (heap_alloc_old _ _ (by simp)), cell_of_row _ _ _ _ _ _ (heap_alloc_new w _)]; rfl
  have c4 : w1.cell? ⟨w.heap.size, 4, none⟩ = some (.int .i64 x.weights.spread) := by rw [hc1 _ _ (by simp; omega), World.cell?_of_block (heap_alloc_old _ _ (by simp)), cell_of_row _ _ _ _ _ _ (heap_alloc_new w _)]; rfl
  have c5 : w1.cell? ⟨w.heap.size, 5, none⟩ = some (.int .i64 x.weights.soft) := by rw [hc1 _ _ (by simp; omega), World.cell?_of_block (heap_alloc_old _ _ (by simp)), cell_of_row _ _ _ _ _ _ (heap_alloc_new w _)]; rfl
  have d0 : w1.cell? ⟨w.heap.size + 1, 0, none⟩ = some (.string p.name) := by rw [hc1 _ _ (by simp)]; simp
  have d1 : w1.cell? ⟨w.heap.size + 1, 1, none⟩ = some (.slice Alabels2 p.labels.length clabels2) := by rw [hc1 _ _ (by simp)]; simp
  have d2 : w1.cell? ⟨w.heap.size + 1, 2, none⟩ = some (.int .i64 p.cpu) := by rw [hc1 _ _ (by simp)]; simp
  have d3 : w1.cell? ⟨w.heap.size + 1, 3, none⟩ = some (.int .i64 p.mem) := by rw [hc1 _ _ (by simp)]; simp
  have d4 : w1.cell? ⟨w.heap.size + 1, 4, none⟩ = some (.int .i64 p.rank) := by rw [hc1 _ _ (by simp)]; simp
  have d5 : w1.cell? ⟨w.heap.size + 1, 5, none⟩ = some (.slice Aneeds2 p.needs.length cneeds2) := by rw [hc1 _ _ (by simp)]; simp
  have d6 : w1.cell? ⟨w.heap.size + 1, 6, none⟩ = some (.slice Atolerances2 p.tolerances.length ctolerances2) := by rw [hc1 _ _ (by simp)]; simp
  cases hE : decide (feasL x p x.hosts = []) with
  | true =>
    have hE : feasL x p x.hosts = [] := by simpa using hE
    have hE2 : rankL x p = [] := by unfold rankL; rw [hE]; rfl
    rw [hE] at hO ⊢
    simp only [List.length_nil] at hO ⊢
    have HE2 := Lib.hid hE2
    clear hE2 hE
    go_wp2_with fail
    refine (SortStableS_nil _ A c _).mono ?_
    rintro e w2 ⟨rfl, hw2⟩
    subst hw2
    go_wp2
    go_ret
    exact ⟨A, c, G1, by rw [HE2.out]; rfl, by rw [HE2.out]; exact hO.mono (by simp <;> omega), hBB⟩
  | false =>
    have hE : feasL x p x.hosts ≠ [] := by simpa using hE
    obtain ⟨b, o, rfl, hbB, hST, hBK⟩ := stab_own hO hE
    have HBK := Lib.hid hBK
    have HO := Lib.hid hO
    have hbb : w.heap.size + 1 < b := by simp at hbB; omega
    have HC : CmpOkS (fun s : ByteArray => s) (rankV x p) ⟨w.heap.size, 0, none⟩ ⟨w.heap.size + 1, 0, none⟩ w1 b := by
      intro a a' wz hu
      have ek : ∀ g i, g < w1.heap.size → g ≠ b → wz.cell? ⟨g, i, none⟩ = w1.cell? ⟨g, i, none⟩ := fun g i h1 h2 => World.cell?_of_block (hu.block g h1 (by simpa using h2))
      have hz2 := hu.size
      refine Rank_clo x p Ahosts Apods Alabels2 Aneeds2 Atolerances2 chosts cpods clabels2 cneeds2 ctolerances2 F G _ _ wz (hu.rd (rd_extT h hBB) (fun g hg hgb => ?_)) (hu.rd (rd_extT h' hBB) (fun g hg hgb => ?_)) HW.out HWP.out
        ((ek _ _ hz1 (by omega)).trans c0) ((ek _ _ hz1 (by omega)).trans c1) ((ek _ _ hz1 (by omega)).trans c2) ((ek _ _ hz1 (by omega)).trans c3) ((ek _ _ hz1 (by omega)).trans c4) ((ek _ _ hz1 (by omega)).trans c5) ((ek _ _ hy1 (by omega)).trans d0) ((ek _ _ hy1 (by omega)).trans d1) ((ek _ _ hy1 (by omega)).trans d2) ((ek _ _ hy1 (by omega)).trans d3) ((ek _ _ hy1 (by omega)).trans d4) ((ek _ _ hy1 (by omega)).trans d5) ((ek _ _ hy1 (by omega)).trans d6) (by omega) (by omega) a a'
      · have := Dat.lt h g hg
        simp at hgb; omega
      · have := Dat.lt h' g hg
        simp at hgb; omega
    have HCC := Lib.hid HC
    clear HC hO hBK hbB
    go_wp2_with fail
    refine (SortStableS_any (fun s : ByteArray => s) w1 _ b o c _ (feasL x p x.hosts) (rankV x p) _ _ hST rfl HLEN.out (rank_weak x p) HCC.out).mono ?_
    rintro e w2 ⟨rfl, hS2⟩
    have hO2 := HBK.out w2 (rankL x p) HRL.out (fun y hy => by
      rcases mem_sortB _ _ hy with hy | hy
      · cases hy
      · exact hy) hS2
    have hB2 : Below w.heap.size w w2 := hBB.trans (hS2.upd.below (fun g hg => by rw [List.mem_singleton.1 hg]; omega) (by omega))
    have HRR := Lib.hid HRL.out.symm
    go_wp2
    go_ret
    refine ⟨some ⟨b, o, none⟩, c, [b], by rw [HRR.out]; rfl, hO2.mono (by simp <;> omega), hB2⟩
end Go.Proofs.YtjoclfenghenjaaGreat
