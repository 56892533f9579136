/- Marks on Cluster, passed by value. No condition. -/
import Derived.Test.YtjoclfenghenjaaGreatMkDeep
import Derived.Test.YtjoclfenghenjaaGreatMarks0
import Derived.Test.YtjoclfenghenjaaGreatMkFlat
namespace Go.Proofs.YtjoclfenghenjaaGreat
open Go.ChangeShapes Go.WideShapes Go.ChangeAt Go.RowKit
set_option linter.unusedVariables false
set_option linter.unusedSimpArgs false

def mkTopCluster (x : Cluster) (k : Int) : Cluster := { x with hosts := mkL mkHost cntHost x.hosts (k), pods := mkL mkPlaced cntPlaced x.pods (k + (cntL cntHost x.hosts : Int)) }
def cntTopCluster (x : Cluster) : Nat := cntL cntHost x.hosts + cntL cntPlaced x.pods
theorem cntTopCluster_mk (x : Cluster) (k : Int) : cntTopCluster (mkTopCluster x k) = cntTopCluster x := by simp [cntTopCluster, mkTopCluster, cntL_mkL cntHost_mk, cntL_mkL cntPlaced_mk]
theorem mkTopCluster_idem (x : Cluster) (k : Int) : mkTopCluster (mkTopCluster x k) k = mkTopCluster x k := by simp [mkTopCluster, mkL_idem cntHost_mk mkHost_idem, mkL_idem cntPlaced_mk mkPlaced_idem, cntL_mkL cntHost_mk, cntL_mkL cntPlaced_mk]
set_option maxRecDepth 100000 in
set_option maxHeartbeats 2000000 in
theorem markCluster_any (x : Cluster) (cs : List Value) (F : List Nat) (B : Nat) (k : Int) (w : World) (h : Own w B x cs F) (hk0 : 0 ≤ k) (hk : k + cntTopCluster x ≤ 1073741823) :
    Calls Tryz.prog 14 #[.agg cs.toArray, .int .i64 k] w fun e w' => e = .returned (.int .i64 (k + cntTopCluster x)) ∧ Own w' B (mkTopCluster x k) cs F ∧ Upd F w w' := by
  have hr := h.rd
  obtain ⟨Ahosts, chosts, Fhosts, Apods, cpods, Fpods, hck, hFk, hhosts, hpods, hnext, hweightspack, hweightsspread, hweightssoft⟩ := rd_Cluster hr
  clear hr
  subst hck hFk
  simp only [cntTopCluster] at hk ⊢
  push_cast at hk ⊢
  have hnd := h.nodup
  simp only [List.nodup_append, List.mem_append] at hnd
  have hdhosts_pods : ∀ y ∈ Fhosts, y ∉ Fpods := fun y ha hb => hnd.2.2 y ha y hb rfl
  have hdpods_hosts : ∀ y ∈ Fpods, y ∉ Fhosts := fun y hb ha => hnd.2.2 y ha y hb rfl
  have hOhosts : Own w B x.hosts [.slice Ahosts x.hosts.length chosts] Fhosts := ⟨hhosts, hnd.1, fun y hy => h.base y (by simp [hy]), fun y hy => h.plain y (by simp [hy])⟩
  have hOpods : Own w B x.pods [.slice Apods x.pods.length cpods] Fpods := ⟨hpods, hnd.2.1, fun y hy => h.base y (by simp [hy]), fun y hy => h.plain y (by simp [hy])⟩
  go_enter Tryz.func14, Tryz.ntmps14
  go_wp2_with fail
  generalize hwa : World.alloc w _ = wa
  have hUa : Upd (Fhosts ++ (Fpods)) w wa := hwa ▸ Upd.of_ext _ (ext_alloc (ext_refl w) _)
  have hz : w.heap.size < wa.heap.size := by rw [← hwa]; simp
  replace hOhosts : Own wa B x.hosts [.slice Ahosts x.hosts.length chosts] Fhosts := hwa ▸ hOhosts.alloc _
  have hghosts : w.heap.size ∉ Fhosts := fun hy => Nat.lt_irrefl _ (h.lt _ (by simp [hy]))
  have qhosts : wa.cell? ⟨w.heap.size, 0, none⟩ = some (.slice Ahosts x.hosts.length chosts) := by rw [← hwa, cell_of_row _ _ _ _ _ _ (heap_alloc_new w _)]; rfl
  replace hOpods : Own wa B x.pods [.slice Apods x.pods.length cpods] Fpods := hwa ▸ hOpods.alloc _
  have hgpods : w.heap.size ∉ Fpods := fun hy => Nat.lt_irrefl _ (h.lt _ (by simp [hy]))
  have qpods : wa.cell? ⟨w.heap.size, 1, none⟩ = some (.slice Apods x.pods.length cpods) := by rw [← hwa, cell_of_row _ _ _ _ _ _ (heap_alloc_new w _)]; rfl
  clear hwa
  refine (markHostS_any x.hosts _ _ _ _ _ (k) _ hOhosts rfl (by omega) (by omega)).mono ?_
  rintro e w1 ⟨rfl, hNhosts, hUhosts⟩
  replace qhosts := (World.cell?_of_block (a := ⟨w.heap.size, 0, none⟩) (hUhosts.block _ hz hghosts)).trans qhosts
  replace hOpods := hUhosts.own hOpods hdpods_hosts
  replace qpods := (World.cell?_of_block (a := ⟨w.heap.size, 1, none⟩) (hUhosts.block _ hz hghosts)).trans qpods
  replace hz := Nat.lt_of_lt_of_le hz hUhosts.size
  replace hOhosts := hNhosts
  go_wp2_with fail
  refine (markPlacedS_any x.pods _ _ _ _ _ (k + (cntL cntHost x.hosts : Int)) _ hOpods rfl (by omega) (by omega)).mono ?_
  rintro e w2 ⟨rfl, hNpods, hUpods⟩
  replace hOhosts := hUpods.own hOhosts hdhosts_pods
  replace qhosts := (World.cell?_of_block (a := ⟨w.heap.size, 0, none⟩) (hUpods.block _ hz hgpods)).trans qhosts
  replace qpods := (World.cell?_of_block (a := ⟨w.heap.size, 1, none⟩) (hUpods.block _ hz hgpods)).trans qpods
  replace hz := Nat.lt_of_lt_of_le hz hUpods.size
  replace hOpods := hNpods
  go_wp2_with fail
  go_ret
  refine ⟨by first | rfl | (simp only [Int.add_assoc, Int.natCast_add]; rfl), ?_, ((hUa.trans (hUhosts.mono (G := Fhosts ++ (Fpods)) (fun y hy => by simp [hy]))).trans (hUpods.mono (G := Fhosts ++ (Fpods)) (fun y hy => by simp [hy])))⟩
  exact ⟨(by have := (rd_pair (hOhosts.rd) (rd_pair (hOpods.rd) (rd_pair (rdInt w2 (x.next) hnext) ((rd_pair (rdInt w2 (x.weights.pack) hweightspack) (rd_pair (rdInt w2 (x.weights.spread) hweightsspread) (rdInt w2 (x.weights.soft) hweightssoft))))))); simp only [List.nil_append, List.append_nil, List.append_assoc, List.cons_append, mkL_len] at this; exact this), h.nodup, h.base, (by intro y hy; (try simp only [List.mem_append] at hy); rcases hy with hy | hy <;> first | exact hOhosts.plain y hy | exact hOpods.plain y hy)⟩
set_option maxRecDepth 100000 in
set_option maxHeartbeats 2000000 in
theorem heldCluster_any (x : Cluster) (cs : List Value) (F : List Nat) (k : Int) (w : World) (h : rd w x cs F) (hm : mkTopCluster x k = x) (hk0 : 0 ≤ k) (hk : k + cntTopCluster x ≤ 1073741823) :
    Calls Tryz.prog 15 #[.agg cs.toArray, .int .i64 k] w fun e w' => e = .returned (.int .i64 (k + cntTopCluster x)) ∧ Below w.heap.size w w' := by
  obtain ⟨Ahosts, chosts, Fhosts, Apods, cpods, Fpods, hck, hFk, hhosts, hpods, hnext, hweightspack, hweightsspread, hweightssoft⟩ := rd_Cluster h
  clear h
  subst hck
  simp only [cntTopCluster] at hk ⊢
  push_cast at hk ⊢
  have e0 : mkL mkHost cntHost x.hosts (k) = x.hosts := congrArg (fun z : Cluster => z.hosts) hm
  have e1 : mkL mkPlaced cntPlaced x.pods (k + (cntL cntHost x.hosts : Int)) = x.pods := congrArg (fun z : Cluster => z.pods) hm
  clear hm
  have hbl := ext_refl w
  go_enter Tryz.func15, Tryz.ntmps15
  go_wp2_with fail
  generalize hwa : World.alloc w _ = wa
  replace hbl : Below w.heap.size w wa := hwa ▸ ext_alloc (ext_refl w) _
  have hz : w.heap.size < wa.heap.size := by rw [← hwa]; simp
  replace hhosts : Sl wa x.hosts Ahosts chosts Fhosts := Sl.ext hhosts hbl
  have qhosts : wa.cell? ⟨w.heap.size, 0, none⟩ = some (.slice Ahosts x.hosts.length chosts) := by rw [← hwa, cell_of_row _ _ _ _ _ _ (heap_alloc_new w _)]; rfl
  replace hpods : Sl wa x.pods Apods cpods Fpods := Sl.ext hpods hbl
  have qpods : wa.cell? ⟨w.heap.size, 1, none⟩ = some (.slice Apods x.pods.length cpods) := by rw [← hwa, cell_of_row _ _ _ _ _ _ (heap_alloc_new w _)]; rfl
  clear hwa
  refine (heldHostS_any x.hosts _ _ _ _ (k) _ hhosts rfl e0 (by omega) (by omega)).mono ?_
  rintro e w1 ⟨rfl, hn⟩
  replace hhosts := Sl.ext hhosts hn
  replace qhosts := ((bcell hn).1 _ _ hz).trans qhosts
  replace hpods := Sl.ext hpods hn
  replace qpods := ((bcell hn).1 _ _ hz).trans qpods
  replace hz := Nat.lt_of_lt_of_le hz hn.size
  replace hbl := ext_trans hbl hn
  clear hn
  go_wp2_with fail
  refine (heldPlacedS_any x.pods _ _ _ _ (k + (cntL cntHost x.hosts : Int)) _ hpods rfl e1 (by omega) (by omega)).mono ?_
  rintro e w2 ⟨rfl, hn⟩
  replace hhosts := Sl.ext hhosts hn
  replace qhosts := ((bcell hn).1 _ _ hz).trans qhosts
  replace hpods := Sl.ext hpods hn
  replace qpods := ((bcell hn).1 _ _ hz).trans qpods
  replace hz := Nat.lt_of_lt_of_le hz hn.size
  replace hbl := ext_trans hbl hn
  clear hn
  go_wp2_with fail
  go_ret
  exact ⟨by first | rfl | (simp only [Int.add_assoc, Int.natCast_add]; rfl), hbl⟩
end Go.Proofs.YtjoclfenghenjaaGreat

namespace Go.Proofs.YtjoclfenghenjaaGreat
open Go.ChangeShapes Go.WideShapes Go.ChangeAt Go.RowKit
set_option linter.unusedVariables false
set_option linter.unusedSimpArgs false

theorem cntTopCluster_le (x : Cluster) : cntTopCluster x ≤ 6 * x.wt := by
  have h0 := cntL_wt cntHost_le x.hosts
  have h1 := cntL_wt cntPlaced_le x.pods
  simp only [cntTopCluster, wtS, Cluster.wt] at *
  omega
end Go.Proofs.YtjoclfenghenjaaGreat

namespace Go.Proofs.YtjoclfenghenjaaGreat
open Go.ChangeShapes Go.WideShapes Go.ChangeAt Go.RowKit
set_option linter.unusedVariables false
set_option linter.unusedSimpArgs false

end Go.Proofs.YtjoclfenghenjaaGreat

namespace Go.Proofs.YtjoclfenghenjaaGreat
open Go.ChangeShapes Go.WideShapes Go.ChangeAt Go.RowKit
set_option linter.unusedVariables false
set_option linter.unusedSimpArgs false

def mkTopPod (x : Pod) (k : Int) : Pod := { x with labels := mkL mkLabel cntLabel x.labels (k), needs := mkL mkNeed cntNeed x.needs (k + (cntL cntLabel x.labels : Int)), tolerances := mkL mkTolerance cntTolerance x.tolerances (k + (cntL cntLabel x.labels : Int) + (cntL cntNeed x.needs : Int)) }
def cntTopPod (x : Pod) : Nat := cntL cntLabel x.labels + cntL cntNeed x.needs + cntL cntTolerance x.tolerances
theorem cntTopPod_mk (x : Pod) (k : Int) : cntTopPod (mkTopPod x k) = cntTopPod x := by simp [cntTopPod, mkTopPod, cntL_mkL cntLabel_mk, cntL_mkL cntNeed_mk, cntL_mkL cntTolerance_mk]
theorem mkTopPod_idem (x : Pod) (k : Int) : mkTopPod (mkTopPod x k) k = mkTopPod x k := by simp [mkTopPod, mkL_idem cntLabel_mk mkLabel_idem, mkL_idem cntNeed_mk mkNeed_idem, mkL_idem cntTolerance_mk mkTolerance_idem, cntL_mkL cntLabel_mk, cntL_mkL cntNeed_mk, cntL_mkL cntTolerance_mk]
set_option maxRecDepth 100000 in
set_option maxHeartbeats 2000000 in
theorem markPod_any (x : Pod) (cs : List Value) (F : List Nat) (B : Nat) (k : Int) (w : World) (h : Own w B x cs F) (hk0 : 0 ≤ k) (hk : k + cntTopPod x ≤ 1073741823) :
    Calls Tryz.prog 26 #[.agg cs.toArray, .int .i64 k] w fun e w' => e = .returned (.int .i64 (k + cntTopPod x)) ∧ Own w' B (mkTopPod x k) cs F ∧ Upd F w w' := by
  have hr := h.rd
  obtain ⟨Alabels, clabels, Flabels, Aneeds, cneeds, Fneeds, Atolerances, ctolerances, Ftolerances, hck, hFk, hname, hlabels, hcpu, hmem, hrank, hneeds, htolerances⟩ := rd_Pod hr
  clear hr
  subst hck hFk
  simp only [cntTopPod] at hk ⊢
  push_cast at hk ⊢
  have hnd := h.nodup
  simp only [List.nodup_append, List.mem_append] at hnd
  have hdlabels_needs : ∀ y ∈ Flabels, y ∉ Fneeds := fun y ha hb => hnd.2.2 y ha y (.inl hb) rfl
  have hdneeds_labels : ∀ y ∈ Fneeds, y ∉ Flabels := fun y hb ha => hnd.2.2 y ha y (.inl hb) rfl
  have hdlabels_tolerances : ∀ y ∈ Flabels, y ∉ Ftolerances := fun y ha hb => hnd.2.2 y ha y (.inr hb) rfl
  have hdtolerances_labels : ∀ y ∈ Ftolerances, y ∉ Flabels := fun y hb ha => hnd.2.2 y ha y (.inr hb) rfl
  have hdneeds_tolerances : ∀ y ∈ Fneeds, y ∉ Ftolerances := fun y ha hb => hnd.2.1.2.2 y ha y hb rfl
  have hdtolerances_needs : ∀ y ∈ Ftolerances, y ∉ Fneeds := fun y hb ha => hnd.2.1.2.2 y ha y hb rfl
  have hOlabels : Own w B x.labels [.slice Alabels x.labels.length clabels] Flabels := ⟨hlabels, hnd.1, fun y hy => h.base y (by simp [hy]), fun y hy => h.plain y (by simp [hy])⟩
  have hOneeds : Own w B x.needs [.slice Aneeds x.needs.length cneeds] Fneeds := ⟨hneeds, hnd.2.1.1, fun y hy => h.base y (by simp [hy]), fun y hy => h.plain y (by simp [hy])⟩
  have hOtolerances : Own w B x.tolerances [.slice Atolerances x.tolerances.length ctolerances] Ftolerances := ⟨htolerances, hnd.2.1.2.1, fun y hy => h.base y (by simp [hy]), fun y hy => h.plain y (by simp [hy])⟩
  go_enter Tryz.func26, Tryz.ntmps26
  go_wp2_with fail
  generalize hwa : World.alloc w _ = wa
  have hUa : Upd (Flabels ++ (Fneeds ++ (Ftolerances))) w wa := hwa ▸ Upd.of_ext _ (ext_alloc (ext_refl w) _)
  have hz : w.heap.size < wa.heap.size := by rw [← hwa]; simp
  replace hOlabels : Own wa B x.labels [.slice Alabels x.labels.length clabels] Flabels := hwa ▸ hOlabels.alloc _
  have hglabels : w.heap.size ∉ Flabels := fun hy => Nat.lt_irrefl _ (h.lt _ (by simp [hy]))
  have qlabels : wa.cell? ⟨w.heap.size, 1, none⟩ = some (.slice Alabels x.labels.length clabels) := by rw [← hwa, cell_of_row _ _ _ _ _ _ (heap_alloc_new w _)]; rfl
  replace hOneeds : Own wa B x.needs [.slice Aneeds x.needs.length cneeds] Fneeds := hwa ▸ hOneeds.alloc _
  have hgneeds : w.heap.size ∉ Fneeds := fun hy => Nat.lt_irrefl _ (h.lt _ (by simp [hy]))
  have qneeds : wa.cell? ⟨w.heap.size, 5, none⟩ = some (.slice Aneeds x.needs.length cneeds) := by rw [← hwa, cell_of_row _ _ _ _ _ _ (heap_alloc_new w _)]; rfl
  replace hOtolerances : Own wa B x.tolerances [.slice Atolerances x.tolerances.length ctolerances] Ftolerances := hwa ▸ hOtolerances.alloc _
  have hgtolerances : w.heap.size ∉ Ftolerances := fun hy => Nat.lt_irrefl _ (h.lt _ (by simp [hy]))
  have qtolerances : wa.cell? ⟨w.heap.size, 6, none⟩ = some (.slice Atolerances x.tolerances.length ctolerances) := by rw [← hwa, cell_of_row _ _ _ _ _ _ (heap_alloc_new w _)]; rfl
  clear hwa
  refine (markLabelS_any x.labels _ _ _ _ _ (k) _ hOlabels rfl (by omega) (by omega)).mono ?_
  rintro e w1 ⟨rfl, hNlabels, hUlabels⟩
  replace qlabels := (World.cell?_of_block (a := ⟨w.heap.size, 1, none⟩) (hUlabels.block _ hz hglabels)).trans qlabels
  replace hOneeds := hUlabels.own hOneeds hdneeds_labels
  replace qneeds := (World.cell?_of_block (a := ⟨w.heap.size, 5, none⟩) (hUlabels.block _ hz hglabels)).trans qneeds
  replace hOtolerances := hUlabels.own hOtolerances hdtolerances_labels
  replace qtolerances := (World.cell?_of_block (a := ⟨w.heap.size, 6, none⟩) (hUlabels.block _ hz hglabels)).trans qtolerances
  replace hz := Nat.lt_of_lt_of_le hz hUlabels.size
  replace hOlabels := hNlabels
  go_wp2_with fail
  refine (markNeedS_any x.needs _ _ _ _ _ (k + (cntL cntLabel x.labels : Int)) _ hOneeds rfl (by omega) (by omega)).mono ?_
  rintro e w2 ⟨rfl, hNneeds, hUneeds⟩
  replace hOlabels := hUneeds.own hOlabels hdlabels_needs
  replace qlabels := (World.cell?_of_block (a := ⟨w.heap.size, 1, none⟩) (hUneeds.block _ hz hgneeds)).trans qlabels
  replace qneeds := (World.cell?_of_block (a := ⟨w.heap.size, 5, none⟩) (hUneeds.block _ hz hgneeds)).trans qneeds
  replace hOtolerances := hUneeds.own hOtolerances hdtolerances_needs
  replace qtolerances := (World.cell?_of_block (a := ⟨w.heap.size, 6, none⟩) (hUneeds.block _ hz hgneeds)).trans qtolerances
  replace hz := Nat.lt_of_lt_of_le hz hUneeds.size
  replace hOneeds := hNneeds
  go_wp2_with fail
  refine (markToleranceS_any x.tolerances _ _ _ _ _ (k + (cntL cntLabel x.labels : Int) + (cntL cntNeed x.needs : Int)) _ hOtolerances rfl (by omega) (by omega)).mono ?_
  rintro e w3 ⟨rfl, hNtolerances, hUtolerances⟩
  replace hOlabels := hUtolerances.own hOlabels hdlabels_tolerances
  replace qlabels := (World.cell?_of_block (a := ⟨w.heap.size, 1, none⟩) (hUtolerances.block _ hz hgtolerances)).trans qlabels
  replace hOneeds := hUtolerances.own hOneeds hdneeds_tolerances
  replace qneeds := (World.cell?_of_block (a := ⟨w.heap.size, 5, none⟩) (hUtolerances.block _ hz hgtolerances)).trans qneeds
  replace qtolerances := (World.cell?_of_block (a := ⟨w.heap.size, 6, none⟩) (hUtolerances.block _ hz hgtolerances)).trans qtolerances
  replace hz := Nat.lt_of_lt_of_le hz hUtolerances.size
  replace hOtolerances := hNtolerances
  go_wp2_with fail
  go_ret
  refine ⟨by first | rfl | (simp only [Int.add_assoc, Int.natCast_add]; rfl), ?_, (((hUa.trans (hUlabels.mono (G := Flabels ++ (Fneeds ++ (Ftolerances))) (fun y hy => by simp [hy]))).trans (hUneeds.mono (G := Flabels ++ (Fneeds ++ (Ftolerances))) (fun y hy => by simp [hy]))).trans (hUtolerances.mono (G := Flabels ++ (Fneeds ++ (Ftolerances))) (fun y hy => by simp [hy])))⟩
  exact ⟨(by have := (rd_pair (rdStr w3 (x.name) (sz63 hname)) (rd_pair (hOlabels.rd) (rd_pair (rdInt w3 (x.cpu) hcpu) (rd_pair (rdInt w3 (x.mem) hmem) (rd_pair (rdInt w3 (x.rank) hrank) (rd_pair (hOneeds.rd) (hOtolerances.rd))))))); simp only [List.nil_append, List.append_nil, List.append_assoc, List.cons_append, mkL_len] at this; exact this), h.nodup, h.base, (by intro y hy; (try simp only [List.mem_append] at hy); rcases hy with hy | hy | hy <;> first | exact hOlabels.plain y hy | exact hOneeds.plain y hy | exact hOtolerances.plain y hy)⟩
end Go.Proofs.YtjoclfenghenjaaGreat

namespace Go.Proofs.YtjoclfenghenjaaGreat
open Go.ChangeShapes Go.WideShapes Go.ChangeAt Go.RowKit
set_option linter.unusedVariables false
set_option linter.unusedSimpArgs false

theorem cntTopPod_le (x : Pod) : cntTopPod x ≤ 6 * x.wt := by
  have h0 := cntL_wt cntLabel_le x.labels
  have h1 := cntL_wt cntNeed_le x.needs
  have h2 := cntL_wt cntTolerance_le x.tolerances
  simp only [cntTopPod, wtS, Pod.wt] at *
  omega
end Go.Proofs.YtjoclfenghenjaaGreat
