/- Marks on Cluster, passed by value. No condition. -/
import Derived.Test.YtjoclfenghenjaaMkDeep
namespace Go.Proofs.Ytjoclfenghenjaa
open Go.ChangeShapes Go.WideShapes Go.ChangeAt Go.RowKit
set_option linter.unusedVariables false
set_option linter.unusedSimpArgs false

def mkTopCluster (x : Cluster) (k : Int) : Cluster := { x with hosts := mkL mkHost cntHost x.hosts (k), pods := mkL mkPlaced cntPlaced x.pods (k + (cntL cntHost x.hosts : Int)) }
def cntTopCluster (x : Cluster) : Nat := cntL cntHost x.hosts + cntL cntPlaced x.pods
theorem cntTopCluster_mk (x : Cluster) (k : Int) : cntTopCluster (mkTopCluster x k) = cntTopCluster x := by simp [cntTopCluster, mkTopCluster, cntL_mkL cntHost_mk, cntL_mkL cntPlaced_mk]
theorem mkTopCluster_idem (x : Cluster) (k : Int) : mkTopCluster (mkTopCluster x k) k = mkTopCluster x k := by simp [mkTopCluster, mkL_idem cntHost_mk mkHost_idem, mkL_idem cntPlaced_mk mkPlaced_idem, cntL_mkL cntHost_mk, cntL_mkL cntPlaced_mk]
set_option maxRecDepth 100000 in
set_option maxHeartbeats 2000000 in
theorem markCluster_any (x : Cluster) (cs : List Value) (F : List Nat) (B : Nat) (k : Int) (w : World) (h : Own w B x cs F) (hk0 : 0 ≤ k) (hk : k + cntTopCluster x ≤ 1073741823) :
    Calls Try.prog 10 #[.agg cs.toArray, .int .i64 k] w fun e w' => e = .returned (.int .i64 (k + cntTopCluster x)) ∧ Own w' B (mkTopCluster x k) cs F ∧ Upd F w w' := by
  have hr := h.rd
  obtain ⟨Ahosts, chosts, Fhosts, Apods, cpods, Fpods, hck, hFk, hhosts, hpods, hnext, hweightspack, hweightsspread, hweightssoft⟩ := rd_Cluster hr
  clear hr
  subst hck hFk
  simp only [cntTopCluster] at hk ⊢
  push_cast at hk ⊢
  have hnd := h.nodup
  simp only [List.nodup_append, List.mem_append] at hnd
  have hdhosts_pods : ∀ y ∈ Fhosts, y ∉ Fpods := fun y ha hb => hnd.2.2 y ha y hb rfl
  have hdpods_hosts : ∀ y ∈ Fpods, y ∉ Fhosts := fun y hb ha => hnd.2.2 y ha y hb rfl
  have hOhosts : Own w B x.hosts [.slice Ahosts x.hosts.length chosts] Fhosts := ⟨hhosts, hnd.1, fun y hy => h.base y (by simp [hy]), fun y hy => h.plain y (by simp [hy])⟩
  have hOpods : Own w B x.pods [.slice Apods x.pods.length cpods] Fpods := ⟨hpods, hnd.2.1, fun y hy => h.base y (by simp [hy]), fun y hy => h.plain y (by simp [hy])⟩
  go_enter Try.func10, Try.ntmps10
  go_wp2_with fail
  generalize hwa : World.alloc w _ = wa
  have hUa : Upd (Fhosts ++ (Fpods)) w wa := hwa ▸ Upd.of_ext _ (ext_alloc (ext_refl w) _)
  have hz : w.heap.size < wa.heap.size := by rw [← hwa]; simp
  replace hOhosts : Own wa B x.hosts [.slice Ahosts x.hosts.length chosts] Fhosts := hwa ▸ hOhosts.alloc _
  have hghosts : w.heap.size ∉ Fhosts := fun hy => Nat.lt_irrefl _ (h.lt _ (by simp [hy]))
  have qhosts : wa.cell? ⟨w.heap.size, 0, none⟩ = some (.slice Ahosts x.hosts.length chosts) := by rw [← hwa, cell_of_row _ _ _ _ _ _ (heap_alloc_new w _)]; rfl
  replace hOpods : Own wa B x.pods [.slice Apods x.pods.length cpods] Fpods := hwa ▸ hOpods.alloc _
  have hgpods : w.heap.size ∉ Fpods := fun hy => Nat.lt_irrefl _ (h.lt _ (by simp [hy]))
  have qpods : wa.cell? ⟨w.heap.size, 1, none⟩ = some (.slice Apods x.pods.length cpods) := by rw [← hwa, cell_of_row _ _ _ _ _ _ (heap_alloc_new w _)]; rfl
  clear hwa
  refine (markHostS_any x.hosts _ _ _ _ _ (k) _ hOhosts rfl (by omega) (by omega)).mono ?_
  rintro e w1 ⟨rfl, hNhosts, hUhosts⟩
  replace qhosts := (World.cell?_of_block (a := ⟨w.heap.size, 0, none⟩) (hUhosts.block _ hz hghosts)).trans qhosts
  replace hOpods := hUhosts.own hOpods hdpods_hosts
  replace qpods := (World.cell?_of_block (a := ⟨w.heap.size, 1, none⟩) (hUhosts.block _ hz hghosts)).trans qpods
  replace hz := Nat.lt_of_lt_of_le hz hUhosts.size
  replace hOhosts := hNhosts
  go_wp2_with fail
  refine (markPlacedS_any x.pods _ _ _ _ _ (k + (cntL cntHost x.hosts : Int)) _ hOpods rfl (by omega) (by omega)).mono ?_
  rintro e w2 ⟨rfl, hNpods, hUpods⟩
  replace hOhosts := hUpods.own hOhosts hdhosts_pods
  replace qhosts := (World.cell?_of_block (a := ⟨w.heap.size, 0, none⟩) (hUpods.block _ hz hgpods)).trans qhosts
  replace qpods := (World.cell?_of_block (a := ⟨w.heap.size, 1, none⟩) (hUpods.block _ hz hgpods)).trans qpods
  replace hz := Nat.lt_of_lt_of_le hz hUpods.size
  replace hOpods := hNpods
  go_wp2_with fail
  go_ret
  refine ⟨by first | rfl | (simp only [Int.add_assoc, Int.natCast_add]; rfl), ?_, ((hUa.trans (hUhosts.mono (G := Fhosts ++ (Fpods)) (fun y hy => by simp [hy]))).trans (hUpods.mono (G := Fhosts ++ (Fpods)) (fun y hy => by simp [hy])))⟩
  exact ⟨(by have := (rd_pair (hOhosts.rd) (rd_pair (hOpods.rd) (rd_pair (rdInt w2 (x.next) hnext) ((rd_pair (rdInt w2 (x.weights.pack) hweightspack) (rd_pair (rdInt w2 (x.weights.spread) hweightsspread) (rdInt w2 (x.weights.soft) hweightssoft))))))); simp only [List.nil_append, List.append_nil, List.append_assoc, List.cons_append, mkL_len] at this; exact this), h.nodup, h.base, (by intro y hy; (try simp only [List.mem_append] at hy); rcases hy with hy | hy <;> first | exact hOhosts.plain y hy | exact hOpods.plain y hy)⟩
end Go.Proofs.Ytjoclfenghenjaa
