/- Marks on Host, passed by value. No condition. -/
import Derived.Test.YtjhonoabpelfeaaMiHost
namespace Go.Proofs.Ytjhonoabpelfeaa
open Go.ChangeShapes Go.WideShapes Go.ChangeAt Go.RowKit
set_option linter.unusedVariables false
set_option linter.unusedSimpArgs false

def mkTopHost (x : Host) (k : Int) : Host := { x with labels := mkL mkLabel cntLabel x.labels (k), taints := mkL mkTaint cntTaint x.taints (k + (cntL cntLabel x.labels : Int)) }
def cntTopHost (x : Host) : Nat := cntL cntLabel x.labels + cntL cntTaint x.taints
theorem cntTopHost_mk (x : Host) (k : Int) : cntTopHost (mkTopHost x k) = cntTopHost x := by simp [cntTopHost, mkTopHost, cntL_mkL cntLabel_mk, cntL_mkL cntTaint_mk]
theorem mkTopHost_idem (x : Host) (k : Int) : mkTopHost (mkTopHost x k) k = mkTopHost x k := by simp [mkTopHost, mkL_idem cntLabel_mk mkLabel_idem, mkL_idem cntTaint_mk mkTaint_idem, cntL_mkL cntLabel_mk, cntL_mkL cntTaint_mk]
set_option maxRecDepth 100000 in
set_option maxHeartbeats 2000000 in
theorem markHost_any (x : Host) (cs : List Value) (F : List Nat) (B : Nat) (k : Int) (w : World) (h : Own w B x cs F) (hk0 : 0 ≤ k) (hk : k + cntTopHost x ≤ 1073741823) :
    Calls Try.prog 16 #[.agg cs.toArray, .int .i64 k] w fun e w' => e = .returned (.int .i64 (k + cntTopHost x)) ∧ Own w' B (mkTopHost x k) cs F ∧ Upd F w w' := by
  have hr := h.rd
  obtain ⟨Alabels, clabels, Flabels, Ataints, ctaints, Ftaints, hck, hFk, hname, hlabels, hcpu, hmem, hslots, htaints⟩ := rd_Host hr
  clear hr
  subst hck hFk
  simp only [cntTopHost] at hk ⊢
  push_cast at hk ⊢
  have hnd := h.nodup
  simp only [List.nodup_append, List.mem_append] at hnd
  have hdlabels_taints : ∀ y ∈ Flabels, y ∉ Ftaints := fun y ha hb => hnd.2.2 y ha y hb rfl
  have hdtaints_labels : ∀ y ∈ Ftaints, y ∉ Flabels := fun y hb ha => hnd.2.2 y ha y hb rfl
  have hOlabels : Own w B x.labels [.slice Alabels x.labels.length clabels] Flabels := ⟨hlabels, hnd.1, fun y hy => h.base y (by simp [hy]), fun y hy => h.plain y (by simp [hy])⟩
  have hOtaints : Own w B x.taints [.slice Ataints x.taints.length ctaints] Ftaints := ⟨htaints, hnd.2.1, fun y hy => h.base y (by simp [hy]), fun y hy => h.plain y (by simp [hy])⟩
  go_enter Try.func16, Try.ntmps16
  go_wp2_with fail
  generalize hwa : World.alloc w _ = wa
  have hUa : Upd (Flabels ++ (Ftaints)) w wa := hwa ▸ Upd.of_ext _ (ext_alloc (ext_refl w) _)
  have hz : w.heap.size < wa.heap.size := by rw [← hwa]; simp
  replace hOlabels : Own wa B x.labels [.slice Alabels x.labels.length clabels] Flabels := hwa ▸ hOlabels.alloc _
  have hglabels : w.heap.size ∉ Flabels := fun hy => Nat.lt_irrefl _ (h.lt _ (by simp [hy]))
  have qlabels : wa.cell? ⟨w.heap.size, 1, none⟩ = some (.slice Alabels x.labels.length clabels) := by rw [← hwa, cell_of_row _ _ _ _ _ _ (heap_alloc_new w _)]; rfl
  replace hOtaints : Own wa B x.taints [.slice Ataints x.taints.length ctaints] Ftaints := hwa ▸ hOtaints.alloc _
  have hgtaints : w.heap.size ∉ Ftaints := fun hy => Nat.lt_irrefl _ (h.lt _ (by simp [hy]))
  have qtaints : wa.cell? ⟨w.heap.size, 5, none⟩ = some (.slice Ataints x.taints.length ctaints) := by rw [← hwa, cell_of_row _ _ _ _ _ _ (heap_alloc_new w _)]; rfl
  clear hwa
  refine (markLabelS_any x.labels _ _ _ _ _ (k) _ hOlabels rfl (by omega) (by omega)).mono ?_
  rintro e w1 ⟨rfl, hNlabels, hUlabels⟩
  replace qlabels := (World.cell?_of_block (a := ⟨w.heap.size, 1, none⟩) (hUlabels.block _ hz hglabels)).trans qlabels
  replace hOtaints := hUlabels.own hOtaints hdtaints_labels
  replace qtaints := (World.cell?_of_block (a := ⟨w.heap.size, 5, none⟩) (hUlabels.block _ hz hglabels)).trans qtaints
  replace hz := Nat.lt_of_lt_of_le hz hUlabels.size
  replace hOlabels := hNlabels
  go_wp2_with fail
  refine (markTaintS_any x.taints _ _ _ _ _ (k + (cntL cntLabel x.labels : Int)) _ hOtaints rfl (by omega) (by omega)).mono ?_
  rintro e w2 ⟨rfl, hNtaints, hUtaints⟩
  replace hOlabels := hUtaints.own hOlabels hdlabels_taints
  replace qlabels := (World.cell?_of_block (a := ⟨w.heap.size, 1, none⟩) (hUtaints.block _ hz hgtaints)).trans qlabels
  replace qtaints := (World.cell?_of_block (a := ⟨w.heap.size, 5, none⟩) (hUtaints.block _ hz hgtaints)).trans qtaints
  replace hz := Nat.lt_of_lt_of_le hz hUtaints.size
  replace hOtaints := hNtaints
  go_wp2_with fail
  go_ret
  refine ⟨by first | rfl | (simp only [Int.add_assoc, Int.natCast_add]; rfl), ?_, ((hUa.trans (hUlabels.mono (G := Flabels ++ (Ftaints)) (fun y hy => by simp [hy]))).trans (hUtaints.mono (G := Flabels ++ (Ftaints)) (fun y hy => by simp [hy])))⟩
  exact ⟨(by have := (rd_pair (rdStr w2 (x.name) (sz63 hname)) (rd_pair (hOlabels.rd) (rd_pair (rdInt w2 (x.cpu) hcpu) (rd_pair (rdInt w2 (x.mem) hmem) (rd_pair (rdInt w2 (x.slots) hslots) (hOtaints.rd)))))); simp only [List.nil_append, List.append_nil, List.append_assoc, List.cons_append, mkL_len] at this; exact this), h.nodup, h.base, (by intro y hy; (try simp only [List.mem_append] at hy); rcases hy with hy | hy <;> first | exact hOlabels.plain y hy | exact hOtaints.plain y hy)⟩
set_option maxRecDepth 100000 in
set_option maxHeartbeats 2000000 in
theorem heldHost_any (x : Host) (cs : List Value) (F : List Nat) (k : Int) (w : World) (h : rd w x cs F) (hm : mkTopHost x k = x) (hk0 : 0 ≤ k) (hk : k + cntTopHost x ≤ 1073741823) :
    Calls Try.prog 17 #[.agg cs.toArray, .int .i64 k] w fun e w' => e = .returned (.int .i64 (k + cntTopHost x)) ∧ Below w.heap.size w w' := by
  obtain ⟨Alabels, clabels, Flabels, Ataints, ctaints, Ftaints, hck, hFk, hname, hlabels, hcpu, hmem, hslots, htaints⟩ := rd_Host h
  clear h
  subst hck
  simp only [cntTopHost] at hk ⊢
  push_cast at hk ⊢
  have e0 : mkL mkLabel cntLabel x.labels (k) = x.labels := congrArg (fun z : Host => z.labels) hm
  have e1 : mkL mkTaint cntTaint x.taints (k + (cntL cntLabel x.labels : Int)) = x.taints := congrArg (fun z : Host => z.taints) hm
  clear hm
  have hbl := ext_refl w
  go_enter Try.func17, Try.ntmps17
  go_wp2_with fail
  generalize hwa : World.alloc w _ = wa
  replace hbl : Below w.heap.size w wa := hwa ▸ ext_alloc (ext_refl w) _
  have hz : w.heap.size < wa.heap.size := by rw [← hwa]; simp
  replace hlabels : Sl wa x.labels Alabels clabels Flabels := Sl.ext hlabels hbl
  have qlabels : wa.cell? ⟨w.heap.size, 1, none⟩ = some (.slice Alabels x.labels.length clabels) := by rw [← hwa, cell_of_row _ _ _ _ _ _ (heap_alloc_new w _)]; rfl
  replace htaints : Sl wa x.taints Ataints ctaints Ftaints := Sl.ext htaints hbl
  have qtaints : wa.cell? ⟨w.heap.size, 5, none⟩ = some (.slice Ataints x.taints.length ctaints) := by rw [← hwa, cell_of_row _ _ _ _ _ _ (heap_alloc_new w _)]; rfl
  clear hwa
  refine (heldLabelS_any x.labels _ _ _ _ (k) _ hlabels rfl e0 (by omega) (by omega)).mono ?_
  rintro e w1 ⟨rfl, hn⟩
  replace hlabels := Sl.ext hlabels hn
  replace qlabels := ((bcell hn).1 _ _ hz).trans qlabels
  replace htaints := Sl.ext htaints hn
  replace qtaints := ((bcell hn).1 _ _ hz).trans qtaints
  replace hz := Nat.lt_of_lt_of_le hz hn.size
  replace hbl := ext_trans hbl hn
  clear hn
  go_wp2_with fail
  refine (heldTaintS_any x.taints _ _ _ _ (k + (cntL cntLabel x.labels : Int)) _ htaints rfl e1 (by omega) (by omega)).mono ?_
  rintro e w2 ⟨rfl, hn⟩
  replace hlabels := Sl.ext hlabels hn
  replace qlabels := ((bcell hn).1 _ _ hz).trans qlabels
  replace htaints := Sl.ext htaints hn
  replace qtaints := ((bcell hn).1 _ _ hz).trans qtaints
  replace hz := Nat.lt_of_lt_of_le hz hn.size
  replace hbl := ext_trans hbl hn
  clear hn
  go_wp2_with fail
  go_ret
  exact ⟨by first | rfl | (simp only [Int.add_assoc, Int.natCast_add]; rfl), hbl⟩
end Go.Proofs.Ytjhonoabpelfeaa
