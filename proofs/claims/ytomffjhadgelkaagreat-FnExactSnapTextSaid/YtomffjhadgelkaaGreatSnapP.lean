/- A cluster's text, in plain Lean. No condition. -/
import Derived.Test.YtomffjhadgelkaaGreatClusterP
import Derived.Test.YtomffjhadgelkaaGreatHostBytes
import Derived.Test.YtomffjhadgelkaaGreatPodBytesP
namespace Go.Proofs.YtomffjhadgelkaaGreat
open Go.ChangeShapes Go.WideShapes Go.ChangeAt Go.RowKit
set_option linter.unusedVariables false
set_option linter.unusedSimpArgs false

def placeB (x : Cluster) (p : Placed) : ByteArray := varText (1 + idxI (hostatP p.on) x.hosts) ++ varText p.seq
def placedB (x : Cluster) (p : Placed) : ByteArray := podBytes p.pod ++ placeB x p
def snapHead (x : Cluster) : ByteArray := varText x.weights.pack ++ varText x.weights.spread ++ varText x.weights.soft ++ varText x.next ++ varText x.hosts.length
def snapHosts (x : Cluster) (k : Nat) : ByteArray := (x.hosts.take k).foldl (fun s h => s ++ hostBytes h) (snapHead x)
def snapMid (x : Cluster) : ByteArray := snapHosts x x.hosts.length ++ varText x.pods.length
def snapPods (x : Cluster) (k : Nat) : ByteArray := (x.pods.take k).foldl (fun s p => s ++ placedB x p) (snapMid x)
def snapText (x : Cluster) : ByteArray := if clusterR x then snapPods x x.pods.length else ⟨#[]⟩
theorem snapHosts_next {x : Cluster} {k : Nat} (h : k < x.hosts.length) : snapHosts x (k + 1) = snapHosts x k ++ hostBytes x.hosts[k] := foldl_take _ _ _ _ h
theorem snapPods_next {x : Cluster} {k : Nat} (h : k < x.pods.length) : snapPods x (k + 1) = snapPods x k ++ placedB x x.pods[k] := foldl_take _ _ _ _ h
theorem podR_needs {x : Pod} (h : podR x = true) : (x.needs.length : Int) ≤ 4 := by
  unfold podR selR rowR at h
  simp only [Bool.and_eq_true, decide_eq_true_eq] at h
  omega
theorem hostBytes_size {w : World} {x : Host} {cs : List Value} {F : List Nat} (h : rd w x cs F) (hw : (x.wt : Int) ≤ 1048576) : (hostBytes x).size ≤ 4500000000000 := by
  have hwx : x.wt = x.name.size + wtL Label.wt x.labels + wtL Taint.wt x.taints := rfl
  obtain ⟨hll, hls⟩ := labels_small (xs := x.labels) (by omega)
  obtain ⟨htl, hts⟩ := taints_small (xs := x.taints) (by omega)
  obtain ⟨Alabels, clabels, Flabels, Ataints, ctaints, Ftaints, hck, hF, hname, hlabels, hcpu, hmem, hslots, htaints⟩ := rd_Host h
  have hq1 := shortText_size x.name (by omega)
  have hq2 := labelsBytes_size x.labels hll hls
  have hq3 := varText_size x.cpu hcpu
  have hq4 := varText_size x.mem hmem
  have hq5 := varText_size x.slots hslots
  have hq6 := varText_size x.taints.length ⟨by omega, by omega⟩
  have hb := hostBody_size x hts htaints.taint_I64 x.taints.length (Nat.le_refl _)
  have hm : x.taints.length * 2097182 ≤ 1048576 * 2097182 := Nat.mul_le_mul_right _ (by omega)
  have hh : (hostHead x).size ≤ 2199046980000 := by
    unfold hostHead
    simp only [ByteArray.size_append]
    omega
  unfold hostBytes
  split
  · omega
  · exact Nat.zero_le _
theorem podBytes_size {w : World} {x : Pod} {cs : List Value} {F : List Nat} (h : rd w x cs F) (hw : (x.wt : Int) ≤ 1048576) : (podBytes x).size ≤ 9000000000000 := by
  have hwx : x.wt = x.name.size + wtL Label.wt x.labels + wtL Need.wt x.needs + wtL Tolerance.wt x.tolerances := rfl
  obtain ⟨hll, hls⟩ := labels_small (xs := x.labels) (by omega)
  obtain ⟨hnl, hnds⟩ := needs_small (xs := x.needs) (by omega)
  obtain ⟨htl, hts⟩ := tols_small (xs := x.tolerances) (by omega)
  obtain ⟨Alabels, clabels, Flabels, Aneeds, cneeds, Fneeds, Atolerances, ctolerances, Ftolerances, hck, hF, hname, hlabels, hcpu, hmem, hrank, hneeds, htolerances⟩ := rd_Pod h
  have hq1 := shortText_size x.name (by omega)
  have hq2 := labelsBytes_size x.labels hll hls
  have hq3 := varText_size x.cpu hcpu
  have hq4 := varText_size x.mem hmem
  have hq5 := varText_size x.rank hrank
  have hq6 := varText_size x.needs.length ⟨by omega, by omega⟩
  have hq7 := varText_size x.tolerances.length ⟨by omega, by omega⟩
  have hh : (podHead x).size ≤ 2199046980000 := by
    unfold podHead
    simp only [ByteArray.size_append]
    omega
  have hn := podNeeds_size x hnds hneeds.need_I64 x.needs.length (Nat.le_refl _)
  have ht := podTols_size x hts htolerances.tol_I64 x.tolerances.length (Nat.le_refl _)
  have hm : x.tolerances.length * 2097192 ≤ 1048576 * 2097192 := Nat.mul_le_mul_right _ (by omega)
  have hmid : (podMid x).size ≤ (podNeeds x x.needs.length).size + 10 := by
    unfold podMid
    rw [ByteArray.size_append]
    omega
  unfold podBytes
  split
  · rename_i hR
    have := podR_needs hR
    have hm2 : x.needs.length * 1099523200000 ≤ 4 * 1099523200000 := Nat.mul_le_mul_right _ (by omega)
    omega
  · exact Nat.zero_le _
theorem idx_I64 {α : Type} (p : α → Bool) (xs : List α) (hl : (xs.length : Int) ≤ 1048576) : I64 (1 + idxI p xs) := by
  have := idxI_lt (p := p) xs
  exact ⟨by omega, by omega⟩
theorem placeB_size {x : Cluster} {p : Placed} (hl : (x.hosts.length : Int) ≤ 1048576) (hp : I64 p.seq) : (placeB x p).size ≤ 20 := by
  have a := varText_size (1 + idxI (hostatP p.on) x.hosts) (idx_I64 _ _ hl)
  have b := varText_size p.seq hp
  unfold placeB
  rw [ByteArray.size_append]
  omega
theorem snapHosts_size (x : Cluster) (hx : ∀ h ∈ x.hosts, (hostBytes h).size ≤ 4500000000000) : ∀ k, k ≤ x.hosts.length → (snapHosts x k).size ≤ (snapHead x).size + k * 4500000000000
  | 0, _ => by simp [snapHosts]
  | k + 1, h => by
    rw [snapHosts_next (by omega), ByteArray.size_append]
    have h1 := snapHosts_size x hx k (by omega)
    have h2 := hx x.hosts[k] (List.getElem_mem ..)
    omega
theorem snapPods_size (x : Cluster) (hx : ∀ p ∈ x.pods, (podBytes p.pod).size ≤ 9000000000000) (hl : (x.hosts.length : Int) ≤ 1048576) (hs : ∀ p ∈ x.pods, I64 p.seq) : ∀ k, k ≤ x.pods.length → (snapPods x k).size ≤ (snapMid x).size + k * 9000000000020
  | 0, _ => by simp [snapPods]
  | k + 1, h => by
    rw [snapPods_next (by omega), ByteArray.size_append]
    have h1 := snapPods_size x hx hl hs k (by omega)
    have h2 := hx x.pods[k] (List.getElem_mem ..)
    have h3 := placeB_size hl (hs x.pods[k] (List.getElem_mem ..))
    unfold placedB
    rw [ByteArray.size_append]
    omega
theorem clusterR_lens {x : Cluster} (h : clusterR x = true) : (x.hosts.length : Int) ≤ 8 ∧ (x.pods.length : Int) ≤ 12 := by
  unfold clusterR headR at h
  simp only [Bool.and_eq_true, decide_eq_true_eq] at h
  exact ⟨h.1.1, h.1.2.1⟩
theorem rowAt_ok {α : Type} {ok : α → Bool} {less : α → α → Bool} {xs : List α} {k : Nat} (hk : k < xs.length) (h : rowAt ok less xs k = true) : ok xs[k] = true := by
  cases k with
  | zero => rw [rowAt_zero hk] at h; exact h
  | succ j => rw [rowAt_succ hk] at h; simp only [Bool.and_eq_true] at h; exact h.1
theorem clusterR_name {x : Cluster} (h : clusterR x = true) : ∀ y ∈ x.hosts, 0 < y.name.size := by
  intro y hy
  obtain ⟨k, hk, rfl⟩ := List.getElem_of_mem hy
  unfold clusterR at h
  simp only [Bool.and_eq_true] at h
  have h1 := rowAt_ok hk (List.all_eq_true.1 h.2.1 k (List.mem_range.2 hk))
  unfold hostX hostR nameR at h1
  simp only [Bool.and_eq_true, decide_eq_true_eq] at h1
  omega
theorem idx_empty {x : Cluster} (h : clusterR x = true) {nm : ByteArray} (hn : (nm.toList == []) = true) : idxI (hostatP nm) x.hosts = -1 := by
  refine idxI_none fun y hy => ?_
  have h1 := clusterR_name h y hy
  have h2 : nm.toList = [] := by simpa using hn
  have h3 : nm = ⟨#[]⟩ := (eqStr_iff _ _).1 (by show (nm.toList == (⟨#[]⟩ : ByteArray).toList) = true; rw [h2]; unfold ByteArray.toList; rw [ByteArray.toList.loop]; rfl)
  subst h3
  cases he : hostatP ⟨#[]⟩ y with
  | false => rfl
  | true =>
    exfalso
    have h4 : y.name = ⟨#[]⟩ := (eqStr_iff _ _).1 he
    rw [h4] at h1
    exact absurd h1 (by decide)

end Go.Proofs.YtomffjhadgelkaaGreat
