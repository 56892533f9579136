/- What a right cluster is, in plain Lean. No condition. -/
import Derived.Test.YtjoclfenghenjaaGreatHostOk
import Derived.Test.YtjoclfenghenjaaGreatPodOk
import Derived.Test.YtjoclfenghenjaaGreatUsed
import Derived.Test.YtjoclfenghenjaaGreatWeights
namespace Go.Proofs.YtjoclfenghenjaaGreat
open Go.ChangeShapes Go.WideShapes Go.ChangeAt Go.RowKit
set_option linter.unusedVariables false
set_option linter.unusedSimpArgs false

theorem onL_len' (nm : ByteArray) (xs : List Placed) : (onL nm xs).length ≤ xs.length := by unfold onL; rw [List.length_map]; exact List.length_filter_le _ _
theorem usedV_some' {nm : ByteArray} {xs : List Placed} {a b : Int} (h : sumsR (onL nm xs) = some (a, b)) : usedV nm xs = .tuple #[.int .i64 a, .int .i64 b, .int .i64 (onL nm xs).length, .bool true] := by unfold usedV; rw [h]
theorem usedV_none' {nm : ByteArray} {xs : List Placed} (h : sumsR (onL nm xs) = none) : usedV nm xs = .tuple #[.int .i64 0, .int .i64 0, .int .i64 0, .bool false] := by unfold usedV; rw [h]
/-- what stands on a host is within it -/
def fineOn (x : Cluster) (h : Host) : Bool := match sumsR (onL h.name x.pods) with
  | none => false
  | some (a, b) => decide (a ≤ h.cpu) && (decide (b ≤ h.mem) && decide (((onL h.name x.pods).length : Int) ≤ h.slots))
def hostX (x : Cluster) (h : Host) : Bool := hostR h && fineOn x h
def hostLess (a b : Host) : Bool := Op.bytesLess a.name.toList b.name.toList
def podX (x : Cluster) (p : Placed) : Bool := podR p.pod && ((decide (1 ≤ p.seq) && decide (p.seq ≤ x.next - 1)) && ((p.on.toList == []) || decide (0 ≤ idxI (hostatP p.on) x.hosts)))
def placedLess (a b : Placed) : Bool := Op.bytesLess a.pod.name.toList b.pod.name.toList
def seenIn (xs : List Placed) (s : Int) : Bool := xs.any fun q => q.seq == s
def freshAt (xs : List Placed) (k : Nat) : Bool := match xs[k]? with | none => false | some p => !(seenIn (xs.take k) p.seq)
theorem freshAt_get {xs : List Placed} {k : Nat} (h : k < xs.length) : freshAt xs k = !(seenIn (xs.take k) xs[k].seq) := by unfold freshAt; rw [List.getElem?_eq_getElem h]
def headR (x : Cluster) : Bool := decide ((x.hosts.length : Int) ≤ 8) && (decide ((x.pods.length : Int) ≤ 12) && ((decide (1 ≤ x.next) && decide (x.next ≤ 1000000000)) && weightsR x.weights.pack x.weights.spread x.weights.soft))
/-- what a right cluster is -/
def clusterR (x : Cluster) : Bool := headR x && ((List.range x.hosts.length).all (rowAt (hostX x) hostLess x.hosts) && ((List.range x.pods.length).all (rowAt (podX x) placedLess x.pods) && (List.range x.pods.length).all (freshAt x.pods)))
theorem clusterR_head {x : Cluster} (h : headR x = false) : clusterR x = false := by unfold clusterR; rw [h]; rfl
theorem clusterR_host {x : Cluster} {k : Nat} (hk : k < x.hosts.length) (h : rowAt (hostX x) hostLess x.hosts k = false) : clusterR x = false := by unfold clusterR; rw [range_not hk h]; simp
theorem clusterR_pod {x : Cluster} {k : Nat} (hk : k < x.pods.length) (h : rowAt (podX x) placedLess x.pods k = false) : clusterR x = false := by unfold clusterR; rw [range_not hk h]; simp
theorem clusterR_seq {x : Cluster} {k : Nat} (hk : k < x.pods.length) (h : freshAt x.pods k = false) : clusterR x = false := by unfold clusterR; rw [range_not hk h]; simp
theorem clusterR_all {x : Cluster} (h0 : headR x = true) (h1 : ∀ j, j < x.hosts.length → rowAt (hostX x) hostLess x.hosts j = true) (h2 : ∀ j, j < x.pods.length → rowAt (podX x) placedLess x.pods j = true) (h3 : ∀ j, j < x.pods.length → freshAt x.pods j = true) : clusterR x = true := by
  unfold clusterR; rw [h0, range_all h1, range_all h2, range_all h3]; rfl
theorem rowAt0 {α : Type} {ok : α → Bool} {less : α → α → Bool} {xs : List α} {v : Bool} (h : 0 < xs.length) (e : ok xs[0] = v) : rowAt ok less xs 0 = v := by rw [rowAt_zero h, e]
theorem rowAtS {α : Type} {ok : α → Bool} {less : α → α → Bool} {xs : List α} {j : Nat} {v u : Bool} (h : j + 1 < xs.length) (e : ok xs[j + 1] = v) (e2 : less xs[j] xs[j + 1] = u) : rowAt ok less xs (j + 1) = (v && u) := by rw [rowAt_succ h, e, e2]
theorem fineOn_none {x : Cluster} {h : Host} (e : sumsR (onL h.name x.pods) = none) : fineOn x h = false := by unfold fineOn; rw [e]
theorem fineOn_some {x : Cluster} {h : Host} {a b : Int} (e : sumsR (onL h.name x.pods) = some (a, b)) : fineOn x h = (decide (a ≤ h.cpu) && (decide (b ≤ h.mem) && decide (((onL h.name x.pods).length : Int) ≤ h.slots))) := by unfold fineOn; rw [e]
theorem fineOn_used (x : Cluster) (h : Host) : ∃ (a b n : Int) (okv : Bool), usedV h.name x.pods = .tuple #[.int .i64 a, .int .i64 b, .int .i64 n, .bool okv] ∧ fineOn x h = (okv && (decide (a ≤ h.cpu) && (decide (b ≤ h.mem) && decide (n ≤ h.slots)))) ∧ 0 ≤ n ∧ n ≤ x.pods.length := by
  cases e : sumsR (onL h.name x.pods) with
  | none => exact ⟨0, 0, 0, false, usedV_none' e, by rw [fineOn_none e]; rfl, by omega, by omega⟩
  | some ab =>
    obtain ⟨a, b⟩ := ab
    have := onL_len' h.name x.pods
    exact ⟨a, b, (onL h.name x.pods).length, true, usedV_some' e, by rw [fineOn_some e]; rfl, by omega, by omega⟩
theorem Sl.placed_seq {w : World} {xs : List Placed} {A : Option Addr} {c : Nat} {F : List Nat} (h : Sl w xs A c F) : ∀ p ∈ xs, I64 p.seq := by
  intro p hp
  obtain ⟨k, hk, rfl⟩ := List.getElem_of_mem hp
  obtain ⟨b, o, ck, Fk, _, _, _, hr, _⟩ := h.get hk
  obtain ⟨Apodlabels, cpodlabels, Fpodlabels, Apodneeds, cpodneeds, Fpodneeds, Apodtolerances, cpodtolerances, Fpodtolerances, hck, hF, hpodname, hpodlabels, hpodcpu, hpodmem, hpodrank, hpodneeds, hpodtolerances, hon, hseq⟩ := rd_Placed hr
  exact hseq

end Go.Proofs.YtjoclfenghenjaaGreat
