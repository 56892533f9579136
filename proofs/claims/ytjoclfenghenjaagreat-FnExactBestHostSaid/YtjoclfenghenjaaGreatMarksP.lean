/- Marks in plain Lean. No condition. -/
import Derived.Test.YtjoclfenghenjaaGreatUsedP
import Derived.Test.YtjoclfenghenjaaGreatRows2
import Derived.Test.YtjoclfenghenjaaGreatAt
import Derived.Test.YtjoclfenghenjaaGreatShareP
namespace Go.Proofs.YtjoclfenghenjaaGreat
open Go.ChangeShapes Go.WideShapes Go.ChangeAt Go.RowKit
set_option linter.unusedVariables false
set_option linter.unusedSimpArgs false

def sumMost (a b : Int) : Int := (addI a b).getD 9223372036854775807
theorem sumMost_I64 {a b : Int} (ha : I64 a) (hb : I64 b) : I64 (sumMost a b) := by
  unfold sumMost
  cases h : addI a b with
  | none => exact ⟨by show _ ≤ (9223372036854775807 : Int); omega, by show (9223372036854775807 : Int) ≤ _; omega⟩
  | some t => exact addI_I64 h ha hb
def packR (nm : ByteArray) (x : Cluster) (p : Pod) : Int :=
  if idxI (hostatP nm) x.hosts < 0 then 0 else
  match sumsR (onL nm x.pods), x.hosts[(idxI (hostatP nm) x.hosts).toNat]? with
  | some (a, b), some h => (shareR (sumMost a p.cpu) h.cpu + shareR (sumMost b p.mem) h.mem) / 2
  | _, _ => 0
def spreadR (nm : ByteArray) (x : Cluster) : Int :=
  if idxI (hostatP nm) x.hosts < 0 then 0 else
  match sumsR (onL nm x.pods), x.hosts[(idxI (hostatP nm) x.hosts).toNat]? with
  | some (a, b), some h => 100 - shareR (onL nm x.pods).length h.slots
  | _, _ => 0
theorem packR_no {nm : ByteArray} {x : Cluster} {p : Pod} (h : idxI (hostatP nm) x.hosts = -1) : packR nm x p = 0 := by unfold packR; rw [h]; rfl
theorem packR_none {nm : ByteArray} {x : Cluster} {p : Pod} (h : sumsR (onL nm x.pods) = none) : packR nm x p = 0 := by unfold packR; rw [h]; simp
theorem packR_at {nm : ByteArray} {x : Cluster} {p : Pod} {k : Nat} {a b : Int} (hk : k < x.hosts.length) (h : idxI (hostatP nm) x.hosts = k) (hs : sumsR (onL nm x.pods) = some (a, b)) : packR nm x p = (shareR (sumMost a p.cpu) x.hosts[k].cpu + shareR (sumMost b p.mem) x.hosts[k].mem) / 2 := by
  unfold packR
  rw [h, if_neg (by omega), hs, Int.toNat_natCast, List.getElem?_eq_getElem hk]
theorem spreadR_no {nm : ByteArray} {x : Cluster} (h : idxI (hostatP nm) x.hosts = -1) : spreadR nm x = 0 := by unfold spreadR; rw [h]; rfl
theorem spreadR_none {nm : ByteArray} {x : Cluster} (h : sumsR (onL nm x.pods) = none) : spreadR nm x = 0 := by unfold spreadR; rw [h]; simp
theorem spreadR_at {nm : ByteArray} {x : Cluster} {k : Nat} {a b : Int} (hk : k < x.hosts.length) (h : idxI (hostatP nm) x.hosts = k) (hs : sumsR (onL nm x.pods) = some (a, b)) : spreadR nm x = 100 - shareR (onL nm x.pods).length x.hosts[k].slots := by
  unfold spreadR
  rw [h, if_neg (by omega), hs, Int.toNat_natCast, List.getElem?_eq_getElem hk]
theorem packR_range (nm : ByteArray) (x : Cluster) (p : Pod) : 0 ≤ packR nm x p ∧ packR nm x p ≤ 100 := by
  unfold packR
  split
  · omega
  · split
    · rename_i a b h _ _
      have h1 := shareR_range (sumMost a p.cpu) h.cpu
      have h2 := shareR_range (sumMost b p.mem) h.mem
      omega
    · omega
theorem spreadR_range (nm : ByteArray) (x : Cluster) : 0 ≤ spreadR nm x ∧ spreadR nm x ≤ 100 := by
  unfold spreadR
  split
  · omega
  · split
    · rename_i a b h _ _
      have h1 := shareR_range (onL nm x.pods).length h.slots
      omega
    · omega

end Go.Proofs.YtjoclfenghenjaaGreat
