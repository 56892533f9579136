/- fits. What a reason against a pod on a host is. No condition. -/
import Derived.Test.YtjoclfenghenjaaGreatSelects
import Derived.Test.YtjoclfenghenjaaGreatUntol0
import Derived.Test.YtjoclfenghenjaaGreatUsedP
namespace Go.Proofs.YtjoclfenghenjaaGreat
open Go.ChangeShapes Go.WideShapes Go.ChangeAt Go.RowKit
set_option linter.unusedVariables false
set_option linter.unusedSimpArgs false

def fitsR (used more most : Int) : Bool := match addI used more with | some s => decide (s ≤ most) | none => false
/-- the first reason against a pod on a host that a, b and n are used of -/
def reasonH (h : Host) (p : Pod) (a b n : Int) : Int :=
  if selectsR h.labels p.needs = false then 1 else if 0 < (untolN p.tolerances 1 h.taints : Int) then 2
  else if fitsR a p.cpu h.cpu = false then 3 else if fitsR b p.mem h.mem = false then 4 else if h.slots ≤ n then 5 else 0
def reasonR (nm : ByteArray) (x : Cluster) (p : Pod) : Int :=
  if idxI (hostatP nm) x.hosts < 0 then 6 else
  match sumsR (onL nm x.pods), x.hosts[(idxI (hostatP nm) x.hosts).toNat]? with
  | some (a, b), some h => reasonH h p a b (onL nm x.pods).length
  | _, _ => 6
theorem reasonR_no {nm : ByteArray} {x : Cluster} {p : Pod} (h : idxI (hostatP nm) x.hosts = -1) : reasonR nm x p = 6 := by unfold reasonR; rw [h]; rfl
theorem reasonR_none {nm : ByteArray} {x : Cluster} {p : Pod} (h : sumsR (onL nm x.pods) = none) : reasonR nm x p = 6 := by unfold reasonR; rw [h]; simp
theorem reasonR_at {nm : ByteArray} {x : Cluster} {p : Pod} {k : Nat} {a b : Int} (hk : k < x.hosts.length) (h : idxI (hostatP nm) x.hosts = k) (hs : sumsR (onL nm x.pods) = some (a, b)) : reasonR nm x p = reasonH x.hosts[k] p a b (onL nm x.pods).length := by
  unfold reasonR
  rw [h, if_neg (by omega), hs, Int.toNat_natCast, List.getElem?_eq_getElem hk]
theorem reasonH_range (h : Host) (p : Pod) (a b n : Int) : 0 ≤ reasonH h p a b n ∧ reasonH h p a b n ≤ 5 := by
  unfold reasonH
  repeat' split
  all_goals omega
theorem reasonR_range (nm : ByteArray) (x : Cluster) (p : Pod) : 0 ≤ reasonR nm x p ∧ reasonR nm x p ≤ 6 := by
  unfold reasonR
  split
  · omega
  · split
    · exact ⟨(reasonH_range _ p _ _ _).1, Int.le_trans (reasonH_range _ p _ _ _).2 (by decide)⟩
    · omega
theorem host_small {h : Host} (hw : (h.wt : Int) ≤ 1048576) : ((h.labels.length : Int) ≤ 1048576) ∧ ((wtL Taint.wt h.taints : Int) ≤ 1048576) := by
  have hwx : h.wt = h.name.size + wtL Label.wt h.labels + wtL Taint.wt h.taints := rfl
  have := wtL_len Label.wt h.labels
  omega
theorem fits_impl (a b c : Int) (w : World) (ha : I64 a) (hb : I64 b) : Calls Tryz.prog 185 #[.int .i64 a, .int .i64 b, .int .i64 c] w fun e w' => e = .returned (.bool (fitsR a b c)) ∧ Below w.heap.size w w' := by
  cases h : addI a b with
  | none =>
    have HF := Lib.hid (show fitsR a b c = false by unfold fitsR; rw [h])
    have HA := Lib.hid h
    go_enter Tryz.func185, Tryz.ntmps185
    go_wp2_with fail
    refine (AddInt_impl a b _ ha hb).mono ?_
    rw [HA.out]
    rintro e w2 ⟨rfl, hb2⟩
    go_wp2
    go_ret
    exact ⟨by rw [HF.out]; rfl, (by repeat (first | with_reducible exact ext_refl _ | with_reducible assumption | with_reducible refine ext_alloc ?_ _ | with_reducible refine ext_trans ?_ (by assumption)))⟩
  | some s =>
    have HF := Lib.hid (show fitsR a b c = decide (s ≤ c) by unfold fitsR; rw [h])
    have HA := Lib.hid h
    go_enter Tryz.func185, Tryz.ntmps185
    go_wp2_with fail
    refine (AddInt_impl a b _ ha hb).mono ?_
    rw [HA.out]
    rintro e w2 ⟨rfl, hb2⟩
    go_wp2
    go_ret
    exact ⟨by rw [HF.out]; rfl, (by repeat (first | with_reducible exact ext_refl _ | with_reducible assumption | with_reducible refine ext_alloc ?_ _ | with_reducible refine ext_trans ?_ (by assumption)))⟩

end Go.Proofs.YtjoclfenghenjaaGreat
