/- fits. What a reason against a pod on a host is. No condition. -/
import Derived.Test.YtomffjhadgelkaaGreatSelects
import Derived.Test.YtomffjhadgelkaaGreatUntol0
import Derived.Test.YtomffjhadgelkaaGreatSmalls
import Derived.Test.YtomffjhadgelkaaGreatUsed
namespace Go.Proofs.YtomffjhadgelkaaGreat
open Go.ChangeShapes Go.WideShapes Go.ChangeAt Go.RowKit
set_option linter.unusedVariables false
set_option linter.unusedSimpArgs false

theorem sumI_I64 : ∀ (xs : List Int) (s t : Int), (∀ x ∈ xs, I64 x) → I64 s → sumI xs s = some t → I64 t
  | [], s, t, _, hs, h => by simp only [sumI, Option.some.injEq] at h; subst h; exact hs
  | x :: xs, s, t, hx, hs, h => by
    simp only [sumI] at h
    cases e : addI s x with
    | none => rw [e] at h; cases h
    | some m =>
      rw [e] at h
      exact sumI_I64 xs m t (fun y hy => hx y (List.mem_cons_of_mem _ hy)) (addI_I64 e hs (hx x (List.mem_cons_self ..))) h
theorem sumsR_I64 {xs : List Pod} {a b : Int} (hx : ∀ p ∈ xs, I64 p.cpu ∧ I64 p.mem) (h : sumsR xs = some (a, b)) : I64 a ∧ I64 b := by
  unfold sumsR at h
  cases e1 : sumI (xs.map Pod.cpu) 0 with
  | none => rw [e1] at h; cases h
  | some m =>
    cases e2 : sumI (xs.map Pod.mem) 0 with
    | none => rw [e1, e2] at h; cases h
    | some n =>
      rw [e1, e2] at h
      simp only [Option.some.injEq, Prod.mk.injEq] at h
      obtain ⟨rfl, rfl⟩ := h
      have z : I64 0 := ⟨by omega, by omega⟩
      refine ⟨sumI_I64 _ 0 _ (fun y hy => ?_) z e1, sumI_I64 _ 0 _ (fun y hy => ?_) z e2⟩
      · obtain ⟨p, hp, rfl⟩ := List.mem_map.1 hy; exact (hx p hp).1
      · obtain ⟨p, hp, rfl⟩ := List.mem_map.1 hy; exact (hx p hp).2
theorem onL_mem {nm : ByteArray} {xs : List Placed} {p : Pod} (h : p ∈ onL nm xs) : ∃ q ∈ xs, p = q.pod := by
  unfold onL at h
  obtain ⟨q, hq, rfl⟩ := List.mem_map.1 h
  exact ⟨q, (List.mem_filter.1 hq).1, rfl⟩
theorem Sl.placed_I64 {w : World} {xs : List Placed} {A : Option Addr} {c : Nat} {F : List Nat} (h : Sl w xs A c F) : ∀ p ∈ xs, I64 p.pod.cpu ∧ I64 p.pod.mem := by
  intro p hp
  obtain ⟨k, hk, rfl⟩ := List.getElem_of_mem hp
  obtain ⟨b, o, ck, Fk, _, _, _, hr, _⟩ := h.get hk
  obtain ⟨Apodlabels, cpodlabels, Fpodlabels, Apodneeds, cpodneeds, Fpodneeds, Apodtolerances, cpodtolerances, Fpodtolerances, hck, hF, hpodname, hpodlabels, hpodcpu, hpodmem, hpodrank, hpodneeds, hpodtolerances, hon, hseq⟩ := rd_Placed hr
  exact ⟨hpodcpu, hpodmem⟩
theorem used_I64 {w : World} {xs : List Placed} {A : Option Addr} {c : Nat} {F : List Nat} {nm : ByteArray} {a b : Int} (h : Sl w xs A c F) (hs : sumsR (onL nm xs) = some (a, b)) : I64 a ∧ I64 b :=
  sumsR_I64 (fun p hp => by obtain ⟨q, hq, rfl⟩ := onL_mem hp; exact h.placed_I64 q hq) hs
def fitsR (used more most : Int) : Bool := match addI used more with | some s => decide (s ≤ most) | none => false
/-- the first reason against a pod on a host that a, b and n are used of -/
def reasonH (h : Host) (p : Pod) (a b n : Int) : Int :=
  if selectsR h.labels p.needs = false then 1 else if 0 < (untolN p.tolerances 1 h.taints : Int) then 2
  else if fitsR a p.cpu h.cpu = false then 3 else if fitsR b p.mem h.mem = false then 4 else if h.slots ≤ n then 5 else 0
def reasonR (nm : ByteArray) (x : Cluster) (p : Pod) : Int :=
  if idxI (hostatP nm) x.hosts < 0 then 6 else
  match sumsR (onL nm x.pods), x.hosts[(idxI (hostatP nm) x.hosts).toNat]? with
  | some (a, b), some h => reasonH h p a b (onL nm x.pods).length
  | _, _ => 6
theorem reasonR_no {nm : ByteArray} {x : Cluster} {p : Pod} (h : idxI (hostatP nm) x.hosts = -1) : reasonR nm x p = 6 := by unfold reasonR; rw [h]; rfl
theorem reasonR_none {nm : ByteArray} {x : Cluster} {p : Pod} (h : sumsR (onL nm x.pods) = none) : reasonR nm x p = 6 := by unfold reasonR; rw [h]; simp
theorem reasonR_at {nm : ByteArray} {x : Cluster} {p : Pod} {k : Nat} {a b : Int} (hk : k < x.hosts.length) (h : idxI (hostatP nm) x.hosts = k) (hs : sumsR (onL nm x.pods) = some (a, b)) : reasonR nm x p = reasonH x.hosts[k] p a b (onL nm x.pods).length := by
  unfold reasonR
  rw [h, if_neg (by omega), hs, Int.toNat_natCast, List.getElem?_eq_getElem hk]
theorem reasonH_range (h : Host) (p : Pod) (a b n : Int) : 0 ≤ reasonH h p a b n ∧ reasonH h p a b n ≤ 5 := by
  unfold reasonH
  repeat' split
  all_goals omega
theorem reasonR_range (nm : ByteArray) (x : Cluster) (p : Pod) : 0 ≤ reasonR nm x p ∧ reasonR nm x p ≤ 6 := by
  unfold reasonR
  split
  · omega
  · split
    · exact ⟨(reasonH_range _ p _ _ _).1, Int.le_trans (reasonH_range _ p _ _ _).2 (by decide)⟩
    · omega
theorem usedV_some {nm : ByteArray} {xs : List Placed} {a b : Int} (h : sumsR (onL nm xs) = some (a, b)) : usedV nm xs = .tuple #[.int .i64 a, .int .i64 b, .int .i64 (onL nm xs).length, .bool true] := by unfold usedV; rw [h]
theorem usedV_none {nm : ByteArray} {xs : List Placed} (h : sumsR (onL nm xs) = none) : usedV nm xs = .tuple #[.int .i64 0, .int .i64 0, .int .i64 0, .bool false] := by unfold usedV; rw [h]
theorem host_small {h : Host} (hw : (h.wt : Int) ≤ 1048576) : ((h.labels.length : Int) ≤ 1048576) ∧ ((wtL Taint.wt h.taints : Int) ≤ 1048576) := by
  have hwx : h.wt = h.name.size + wtL Label.wt h.labels + wtL Taint.wt h.taints := rfl
  have := wtL_len Label.wt h.labels
  omega
theorem fits_impl (a b c : Int) (w : World) (ha : I64 a) (hb : I64 b) : Calls Tryz.prog 100 #[.int .i64 a, .int .i64 b, .int .i64 c] w fun e w' => e = .returned (.bool (fitsR a b c)) ∧ Below w.heap.size w w' := by
  cases h : addI a b with
  | none =>
    have HF := Lib.hid (show fitsR a b c = false by unfold fitsR; rw [h])
    have HA := Lib.hid h
    go_enter Tryz.func100, Tryz.ntmps100
    go_wp2_with fail
    refine (AddInt_impl a b _ ha hb).mono ?_
    rw [HA.out]
    rintro e w2 ⟨rfl, hb2⟩
    go_wp2
    go_ret
    exact ⟨by rw [HF.out]; rfl, (by repeat (first | with_reducible exact ext_refl _ | with_reducible assumption | with_reducible refine ext_alloc ?_ _ | with_reducible refine ext_trans ?_ (by assumption)))⟩
  | some s =>
    have HF := Lib.hid (show fitsR a b c = decide (s ≤ c) by unfold fitsR; rw [h])
    have HA := Lib.hid h
    go_enter Tryz.func100, Tryz.ntmps100
    go_wp2_with fail
    refine (AddInt_impl a b _ ha hb).mono ?_
    rw [HA.out]
    rintro e w2 ⟨rfl, hb2⟩
    go_wp2
    go_ret
    exact ⟨by rw [HF.out]; rfl, (by repeat (first | with_reducible exact ext_refl _ | with_reducible assumption | with_reducible refine ext_alloc ?_ _ | with_reducible refine ext_trans ?_ (by assumption)))⟩

end Go.Proofs.YtomffjhadgelkaaGreat
