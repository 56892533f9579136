/- What a host's pods use, in plain Lean. No condition. -/
import Derived.Test.YtjoclfenghenjaaGreatSmalls
import Derived.Test.YtjoclfenghenjaaGreatUsed
namespace Go.Proofs.YtjoclfenghenjaaGreat
open Go.ChangeShapes Go.WideShapes Go.ChangeAt Go.RowKit
set_option linter.unusedVariables false
set_option linter.unusedSimpArgs false

theorem sumI_I64 : ∀ (xs : List Int) (s t : Int), (∀ x ∈ xs, I64 x) → I64 s → sumI xs s = some t → I64 t
  | [], s, t, _, hs, h => by simp only [sumI, Option.some.injEq] at h; subst h; exact hs
  | x :: xs, s, t, hx, hs, h => by
    simp only [sumI] at h
    cases e : addI s x with
    | none => rw [e] at h; cases h
    | some m =>
      rw [e] at h
      exact sumI_I64 xs m t (fun y hy => hx y (List.mem_cons_of_mem _ hy)) (addI_I64 e hs (hx x (List.mem_cons_self ..))) h
theorem sumsR_I64 {xs : List Pod} {a b : Int} (hx : ∀ p ∈ xs, I64 p.cpu ∧ I64 p.mem) (h : sumsR xs = some (a, b)) : I64 a ∧ I64 b := by
  unfold sumsR at h
  cases e1 : sumI (xs.map Pod.cpu) 0 with
  | none => rw [e1] at h; cases h
  | some m =>
    cases e2 : sumI (xs.map Pod.mem) 0 with
    | none => rw [e1, e2] at h; cases h
    | some n =>
      rw [e1, e2] at h
      simp only [Option.some.injEq, Prod.mk.injEq] at h
      obtain ⟨rfl, rfl⟩ := h
      have z : I64 0 := ⟨by omega, by omega⟩
      refine ⟨sumI_I64 _ 0 _ (fun y hy => ?_) z e1, sumI_I64 _ 0 _ (fun y hy => ?_) z e2⟩
      · obtain ⟨p, hp, rfl⟩ := List.mem_map.1 hy; exact (hx p hp).1
      · obtain ⟨p, hp, rfl⟩ := List.mem_map.1 hy; exact (hx p hp).2
theorem onL_mem {nm : ByteArray} {xs : List Placed} {p : Pod} (h : p ∈ onL nm xs) : ∃ q ∈ xs, p = q.pod := by
  unfold onL at h
  obtain ⟨q, hq, rfl⟩ := List.mem_map.1 h
  exact ⟨q, (List.mem_filter.1 hq).1, rfl⟩
theorem Sl.placed_I64 {w : World} {xs : List Placed} {A : Option Addr} {c : Nat} {F : List Nat} (h : Sl w xs A c F) : ∀ p ∈ xs, I64 p.pod.cpu ∧ I64 p.pod.mem := by
  intro p hp
  obtain ⟨k, hk, rfl⟩ := List.getElem_of_mem hp
  obtain ⟨b, o, ck, Fk, _, _, _, hr, _⟩ := h.get hk
  obtain ⟨Apodlabels, cpodlabels, Fpodlabels, Apodneeds, cpodneeds, Fpodneeds, Apodtolerances, cpodtolerances, Fpodtolerances, hck, hF, hpodname, hpodlabels, hpodcpu, hpodmem, hpodrank, hpodneeds, hpodtolerances, hon, hseq⟩ := rd_Placed hr
  exact ⟨hpodcpu, hpodmem⟩
theorem used_I64 {w : World} {xs : List Placed} {A : Option Addr} {c : Nat} {F : List Nat} {nm : ByteArray} {a b : Int} (h : Sl w xs A c F) (hs : sumsR (onL nm xs) = some (a, b)) : I64 a ∧ I64 b :=
  sumsR_I64 (fun p hp => by obtain ⟨q, hq, rfl⟩ := onL_mem hp; exact h.placed_I64 q hq) hs
theorem usedV_some {nm : ByteArray} {xs : List Placed} {a b : Int} (h : sumsR (onL nm xs) = some (a, b)) : usedV nm xs = .tuple #[.int .i64 a, .int .i64 b, .int .i64 (onL nm xs).length, .bool true] := by unfold usedV; rw [h]
theorem usedV_none {nm : ByteArray} {xs : List Placed} (h : sumsR (onL nm xs) = none) : usedV nm xs = .tuple #[.int .i64 0, .int .i64 0, .int .i64 0, .bool false] := by unfold usedV; rw [h]

end Go.Proofs.YtjoclfenghenjaaGreat
