/- The order of strings is a strict total order. No condition. -/
import Derived.Lib.Small
import Derived.Lib.Bytealg
import Derived.Test.YtegekccoincicaaGreatDoorDecS
import Derived.Test.YtegekccoincicaaGreatDoorRegionIx
import Derived.Test.YtegekccoincicaaGreatDoorEq
import Derived.Test.YtegekccoincicaaGreatDoorValsP
import Derived.Test.YtegekccoincicaaGreatDoorSz
namespace Go.Proofs.YtegekccoincicaaGreatDoor
open Dat (rd)
set_option linter.unusedVariables false
set_option linter.unusedSimpArgs false
theorem bl_irr : ∀ a : List UInt8, Op.bytesLess a a = false
  | [] => rfl
  | x :: a => by
    unfold Op.bytesLess
    have ih := bl_irr a
    have h : decide (x < x) = false := by simp
    simp [ih]
theorem bl_cons (x y : UInt8) (a b : List UInt8) : Op.bytesLess (x :: a) (y :: b) = true ↔ x < y ∨ (x = y ∧ Op.bytesLess a b = true) := by
  conv => lhs; unfold Op.bytesLess
  simp
theorem bl_tr : ∀ a b c : List UInt8, Op.bytesLess a b = true → Op.bytesLess b c = true → Op.bytesLess a c = true
  | [], [], _, h, _ => by simp [Op.bytesLess] at h
  | [], _ :: _, [], _, h => by simp [Op.bytesLess] at h
  | [], _ :: _, _ :: _, _, _ => by simp [Op.bytesLess]
  | _ :: _, [], _, h, _ => by simp [Op.bytesLess] at h
  | _ :: _, _ :: _, [], _, h => by simp [Op.bytesLess] at h
  | x :: a, y :: b, z :: c, h1, h2 => by
    rw [bl_cons] at h1 h2 ⊢
    rcases h1 with h1 | ⟨rfl, h1⟩
    · rcases h2 with h2 | ⟨rfl, h2⟩
      · exact .inl (UInt8.lt_trans h1 h2)
      · exact .inl h1
    · rcases h2 with h2 | ⟨rfl, h2⟩
      · exact .inl h2
      · exact .inr ⟨rfl, bl_tr a b c h1 h2⟩
theorem bl_tot : ∀ a b : List UInt8, Op.bytesLess a b = false → Op.bytesLess b a = false → a = b
  | [], [], _, _ => rfl
  | [], _ :: _, h, _ => by simp [Op.bytesLess] at h
  | _ :: _, [], _, h => by simp [Op.bytesLess] at h
  | x :: a, y :: b, h1, h2 => by
    have e1 : ¬ (x < y ∨ (x = y ∧ Op.bytesLess a b = true)) := by rw [← bl_cons, h1]; simp
    have e2 : ¬ (y < x ∨ (y = x ∧ Op.bytesLess b a = true)) := by rw [← bl_cons, h2]; simp
    have hxy : x = y := UInt8.le_antisymm (UInt8.not_lt.1 fun h => e2 (.inl h)) (UInt8.not_lt.1 fun h => e1 (.inl h))
    subst hxy
    rw [bl_tot a b (by cases h : Op.bytesLess a b; rfl; exact absurd (.inr ⟨rfl, h⟩) e1) (by cases h : Op.bytesLess b a; rfl; exact absurd (.inr ⟨rfl, h⟩) e2)]
end Go.Proofs.YtegekccoincicaaGreatDoor
namespace Go.Proofs.YtegekccoincicaaGreatDoor
open Dat (rd)
open Go.ChangeShapes Go.WideShapes Go.ChangeAt Go.RowKit
set_option linter.unusedVariables false
set_option linter.unusedSimpArgs false

theorem rd_ext {α : Type} [Dat α] {w w' : World} {x : α} {cs : List Value} {F : List Nat} (h : rd w x cs F) (hb : Below w.heap.size w w') : rd w' x cs F :=
  Dat.frame h (fun b hb' => hb.block b (Dat.lt h b hb')) hb.size
end Go.Proofs.YtegekccoincicaaGreatDoor
namespace Go.Proofs.YtegekccoincicaaGreatDoor
open Dat (rd)
open Go.ChangeShapes Go.WideShapes Go.ChangeAt Go.RowKit
set_option linter.unusedVariables false
set_option linter.unusedSimpArgs false

/-- the first place, or -1 -/
def idxI {α : Type} (p : α → Bool) : List α → Int
  | [] => -1
  | x :: xs => if p x then 0 else if idxI p xs < 0 then -1 else idxI p xs + 1
theorem idxI_none {α : Type} {p : α → Bool} : ∀ {xs : List α}, (∀ x ∈ xs, p x = false) → idxI p xs = -1
  | [], _ => rfl
  | x :: xs, h => by
    have h1 := h x (List.mem_cons_self ..)
    have h2 := idxI_none (xs := xs) fun y hy => h y (List.mem_cons_of_mem _ hy)
    simp [idxI, h1, h2]
theorem idxI_found {α : Type} {p : α → Bool} : ∀ {xs : List α} {k : Nat} (hk : k < xs.length), (∀ x ∈ xs.take k, p x = false) → p xs[k] = true → idxI p xs = k
  | x :: xs, 0, _, _, h => by simp at h; simp [idxI, h]
  | x :: xs, k + 1, hk, hb, h => by
    have h1 := hb x (by simp)
    have h2 := idxI_found (xs := xs) (k := k) (by simpa using hk) (fun y hy => hb y (by simp [hy])) (by simpa using h)
    simp only [idxI, h1, h2]
    rw [if_neg (by simp), if_neg (by omega)]
    omega
theorem take_none {α : Type} {p : α → Bool} {xs : List α} {k : Nat} (hk : k < xs.length) (h : ∀ x ∈ xs.take k, p x = false) (hx : p xs[k] = false) : ∀ x ∈ xs.take (k + 1), p x = false := by
  rw [List.take_succ_eq_append_getElem hk]
  intro x hm
  rcases List.mem_append.1 hm with hm | hm
  · exact h x hm
  · simp at hm; subst hm; exact hx
theorem idxI_lt {α : Type} {p : α → Bool} : ∀ (xs : List α), -1 ≤ idxI p xs ∧ idxI p xs < xs.length
  | [] => by simp [idxI]
  | x :: xs => by
    have := idxI_lt (p := p) xs
    simp only [idxI, List.length_cons]
    split
    · omega
    · split <;> omega

end Go.Proofs.YtegekccoincicaaGreatDoor
namespace Go.Proofs.YtegekccoincicaaGreatDoor
open Dat (rd)
open Go.ChangeShapes Go.WideShapes Go.ChangeAt Go.RowKit
set_option linter.unusedVariables false
set_option linter.unusedSimpArgs false

def blt (x y : ByteArray) : Bool := Op.bytesLess x.toList y.toList
theorem totB : Tot blt := ⟨fun x => bl_irr _, fun x y z => bl_tr _ _ _, fun x y h1 h2 => bytes_ext (by rw [beq_iff_eq]; exact bl_tot _ _ h1 h2)⟩
/-- the texts in order, each once -/
def valsR (xs : List ByteArray) : List ByteArray := uniqL blt [] xs
theorem valsR_len (xs : List ByteArray) : (valsR xs).length ≤ xs.length := by have := uniqL_len blt xs []; unfold valsR; simpa using this
theorem valsR_mem {xs : List ByteArray} {z : ByteArray} (h : z ∈ valsR xs) : z ∈ xs := by
  rcases (uniqL_mem totB z xs []).1 h with h | h
  · cases h
  · exact h
end Go.Proofs.YtegekccoincicaaGreatDoor
namespace Go.Proofs.YtegekccoincicaaGreatDoor
open Dat (rd)
open Go.ChangeShapes Go.WideShapes Go.ChangeAt Go.RowKit
set_option linter.unusedVariables false
set_option linter.unusedSimpArgs false

/-- whether a string is among some -/
def hasR (s : ByteArray) (xs : List ByteArray) : Bool := xs.any fun v => v.toList == s.toList
theorem hasR_yes {s : ByteArray} {xs : List ByteArray} {k : Nat} (hk : k < xs.length) (hp : (xs[k].toList == s.toList) = true) : hasR s xs = true := by
  unfold hasR; rw [List.any_eq_true]; exact ⟨xs[k], List.getElem_mem .., hp⟩
theorem hasR_no {s : ByteArray} {xs : List ByteArray} (hn : ∀ v ∈ xs, (v.toList == s.toList) = false) : hasR s xs = false := by
  unfold hasR; rw [List.any_eq_false]; intro v hv; simp [hn v hv]
theorem idxI_has (s : ByteArray) (xs : List ByteArray) : hasR s xs = decide (0 ≤ idxI (fun v => v.toList == s.toList) xs) := by
  unfold hasR
  induction xs with
  | nil => rfl
  | cons x xs ih =>
    simp only [List.any_cons, idxI, ih]
    by_cases hp : (x.toList == s.toList) = true
    · simp [hp]
    · simp only [Bool.not_eq_true] at hp
      simp only [hp, Bool.false_or, if_neg (show ¬ false = true by simp)]
      rw [Bool.eq_iff_iff, decide_eq_true_eq, decide_eq_true_eq]
      split <;> omega
set_option maxHeartbeats 1000000 in
theorem Index_any (xs : List ByteArray) (s : ByteArray) (A : Option Addr) (n c : Nat) (F : List Nat) (w : World) (h : Sl w xs A c F) (hn : n = xs.length) (hl : (xs.length : Int) ≤ 1048576) :
    Calls Tryz.prog 153 #[.slice A n c, .string s] w fun e w' => e = .returned (.int .i64 (idxI (fun v : ByteArray => v.toList == s.toList) xs)) ∧ Below w.heap.size w w' := by
  subst hn
  go_enter Tryz.func153, Tryz.ntmps153
  go_wp2_with fail
  go_loopw [8] (fun i wr => ∃ k : Nat, k ≤ xs.length ∧ i = .int .i64 k ∧ Hid (∀ v ∈ xs.take k, (v.toList == s.toList) = false) ∧ Below w.heap.size w wr) (fun i _ => xs.length - (intOf i).toNat)
  case atStart => exact ⟨0, Nat.zero_le _, rfl, by show ∀ _, _; simp, (by repeat (first | with_reducible exact ext_refl _ | with_reducible assumption | with_reducible refine ext_alloc ?_ _ | with_reducible refine ext_trans ?_ (by assumption)))⟩
  case round =>
    obtain ⟨k, hk, rfl, HN, hbl⟩ := hrel
    by_cases hlt : k < xs.length
    · obtain ⟨b, o, ck, Fk, rfl, hbF, hbs, hr, hsub, hc⟩ := (Sl.ext (w' := wr) (A := A) (c := c) h hbl).get hlt
      obtain ⟨hck, hFk, hsz⟩ := hr
      subst hck hFk
      have q0 : wr.cell? ⟨b, o + k, none⟩ = some (.string xs[k]) := by have := hc 0 _ rfl; rwa [show o + (k * Dat.size ByteArray + 0) = o + k from by show o + (k * 1 + 0) = _; omega] at this
      clear hc
      cases hp : (xs[k].toList == s.toList) with
      | true =>
        have hp2 : (s.toList == xs[k].toList) = true := by rw [BEq.comm]; exact hp
        have HF := Lib.hid (idxI_found (p := fun v : ByteArray => v.toList == s.toList) hlt HN.out hp)
        go_wp2
        go_ret
        exact ⟨by rw [HF.out]; rfl, (by repeat (first | with_reducible exact ext_refl _ | with_reducible assumption | with_reducible refine ext_alloc ?_ _ | with_reducible refine ext_trans ?_ (by assumption)))⟩
      | false =>
        have hp2 : (s.toList == xs[k].toList) = false := by rw [BEq.comm]; exact hp
        have HN2 := Lib.hid (take_none (p := fun v : ByteArray => v.toList == s.toList) hlt HN.out hp)
        go_wp2
        exact ⟨⟨k + 1, by omega, by go_num, HN2.out, (by repeat (first | with_reducible exact ext_refl _ | with_reducible assumption | with_reducible refine ext_alloc ?_ _ | with_reducible refine ext_trans ?_ (by assumption)))⟩, by simp [intOf]; omega⟩
    · have hkl : k = xs.length := by omega
      subst hkl
      have hn := HN.out
      rw [List.take_length] at hn
      have HF := Lib.hid (idxI_none (p := fun v : ByteArray => v.toList == s.toList) hn)
      clear hn
      go_wp2
      go_ret
      exact ⟨by rw [HF.out]; rfl, (by repeat (first | with_reducible exact ext_refl _ | with_reducible assumption | with_reducible refine ext_alloc ?_ _ | with_reducible refine ext_trans ?_ (by assumption)))⟩
set_option maxRecDepth 100000 in
set_option maxHeartbeats 1000000 in
theorem Contains_any (xs : List ByteArray) (s : ByteArray) (A : Option Addr) (n c : Nat) (F : List Nat) (w : World) (h : Sl w xs A c F) (hn : n = xs.length) (hl : (xs.length : Int) ≤ 1048576) :
    Calls Tryz.prog 121 #[.slice A n c, .string s] w fun e w' => e = .returned (.bool (hasR s xs)) ∧ Below w.heap.size w w' := by
  subst hn
  have hab := idxI_has s xs
  have hix := Index_any xs s A _ c F w h rfl hl
  generalize idxI (fun v : ByteArray => v.toList == s.toList) xs = z at hab hix
  rw [hab]
  clear hab
  go_enter Tryz.func121, Tryz.ntmps121
  go_wp2_with fail
  refine hix.mono ?_
  rintro e w2 ⟨rfl, hb2⟩
  go_wp2
  go_ret
  exact ⟨rfl, hb2⟩
set_option maxHeartbeats 1000000 in
theorem l15Has_any (xs : List ByteArray) (s : ByteArray) (A : Option Addr) (n c : Nat) (F : List Nat) (w : World) (h : Sl w xs A c F) (hn : n = xs.length) (hl : (xs.length : Int) ≤ 1048576) :
    Calls Tryz.prog 83 #[.slice A n c, .string s] w fun e w' => e = .returned (.bool (hasR s xs)) ∧ Below w.heap.size w w' := by
  subst hn
  go_enter Tryz.func83, Tryz.ntmps83
  go_wp2_with fail
  go_loopw [5] (fun i wr => ∃ k : Nat, k ≤ xs.length ∧ i = .int .i64 k ∧ Hid (∀ v ∈ xs.take k, (v.toList == s.toList) = false) ∧ Below w.heap.size w wr) (fun i _ => xs.length - (intOf i).toNat)
  case atStart => exact ⟨0, Nat.zero_le _, rfl, by show ∀ _, _; simp, (by repeat (first | with_reducible exact ext_refl _ | with_reducible assumption | with_reducible refine ext_alloc ?_ _ | with_reducible refine ext_trans ?_ (by assumption)))⟩
  case round =>
    obtain ⟨k, hk, rfl, HN, hbl⟩ := hrel
    by_cases hlt : k < xs.length
    · obtain ⟨b, o, ck, Fk, rfl, hbF, hbs, hr, hsub, hc⟩ := (Sl.ext (w' := wr) (A := A) (c := c) h hbl).get hlt
      obtain ⟨hck, hFk, hsz⟩ := hr
      subst hck hFk
      have q0 : wr.cell? ⟨b, o + k, none⟩ = some (.string xs[k]) := by have := hc 0 _ rfl; rwa [show o + (k * Dat.size ByteArray + 0) = o + k from by show o + (k * 1 + 0) = _; omega] at this
      clear hc
      cases hp : (xs[k].toList == s.toList) with
      | true =>
        have hp2 : (s.toList == xs[k].toList) = true := by rw [BEq.comm]; exact hp
        have HF := Lib.hid (hasR_yes hlt hp)
        go_wp2
        go_ret
        exact ⟨by rw [HF.out]; rfl, (by repeat (first | with_reducible exact ext_refl _ | with_reducible assumption | with_reducible refine ext_alloc ?_ _ | with_reducible refine ext_trans ?_ (by assumption)))⟩
      | false =>
        have hp2 : (s.toList == xs[k].toList) = false := by rw [BEq.comm]; exact hp
        have HN2 := Lib.hid (take_none (p := fun v : ByteArray => v.toList == s.toList) hlt HN.out hp)
        go_wp2
        exact ⟨⟨k + 1, by omega, by go_num, HN2.out, (by repeat (first | with_reducible exact ext_refl _ | with_reducible assumption | with_reducible refine ext_alloc ?_ _ | with_reducible refine ext_trans ?_ (by assumption)))⟩, by simp [intOf]; omega⟩
    · have hkl : k = xs.length := by omega
      subst hkl
      have hn := HN.out
      rw [List.take_length] at hn
      have HF := Lib.hid (hasR_no hn)
      clear hn
      go_wp2
      go_ret
      exact ⟨by rw [HF.out]; rfl, (by repeat (first | with_reducible exact ext_refl _ | with_reducible assumption | with_reducible refine ext_alloc ?_ _ | with_reducible refine ext_trans ?_ (by assumption)))⟩

end Go.Proofs.YtegekccoincicaaGreatDoor
