/- laws' comparisons. -/
import Derived.Test.YtegekccoincicaaGreatDoorData
import Derived.Test.YtegekccoincicaaGreatDoorRegion
namespace Go.Proofs.YtegekccoincicaaGreatDoor
open Dat (rd)
open Go.ChangeShapes Go.WideShapes Go.ChangeAt Go.RowKit
set_option linter.unusedVariables false
set_option linter.unusedSimpArgs false

theorem bytes_ext {a b : ByteArray} (h : (a.toList == b.toList) = true) : a = b := by
  have h1 : a.toList = b.toList := by simpa using h
  have h2 : a.data.toList = b.data.toList := by rw [← ByteArray.toList_eq, ← ByteArray.toList_eq]; exact h1
  cases a; cases b; simp_all
def eqStr (a b : ByteArray) : Bool := a.toList == b.toList
def eqInt (a b : Int) : Bool := a == b
theorem eqStr_iff (a b : ByteArray) : eqStr a b = true ↔ a = b := ⟨bytes_ext, fun h => by subst h; simp [eqStr]⟩
/-- two lists are the same -/
def same {α : Type} (eq : α → α → Bool) : List α → List α → Bool
  | [], [] => true
  | a :: l, b :: m => eq a b && same eq l m
  | _, _ => false
theorem same_len {α : Type} {eq : α → α → Bool} : ∀ {l m : List α}, l.length ≠ m.length → same eq l m = false
  | [], [], h => absurd rfl h
  | [], _ :: _, _ => rfl
  | _ :: _, [], _ => rfl
  | a :: l, b :: m, h => by simp only [same]; rw [same_len (l := l) (m := m) (by simpa using h)]; simp
theorem same_take {α : Type} {eq : α → α → Bool} {l m : List α} {k : Nat} (h : k < l.length) (h' : k < m.length) : same eq (l.take (k + 1)) (m.take (k + 1)) = (same eq (l.take k) (m.take k) && eq l[k] m[k]) := by
  induction k generalizing l m with
  | zero =>
    cases l with
    | nil => simp at h
    | cons a l =>
      cases m with
      | nil => simp at h'
      | cons b m => simp [same]
  | succ k ih =>
    cases l with
    | nil => simp at h
    | cons a l =>
      cases m with
      | nil => simp at h'
      | cons b m =>
        simp only [List.take_succ_cons, same]
        rw [ih (by simpa using h) (by simpa using h'), Bool.and_assoc]
        simp
theorem same_drop {α : Type} {eq : α → α → Bool} {l m : List α} (k : Nat) (h : same eq (l.take k) (m.take k) = false) (hl : l.length = m.length) : same eq l m = false := by
  induction k generalizing l m with
  | zero => simp [same] at h
  | succ k ih =>
    cases l <;> cases m <;> simp_all [same]
theorem same_iff {α : Type} {eq : α → α → Bool} (h : ∀ a b, eq a b = true ↔ a = b) : ∀ (l m : List α), same eq l m = true ↔ l = m
  | [], [] => by simp [same]
  | [], _ :: _ => by simp [same]
  | _ :: _, [] => by simp [same]
  | a :: l, b :: m => by simp [same, h, same_iff h l m]
set_option maxHeartbeats 1000000 in
theorem eqStringS_any (xs ys : List ByteArray) (A B : Option Addr) (c d : Nat) (F G : List Nat) (w : World) (h : Sl w xs A c F) (h' : Sl w ys B d G) :
    Calls Tryz.prog 60 #[.slice A xs.length c, .slice B ys.length d] w fun e w' => e = .returned (.bool (same eqStr xs ys)) ∧ Below w.heap.size w w' := by
  have hc := h.cap
  unfold maxLen at hc
  obtain ⟨hc1, hc2⟩ := hc
  have hd := h'.cap
  unfold maxLen at hd
  obtain ⟨hd1, hd2⟩ := hd
  by_cases hl : xs.length = ys.length
  · have HL := Lib.hid hl
    have hb1 : ((xs.length : Int) != (ys.length : Int)) = false := by simp [hl]
    clear hl
    go_enter Tryz.func60, Tryz.ntmps60
    go_wp2
    go_loopw [5] (fun i wr => ∃ k : Nat, k ≤ xs.length ∧ i = .int .i64 k ∧ Hid (same eqStr (xs.take k) (ys.take k) = true) ∧ Below w.heap.size w wr) (fun i _ => xs.length - (intOf i).toNat)
    case atStart => exact ⟨0, Nat.zero_le _, rfl, by show _ = true; simp [same], ext_refl _⟩
    case round =>
      obtain ⟨k, hk, rfl, Heq, hbl⟩ := hrel
      by_cases hlt : k < xs.length
      · obtain ⟨b, o, ck, Fk, rfl, hbF, hbs, hr, hsub, hc⟩ := (h.ext hbl).get hlt
        have hlt' : k < ys.length := by rw [← HL.out]; exact hlt
        obtain ⟨b', o', ck', Fk', rfl, hbF', hbs', hr', hsub', hc'⟩ := (h'.ext hbl).get hlt'
        obtain ⟨rfl, rfl, _⟩ := hr
        obtain ⟨rfl, rfl, _⟩ := hr'
        have q0 : wr.cell? ⟨b, o + k, none⟩ = some (.string xs[k]) := by have := hc 0 _ rfl; simpa [Dat.size] using this
        have p0 : wr.cell? ⟨b', o' + k, none⟩ = some (.string ys[k]) := by have := hc' 0 _ rfl; simpa [Dat.size] using this
        clear hc hc'
        go_wp2_with fail
        refine wp_region_grow wr (by kernel_rfl) (by kernel_rfl) (by first | exact ext_refl _ | assumption) ?_
        repeat (first
          | (apply inText_skip
             case hw => rfl
             simp only [Act.put, List.setIfInBounds_toArray, List.set_cons_zero, List.set_cons_succ])
          | (apply inText_step
             case hw => rfl
             case h =>
               intro wq hq
               have hcq := (cls_cell hq).1
               have hfq := (cls_cell hq).2
               go_simp
               first
                 | exact ⟨hq, rfl⟩
                 | exact ⟨cls_alloc hq _, rfl⟩
                 | (fail)
                 | (simp only [↓IntWalk.iteOmega]; exact ⟨hq, rfl⟩)
             simp only [Act.put, List.setIfInBounds_toArray, List.set_cons_zero, List.set_cons_succ]))
        refine inText_nil ?_
        intro wn hn
        replace hn := hn.out
        go_wp2
        · rename_i hne
          go_ret
          refine ⟨?_, ext_trans hbl hn⟩
          rw [same_drop (k + 1) (by rw [same_take hlt hlt', Heq.out]; simpa [eqStr, eqInt] using hne) HL.out]
          rfl
        · rename_i hne
          exact ⟨⟨k + 1, by omega, by go_num, by show _ = _; rw [same_take hlt hlt', Heq.out]; simpa [eqStr, eqInt] using hne, ext_trans hbl hn⟩, by simp [intOf]; omega⟩
      · have hkl : k = xs.length := by omega
        have HK := Lib.hid hkl
        clear hkl
        go_wp2
        go_ret
        have h1 := Heq.out
        rw [HK.out, List.take_length, HL.out, List.take_length] at h1
        exact ⟨by rw [h1]; rfl, hbl⟩
  · have hb1 : ((xs.length : Int) != (ys.length : Int)) = true := by simp; omega
    have HL := Lib.hid (same_len (eq := eqStr) hl)
    clear hl
    go_enter Tryz.func60, Tryz.ntmps60
    go_wp2
    go_ret
    exact ⟨by rw [HL.out]; rfl, ext_refl _⟩
def eqNeed (a b : Need) : Bool := (a.key.toList == b.key.toList) && (a.op == b.op) && same eqStr a.values b.values
theorem eqNeed_iff (a b : Need) : eqNeed a b = true ↔ a = b := by
  constructor
  · intro h
    simp only [eqNeed, Bool.and_eq_true] at h
    have h0 := bytes_ext h.1.1
    have h1 := eq_of_beq h.1.2
    have h2 := (same_iff eqStr_iff _ _).1 h.2
    cases a; cases b
    simp only at h0 h1 h2
    subst h0 h1 h2
    rfl
  · rintro rfl
    have g2 := (same_iff eqStr_iff a.values a.values).2 rfl
    simp [eqNeed, *]
set_option maxHeartbeats 1000000 in
theorem eqNeed_any (a b : Need) (cs ds : List Value) (F G : List Nat) (w : World) (h : rd w a cs F) (h' : rd w b ds G) :
    Calls Tryz.prog 9 #[.agg cs.toArray, .agg ds.toArray] w fun e w' => e = .returned (.bool (eqNeed a b)) ∧ Below w.heap.size w w' := by
  obtain ⟨_, _, _, _, rfl, rfl, ⟨rfl, rfl, hkey1⟩, _, _, _, _, rfl, rfl, ⟨rfl, rfl, hop1⟩, hvalues1⟩ := h
  obtain ⟨Avalues1, cvalues1, rfl, hvalues1⟩ := rd_list hvalues1
  replace hkey1 := sz63 (s := a.key) hkey1
  replace hop1 : I64 a.op := hop1
  replace hvalues1 : Sl _ a.values Avalues1 cvalues1 _ := hvalues1
  simp only [List.cons_append, List.nil_append]
  obtain ⟨_, _, _, _, rfl, rfl, ⟨rfl, rfl, hkey2⟩, _, _, _, _, rfl, rfl, ⟨rfl, rfl, hop2⟩, hvalues2⟩ := h'
  obtain ⟨Avalues2, cvalues2, rfl, hvalues2⟩ := rd_list hvalues2
  replace hkey2 := sz63 (s := b.key) hkey2
  replace hop2 : I64 b.op := hop2
  replace hvalues2 : Sl _ b.values Avalues2 cvalues2 _ := hvalues2
  simp only [List.cons_append, List.nil_append]
  go_enter Tryz.func9, Tryz.ntmps9
  go_wp2_with (first | (go_at_call 60; refine (eqStringS_any a.values b.values _ _ _ _ _ _ _ (hvalues1.ext (by repeat (first | with_reducible exact ext_refl _ | with_reducible assumption | with_reducible refine ext_alloc ?_ _ | with_reducible refine ext_trans ?_ (by assumption)))) (hvalues2.ext (by repeat (first | with_reducible exact ext_refl _ | with_reducible assumption | with_reducible refine ext_alloc ?_ _ | with_reducible refine ext_trans ?_ (by assumption))))).mono ?_; rintro e w2 ⟨rfl, hb2⟩; obtain ⟨hc2, hf2⟩ := bcell hb2; have hz20 : w.heap.size < w2.heap.size := (by have := hb2.size; (try simp at this); omega); have hz21 : w.heap.size + 1 < w2.heap.size := (by have := hb2.size; (try simp at this); omega)))
  all_goals go_ret
  all_goals refine ⟨?_, by repeat (first | with_reducible exact ext_refl _ | with_reducible assumption | with_reducible refine ext_alloc ?_ _ | with_reducible refine ext_trans ?_ (by assumption))⟩
  all_goals (simp only [Bool.not_eq_true', Bool.not_eq_false', bne_iff_ne, bne_eq_false_iff_eq, beq_iff_eq, beq_eq_false_iff_ne, ne_eq] at *; simp [eqNeed, *])
def eqFault (a b : Fault) : Bool := (a.code == b.code) && (a.at_ == b.at_) && (a.path.toList == b.path.toList)
theorem eqFault_iff (a b : Fault) : eqFault a b = true ↔ a = b := by
  constructor
  · intro h
    simp only [eqFault, Bool.and_eq_true] at h
    have h0 := eq_of_beq h.1.1
    have h1 := eq_of_beq h.1.2
    have h2 := bytes_ext h.2
    cases a; cases b
    simp only at h0 h1 h2
    subst h0 h1 h2
    rfl
  · rintro rfl
    simp [eqFault, *]
set_option maxHeartbeats 1000000 in
theorem eqFault_any (a b : Fault) (cs ds : List Value) (F G : List Nat) (w : World) (h : rd w a cs F) (h' : rd w b ds G) :
    Calls Tryz.prog 10 #[.agg cs.toArray, .agg ds.toArray] w fun e w' => e = .returned (.bool (eqFault a b)) ∧ Below w.heap.size w w' := by
  obtain ⟨_, _, _, _, rfl, rfl, ⟨rfl, rfl, hcode1⟩, _, _, _, _, rfl, rfl, ⟨rfl, rfl, hat_1⟩, ⟨rfl, rfl, hpath1⟩⟩ := h
  replace hcode1 : I64 a.code := hcode1
  replace hat_1 : I64 a.at_ := hat_1
  replace hpath1 := sz63 (s := a.path) hpath1
  simp only [List.cons_append, List.nil_append]
  obtain ⟨_, _, _, _, rfl, rfl, ⟨rfl, rfl, hcode2⟩, _, _, _, _, rfl, rfl, ⟨rfl, rfl, hat_2⟩, ⟨rfl, rfl, hpath2⟩⟩ := h'
  replace hcode2 : I64 b.code := hcode2
  replace hat_2 : I64 b.at_ := hat_2
  replace hpath2 := sz63 (s := b.path) hpath2
  simp only [List.cons_append, List.nil_append]
  go_enter Tryz.func10, Tryz.ntmps10
  go_wp2
  all_goals go_ret
  all_goals refine ⟨?_, by repeat (first | with_reducible exact ext_refl _ | with_reducible assumption | with_reducible refine ext_alloc ?_ _ | with_reducible refine ext_trans ?_ (by assumption))⟩
  all_goals (simp only [Bool.not_eq_true', Bool.not_eq_false', bne_iff_ne, bne_eq_false_iff_eq, beq_iff_eq, beq_eq_false_iff_ne, ne_eq] at *; simp [eqFault, *])
end Go.Proofs.YtegekccoincicaaGreatDoor
