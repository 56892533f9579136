/- laws' comparisons. -/
import Derived.Test.YtjoclfenghenjaaData
import Derived.Test.YtjoclfenghenjaaRegion
namespace Go.Proofs.Ytjoclfenghenjaa
open Go.ChangeShapes Go.WideShapes Go.ChangeAt Go.RowKit
set_option linter.unusedVariables false
set_option linter.unusedSimpArgs false

theorem bytes_ext {a b : ByteArray} (h : (a.toList == b.toList) = true) : a = b := by
  have h1 : a.toList = b.toList := by simpa using h
  have h2 : a.data.toList = b.data.toList := by rw [← ByteArray.toList_eq, ← ByteArray.toList_eq]; exact h1
  cases a; cases b; simp_all
def eqStr (a b : ByteArray) : Bool := a.toList == b.toList
def eqInt (a b : Int) : Bool := a == b
theorem eqStr_iff (a b : ByteArray) : eqStr a b = true ↔ a = b := ⟨bytes_ext, fun h => by subst h; simp [eqStr]⟩
theorem eqInt_iff (a b : Int) : eqInt a b = true ↔ a = b := by simp [eqInt]
/-- two lists are the same -/
def same {α : Type} (eq : α → α → Bool) : List α → List α → Bool
  | [], [] => true
  | a :: l, b :: m => eq a b && same eq l m
  | _, _ => false
theorem same_len {α : Type} {eq : α → α → Bool} : ∀ {l m : List α}, l.length ≠ m.length → same eq l m = false
  | [], [], h => absurd rfl h
  | [], _ :: _, _ => rfl
  | _ :: _, [], _ => rfl
  | a :: l, b :: m, h => by simp only [same]; rw [same_len (l := l) (m := m) (by simpa using h)]; simp
theorem same_take {α : Type} {eq : α → α → Bool} {l m : List α} {k : Nat} (h : k < l.length) (h' : k < m.length) : same eq (l.take (k + 1)) (m.take (k + 1)) = (same eq (l.take k) (m.take k) && eq l[k] m[k]) := by
  induction k generalizing l m with
  | zero =>
    cases l with
    | nil => simp at h
    | cons a l =>
      cases m with
      | nil => simp at h'
      | cons b m => simp [same]
  | succ k ih =>
    cases l with
    | nil => simp at h
    | cons a l =>
      cases m with
      | nil => simp at h'
      | cons b m =>
        simp only [List.take_succ_cons, same]
        rw [ih (by simpa using h) (by simpa using h'), Bool.and_assoc]
        simp
theorem same_drop {α : Type} {eq : α → α → Bool} {l m : List α} (k : Nat) (h : same eq (l.take k) (m.take k) = false) (hl : l.length = m.length) : same eq l m = false := by
  induction k generalizing l m with
  | zero => simp [same] at h
  | succ k ih =>
    cases l <;> cases m <;> simp_all [same]
theorem same_iff {α : Type} {eq : α → α → Bool} (h : ∀ a b, eq a b = true ↔ a = b) : ∀ (l m : List α), same eq l m = true ↔ l = m
  | [], [] => by simp [same]
  | [], _ :: _ => by simp [same]
  | _ :: _, [] => by simp [same]
  | a :: l, b :: m => by simp [same, h, same_iff h l m]
set_option maxHeartbeats 1000000 in
theorem eqStringS_any (xs ys : List ByteArray) (A B : Option Addr) (c d : Nat) (F G : List Nat) (w : World) (h : Sl w xs A c F) (h' : Sl w ys B d G) :
    Calls Try.prog 8 #[.slice A xs.length c, .slice B ys.length d] w fun e w' => e = .returned (.bool (same eqStr xs ys)) ∧ Below w.heap.size w w' := by
  have hc := h.cap
  unfold maxLen at hc
  obtain ⟨hc1, hc2⟩ := hc
  have hd := h'.cap
  unfold maxLen at hd
  obtain ⟨hd1, hd2⟩ := hd
  by_cases hl : xs.length = ys.length
  · have HL := Lib.hid hl
    have hb1 : ((xs.length : Int) != (ys.length : Int)) = false := by simp [hl]
    clear hl
    go_enter Try.func8, Try.ntmps8
    go_wp2
    go_loopw [5] (fun i wr => ∃ k : Nat, k ≤ xs.length ∧ i = .int .i64 k ∧ Hid (same eqStr (xs.take k) (ys.take k) = true) ∧ Below w.heap.size w wr) (fun i _ => xs.length - (intOf i).toNat)
    case atStart => exact ⟨0, Nat.zero_le _, rfl, by show _ = true; simp [same], ext_refl _⟩
    case round =>
      obtain ⟨k, hk, rfl, Heq, hbl⟩ := hrel
      by_cases hlt : k < xs.length
      · obtain ⟨b, o, ck, Fk, rfl, hbF, hbs, hr, hsub, hc⟩ := (h.ext hbl).get hlt
        have hlt' : k < ys.length := by rw [← HL.out]; exact hlt
        obtain ⟨b', o', ck', Fk', rfl, hbF', hbs', hr', hsub', hc'⟩ := (h'.ext hbl).get hlt'
        obtain ⟨rfl, rfl, _⟩ := hr
        obtain ⟨rfl, rfl, _⟩ := hr'
        have q0 : wr.cell? ⟨b, o + k, none⟩ = some (.string xs[k]) := by have := hc 0 _ rfl; simpa [Dat.size] using this
        have p0 : wr.cell? ⟨b', o' + k, none⟩ = some (.string ys[k]) := by have := hc' 0 _ rfl; simpa [Dat.size] using this
        clear hc hc'
        go_wp2_with fail
        refine wp_region_grow wr (by kernel_rfl) (by kernel_rfl) (by first | exact ext_refl _ | assumption) ?_
        repeat (first
          | (apply inText_skip
             case hw => rfl
             simp only [Act.put, List.setIfInBounds_toArray, List.set_cons_zero, List.set_cons_succ])
          | (apply inText_step
             case hw => rfl
             case h =>
               intro wq hq
               have hcq := (cls_cell hq).1
               have hfq := (cls_cell hq).2
               go_simp
               first
                 | exact ⟨hq, rfl⟩
                 | exact ⟨cls_alloc hq _, rfl⟩
                 | (fail)
                 | (simp only [↓IntWalk.iteOmega]; exact ⟨hq, rfl⟩)
             simp only [Act.put, List.setIfInBounds_toArray, List.set_cons_zero, List.set_cons_succ]))
        refine inText_nil ?_
        intro wn hn
        replace hn := hn.out
        go_wp2
        · rename_i hne
          go_ret
          refine ⟨?_, ext_trans hbl hn⟩
          rw [same_drop (k + 1) (by rw [same_take hlt hlt', Heq.out]; simpa [eqStr, eqInt] using hne) HL.out]
          rfl
        · rename_i hne
          exact ⟨⟨k + 1, by omega, by go_num, by show _ = _; rw [same_take hlt hlt', Heq.out]; simpa [eqStr, eqInt] using hne, ext_trans hbl hn⟩, by simp [intOf]; omega⟩
      · have hkl : k = xs.length := by omega
        have HK := Lib.hid hkl
        clear hkl
        go_wp2
        go_ret
        have h1 := Heq.out
        rw [HK.out, List.take_length, HL.out, List.take_length] at h1
        exact ⟨by rw [h1]; rfl, hbl⟩
  · have hb1 : ((xs.length : Int) != (ys.length : Int)) = true := by simp; omega
    have HL := Lib.hid (same_len (eq := eqStr) hl)
    clear hl
    go_enter Try.func8, Try.ntmps8
    go_wp2
    go_ret
    exact ⟨by rw [HL.out]; rfl, ext_refl _⟩
def eqLabel (a b : Label) : Bool := (a.key.toList == b.key.toList) && (a.value.toList == b.value.toList)
theorem eqLabel_iff (a b : Label) : eqLabel a b = true ↔ a = b := by
  constructor
  · intro h
    simp only [eqLabel, Bool.and_eq_true] at h
    have h0 := bytes_ext h.1
    have h1 := bytes_ext h.2
    cases a; cases b
    simp only at h0 h1
    subst h0 h1
    rfl
  · rintro rfl
    simp [eqLabel, *]
set_option maxHeartbeats 1000000 in
theorem eqLabel_any (a b : Label) (cs ds : List Value) (F G : List Nat) (w : World) (h : rd w a cs F) (h' : rd w b ds G) :
    Calls Try.prog 61 #[.agg cs.toArray, .agg ds.toArray] w fun e w' => e = .returned (.bool (eqLabel a b)) ∧ Below w.heap.size w w' := by
  obtain ⟨_, _, _, _, rfl, rfl, ⟨rfl, rfl, hkey1⟩, ⟨rfl, rfl, hvalue1⟩⟩ := h
  replace hkey1 := sz63 (s := a.key) hkey1
  replace hvalue1 := sz63 (s := a.value) hvalue1
  simp only [List.cons_append, List.nil_append]
  obtain ⟨_, _, _, _, rfl, rfl, ⟨rfl, rfl, hkey2⟩, ⟨rfl, rfl, hvalue2⟩⟩ := h'
  replace hkey2 := sz63 (s := b.key) hkey2
  replace hvalue2 := sz63 (s := b.value) hvalue2
  simp only [List.cons_append, List.nil_append]
  go_enter Try.func61, Try.ntmps61
  go_wp2
  all_goals go_ret
  all_goals refine ⟨?_, by repeat (first | with_reducible exact ext_refl _ | with_reducible assumption | with_reducible refine ext_alloc ?_ _ | with_reducible refine ext_trans ?_ (by assumption))⟩
  all_goals (simp only [Bool.not_eq_true', Bool.not_eq_false', bne_iff_ne, bne_eq_false_iff_eq, beq_iff_eq, beq_eq_false_iff_ne, ne_eq] at *; simp [eqLabel, *])
set_option maxHeartbeats 1000000 in
theorem eqLabelS_any (xs ys : List Label) (A B : Option Addr) (c d : Nat) (F G : List Nat) (w : World) (h : Sl w xs A c F) (h' : Sl w ys B d G) :
    Calls Try.prog 49 #[.slice A xs.length c, .slice B ys.length d] w fun e w' => e = .returned (.bool (same eqLabel xs ys)) ∧ Below w.heap.size w w' := by
  have hc := h.cap
  unfold maxLen at hc
  obtain ⟨hc1, hc2⟩ := hc
  have hd := h'.cap
  unfold maxLen at hd
  obtain ⟨hd1, hd2⟩ := hd
  by_cases hl : xs.length = ys.length
  · have HL := Lib.hid hl
    have hb1 : ((xs.length : Int) != (ys.length : Int)) = false := by simp [hl]
    clear hl
    go_enter Try.func49, Try.ntmps49
    go_wp2
    go_loopw [5] (fun i wr => ∃ k : Nat, k ≤ xs.length ∧ i = .int .i64 k ∧ Hid (same eqLabel (xs.take k) (ys.take k) = true) ∧ Below w.heap.size w wr) (fun i _ => xs.length - (intOf i).toNat)
    case atStart => exact ⟨0, Nat.zero_le _, rfl, by show _ = true; simp [same], ext_refl _⟩
    case round =>
      obtain ⟨k, hk, rfl, Heq, hbl⟩ := hrel
      by_cases hlt : k < xs.length
      · obtain ⟨b, o, ck, Fk, rfl, hbF, hbs, hr, hsub, hc⟩ := (h.ext hbl).get hlt
        have hlt' : k < ys.length := by rw [← HL.out]; exact hlt
        obtain ⟨b', o', ck', Fk', rfl, hbF', hbs', hr', hsub', hc'⟩ := (h'.ext hbl).get hlt'
        obtain ⟨hck, rfl, hkey1, hvalue1⟩ := rd_Label hr
        subst hck
        obtain ⟨hck, rfl, hkey2, hvalue2⟩ := rd_Label hr'
        subst hck
        have q0 : wr.cell? ⟨b, o + k * 2, none⟩ = some (.string xs[k].key) := by exact hc 0 _ rfl
        have q1 : wr.cell? ⟨b, o + k * 2 + 1, none⟩ = some (.string xs[k].value) := by rw [Nat.add_assoc]; exact hc 1 _ rfl
        have p0 : wr.cell? ⟨b', o' + k * 2, none⟩ = some (.string ys[k].key) := by exact hc' 0 _ rfl
        have p1 : wr.cell? ⟨b', o' + k * 2 + 1, none⟩ = some (.string ys[k].value) := by rw [Nat.add_assoc]; exact hc' 1 _ rfl
        clear hc hc'
        go_wp2_with fail
        refine wp_region_grow wr (by kernel_rfl) (by kernel_rfl) (by first | exact ext_refl _ | assumption) ?_
        repeat (first
          | (apply inText_skip
             case hw => rfl
             simp only [Act.put, List.setIfInBounds_toArray, List.set_cons_zero, List.set_cons_succ])
          | (apply inText_step
             case hw => rfl
             case h =>
               intro wq hq
               have hcq := (cls_cell hq).1
               have hfq := (cls_cell hq).2
               go_simp
               first
                 | exact ⟨hq, rfl⟩
                 | exact ⟨cls_alloc hq _, rfl⟩
                 | (refine (eqLabel_any xs[k] ys[k] _ _ _ _ _ (Dat.frame hr (fun x hx => hq.out.block x (Dat.lt hr x hx)) hq.out.size) (Dat.frame hr' (fun x hx => hq.out.block x (Dat.lt hr' x hx)) hq.out.size)).mono ?_; rintro e w2 ⟨rfl, hb2⟩; exact ⟨rfl, cls_trans hq hb2⟩)
                 | (simp only [↓IntWalk.iteOmega]; exact ⟨hq, rfl⟩)
             simp only [Act.put, List.setIfInBounds_toArray, List.set_cons_zero, List.set_cons_succ]))
        refine inText_nil ?_
        intro wn hn
        replace hn := hn.out
        go_wp2
        · rename_i hne
          go_ret
          refine ⟨?_, ext_trans hbl hn⟩
          rw [same_drop (k + 1) (by rw [same_take hlt hlt', Heq.out]; simpa [eqStr, eqInt] using hne) HL.out]
          rfl
        · rename_i hne
          exact ⟨⟨k + 1, by omega, by go_num, by show _ = _; rw [same_take hlt hlt', Heq.out]; simpa [eqStr, eqInt] using hne, ext_trans hbl hn⟩, by simp [intOf]; omega⟩
      · have hkl : k = xs.length := by omega
        have HK := Lib.hid hkl
        clear hkl
        go_wp2
        go_ret
        have h1 := Heq.out
        rw [HK.out, List.take_length, HL.out, List.take_length] at h1
        exact ⟨by rw [h1]; rfl, hbl⟩
  · have hb1 : ((xs.length : Int) != (ys.length : Int)) = true := by simp; omega
    have HL := Lib.hid (same_len (eq := eqLabel) hl)
    clear hl
    go_enter Try.func49, Try.ntmps49
    go_wp2
    go_ret
    exact ⟨by rw [HL.out]; rfl, ext_refl _⟩
def eqNeed (a b : Need) : Bool := (a.key.toList == b.key.toList) && (a.op == b.op) && same eqStr a.values b.values
theorem eqNeed_iff (a b : Need) : eqNeed a b = true ↔ a = b := by
  constructor
  · intro h
    simp only [eqNeed, Bool.and_eq_true] at h
    have h0 := bytes_ext h.1.1
    have h1 := eq_of_beq h.1.2
    have h2 := (same_iff eqStr_iff _ _).1 h.2
    cases a; cases b
    simp only at h0 h1 h2
    subst h0 h1 h2
    rfl
  · rintro rfl
    have g2 := (same_iff eqStr_iff a.values a.values).2 rfl
    simp [eqNeed, *]
set_option maxHeartbeats 1000000 in
theorem eqNeed_any (a b : Need) (cs ds : List Value) (F G : List Nat) (w : World) (h : rd w a cs F) (h' : rd w b ds G) :
    Calls Try.prog 70 #[.agg cs.toArray, .agg ds.toArray] w fun e w' => e = .returned (.bool (eqNeed a b)) ∧ Below w.heap.size w w' := by
  obtain ⟨_, _, _, _, rfl, rfl, ⟨rfl, rfl, hkey1⟩, _, _, _, _, rfl, rfl, ⟨rfl, rfl, hop1⟩, hvalues1⟩ := h
  obtain ⟨Avalues1, cvalues1, rfl, hvalues1⟩ := rd_list hvalues1
  replace hkey1 := sz63 (s := a.key) hkey1
  replace hop1 : I64 a.op := hop1
  replace hvalues1 : Sl _ a.values Avalues1 cvalues1 _ := hvalues1
  simp only [List.cons_append, List.nil_append]
  obtain ⟨_, _, _, _, rfl, rfl, ⟨rfl, rfl, hkey2⟩, _, _, _, _, rfl, rfl, ⟨rfl, rfl, hop2⟩, hvalues2⟩ := h'
  obtain ⟨Avalues2, cvalues2, rfl, hvalues2⟩ := rd_list hvalues2
  replace hkey2 := sz63 (s := b.key) hkey2
  replace hop2 : I64 b.op := hop2
  replace hvalues2 : Sl _ b.values Avalues2 cvalues2 _ := hvalues2
  simp only [List.cons_append, List.nil_append]
  go_enter Try.func70, Try.ntmps70
  go_wp2_with (first | (go_at_call 8; refine (eqStringS_any a.values b.values _ _ _ _ _ _ _ (hvalues1.ext (by repeat (first | with_reducible exact ext_refl _ | with_reducible assumption | with_reducible refine ext_alloc ?_ _ | with_reducible refine ext_trans ?_ (by assumption)))) (hvalues2.ext (by repeat (first | with_reducible exact ext_refl _ | with_reducible assumption | with_reducible refine ext_alloc ?_ _ | with_reducible refine ext_trans ?_ (by assumption))))).mono ?_; rintro e w2 ⟨rfl, hb2⟩; obtain ⟨hc2, hf2⟩ := bcell hb2; have hz20 : w.heap.size < w2.heap.size := (by have := hb2.size; (try simp at this); omega); have hz21 : w.heap.size + 1 < w2.heap.size := (by have := hb2.size; (try simp at this); omega)))
  all_goals go_ret
  all_goals refine ⟨?_, by repeat (first | with_reducible exact ext_refl _ | with_reducible assumption | with_reducible refine ext_alloc ?_ _ | with_reducible refine ext_trans ?_ (by assumption))⟩
  all_goals (simp only [Bool.not_eq_true', Bool.not_eq_false', bne_iff_ne, bne_eq_false_iff_eq, beq_iff_eq, beq_eq_false_iff_ne, ne_eq] at *; simp [eqNeed, *])
set_option maxHeartbeats 1000000 in
theorem eqNeedS_any (xs ys : List Need) (A B : Option Addr) (c d : Nat) (F G : List Nat) (w : World) (h : Sl w xs A c F) (h' : Sl w ys B d G) :
    Calls Try.prog 63 #[.slice A xs.length c, .slice B ys.length d] w fun e w' => e = .returned (.bool (same eqNeed xs ys)) ∧ Below w.heap.size w w' := by
  have hc := h.cap
  unfold maxLen at hc
  obtain ⟨hc1, hc2⟩ := hc
  have hd := h'.cap
  unfold maxLen at hd
  obtain ⟨hd1, hd2⟩ := hd
  by_cases hl : xs.length = ys.length
  · have HL := Lib.hid hl
    have hb1 : ((xs.length : Int) != (ys.length : Int)) = false := by simp [hl]
    clear hl
    go_enter Try.func63, Try.ntmps63
    go_wp2
    go_loopw [5] (fun i wr => ∃ k : Nat, k ≤ xs.length ∧ i = .int .i64 k ∧ Hid (same eqNeed (xs.take k) (ys.take k) = true) ∧ Below w.heap.size w wr) (fun i _ => xs.length - (intOf i).toNat)
    case atStart => exact ⟨0, Nat.zero_le _, rfl, by show _ = true; simp [same], ext_refl _⟩
    case round =>
      obtain ⟨k, hk, rfl, Heq, hbl⟩ := hrel
      by_cases hlt : k < xs.length
      · obtain ⟨b, o, ck, Fk, rfl, hbF, hbs, hr, hsub, hc⟩ := (h.ext hbl).get hlt
        have hlt' : k < ys.length := by rw [← HL.out]; exact hlt
        obtain ⟨b', o', ck', Fk', rfl, hbF', hbs', hr', hsub', hc'⟩ := (h'.ext hbl).get hlt'
        obtain ⟨Avalues1, cvalues1, Fvalues1, hck, rfl, hkey1, hop1, hvalues1⟩ := rd_Need hr
        subst hck
        obtain ⟨Avalues2, cvalues2, Fvalues2, hck, rfl, hkey2, hop2, hvalues2⟩ := rd_Need hr'
        subst hck
        have q0 : wr.cell? ⟨b, o + k * 3, none⟩ = some (.string xs[k].key) := by exact hc 0 _ rfl
        have q1 : wr.cell? ⟨b, o + k * 3 + 1, none⟩ = some (.int .i64 xs[k].op) := by rw [Nat.add_assoc]; exact hc 1 _ rfl
        have q2 : wr.cell? ⟨b, o + k * 3 + 2, none⟩ = some (.slice Avalues1 xs[k].values.length cvalues1) := by rw [Nat.add_assoc]; exact hc 2 _ rfl
        have p0 : wr.cell? ⟨b', o' + k * 3, none⟩ = some (.string ys[k].key) := by exact hc' 0 _ rfl
        have p1 : wr.cell? ⟨b', o' + k * 3 + 1, none⟩ = some (.int .i64 ys[k].op) := by rw [Nat.add_assoc]; exact hc' 1 _ rfl
        have p2 : wr.cell? ⟨b', o' + k * 3 + 2, none⟩ = some (.slice Avalues2 ys[k].values.length cvalues2) := by rw [Nat.add_assoc]; exact hc' 2 _ rfl
        clear hc hc'
        go_wp2_with fail
        refine wp_region_grow wr (by kernel_rfl) (by kernel_rfl) (by first | exact ext_refl _ | assumption) ?_
        repeat (first
          | (apply inText_skip
             case hw => rfl
             simp only [Act.put, List.setIfInBounds_toArray, List.set_cons_zero, List.set_cons_succ])
          | (apply inText_step
             case hw => rfl
             case h =>
               intro wq hq
               have hcq := (cls_cell hq).1
               have hfq := (cls_cell hq).2
               go_simp
               first
                 | exact ⟨hq, rfl⟩
                 | exact ⟨cls_alloc hq _, rfl⟩
                 | (refine (eqNeed_any xs[k] ys[k] _ _ _ _ _ (Dat.frame hr (fun x hx => hq.out.block x (Dat.lt hr x hx)) hq.out.size) (Dat.frame hr' (fun x hx => hq.out.block x (Dat.lt hr' x hx)) hq.out.size)).mono ?_; rintro e w2 ⟨rfl, hb2⟩; exact ⟨rfl, cls_trans hq hb2⟩)
                 | (simp only [↓IntWalk.iteOmega]; exact ⟨hq, rfl⟩)
             simp only [Act.put, List.setIfInBounds_toArray, List.set_cons_zero, List.set_cons_succ]))
        refine inText_nil ?_
        intro wn hn
        replace hn := hn.out
        go_wp2
        · rename_i hne
          go_ret
          refine ⟨?_, ext_trans hbl hn⟩
          rw [same_drop (k + 1) (by rw [same_take hlt hlt', Heq.out]; simpa [eqStr, eqInt] using hne) HL.out]
          rfl
        · rename_i hne
          exact ⟨⟨k + 1, by omega, by go_num, by show _ = _; rw [same_take hlt hlt', Heq.out]; simpa [eqStr, eqInt] using hne, ext_trans hbl hn⟩, by simp [intOf]; omega⟩
      · have hkl : k = xs.length := by omega
        have HK := Lib.hid hkl
        clear hkl
        go_wp2
        go_ret
        have h1 := Heq.out
        rw [HK.out, List.take_length, HL.out, List.take_length] at h1
        exact ⟨by rw [h1]; rfl, hbl⟩
  · have hb1 : ((xs.length : Int) != (ys.length : Int)) = true := by simp; omega
    have HL := Lib.hid (same_len (eq := eqNeed) hl)
    clear hl
    go_enter Try.func63, Try.ntmps63
    go_wp2
    go_ret
    exact ⟨by rw [HL.out]; rfl, ext_refl _⟩
def eqTaint (a b : Taint) : Bool := (a.key.toList == b.key.toList) && (a.value.toList == b.value.toList) && (a.effect == b.effect)
theorem eqTaint_iff (a b : Taint) : eqTaint a b = true ↔ a = b := by
  constructor
  · intro h
    simp only [eqTaint, Bool.and_eq_true] at h
    have h0 := bytes_ext h.1.1
    have h1 := bytes_ext h.1.2
    have h2 := eq_of_beq h.2
    cases a; cases b
    simp only at h0 h1 h2
    subst h0 h1 h2
    rfl
  · rintro rfl
    simp [eqTaint, *]
set_option maxHeartbeats 1000000 in
theorem eqTaint_any (a b : Taint) (cs ds : List Value) (F G : List Nat) (w : World) (h : rd w a cs F) (h' : rd w b ds G) :
    Calls Try.prog 62 #[.agg cs.toArray, .agg ds.toArray] w fun e w' => e = .returned (.bool (eqTaint a b)) ∧ Below w.heap.size w w' := by
  obtain ⟨_, _, _, _, rfl, rfl, ⟨rfl, rfl, hkey1⟩, _, _, _, _, rfl, rfl, ⟨rfl, rfl, hvalue1⟩, ⟨rfl, rfl, heffect1⟩⟩ := h
  replace hkey1 := sz63 (s := a.key) hkey1
  replace hvalue1 := sz63 (s := a.value) hvalue1
  replace heffect1 : I64 a.effect := heffect1
  simp only [List.cons_append, List.nil_append]
  obtain ⟨_, _, _, _, rfl, rfl, ⟨rfl, rfl, hkey2⟩, _, _, _, _, rfl, rfl, ⟨rfl, rfl, hvalue2⟩, ⟨rfl, rfl, heffect2⟩⟩ := h'
  replace hkey2 := sz63 (s := b.key) hkey2
  replace hvalue2 := sz63 (s := b.value) hvalue2
  replace heffect2 : I64 b.effect := heffect2
  simp only [List.cons_append, List.nil_append]
  go_enter Try.func62, Try.ntmps62
  go_wp2
  all_goals go_ret
  all_goals refine ⟨?_, by repeat (first | with_reducible exact ext_refl _ | with_reducible assumption | with_reducible refine ext_alloc ?_ _ | with_reducible refine ext_trans ?_ (by assumption))⟩
  all_goals (simp only [Bool.not_eq_true', Bool.not_eq_false', bne_iff_ne, bne_eq_false_iff_eq, beq_iff_eq, beq_eq_false_iff_ne, ne_eq] at *; simp [eqTaint, *])
set_option maxHeartbeats 1000000 in
theorem eqTaintS_any (xs ys : List Taint) (A B : Option Addr) (c d : Nat) (F G : List Nat) (w : World) (h : Sl w xs A c F) (h' : Sl w ys B d G) :
    Calls Try.prog 50 #[.slice A xs.length c, .slice B ys.length d] w fun e w' => e = .returned (.bool (same eqTaint xs ys)) ∧ Below w.heap.size w w' := by
  have hc := h.cap
  unfold maxLen at hc
  obtain ⟨hc1, hc2⟩ := hc
  have hd := h'.cap
  unfold maxLen at hd
  obtain ⟨hd1, hd2⟩ := hd
  by_cases hl : xs.length = ys.length
  · have HL := Lib.hid hl
    have hb1 : ((xs.length : Int) != (ys.length : Int)) = false := by simp [hl]
    clear hl
    go_enter Try.func50, Try.ntmps50
    go_wp2
    go_loopw [5] (fun i wr => ∃ k : Nat, k ≤ xs.length ∧ i = .int .i64 k ∧ Hid (same eqTaint (xs.take k) (ys.take k) = true) ∧ Below w.heap.size w wr) (fun i _ => xs.length - (intOf i).toNat)
    case atStart => exact ⟨0, Nat.zero_le _, rfl, by show _ = true; simp [same], ext_refl _⟩
    case round =>
      obtain ⟨k, hk, rfl, Heq, hbl⟩ := hrel
      by_cases hlt : k < xs.length
      · obtain ⟨b, o, ck, Fk, rfl, hbF, hbs, hr, hsub, hc⟩ := (h.ext hbl).get hlt
        have hlt' : k < ys.length := by rw [← HL.out]; exact hlt
        obtain ⟨b', o', ck', Fk', rfl, hbF', hbs', hr', hsub', hc'⟩ := (h'.ext hbl).get hlt'
        obtain ⟨hck, rfl, hkey1, hvalue1, heffect1⟩ := rd_Taint hr
        subst hck
        obtain ⟨hck, rfl, hkey2, hvalue2, heffect2⟩ := rd_Taint hr'
        subst hck
        have q0 : wr.cell? ⟨b, o + k * 3, none⟩ = some (.string xs[k].key) := by exact hc 0 _ rfl
        have q1 : wr.cell? ⟨b, o + k * 3 + 1, none⟩ = some (.string xs[k].value) := by rw [Nat.add_assoc]; exact hc 1 _ rfl
        have q2 : wr.cell? ⟨b, o + k * 3 + 2, none⟩ = some (.int .i64 xs[k].effect) := by rw [Nat.add_assoc]; exact hc 2 _ rfl
        have p0 : wr.cell? ⟨b', o' + k * 3, none⟩ = some (.string ys[k].key) := by exact hc' 0 _ rfl
        have p1 : wr.cell? ⟨b', o' + k * 3 + 1, none⟩ = some (.string ys[k].value) := by rw [Nat.add_assoc]; exact hc' 1 _ rfl
        have p2 : wr.cell? ⟨b', o' + k * 3 + 2, none⟩ = some (.int .i64 ys[k].effect) := by rw [Nat.add_assoc]; exact hc' 2 _ rfl
        clear hc hc'
        go_wp2_with fail
        refine wp_region_grow wr (by kernel_rfl) (by kernel_rfl) (by first | exact ext_refl _ | assumption) ?_
        repeat (first
          | (apply inText_skip
             case hw => rfl
             simp only [Act.put, List.setIfInBounds_toArray, List.set_cons_zero, List.set_cons_succ])
          | (apply inText_step
             case hw => rfl
             case h =>
               intro wq hq
               have hcq := (cls_cell hq).1
               have hfq := (cls_cell hq).2
               go_simp
               first
                 | exact ⟨hq, rfl⟩
                 | exact ⟨cls_alloc hq _, rfl⟩
                 | (refine (eqTaint_any xs[k] ys[k] _ _ _ _ _ (Dat.frame hr (fun x hx => hq.out.block x (Dat.lt hr x hx)) hq.out.size) (Dat.frame hr' (fun x hx => hq.out.block x (Dat.lt hr' x hx)) hq.out.size)).mono ?_; rintro e w2 ⟨rfl, hb2⟩; exact ⟨rfl, cls_trans hq hb2⟩)
                 | (simp only [↓IntWalk.iteOmega]; exact ⟨hq, rfl⟩)
             simp only [Act.put, List.setIfInBounds_toArray, List.set_cons_zero, List.set_cons_succ]))
        refine inText_nil ?_
        intro wn hn
        replace hn := hn.out
        go_wp2
        · rename_i hne
          go_ret
          refine ⟨?_, ext_trans hbl hn⟩
          rw [same_drop (k + 1) (by rw [same_take hlt hlt', Heq.out]; simpa [eqStr, eqInt] using hne) HL.out]
          rfl
        · rename_i hne
          exact ⟨⟨k + 1, by omega, by go_num, by show _ = _; rw [same_take hlt hlt', Heq.out]; simpa [eqStr, eqInt] using hne, ext_trans hbl hn⟩, by simp [intOf]; omega⟩
      · have hkl : k = xs.length := by omega
        have HK := Lib.hid hkl
        clear hkl
        go_wp2
        go_ret
        have h1 := Heq.out
        rw [HK.out, List.take_length, HL.out, List.take_length] at h1
        exact ⟨by rw [h1]; rfl, hbl⟩
  · have hb1 : ((xs.length : Int) != (ys.length : Int)) = true := by simp; omega
    have HL := Lib.hid (same_len (eq := eqTaint) hl)
    clear hl
    go_enter Try.func50, Try.ntmps50
    go_wp2
    go_ret
    exact ⟨by rw [HL.out]; rfl, ext_refl _⟩
def eqTolerance (a b : Tolerance) : Bool := (a.key.toList == b.key.toList) && (a.equal == b.equal) && (a.value.toList == b.value.toList) && (a.effect == b.effect)
theorem eqTolerance_iff (a b : Tolerance) : eqTolerance a b = true ↔ a = b := by
  constructor
  · intro h
    simp only [eqTolerance, Bool.and_eq_true] at h
    have h0 := bytes_ext h.1.1.1
    have h1 := eq_of_beq h.1.1.2
    have h2 := bytes_ext h.1.2
    have h3 := eq_of_beq h.2
    cases a; cases b
    simp only at h0 h1 h2 h3
    subst h0 h1 h2 h3
    rfl
  · rintro rfl
    simp [eqTolerance, *]
set_option maxHeartbeats 1000000 in
theorem eqTolerance_any (a b : Tolerance) (cs ds : List Value) (F G : List Nat) (w : World) (h : rd w a cs F) (h' : rd w b ds G) :
    Calls Try.prog 71 #[.agg cs.toArray, .agg ds.toArray] w fun e w' => e = .returned (.bool (eqTolerance a b)) ∧ Below w.heap.size w w' := by
  obtain ⟨_, _, _, _, rfl, rfl, ⟨rfl, rfl, hkey1⟩, _, _, _, _, rfl, rfl, ⟨rfl, rfl⟩, _, _, _, _, rfl, rfl, ⟨rfl, rfl, hvalue1⟩, ⟨rfl, rfl, heffect1⟩⟩ := h
  replace hkey1 := sz63 (s := a.key) hkey1
  replace hvalue1 := sz63 (s := a.value) hvalue1
  replace heffect1 : I64 a.effect := heffect1
  simp only [List.cons_append, List.nil_append]
  obtain ⟨_, _, _, _, rfl, rfl, ⟨rfl, rfl, hkey2⟩, _, _, _, _, rfl, rfl, ⟨rfl, rfl⟩, _, _, _, _, rfl, rfl, ⟨rfl, rfl, hvalue2⟩, ⟨rfl, rfl, heffect2⟩⟩ := h'
  replace hkey2 := sz63 (s := b.key) hkey2
  replace hvalue2 := sz63 (s := b.value) hvalue2
  replace heffect2 : I64 b.effect := heffect2
  simp only [List.cons_append, List.nil_append]
  go_enter Try.func71, Try.ntmps71
  go_wp2
  all_goals go_ret
  all_goals refine ⟨?_, by repeat (first | with_reducible exact ext_refl _ | with_reducible assumption | with_reducible refine ext_alloc ?_ _ | with_reducible refine ext_trans ?_ (by assumption))⟩
  all_goals (simp only [Bool.not_eq_true', Bool.not_eq_false', bne_iff_ne, bne_eq_false_iff_eq, beq_iff_eq, beq_eq_false_iff_ne, ne_eq] at *; simp [eqTolerance, *])
set_option maxHeartbeats 1000000 in
theorem eqToleranceS_any (xs ys : List Tolerance) (A B : Option Addr) (c d : Nat) (F G : List Nat) (w : World) (h : Sl w xs A c F) (h' : Sl w ys B d G) :
    Calls Try.prog 64 #[.slice A xs.length c, .slice B ys.length d] w fun e w' => e = .returned (.bool (same eqTolerance xs ys)) ∧ Below w.heap.size w w' := by
  have hc := h.cap
  unfold maxLen at hc
  obtain ⟨hc1, hc2⟩ := hc
  have hd := h'.cap
  unfold maxLen at hd
  obtain ⟨hd1, hd2⟩ := hd
  by_cases hl : xs.length = ys.length
  · have HL := Lib.hid hl
    have hb1 : ((xs.length : Int) != (ys.length : Int)) = false := by simp [hl]
    clear hl
    go_enter Try.func64, Try.ntmps64
    go_wp2
    go_loopw [5] (fun i wr => ∃ k : Nat, k ≤ xs.length ∧ i = .int .i64 k ∧ Hid (same eqTolerance (xs.take k) (ys.take k) = true) ∧ Below w.heap.size w wr) (fun i _ => xs.length - (intOf i).toNat)
    case atStart => exact ⟨0, Nat.zero_le _, rfl, by show _ = true; simp [same], ext_refl _⟩
    case round =>
      obtain ⟨k, hk, rfl, Heq, hbl⟩ := hrel
      by_cases hlt : k < xs.length
      · obtain ⟨b, o, ck, Fk, rfl, hbF, hbs, hr, hsub, hc⟩ := (h.ext hbl).get hlt
        have hlt' : k < ys.length := by rw [← HL.out]; exact hlt
        obtain ⟨b', o', ck', Fk', rfl, hbF', hbs', hr', hsub', hc'⟩ := (h'.ext hbl).get hlt'
        obtain ⟨hck, rfl, hkey1, hvalue1, heffect1⟩ := rd_Tolerance hr
        subst hck
        obtain ⟨hck, rfl, hkey2, hvalue2, heffect2⟩ := rd_Tolerance hr'
        subst hck
        have q0 : wr.cell? ⟨b, o + k * 4, none⟩ = some (.string xs[k].key) := by exact hc 0 _ rfl
        have q1 : wr.cell? ⟨b, o + k * 4 + 1, none⟩ = some (.bool xs[k].equal) := by rw [Nat.add_assoc]; exact hc 1 _ rfl
        have q2 : wr.cell? ⟨b, o + k * 4 + 2, none⟩ = some (.string xs[k].value) := by rw [Nat.add_assoc]; exact hc 2 _ rfl
        have q3 : wr.cell? ⟨b, o + k * 4 + 3, none⟩ = some (.int .i64 xs[k].effect) := by rw [Nat.add_assoc]; exact hc 3 _ rfl
        have p0 : wr.cell? ⟨b', o' + k * 4, none⟩ = some (.string ys[k].key) := by exact hc' 0 _ rfl
        have p1 : wr.cell? ⟨b', o' + k * 4 + 1, none⟩ = some (.bool ys[k].equal) := by rw [Nat.add_assoc]; exact hc' 1 _ rfl
        have p2 : wr.cell? ⟨b', o' + k * 4 + 2, none⟩ = some (.string ys[k].value) := by rw [Nat.add_assoc]; exact hc' 2 _ rfl
        have p3 : wr.cell? ⟨b', o' + k * 4 + 3, none⟩ = some (.int .i64 ys[k].effect) := by rw [Nat.add_assoc]; exact hc' 3 _ rfl
        clear hc hc'
        go_wp2_with fail
        refine wp_region_grow wr (by kernel_rfl) (by kernel_rfl) (by first | exact ext_refl _ | assumption) ?_
        repeat (first
          | (apply inText_skip
             case hw => rfl
             simp only [Act.put, List.setIfInBounds_toArray, List.set_cons_zero, List.set_cons_succ])
          | (apply inText_step
             case hw => rfl
             case h =>
               intro wq hq
               have hcq := (cls_cell hq).1
               have hfq := (cls_cell hq).2
               go_simp
               first
                 | exact ⟨hq, rfl⟩
                 | exact ⟨cls_alloc hq _, rfl⟩
                 | (refine (eqTolerance_any xs[k] ys[k] _ _ _ _ _ (Dat.frame hr (fun x hx => hq.out.block x (Dat.lt hr x hx)) hq.out.size) (Dat.frame hr' (fun x hx => hq.out.block x (Dat.lt hr' x hx)) hq.out.size)).mono ?_; rintro e w2 ⟨rfl, hb2⟩; exact ⟨rfl, cls_trans hq hb2⟩)
                 | (simp only [↓IntWalk.iteOmega]; exact ⟨hq, rfl⟩)
             simp only [Act.put, List.setIfInBounds_toArray, List.set_cons_zero, List.set_cons_succ]))
        refine inText_nil ?_
        intro wn hn
        replace hn := hn.out
        go_wp2
        · rename_i hne
          go_ret
          refine ⟨?_, ext_trans hbl hn⟩
          rw [same_drop (k + 1) (by rw [same_take hlt hlt', Heq.out]; simpa [eqStr, eqInt] using hne) HL.out]
          rfl
        · rename_i hne
          exact ⟨⟨k + 1, by omega, by go_num, by show _ = _; rw [same_take hlt hlt', Heq.out]; simpa [eqStr, eqInt] using hne, ext_trans hbl hn⟩, by simp [intOf]; omega⟩
      · have hkl : k = xs.length := by omega
        have HK := Lib.hid hkl
        clear hkl
        go_wp2
        go_ret
        have h1 := Heq.out
        rw [HK.out, List.take_length, HL.out, List.take_length] at h1
        exact ⟨by rw [h1]; rfl, hbl⟩
  · have hb1 : ((xs.length : Int) != (ys.length : Int)) = true := by simp; omega
    have HL := Lib.hid (same_len (eq := eqTolerance) hl)
    clear hl
    go_enter Try.func64, Try.ntmps64
    go_wp2
    go_ret
    exact ⟨by rw [HL.out]; rfl, ext_refl _⟩
def eqPod (a b : Pod) : Bool := (a.name.toList == b.name.toList) && same eqLabel a.labels b.labels && (a.cpu == b.cpu) && (a.mem == b.mem) && (a.rank == b.rank) && same eqNeed a.needs b.needs && same eqTolerance a.tolerances b.tolerances
theorem eqPod_iff (a b : Pod) : eqPod a b = true ↔ a = b := by
  constructor
  · intro h
    simp only [eqPod, Bool.and_eq_true] at h
    have h0 := bytes_ext h.1.1.1.1.1.1
    have h1 := (same_iff eqLabel_iff _ _).1 h.1.1.1.1.1.2
    have h2 := eq_of_beq h.1.1.1.1.2
    have h3 := eq_of_beq h.1.1.1.2
    have h4 := eq_of_beq h.1.1.2
    have h5 := (same_iff eqNeed_iff _ _).1 h.1.2
    have h6 := (same_iff eqTolerance_iff _ _).1 h.2
    cases a; cases b
    simp only at h0 h1 h2 h3 h4 h5 h6
    subst h0 h1 h2 h3 h4 h5 h6
    rfl
  · rintro rfl
    have g1 := (same_iff eqLabel_iff a.labels a.labels).2 rfl
    have g5 := (same_iff eqNeed_iff a.needs a.needs).2 rfl
    have g6 := (same_iff eqTolerance_iff a.tolerances a.tolerances).2 rfl
    simp [eqPod, *]
set_option maxHeartbeats 1000000 in
theorem eqPod_any (a b : Pod) (cs ds : List Value) (F G : List Nat) (w : World) (h : rd w a cs F) (h' : rd w b ds G) :
    Calls Try.prog 51 #[.agg cs.toArray, .agg ds.toArray] w fun e w' => e = .returned (.bool (eqPod a b)) ∧ Below w.heap.size w w' := by
  obtain ⟨_, _, _, _, rfl, rfl, ⟨rfl, rfl, hname1⟩, _, _, _, _, rfl, rfl, hlabels1, _, _, _, _, rfl, rfl, ⟨rfl, rfl, hcpu1⟩, _, _, _, _, rfl, rfl, ⟨rfl, rfl, hmem1⟩, _, _, _, _, rfl, rfl, ⟨rfl, rfl, hrank1⟩, _, _, _, _, rfl, rfl, hneeds1, htolerances1⟩ := h
  obtain ⟨Alabels1, clabels1, rfl, hlabels1⟩ := rd_list hlabels1
  obtain ⟨Aneeds1, cneeds1, rfl, hneeds1⟩ := rd_list hneeds1
  obtain ⟨Atolerances1, ctolerances1, rfl, htolerances1⟩ := rd_list htolerances1
  replace hname1 := sz63 (s := a.name) hname1
  replace hlabels1 : Sl _ a.labels Alabels1 clabels1 _ := hlabels1
  replace hcpu1 : I64 a.cpu := hcpu1
  replace hmem1 : I64 a.mem := hmem1
  replace hrank1 : I64 a.rank := hrank1
  replace hneeds1 : Sl _ a.needs Aneeds1 cneeds1 _ := hneeds1
  replace htolerances1 : Sl _ a.tolerances Atolerances1 ctolerances1 _ := htolerances1
  simp only [List.cons_append, List.nil_append]
  obtain ⟨_, _, _, _, rfl, rfl, ⟨rfl, rfl, hname2⟩, _, _, _, _, rfl, rfl, hlabels2, _, _, _, _, rfl, rfl, ⟨rfl, rfl, hcpu2⟩, _, _, _, _, rfl, rfl, ⟨rfl, rfl, hmem2⟩, _, _, _, _, rfl, rfl, ⟨rfl, rfl, hrank2⟩, _, _, _, _, rfl, rfl, hneeds2, htolerances2⟩ := h'
  obtain ⟨Alabels2, clabels2, rfl, hlabels2⟩ := rd_list hlabels2
  obtain ⟨Aneeds2, cneeds2, rfl, hneeds2⟩ := rd_list hneeds2
  obtain ⟨Atolerances2, ctolerances2, rfl, htolerances2⟩ := rd_list htolerances2
  replace hname2 := sz63 (s := b.name) hname2
  replace hlabels2 : Sl _ b.labels Alabels2 clabels2 _ := hlabels2
  replace hcpu2 : I64 b.cpu := hcpu2
  replace hmem2 : I64 b.mem := hmem2
  replace hrank2 : I64 b.rank := hrank2
  replace hneeds2 : Sl _ b.needs Aneeds2 cneeds2 _ := hneeds2
  replace htolerances2 : Sl _ b.tolerances Atolerances2 ctolerances2 _ := htolerances2
  simp only [List.cons_append, List.nil_append]
  go_enter Try.func51, Try.ntmps51
  go_wp2_with (first | (go_at_call 49; refine (eqLabelS_any a.labels b.labels _ _ _ _ _ _ _ (hlabels1.ext (by repeat (first | with_reducible exact ext_refl _ | with_reducible assumption | with_reducible refine ext_alloc ?_ _ | with_reducible refine ext_trans ?_ (by assumption)))) (hlabels2.ext (by repeat (first | with_reducible exact ext_refl _ | with_reducible assumption | with_reducible refine ext_alloc ?_ _ | with_reducible refine ext_trans ?_ (by assumption))))).mono ?_; rintro e w1 ⟨rfl, hb1⟩; obtain ⟨hc1, hf1⟩ := bcell hb1; have hz10 : w.heap.size < w1.heap.size := (by have := hb1.size; (try simp at this); omega); have hz11 : w.heap.size + 1 < w1.heap.size := (by have := hb1.size; (try simp at this); omega)) | (go_at_call 63; refine (eqNeedS_any a.needs b.needs _ _ _ _ _ _ _ (hneeds1.ext (by repeat (first | with_reducible exact ext_refl _ | with_reducible assumption | with_reducible refine ext_alloc ?_ _ | with_reducible refine ext_trans ?_ (by assumption)))) (hneeds2.ext (by repeat (first | with_reducible exact ext_refl _ | with_reducible assumption | with_reducible refine ext_alloc ?_ _ | with_reducible refine ext_trans ?_ (by assumption))))).mono ?_; rintro e w5 ⟨rfl, hb5⟩; obtain ⟨hc5, hf5⟩ := bcell hb5; have hz50 : w.heap.size < w5.heap.size := (by have := hb5.size; (try simp at this); omega); have hz51 : w.heap.size + 1 < w5.heap.size := (by have := hb5.size; (try simp at this); omega)) | (go_at_call 64; refine (eqToleranceS_any a.tolerances b.tolerances _ _ _ _ _ _ _ (htolerances1.ext (by repeat (first | with_reducible exact ext_refl _ | with_reducible assumption | with_reducible refine ext_alloc ?_ _ | with_reducible refine ext_trans ?_ (by assumption)))) (htolerances2.ext (by repeat (first | with_reducible exact ext_refl _ | with_reducible assumption | with_reducible refine ext_alloc ?_ _ | with_reducible refine ext_trans ?_ (by assumption))))).mono ?_; rintro e w6 ⟨rfl, hb6⟩; obtain ⟨hc6, hf6⟩ := bcell hb6; have hz60 : w.heap.size < w6.heap.size := (by have := hb6.size; (try simp at this); omega); have hz61 : w.heap.size + 1 < w6.heap.size := (by have := hb6.size; (try simp at this); omega)))
  all_goals go_ret
  all_goals refine ⟨?_, by repeat (first | with_reducible exact ext_refl _ | with_reducible assumption | with_reducible refine ext_alloc ?_ _ | with_reducible refine ext_trans ?_ (by assumption))⟩
  all_goals (simp only [Bool.not_eq_true', Bool.not_eq_false', bne_iff_ne, bne_eq_false_iff_eq, beq_iff_eq, beq_eq_false_iff_ne, ne_eq] at *; simp [eqPod, *])
def eqHost (a b : Host) : Bool := (a.name.toList == b.name.toList) && same eqLabel a.labels b.labels && (a.cpu == b.cpu) && (a.mem == b.mem) && (a.slots == b.slots) && same eqTaint a.taints b.taints
theorem eqHost_iff (a b : Host) : eqHost a b = true ↔ a = b := by
  constructor
  · intro h
    simp only [eqHost, Bool.and_eq_true] at h
    have h0 := bytes_ext h.1.1.1.1.1
    have h1 := (same_iff eqLabel_iff _ _).1 h.1.1.1.1.2
    have h2 := eq_of_beq h.1.1.1.2
    have h3 := eq_of_beq h.1.1.2
    have h4 := eq_of_beq h.1.2
    have h5 := (same_iff eqTaint_iff _ _).1 h.2
    cases a; cases b
    simp only at h0 h1 h2 h3 h4 h5
    subst h0 h1 h2 h3 h4 h5
    rfl
  · rintro rfl
    have g1 := (same_iff eqLabel_iff a.labels a.labels).2 rfl
    have g5 := (same_iff eqTaint_iff a.taints a.taints).2 rfl
    simp [eqHost, *]
set_option maxHeartbeats 1000000 in
theorem eqHost_any (a b : Host) (cs ds : List Value) (F G : List Nat) (w : World) (h : rd w a cs F) (h' : rd w b ds G) :
    Calls Try.prog 35 #[.agg cs.toArray, .agg ds.toArray] w fun e w' => e = .returned (.bool (eqHost a b)) ∧ Below w.heap.size w w' := by
  obtain ⟨_, _, _, _, rfl, rfl, ⟨rfl, rfl, hname1⟩, _, _, _, _, rfl, rfl, hlabels1, _, _, _, _, rfl, rfl, ⟨rfl, rfl, hcpu1⟩, _, _, _, _, rfl, rfl, ⟨rfl, rfl, hmem1⟩, _, _, _, _, rfl, rfl, ⟨rfl, rfl, hslots1⟩, htaints1⟩ := h
  obtain ⟨Alabels1, clabels1, rfl, hlabels1⟩ := rd_list hlabels1
  obtain ⟨Ataints1, ctaints1, rfl, htaints1⟩ := rd_list htaints1
  replace hname1 := sz63 (s := a.name) hname1
  replace hlabels1 : Sl _ a.labels Alabels1 clabels1 _ := hlabels1
  replace hcpu1 : I64 a.cpu := hcpu1
  replace hmem1 : I64 a.mem := hmem1
  replace hslots1 : I64 a.slots := hslots1
  replace htaints1 : Sl _ a.taints Ataints1 ctaints1 _ := htaints1
  simp only [List.cons_append, List.nil_append]
  obtain ⟨_, _, _, _, rfl, rfl, ⟨rfl, rfl, hname2⟩, _, _, _, _, rfl, rfl, hlabels2, _, _, _, _, rfl, rfl, ⟨rfl, rfl, hcpu2⟩, _, _, _, _, rfl, rfl, ⟨rfl, rfl, hmem2⟩, _, _, _, _, rfl, rfl, ⟨rfl, rfl, hslots2⟩, htaints2⟩ := h'
  obtain ⟨Alabels2, clabels2, rfl, hlabels2⟩ := rd_list hlabels2
  obtain ⟨Ataints2, ctaints2, rfl, htaints2⟩ := rd_list htaints2
  replace hname2 := sz63 (s := b.name) hname2
  replace hlabels2 : Sl _ b.labels Alabels2 clabels2 _ := hlabels2
  replace hcpu2 : I64 b.cpu := hcpu2
  replace hmem2 : I64 b.mem := hmem2
  replace hslots2 : I64 b.slots := hslots2
  replace htaints2 : Sl _ b.taints Ataints2 ctaints2 _ := htaints2
  simp only [List.cons_append, List.nil_append]
  go_enter Try.func35, Try.ntmps35
  go_wp2_with (first | (go_at_call 49; refine (eqLabelS_any a.labels b.labels _ _ _ _ _ _ _ (hlabels1.ext (by repeat (first | with_reducible exact ext_refl _ | with_reducible assumption | with_reducible refine ext_alloc ?_ _ | with_reducible refine ext_trans ?_ (by assumption)))) (hlabels2.ext (by repeat (first | with_reducible exact ext_refl _ | with_reducible assumption | with_reducible refine ext_alloc ?_ _ | with_reducible refine ext_trans ?_ (by assumption))))).mono ?_; rintro e w1 ⟨rfl, hb1⟩; obtain ⟨hc1, hf1⟩ := bcell hb1; have hz10 : w.heap.size < w1.heap.size := (by have := hb1.size; (try simp at this); omega); have hz11 : w.heap.size + 1 < w1.heap.size := (by have := hb1.size; (try simp at this); omega)) | (go_at_call 50; refine (eqTaintS_any a.taints b.taints _ _ _ _ _ _ _ (htaints1.ext (by repeat (first | with_reducible exact ext_refl _ | with_reducible assumption | with_reducible refine ext_alloc ?_ _ | with_reducible refine ext_trans ?_ (by assumption)))) (htaints2.ext (by repeat (first | with_reducible exact ext_refl _ | with_reducible assumption | with_reducible refine ext_alloc ?_ _ | with_reducible refine ext_trans ?_ (by assumption))))).mono ?_; rintro e w5 ⟨rfl, hb5⟩; obtain ⟨hc5, hf5⟩ := bcell hb5; have hz50 : w.heap.size < w5.heap.size := (by have := hb5.size; (try simp at this); omega); have hz51 : w.heap.size + 1 < w5.heap.size := (by have := hb5.size; (try simp at this); omega)))
  all_goals go_ret
  all_goals refine ⟨?_, by repeat (first | with_reducible exact ext_refl _ | with_reducible assumption | with_reducible refine ext_alloc ?_ _ | with_reducible refine ext_trans ?_ (by assumption))⟩
  all_goals (simp only [Bool.not_eq_true', Bool.not_eq_false', bne_iff_ne, bne_eq_false_iff_eq, beq_iff_eq, beq_eq_false_iff_ne, ne_eq] at *; simp [eqHost, *])
set_option maxHeartbeats 1000000 in
theorem eqHostS_any (xs ys : List Host) (A B : Option Addr) (c d : Nat) (F G : List Nat) (w : World) (h : Sl w xs A c F) (h' : Sl w ys B d G) :
    Calls Try.prog 23 #[.slice A xs.length c, .slice B ys.length d] w fun e w' => e = .returned (.bool (same eqHost xs ys)) ∧ Below w.heap.size w w' := by
  have hc := h.cap
  unfold maxLen at hc
  obtain ⟨hc1, hc2⟩ := hc
  have hd := h'.cap
  unfold maxLen at hd
  obtain ⟨hd1, hd2⟩ := hd
  by_cases hl : xs.length = ys.length
  · have HL := Lib.hid hl
    have hb1 : ((xs.length : Int) != (ys.length : Int)) = false := by simp [hl]
    clear hl
    go_enter Try.func23, Try.ntmps23
    go_wp2
    go_loopw [5] (fun i wr => ∃ k : Nat, k ≤ xs.length ∧ i = .int .i64 k ∧ Hid (same eqHost (xs.take k) (ys.take k) = true) ∧ Below w.heap.size w wr) (fun i _ => xs.length - (intOf i).toNat)
    case atStart => exact ⟨0, Nat.zero_le _, rfl, by show _ = true; simp [same], ext_refl _⟩
    case round =>
      obtain ⟨k, hk, rfl, Heq, hbl⟩ := hrel
      by_cases hlt : k < xs.length
      · obtain ⟨b, o, ck, Fk, rfl, hbF, hbs, hr, hsub, hc⟩ := (h.ext hbl).get hlt
        have hlt' : k < ys.length := by rw [← HL.out]; exact hlt
        obtain ⟨b', o', ck', Fk', rfl, hbF', hbs', hr', hsub', hc'⟩ := (h'.ext hbl).get hlt'
        obtain ⟨Alabels1, clabels1, Flabels1, Ataints1, ctaints1, Ftaints1, hck, rfl, hname1, hlabels1, hcpu1, hmem1, hslots1, htaints1⟩ := rd_Host hr
        subst hck
        obtain ⟨Alabels2, clabels2, Flabels2, Ataints2, ctaints2, Ftaints2, hck, rfl, hname2, hlabels2, hcpu2, hmem2, hslots2, htaints2⟩ := rd_Host hr'
        subst hck
        have q0 : wr.cell? ⟨b, o + k * 6, none⟩ = some (.string xs[k].name) := by exact hc 0 _ rfl
        have q1 : wr.cell? ⟨b, o + k * 6 + 1, none⟩ = some (.slice Alabels1 xs[k].labels.length clabels1) := by rw [Nat.add_assoc]; exact hc 1 _ rfl
        have q2 : wr.cell? ⟨b, o + k * 6 + 2, none⟩ = some (.int .i64 xs[k].cpu) := by rw [Nat.add_assoc]; exact hc 2 _ rfl
        have q3 : wr.cell? ⟨b, o + k * 6 + 3, none⟩ = some (.int .i64 xs[k].mem) := by rw [Nat.add_assoc]; exact hc 3 _ rfl
        have q4 : wr.cell? ⟨b, o + k * 6 + 4, none⟩ = some (.int .i64 xs[k].slots) := by rw [Nat.add_assoc]; exact hc 4 _ rfl
        have q5 : wr.cell? ⟨b, o + k * 6 + 5, none⟩ = some (.slice Ataints1 xs[k].taints.length ctaints1) := by rw [Nat.add_assoc]; exact hc 5 _ rfl
        have p0 : wr.cell? ⟨b', o' + k * 6, none⟩ = some (.string ys[k].name) := by exact hc' 0 _ rfl
        have p1 : wr.cell? ⟨b', o' + k * 6 + 1, none⟩ = some (.slice Alabels2 ys[k].labels.length clabels2) := by rw [Nat.add_assoc]; exact hc' 1 _ rfl
        have p2 : wr.cell? ⟨b', o' + k * 6 + 2, none⟩ = some (.int .i64 ys[k].cpu) := by rw [Nat.add_assoc]; exact hc' 2 _ rfl
        have p3 : wr.cell? ⟨b', o' + k * 6 + 3, none⟩ = some (.int .i64 ys[k].mem) := by rw [Nat.add_assoc]; exact hc' 3 _ rfl
        have p4 : wr.cell? ⟨b', o' + k * 6 + 4, none⟩ = some (.int .i64 ys[k].slots) := by rw [Nat.add_assoc]; exact hc' 4 _ rfl
        have p5 : wr.cell? ⟨b', o' + k * 6 + 5, none⟩ = some (.slice Ataints2 ys[k].taints.length ctaints2) := by rw [Nat.add_assoc]; exact hc' 5 _ rfl
        clear hc hc'
        go_wp2_with fail
        refine wp_region_grow wr (by kernel_rfl) (by kernel_rfl) (by first | exact ext_refl _ | assumption) ?_
        repeat (first
          | (apply inText_skip
             case hw => rfl
             simp only [Act.put, List.setIfInBounds_toArray, List.set_cons_zero, List.set_cons_succ])
          | (apply inText_step
             case hw => rfl
             case h =>
               intro wq hq
               have hcq := (cls_cell hq).1
               have hfq := (cls_cell hq).2
               go_simp
               first
                 | exact ⟨hq, rfl⟩
                 | exact ⟨cls_alloc hq _, rfl⟩
                 | (refine (eqHost_any xs[k] ys[k] _ _ _ _ _ (Dat.frame hr (fun x hx => hq.out.block x (Dat.lt hr x hx)) hq.out.size) (Dat.frame hr' (fun x hx => hq.out.block x (Dat.lt hr' x hx)) hq.out.size)).mono ?_; rintro e w2 ⟨rfl, hb2⟩; exact ⟨rfl, cls_trans hq hb2⟩)
                 | (simp only [↓IntWalk.iteOmega]; exact ⟨hq, rfl⟩)
             simp only [Act.put, List.setIfInBounds_toArray, List.set_cons_zero, List.set_cons_succ]))
        refine inText_nil ?_
        intro wn hn
        replace hn := hn.out
        go_wp2
        · rename_i hne
          go_ret
          refine ⟨?_, ext_trans hbl hn⟩
          rw [same_drop (k + 1) (by rw [same_take hlt hlt', Heq.out]; simpa [eqStr, eqInt] using hne) HL.out]
          rfl
        · rename_i hne
          exact ⟨⟨k + 1, by omega, by go_num, by show _ = _; rw [same_take hlt hlt', Heq.out]; simpa [eqStr, eqInt] using hne, ext_trans hbl hn⟩, by simp [intOf]; omega⟩
      · have hkl : k = xs.length := by omega
        have HK := Lib.hid hkl
        clear hkl
        go_wp2
        go_ret
        have h1 := Heq.out
        rw [HK.out, List.take_length, HL.out, List.take_length] at h1
        exact ⟨by rw [h1]; rfl, hbl⟩
  · have hb1 : ((xs.length : Int) != (ys.length : Int)) = true := by simp; omega
    have HL := Lib.hid (same_len (eq := eqHost) hl)
    clear hl
    go_enter Try.func23, Try.ntmps23
    go_wp2
    go_ret
    exact ⟨by rw [HL.out]; rfl, ext_refl _⟩
def eqWeights (a b : Weights) : Bool := (a.pack == b.pack) && (a.spread == b.spread) && (a.soft == b.soft)
theorem eqWeights_iff (a b : Weights) : eqWeights a b = true ↔ a = b := by
  constructor
  · intro h
    simp only [eqWeights, Bool.and_eq_true] at h
    have h0 := eq_of_beq h.1.1
    have h1 := eq_of_beq h.1.2
    have h2 := eq_of_beq h.2
    cases a; cases b
    simp only at h0 h1 h2
    subst h0 h1 h2
    rfl
  · rintro rfl
    simp [eqWeights, *]
set_option maxHeartbeats 1000000 in
theorem eqWeights_any (a b : Weights) (cs ds : List Value) (F G : List Nat) (w : World) (h : rd w a cs F) (h' : rd w b ds G) :
    Calls Try.prog 25 #[.agg cs.toArray, .agg ds.toArray] w fun e w' => e = .returned (.bool (eqWeights a b)) ∧ Below w.heap.size w w' := by
  obtain ⟨_, _, _, _, rfl, rfl, ⟨rfl, rfl, hpack1⟩, _, _, _, _, rfl, rfl, ⟨rfl, rfl, hspread1⟩, ⟨rfl, rfl, hsoft1⟩⟩ := h
  replace hpack1 : I64 a.pack := hpack1
  replace hspread1 : I64 a.spread := hspread1
  replace hsoft1 : I64 a.soft := hsoft1
  simp only [List.cons_append, List.nil_append]
  obtain ⟨_, _, _, _, rfl, rfl, ⟨rfl, rfl, hpack2⟩, _, _, _, _, rfl, rfl, ⟨rfl, rfl, hspread2⟩, ⟨rfl, rfl, hsoft2⟩⟩ := h'
  replace hpack2 : I64 b.pack := hpack2
  replace hspread2 : I64 b.spread := hspread2
  replace hsoft2 : I64 b.soft := hsoft2
  simp only [List.cons_append, List.nil_append]
  go_enter Try.func25, Try.ntmps25
  go_wp2
  all_goals go_ret
  all_goals refine ⟨?_, by repeat (first | with_reducible exact ext_refl _ | with_reducible assumption | with_reducible refine ext_alloc ?_ _ | with_reducible refine ext_trans ?_ (by assumption))⟩
  all_goals (simp only [Bool.not_eq_true', Bool.not_eq_false', bne_iff_ne, bne_eq_false_iff_eq, beq_iff_eq, beq_eq_false_iff_ne, ne_eq] at *; simp [eqWeights, *])
def eqPlaced (a b : Placed) : Bool := eqPod a.pod b.pod && (a.on.toList == b.on.toList) && (a.seq == b.seq)
theorem eqPlaced_iff (a b : Placed) : eqPlaced a b = true ↔ a = b := by
  constructor
  · intro h
    simp only [eqPlaced, Bool.and_eq_true] at h
    have h0 := (eqPod_iff _ _).1 h.1.1
    have h1 := bytes_ext h.1.2
    have h2 := eq_of_beq h.2
    cases a; cases b
    simp only at h0 h1 h2
    subst h0 h1 h2
    rfl
  · rintro rfl
    have g0 := (eqPod_iff a.pod a.pod).2 rfl
    simp [eqPlaced, *]
set_option maxHeartbeats 1000000 in
theorem eqPlaced_any (a b : Placed) (cs ds : List Value) (F G : List Nat) (w : World) (h : rd w a cs F) (h' : rd w b ds G) :
    Calls Try.prog 36 #[.agg cs.toArray, .agg ds.toArray] w fun e w' => e = .returned (.bool (eqPlaced a b)) ∧ Below w.heap.size w w' := by
  obtain ⟨_, _, _, _, rfl, rfl, hpod1, _, _, _, _, rfl, rfl, ⟨rfl, rfl, hon1⟩, ⟨rfl, rfl, hseq1⟩⟩ := h
  have hrpod1 := hpod1
  obtain ⟨Apodlabels1, cpodlabels1, Fpodlabels1, Apodneeds1, cpodneeds1, Fpodneeds1, Apodtolerances1, cpodtolerances1, Fpodtolerances1, rfl, rfl, hpodname1, hpodlabels1, hpodcpu1, hpodmem1, hpodrank1, hpodneeds1, hpodtolerances1⟩ := rd_Pod hpod1
  replace hpodname1 := sz63 (s := a.pod.name) hpodname1
  replace hpodlabels1 : Sl _ a.pod.labels Apodlabels1 cpodlabels1 _ := hpodlabels1
  replace hpodcpu1 : I64 a.pod.cpu := hpodcpu1
  replace hpodmem1 : I64 a.pod.mem := hpodmem1
  replace hpodrank1 : I64 a.pod.rank := hpodrank1
  replace hpodneeds1 : Sl _ a.pod.needs Apodneeds1 cpodneeds1 _ := hpodneeds1
  replace hpodtolerances1 : Sl _ a.pod.tolerances Apodtolerances1 cpodtolerances1 _ := hpodtolerances1
  replace hon1 := sz63 (s := a.on) hon1
  replace hseq1 : I64 a.seq := hseq1
  replace hrpod1 : rd _ a.pod [.string a.pod.name, .slice Apodlabels1 a.pod.labels.length cpodlabels1, .int .i64 a.pod.cpu, .int .i64 a.pod.mem, .int .i64 a.pod.rank, .slice Apodneeds1 a.pod.needs.length cpodneeds1, .slice Apodtolerances1 a.pod.tolerances.length cpodtolerances1] _ := hrpod1
  simp only [List.cons_append, List.nil_append]
  obtain ⟨_, _, _, _, rfl, rfl, hpod2, _, _, _, _, rfl, rfl, ⟨rfl, rfl, hon2⟩, ⟨rfl, rfl, hseq2⟩⟩ := h'
  have hrpod2 := hpod2
  obtain ⟨Apodlabels2, cpodlabels2, Fpodlabels2, Apodneeds2, cpodneeds2, Fpodneeds2, Apodtolerances2, cpodtolerances2, Fpodtolerances2, rfl, rfl, hpodname2, hpodlabels2, hpodcpu2, hpodmem2, hpodrank2, hpodneeds2, hpodtolerances2⟩ := rd_Pod hpod2
  replace hpodname2 := sz63 (s := b.pod.name) hpodname2
  replace hpodlabels2 : Sl _ b.pod.labels Apodlabels2 cpodlabels2 _ := hpodlabels2
  replace hpodcpu2 : I64 b.pod.cpu := hpodcpu2
  replace hpodmem2 : I64 b.pod.mem := hpodmem2
  replace hpodrank2 : I64 b.pod.rank := hpodrank2
  replace hpodneeds2 : Sl _ b.pod.needs Apodneeds2 cpodneeds2 _ := hpodneeds2
  replace hpodtolerances2 : Sl _ b.pod.tolerances Apodtolerances2 cpodtolerances2 _ := hpodtolerances2
  replace hon2 := sz63 (s := b.on) hon2
  replace hseq2 : I64 b.seq := hseq2
  replace hrpod2 : rd _ b.pod [.string b.pod.name, .slice Apodlabels2 b.pod.labels.length cpodlabels2, .int .i64 b.pod.cpu, .int .i64 b.pod.mem, .int .i64 b.pod.rank, .slice Apodneeds2 b.pod.needs.length cpodneeds2, .slice Apodtolerances2 b.pod.tolerances.length cpodtolerances2] _ := hrpod2
  simp only [List.cons_append, List.nil_append]
  go_enter Try.func36, Try.ntmps36
  go_wp2_with (first | (go_at_call 51; refine (eqPod_any a.pod b.pod _ _ _ _ _ (Dat.frame hrpod1 (fun b hb => (show Below w.heap.size w _ from (by repeat (first | with_reducible exact ext_refl _ | with_reducible assumption | with_reducible refine ext_alloc ?_ _ | with_reducible refine ext_trans ?_ (by assumption)))).block b (Dat.lt hrpod1 b hb)) (show Below w.heap.size w _ from (by repeat (first | with_reducible exact ext_refl _ | with_reducible assumption | with_reducible refine ext_alloc ?_ _ | with_reducible refine ext_trans ?_ (by assumption)))).size) (Dat.frame hrpod2 (fun b hb => (show Below w.heap.size w _ from (by repeat (first | with_reducible exact ext_refl _ | with_reducible assumption | with_reducible refine ext_alloc ?_ _ | with_reducible refine ext_trans ?_ (by assumption)))).block b (Dat.lt hrpod2 b hb)) (show Below w.heap.size w _ from (by repeat (first | with_reducible exact ext_refl _ | with_reducible assumption | with_reducible refine ext_alloc ?_ _ | with_reducible refine ext_trans ?_ (by assumption)))).size)).mono ?_; rintro e w0 ⟨rfl, hb0⟩; obtain ⟨hc0, hf0⟩ := bcell hb0; have hz00 : w.heap.size < w0.heap.size := (by have := hb0.size; (try simp at this); omega); have hz01 : w.heap.size + 1 < w0.heap.size := (by have := hb0.size; (try simp at this); omega)))
  all_goals go_ret
  all_goals refine ⟨?_, by repeat (first | with_reducible exact ext_refl _ | with_reducible assumption | with_reducible refine ext_alloc ?_ _ | with_reducible refine ext_trans ?_ (by assumption))⟩
  all_goals (simp only [Bool.not_eq_true', Bool.not_eq_false', bne_iff_ne, bne_eq_false_iff_eq, beq_iff_eq, beq_eq_false_iff_ne, ne_eq] at *; simp [eqPlaced, *])
set_option maxHeartbeats 1000000 in
theorem eqPlacedS_any (xs ys : List Placed) (A B : Option Addr) (c d : Nat) (F G : List Nat) (w : World) (h : Sl w xs A c F) (h' : Sl w ys B d G) :
    Calls Try.prog 24 #[.slice A xs.length c, .slice B ys.length d] w fun e w' => e = .returned (.bool (same eqPlaced xs ys)) ∧ Below w.heap.size w w' := by
  have hc := h.cap
  unfold maxLen at hc
  obtain ⟨hc1, hc2⟩ := hc
  have hd := h'.cap
  unfold maxLen at hd
  obtain ⟨hd1, hd2⟩ := hd
  by_cases hl : xs.length = ys.length
  · have HL := Lib.hid hl
    have hb1 : ((xs.length : Int) != (ys.length : Int)) = false := by simp [hl]
    clear hl
    go_enter Try.func24, Try.ntmps24
    go_wp2
    go_loopw [5] (fun i wr => ∃ k : Nat, k ≤ xs.length ∧ i = .int .i64 k ∧ Hid (same eqPlaced (xs.take k) (ys.take k) = true) ∧ Below w.heap.size w wr) (fun i _ => xs.length - (intOf i).toNat)
    case atStart => exact ⟨0, Nat.zero_le _, rfl, by show _ = true; simp [same], ext_refl _⟩
    case round =>
      obtain ⟨k, hk, rfl, Heq, hbl⟩ := hrel
      by_cases hlt : k < xs.length
      · obtain ⟨b, o, ck, Fk, rfl, hbF, hbs, hr, hsub, hc⟩ := (h.ext hbl).get hlt
        have hlt' : k < ys.length := by rw [← HL.out]; exact hlt
        obtain ⟨b', o', ck', Fk', rfl, hbF', hbs', hr', hsub', hc'⟩ := (h'.ext hbl).get hlt'
        obtain ⟨Apodlabels1, cpodlabels1, Fpodlabels1, Apodneeds1, cpodneeds1, Fpodneeds1, Apodtolerances1, cpodtolerances1, Fpodtolerances1, hck, rfl, hpodname1, hpodlabels1, hpodcpu1, hpodmem1, hpodrank1, hpodneeds1, hpodtolerances1, hon1, hseq1⟩ := rd_Placed hr
        subst hck
        obtain ⟨Apodlabels2, cpodlabels2, Fpodlabels2, Apodneeds2, cpodneeds2, Fpodneeds2, Apodtolerances2, cpodtolerances2, Fpodtolerances2, hck, rfl, hpodname2, hpodlabels2, hpodcpu2, hpodmem2, hpodrank2, hpodneeds2, hpodtolerances2, hon2, hseq2⟩ := rd_Placed hr'
        subst hck
        have q0 : wr.cell? ⟨b, o + k * 9, none⟩ = some (.string xs[k].pod.name) := by exact hc 0 _ rfl
        have q1 : wr.cell? ⟨b, o + k * 9 + 1, none⟩ = some (.slice Apodlabels1 xs[k].pod.labels.length cpodlabels1) := by rw [Nat.add_assoc]; exact hc 1 _ rfl
        have q2 : wr.cell? ⟨b, o + k * 9 + 2, none⟩ = some (.int .i64 xs[k].pod.cpu) := by rw [Nat.add_assoc]; exact hc 2 _ rfl
        have q3 : wr.cell? ⟨b, o + k * 9 + 3, none⟩ = some (.int .i64 xs[k].pod.mem) := by rw [Nat.add_assoc]; exact hc 3 _ rfl
        have q4 : wr.cell? ⟨b, o + k * 9 + 4, none⟩ = some (.int .i64 xs[k].pod.rank) := by rw [Nat.add_assoc]; exact hc 4 _ rfl
        have q5 : wr.cell? ⟨b, o + k * 9 + 5, none⟩ = some (.slice Apodneeds1 xs[k].pod.needs.length cpodneeds1) := by rw [Nat.add_assoc]; exact hc 5 _ rfl
        have q6 : wr.cell? ⟨b, o + k * 9 + 6, none⟩ = some (.slice Apodtolerances1 xs[k].pod.tolerances.length cpodtolerances1) := by rw [Nat.add_assoc]; exact hc 6 _ rfl
        have q7 : wr.cell? ⟨b, o + k * 9 + 7, none⟩ = some (.string xs[k].on) := by rw [Nat.add_assoc]; exact hc 7 _ rfl
        have q8 : wr.cell? ⟨b, o + k * 9 + 8, none⟩ = some (.int .i64 xs[k].seq) := by rw [Nat.add_assoc]; exact hc 8 _ rfl
        have p0 : wr.cell? ⟨b', o' + k * 9, none⟩ = some (.string ys[k].pod.name) := by exact hc' 0 _ rfl
        have p1 : wr.cell? ⟨b', o' + k * 9 + 1, none⟩ = some (.slice Apodlabels2 ys[k].pod.labels.length cpodlabels2) := by rw [Nat.add_assoc]; exact hc' 1 _ rfl
        have p2 : wr.cell? ⟨b', o' + k * 9 + 2, none⟩ = some (.int .i64 ys[k].pod.cpu) := by rw [Nat.add_assoc]; exact hc' 2 _ rfl
        have p3 : wr.cell? ⟨b', o' + k * 9 + 3, none⟩ = some (.int .i64 ys[k].pod.mem) := by rw [Nat.add_assoc]; exact hc' 3 _ rfl
        have p4 : wr.cell? ⟨b', o' + k * 9 + 4, none⟩ = some (.int .i64 ys[k].pod.rank) := by rw [Nat.add_assoc]; exact hc' 4 _ rfl
        have p5 : wr.cell? ⟨b', o' + k * 9 + 5, none⟩ = some (.slice Apodneeds2 ys[k].pod.needs.length cpodneeds2) := by rw [Nat.add_assoc]; exact hc' 5 _ rfl
        have p6 : wr.cell? ⟨b', o' + k * 9 + 6, none⟩ = some (.slice Apodtolerances2 ys[k].pod.tolerances.length cpodtolerances2) := by rw [Nat.add_assoc]; exact hc' 6 _ rfl
        have p7 : wr.cell? ⟨b', o' + k * 9 + 7, none⟩ = some (.string ys[k].on) := by rw [Nat.add_assoc]; exact hc' 7 _ rfl
        have p8 : wr.cell? ⟨b', o' + k * 9 + 8, none⟩ = some (.int .i64 ys[k].seq) := by rw [Nat.add_assoc]; exact hc' 8 _ rfl
        clear hc hc'
        go_wp2_with fail
        refine wp_region_grow wr (by kernel_rfl) (by kernel_rfl) (by first | exact ext_refl _ | assumption) ?_
        repeat (first
          | (apply inText_skip
             case hw => rfl
             simp only [Act.put, List.setIfInBounds_toArray, List.set_cons_zero, List.set_cons_succ])
          | (apply inText_step
             case hw => rfl
             case h =>
               intro wq hq
               have hcq := (cls_cell hq).1
               have hfq := (cls_cell hq).2
               go_simp
               first
                 | exact ⟨hq, rfl⟩
                 | exact ⟨cls_alloc hq _, rfl⟩
                 | (refine (eqPlaced_any xs[k] ys[k] _ _ _ _ _ (Dat.frame hr (fun x hx => hq.out.block x (Dat.lt hr x hx)) hq.out.size) (Dat.frame hr' (fun x hx => hq.out.block x (Dat.lt hr' x hx)) hq.out.size)).mono ?_; rintro e w2 ⟨rfl, hb2⟩; exact ⟨rfl, cls_trans hq hb2⟩)
                 | (simp only [↓IntWalk.iteOmega]; exact ⟨hq, rfl⟩)
             simp only [Act.put, List.setIfInBounds_toArray, List.set_cons_zero, List.set_cons_succ]))
        refine inText_nil ?_
        intro wn hn
        replace hn := hn.out
        go_wp2
        · rename_i hne
          go_ret
          refine ⟨?_, ext_trans hbl hn⟩
          rw [same_drop (k + 1) (by rw [same_take hlt hlt', Heq.out]; simpa [eqStr, eqInt] using hne) HL.out]
          rfl
        · rename_i hne
          exact ⟨⟨k + 1, by omega, by go_num, by show _ = _; rw [same_take hlt hlt', Heq.out]; simpa [eqStr, eqInt] using hne, ext_trans hbl hn⟩, by simp [intOf]; omega⟩
      · have hkl : k = xs.length := by omega
        have HK := Lib.hid hkl
        clear hkl
        go_wp2
        go_ret
        have h1 := Heq.out
        rw [HK.out, List.take_length, HL.out, List.take_length] at h1
        exact ⟨by rw [h1]; rfl, hbl⟩
  · have hb1 : ((xs.length : Int) != (ys.length : Int)) = true := by simp; omega
    have HL := Lib.hid (same_len (eq := eqPlaced) hl)
    clear hl
    go_enter Try.func24, Try.ntmps24
    go_wp2
    go_ret
    exact ⟨by rw [HL.out]; rfl, ext_refl _⟩
def eqCluster (a b : Cluster) : Bool := same eqHost a.hosts b.hosts && same eqPlaced a.pods b.pods && (a.next == b.next) && eqWeights a.weights b.weights
theorem eqCluster_iff (a b : Cluster) : eqCluster a b = true ↔ a = b := by
  constructor
  · intro h
    simp only [eqCluster, Bool.and_eq_true] at h
    have h0 := (same_iff eqHost_iff _ _).1 h.1.1.1
    have h1 := (same_iff eqPlaced_iff _ _).1 h.1.1.2
    have h2 := eq_of_beq h.1.2
    have h3 := (eqWeights_iff _ _).1 h.2
    cases a; cases b
    simp only at h0 h1 h2 h3
    subst h0 h1 h2 h3
    rfl
  · rintro rfl
    have g0 := (same_iff eqHost_iff a.hosts a.hosts).2 rfl
    have g1 := (same_iff eqPlaced_iff a.pods a.pods).2 rfl
    have g3 := (eqWeights_iff a.weights a.weights).2 rfl
    simp [eqCluster, *]
set_option maxHeartbeats 1000000 in
theorem eqCluster_any (a b : Cluster) (cs ds : List Value) (F G : List Nat) (w : World) (h : rd w a cs F) (h' : rd w b ds G) :
    Calls Try.prog 9 #[.agg cs.toArray, .agg ds.toArray] w fun e w' => e = .returned (.bool (eqCluster a b)) ∧ Below w.heap.size w w' := by
  obtain ⟨_, _, _, _, rfl, rfl, hhosts1, _, _, _, _, rfl, rfl, hpods1, _, _, _, _, rfl, rfl, ⟨rfl, rfl, hnext1⟩, hweights1⟩ := h
  obtain ⟨Ahosts1, chosts1, rfl, hhosts1⟩ := rd_list hhosts1
  obtain ⟨Apods1, cpods1, rfl, hpods1⟩ := rd_list hpods1
  have hrweights1 := hweights1
  obtain ⟨rfl, rfl, hweightspack1, hweightsspread1, hweightssoft1⟩ := rd_Weights hweights1
  replace hhosts1 : Sl _ a.hosts Ahosts1 chosts1 _ := hhosts1
  replace hpods1 : Sl _ a.pods Apods1 cpods1 _ := hpods1
  replace hnext1 : I64 a.next := hnext1
  replace hweightspack1 : I64 a.weights.pack := hweightspack1
  replace hweightsspread1 : I64 a.weights.spread := hweightsspread1
  replace hweightssoft1 : I64 a.weights.soft := hweightssoft1
  replace hrweights1 : rd _ a.weights [.int .i64 a.weights.pack, .int .i64 a.weights.spread, .int .i64 a.weights.soft] _ := hrweights1
  simp only [List.cons_append, List.nil_append]
  obtain ⟨_, _, _, _, rfl, rfl, hhosts2, _, _, _, _, rfl, rfl, hpods2, _, _, _, _, rfl, rfl, ⟨rfl, rfl, hnext2⟩, hweights2⟩ := h'
  obtain ⟨Ahosts2, chosts2, rfl, hhosts2⟩ := rd_list hhosts2
  obtain ⟨Apods2, cpods2, rfl, hpods2⟩ := rd_list hpods2
  have hrweights2 := hweights2
  obtain ⟨rfl, rfl, hweightspack2, hweightsspread2, hweightssoft2⟩ := rd_Weights hweights2
  replace hhosts2 : Sl _ b.hosts Ahosts2 chosts2 _ := hhosts2
  replace hpods2 : Sl _ b.pods Apods2 cpods2 _ := hpods2
  replace hnext2 : I64 b.next := hnext2
  replace hweightspack2 : I64 b.weights.pack := hweightspack2
  replace hweightsspread2 : I64 b.weights.spread := hweightsspread2
  replace hweightssoft2 : I64 b.weights.soft := hweightssoft2
  replace hrweights2 : rd _ b.weights [.int .i64 b.weights.pack, .int .i64 b.weights.spread, .int .i64 b.weights.soft] _ := hrweights2
  simp only [List.cons_append, List.nil_append]
  go_enter Try.func9, Try.ntmps9
  go_wp2_with (first | (go_at_call 23; refine (eqHostS_any a.hosts b.hosts _ _ _ _ _ _ _ (hhosts1.ext (by repeat (first | with_reducible exact ext_refl _ | with_reducible assumption | with_reducible refine ext_alloc ?_ _ | with_reducible refine ext_trans ?_ (by assumption)))) (hhosts2.ext (by repeat (first | with_reducible exact ext_refl _ | with_reducible assumption | with_reducible refine ext_alloc ?_ _ | with_reducible refine ext_trans ?_ (by assumption))))).mono ?_; rintro e w0 ⟨rfl, hb0⟩; obtain ⟨hc0, hf0⟩ := bcell hb0; have hz00 : w.heap.size < w0.heap.size := (by have := hb0.size; (try simp at this); omega); have hz01 : w.heap.size + 1 < w0.heap.size := (by have := hb0.size; (try simp at this); omega)) | (go_at_call 24; refine (eqPlacedS_any a.pods b.pods _ _ _ _ _ _ _ (hpods1.ext (by repeat (first | with_reducible exact ext_refl _ | with_reducible assumption | with_reducible refine ext_alloc ?_ _ | with_reducible refine ext_trans ?_ (by assumption)))) (hpods2.ext (by repeat (first | with_reducible exact ext_refl _ | with_reducible assumption | with_reducible refine ext_alloc ?_ _ | with_reducible refine ext_trans ?_ (by assumption))))).mono ?_; rintro e w1 ⟨rfl, hb1⟩; obtain ⟨hc1, hf1⟩ := bcell hb1; have hz10 : w.heap.size < w1.heap.size := (by have := hb1.size; (try simp at this); omega); have hz11 : w.heap.size + 1 < w1.heap.size := (by have := hb1.size; (try simp at this); omega)) | (go_at_call 25; refine (eqWeights_any a.weights b.weights _ _ _ _ _ (Dat.frame hrweights1 (fun b hb => (show Below w.heap.size w _ from (by repeat (first | with_reducible exact ext_refl _ | with_reducible assumption | with_reducible refine ext_alloc ?_ _ | with_reducible refine ext_trans ?_ (by assumption)))).block b (Dat.lt hrweights1 b hb)) (show Below w.heap.size w _ from (by repeat (first | with_reducible exact ext_refl _ | with_reducible assumption | with_reducible refine ext_alloc ?_ _ | with_reducible refine ext_trans ?_ (by assumption)))).size) (Dat.frame hrweights2 (fun b hb => (show Below w.heap.size w _ from (by repeat (first | with_reducible exact ext_refl _ | with_reducible assumption | with_reducible refine ext_alloc ?_ _ | with_reducible refine ext_trans ?_ (by assumption)))).block b (Dat.lt hrweights2 b hb)) (show Below w.heap.size w _ from (by repeat (first | with_reducible exact ext_refl _ | with_reducible assumption | with_reducible refine ext_alloc ?_ _ | with_reducible refine ext_trans ?_ (by assumption)))).size)).mono ?_; rintro e w3 ⟨rfl, hb3⟩; obtain ⟨hc3, hf3⟩ := bcell hb3; have hz30 : w.heap.size < w3.heap.size := (by have := hb3.size; (try simp at this); omega); have hz31 : w.heap.size + 1 < w3.heap.size := (by have := hb3.size; (try simp at this); omega)))
  all_goals go_ret
  all_goals refine ⟨?_, by repeat (first | with_reducible exact ext_refl _ | with_reducible assumption | with_reducible refine ext_alloc ?_ _ | with_reducible refine ext_trans ?_ (by assumption))⟩
  all_goals (simp only [Bool.not_eq_true', Bool.not_eq_false', bne_iff_ne, bne_eq_false_iff_eq, beq_iff_eq, beq_eq_false_iff_ne, ne_eq] at *; simp [eqCluster, *])
def eqManifest (a b : Manifest) : Bool := (a.kind == b.kind) && eqPod a.pod b.pod && eqHost a.host b.host
theorem eqManifest_iff (a b : Manifest) : eqManifest a b = true ↔ a = b := by
  constructor
  · intro h
    simp only [eqManifest, Bool.and_eq_true] at h
    have h0 := eq_of_beq h.1.1
    have h1 := (eqPod_iff _ _).1 h.1.2
    have h2 := (eqHost_iff _ _).1 h.2
    cases a; cases b
    simp only at h0 h1 h2
    subst h0 h1 h2
    rfl
  · rintro rfl
    have g1 := (eqPod_iff a.pod a.pod).2 rfl
    have g2 := (eqHost_iff a.host a.host).2 rfl
    simp [eqManifest, *]
def eqFault (a b : Fault) : Bool := (a.code == b.code) && (a.at_ == b.at_) && (a.path.toList == b.path.toList)
theorem eqFault_iff (a b : Fault) : eqFault a b = true ↔ a = b := by
  constructor
  · intro h
    simp only [eqFault, Bool.and_eq_true] at h
    have h0 := eq_of_beq h.1.1
    have h1 := eq_of_beq h.1.2
    have h2 := bytes_ext h.2
    cases a; cases b
    simp only at h0 h1 h2
    subst h0 h1 h2
    rfl
  · rintro rfl
    simp [eqFault, *]
end Go.Proofs.Ytjoclfenghenjaa
