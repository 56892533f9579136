/- laws' comparisons. -/
import Derived.Test.YtkgajoichmnaaaaData
import Derived.Test.YtkgajoichmnaaaaRegion
namespace Go.Proofs.Ytkgajoichmnaaaa
open Dat (rd)
open Go.ChangeShapes Go.WideShapes Go.ChangeAt Go.RowKit
set_option linter.unusedVariables false
set_option linter.unusedSimpArgs false

theorem bytes_ext {a b : ByteArray} (h : (a.toList == b.toList) = true) : a = b := by
  have h1 : a.toList = b.toList := by simpa using h
  have h2 : a.data.toList = b.data.toList := by rw [← ByteArray.toList_eq, ← ByteArray.toList_eq]; exact h1
  cases a; cases b; simp_all
def eqStr (a b : ByteArray) : Bool := a.toList == b.toList
def eqInt (a b : Int) : Bool := a == b
theorem eqStr_iff (a b : ByteArray) : eqStr a b = true ↔ a = b := ⟨bytes_ext, fun h => by subst h; simp [eqStr]⟩
theorem eqInt_iff (a b : Int) : eqInt a b = true ↔ a = b := by simp [eqInt]
/-- two lists are the same -/
def same {α : Type} (eq : α → α → Bool) : List α → List α → Bool
  | [], [] => true
  | a :: l, b :: m => eq a b && same eq l m
  | _, _ => false
theorem same_len {α : Type} {eq : α → α → Bool} : ∀ {l m : List α}, l.length ≠ m.length → same eq l m = false
  | [], [], h => absurd rfl h
  | [], _ :: _, _ => rfl
  | _ :: _, [], _ => rfl
  | a :: l, b :: m, h => by simp only [same]; rw [same_len (l := l) (m := m) (by simpa using h)]; simp
theorem same_take {α : Type} {eq : α → α → Bool} {l m : List α} {k : Nat} (h : k < l.length) (h' : k < m.length) : same eq (l.take (k + 1)) (m.take (k + 1)) = (same eq (l.take k) (m.take k) && eq l[k] m[k]) := by
  induction k generalizing l m with
  | zero =>
    cases l with
    | nil => simp at h
    | cons a l =>
      cases m with
      | nil => simp at h'
      | cons b m => simp [same]
  | succ k ih =>
    cases l with
    | nil => simp at h
    | cons a l =>
      cases m with
      | nil => simp at h'
      | cons b m =>
        simp only [List.take_succ_cons, same]
        rw [ih (by simpa using h) (by simpa using h'), Bool.and_assoc]
        simp
theorem same_drop {α : Type} {eq : α → α → Bool} {l m : List α} (k : Nat) (h : same eq (l.take k) (m.take k) = false) (hl : l.length = m.length) : same eq l m = false := by
  induction k generalizing l m with
  | zero => simp [same] at h
  | succ k ih =>
    cases l <;> cases m <;> simp_all [same]
theorem same_iff {α : Type} {eq : α → α → Bool} (h : ∀ a b, eq a b = true ↔ a = b) : ∀ (l m : List α), same eq l m = true ↔ l = m
  | [], [] => by simp [same]
  | [], _ :: _ => by simp [same]
  | _ :: _, [] => by simp [same]
  | a :: l, b :: m => by simp [same, h, same_iff h l m]
def eqLabel (a b : Label) : Bool := (a.key.toList == b.key.toList) && (a.value.toList == b.value.toList)
theorem eqLabel_iff (a b : Label) : eqLabel a b = true ↔ a = b := by
  constructor
  · intro h
    simp only [eqLabel, Bool.and_eq_true] at h
    have h0 := bytes_ext h.1
    have h1 := bytes_ext h.2
    cases a; cases b
    simp only at h0 h1
    subst h0 h1
    rfl
  · rintro rfl
    simp [eqLabel, *]
set_option maxHeartbeats 1000000 in
theorem eqLabel_any (a b : Label) (cs ds : List Value) (F G : List Nat) (w : World) (h : rd w a cs F) (h' : rd w b ds G) :
    Calls Try.prog 36 #[.agg cs.toArray, .agg ds.toArray] w fun e w' => e = .returned (.bool (eqLabel a b)) ∧ Below w.heap.size w w' := by
  obtain ⟨_, _, _, _, rfl, rfl, ⟨rfl, rfl, hkey1⟩, ⟨rfl, rfl, hvalue1⟩⟩ := h
  replace hkey1 := sz63 (s := a.key) hkey1
  replace hvalue1 := sz63 (s := a.value) hvalue1
  simp only [List.cons_append, List.nil_append]
  obtain ⟨_, _, _, _, rfl, rfl, ⟨rfl, rfl, hkey2⟩, ⟨rfl, rfl, hvalue2⟩⟩ := h'
  replace hkey2 := sz63 (s := b.key) hkey2
  replace hvalue2 := sz63 (s := b.value) hvalue2
  simp only [List.cons_append, List.nil_append]
  go_enter Try.func36, Try.ntmps36
  go_wp2
  all_goals go_ret
  all_goals refine ⟨?_, by repeat (first | with_reducible exact ext_refl _ | with_reducible assumption | with_reducible refine ext_alloc ?_ _ | with_reducible refine ext_trans ?_ (by assumption))⟩
  all_goals (simp only [Bool.not_eq_true', Bool.not_eq_false', bne_iff_ne, bne_eq_false_iff_eq, beq_iff_eq, beq_eq_false_iff_ne, ne_eq] at *; simp [eqLabel, *])
set_option maxHeartbeats 1000000 in
theorem eqLabelS_any (xs ys : List Label) (A B : Option Addr) (c d : Nat) (F G : List Nat) (w : World) (h : Sl w xs A c F) (h' : Sl w ys B d G) :
    Calls Try.prog 21 #[.slice A xs.length c, .slice B ys.length d] w fun e w' => e = .returned (.bool (same eqLabel xs ys)) ∧ Below w.heap.size w w' := by
  have hc := h.cap
  unfold maxLen at hc
  obtain ⟨hc1, hc2⟩ := hc
  have hd := h'.cap
  unfold maxLen at hd
  obtain ⟨hd1, hd2⟩ := hd
  by_cases hl : xs.length = ys.length
  · have HL := Lib.hid hl
    have hb1 : ((xs.length : Int) != (ys.length : Int)) = false := by simp [hl]
    clear hl
    go_enter Try.func21, Try.ntmps21
    go_wp2
    go_loopw [5] (fun i wr => ∃ k : Nat, k ≤ xs.length ∧ i = .int .i64 k ∧ Hid (same eqLabel (xs.take k) (ys.take k) = true) ∧ Below w.heap.size w wr) (fun i _ => xs.length - (intOf i).toNat)
    case atStart => exact ⟨0, Nat.zero_le _, rfl, by show _ = true; simp [same], ext_refl _⟩
    case round =>
      obtain ⟨k, hk, rfl, Heq, hbl⟩ := hrel
      by_cases hlt : k < xs.length
      · obtain ⟨b, o, ck, Fk, rfl, hbF, hbs, hr, hsub, hc⟩ := (h.ext hbl).get hlt
        have hlt' : k < ys.length := by rw [← HL.out]; exact hlt
        obtain ⟨b', o', ck', Fk', rfl, hbF', hbs', hr', hsub', hc'⟩ := (h'.ext hbl).get hlt'
        obtain ⟨hck, rfl, hkey1, hvalue1⟩ := rd_Label hr
        subst hck
        obtain ⟨hck, rfl, hkey2, hvalue2⟩ := rd_Label hr'
        subst hck
        have q0 : wr.cell? ⟨b, o + k * 2, none⟩ = some (.string xs[k].key) := by exact hc 0 _ rfl
        have q1 : wr.cell? ⟨b, o + k * 2 + 1, none⟩ = some (.string xs[k].value) := by rw [Nat.add_assoc]; exact hc 1 _ rfl
        have p0 : wr.cell? ⟨b', o' + k * 2, none⟩ = some (.string ys[k].key) := by exact hc' 0 _ rfl
        have p1 : wr.cell? ⟨b', o' + k * 2 + 1, none⟩ = some (.string ys[k].value) := by rw [Nat.add_assoc]; exact hc' 1 _ rfl
        clear hc hc'
        go_wp2_with fail
        refine wp_region_grow wr (by kernel_rfl) (by kernel_rfl) (by first | exact ext_refl _ | assumption) ?_
        repeat (first
          | (apply inText_skip
             case hw => rfl
             simp only [Act.put, List.setIfInBounds_toArray, List.set_cons_zero, List.set_cons_succ])
          | (apply inText_step
             case hw => rfl
             case h =>
               intro wq hq
               have hcq := (cls_cell hq).1
               have hfq := (cls_cell hq).2
               go_simp
               first
                 | exact ⟨hq, rfl⟩
                 | exact ⟨cls_alloc hq _, rfl⟩
                 | (refine (eqLabel_any xs[k] ys[k] _ _ _ _ _ (Dat.frame hr (fun x hx => hq.out.block x (Dat.lt hr x hx)) hq.out.size) (Dat.frame hr' (fun x hx => hq.out.block x (Dat.lt hr' x hx)) hq.out.size)).mono ?_; rintro e w2 ⟨rfl, hb2⟩; exact ⟨rfl, cls_trans hq hb2⟩)
                 | (simp only [↓IntWalk.iteOmega]; exact ⟨hq, rfl⟩)
             simp only [Act.put, List.setIfInBounds_toArray, List.set_cons_zero, List.set_cons_succ]))
        refine inText_nil ?_
        intro wn hn
        replace hn := hn.out
        go_wp2
        · rename_i hne
          go_ret
          refine ⟨?_, ext_trans hbl hn⟩
          rw [same_drop (k + 1) (by rw [same_take hlt hlt', Heq.out]; simpa [eqStr, eqInt] using hne) HL.out]
          rfl
        · rename_i hne
          exact ⟨⟨k + 1, by omega, by go_num, by show _ = _; rw [same_take hlt hlt', Heq.out]; simpa [eqStr, eqInt] using hne, ext_trans hbl hn⟩, by simp [intOf]; omega⟩
      · have hkl : k = xs.length := by omega
        have HK := Lib.hid hkl
        clear hkl
        go_wp2
        go_ret
        have h1 := Heq.out
        rw [HK.out, List.take_length, HL.out, List.take_length] at h1
        exact ⟨by rw [h1]; rfl, hbl⟩
  · have hb1 : ((xs.length : Int) != (ys.length : Int)) = true := by simp; omega
    have HL := Lib.hid (same_len (eq := eqLabel) hl)
    clear hl
    go_enter Try.func21, Try.ntmps21
    go_wp2
    go_ret
    exact ⟨by rw [HL.out]; rfl, ext_refl _⟩
def eqNeed (a b : Need) : Bool := (a.key.toList == b.key.toList) && (a.op == b.op) && same eqStr a.values b.values
theorem eqNeed_iff (a b : Need) : eqNeed a b = true ↔ a = b := by
  constructor
  · intro h
    simp only [eqNeed, Bool.and_eq_true] at h
    have h0 := bytes_ext h.1.1
    have h1 := eq_of_beq h.1.2
    have h2 := (same_iff eqStr_iff _ _).1 h.2
    cases a; cases b
    simp only at h0 h1 h2
    subst h0 h1 h2
    rfl
  · rintro rfl
    have g2 := (same_iff eqStr_iff a.values a.values).2 rfl
    simp [eqNeed, *]
def eqTaint (a b : Taint) : Bool := (a.key.toList == b.key.toList) && (a.value.toList == b.value.toList) && (a.effect == b.effect)
theorem eqTaint_iff (a b : Taint) : eqTaint a b = true ↔ a = b := by
  constructor
  · intro h
    simp only [eqTaint, Bool.and_eq_true] at h
    have h0 := bytes_ext h.1.1
    have h1 := bytes_ext h.1.2
    have h2 := eq_of_beq h.2
    cases a; cases b
    simp only at h0 h1 h2
    subst h0 h1 h2
    rfl
  · rintro rfl
    simp [eqTaint, *]
def eqTolerance (a b : Tolerance) : Bool := (a.key.toList == b.key.toList) && (a.equal == b.equal) && (a.value.toList == b.value.toList) && (a.effect == b.effect)
theorem eqTolerance_iff (a b : Tolerance) : eqTolerance a b = true ↔ a = b := by
  constructor
  · intro h
    simp only [eqTolerance, Bool.and_eq_true] at h
    have h0 := bytes_ext h.1.1.1
    have h1 := eq_of_beq h.1.1.2
    have h2 := bytes_ext h.1.2
    have h3 := eq_of_beq h.2
    cases a; cases b
    simp only at h0 h1 h2 h3
    subst h0 h1 h2 h3
    rfl
  · rintro rfl
    simp [eqTolerance, *]
def eqPod (a b : Pod) : Bool := (a.name.toList == b.name.toList) && same eqLabel a.labels b.labels && (a.cpu == b.cpu) && (a.mem == b.mem) && (a.rank == b.rank) && same eqNeed a.needs b.needs && same eqTolerance a.tolerances b.tolerances
theorem eqPod_iff (a b : Pod) : eqPod a b = true ↔ a = b := by
  constructor
  · intro h
    simp only [eqPod, Bool.and_eq_true] at h
    have h0 := bytes_ext h.1.1.1.1.1.1
    have h1 := (same_iff eqLabel_iff _ _).1 h.1.1.1.1.1.2
    have h2 := eq_of_beq h.1.1.1.1.2
    have h3 := eq_of_beq h.1.1.1.2
    have h4 := eq_of_beq h.1.1.2
    have h5 := (same_iff eqNeed_iff _ _).1 h.1.2
    have h6 := (same_iff eqTolerance_iff _ _).1 h.2
    cases a; cases b
    simp only at h0 h1 h2 h3 h4 h5 h6
    subst h0 h1 h2 h3 h4 h5 h6
    rfl
  · rintro rfl
    have g1 := (same_iff eqLabel_iff a.labels a.labels).2 rfl
    have g5 := (same_iff eqNeed_iff a.needs a.needs).2 rfl
    have g6 := (same_iff eqTolerance_iff a.tolerances a.tolerances).2 rfl
    simp [eqPod, *]
def eqHost (a b : Host) : Bool := (a.name.toList == b.name.toList) && same eqLabel a.labels b.labels && (a.cpu == b.cpu) && (a.mem == b.mem) && (a.slots == b.slots) && same eqTaint a.taints b.taints
theorem eqHost_iff (a b : Host) : eqHost a b = true ↔ a = b := by
  constructor
  · intro h
    simp only [eqHost, Bool.and_eq_true] at h
    have h0 := bytes_ext h.1.1.1.1.1
    have h1 := (same_iff eqLabel_iff _ _).1 h.1.1.1.1.2
    have h2 := eq_of_beq h.1.1.1.2
    have h3 := eq_of_beq h.1.1.2
    have h4 := eq_of_beq h.1.2
    have h5 := (same_iff eqTaint_iff _ _).1 h.2
    cases a; cases b
    simp only at h0 h1 h2 h3 h4 h5
    subst h0 h1 h2 h3 h4 h5
    rfl
  · rintro rfl
    have g1 := (same_iff eqLabel_iff a.labels a.labels).2 rfl
    have g5 := (same_iff eqTaint_iff a.taints a.taints).2 rfl
    simp [eqHost, *]
def eqWeights (a b : Weights) : Bool := (a.pack == b.pack) && (a.spread == b.spread) && (a.soft == b.soft)
theorem eqWeights_iff (a b : Weights) : eqWeights a b = true ↔ a = b := by
  constructor
  · intro h
    simp only [eqWeights, Bool.and_eq_true] at h
    have h0 := eq_of_beq h.1.1
    have h1 := eq_of_beq h.1.2
    have h2 := eq_of_beq h.2
    cases a; cases b
    simp only at h0 h1 h2
    subst h0 h1 h2
    rfl
  · rintro rfl
    simp [eqWeights, *]
set_option maxHeartbeats 1000000 in
theorem eqWeights_any (a b : Weights) (cs ds : List Value) (F G : List Nat) (w : World) (h : rd w a cs F) (h' : rd w b ds G) :
    Calls Try.prog 14 #[.agg cs.toArray, .agg ds.toArray] w fun e w' => e = .returned (.bool (eqWeights a b)) ∧ Below w.heap.size w w' := by
  obtain ⟨_, _, _, _, rfl, rfl, ⟨rfl, rfl, hpack1⟩, _, _, _, _, rfl, rfl, ⟨rfl, rfl, hspread1⟩, ⟨rfl, rfl, hsoft1⟩⟩ := h
  replace hpack1 : I64 a.pack := hpack1
  replace hspread1 : I64 a.spread := hspread1
  replace hsoft1 : I64 a.soft := hsoft1
  simp only [List.cons_append, List.nil_append]
  obtain ⟨_, _, _, _, rfl, rfl, ⟨rfl, rfl, hpack2⟩, _, _, _, _, rfl, rfl, ⟨rfl, rfl, hspread2⟩, ⟨rfl, rfl, hsoft2⟩⟩ := h'
  replace hpack2 : I64 b.pack := hpack2
  replace hspread2 : I64 b.spread := hspread2
  replace hsoft2 : I64 b.soft := hsoft2
  simp only [List.cons_append, List.nil_append]
  go_enter Try.func14, Try.ntmps14
  go_wp2
  all_goals go_ret
  all_goals refine ⟨?_, by repeat (first | with_reducible exact ext_refl _ | with_reducible assumption | with_reducible refine ext_alloc ?_ _ | with_reducible refine ext_trans ?_ (by assumption))⟩
  all_goals (simp only [Bool.not_eq_true', Bool.not_eq_false', bne_iff_ne, bne_eq_false_iff_eq, beq_iff_eq, beq_eq_false_iff_ne, ne_eq] at *; simp [eqWeights, *])
def eqPlaced (a b : Placed) : Bool := eqPod a.pod b.pod && (a.on.toList == b.on.toList) && (a.seq == b.seq)
theorem eqPlaced_iff (a b : Placed) : eqPlaced a b = true ↔ a = b := by
  constructor
  · intro h
    simp only [eqPlaced, Bool.and_eq_true] at h
    have h0 := (eqPod_iff _ _).1 h.1.1
    have h1 := bytes_ext h.1.2
    have h2 := eq_of_beq h.2
    cases a; cases b
    simp only at h0 h1 h2
    subst h0 h1 h2
    rfl
  · rintro rfl
    have g0 := (eqPod_iff a.pod a.pod).2 rfl
    simp [eqPlaced, *]
def eqCluster (a b : Cluster) : Bool := same eqHost a.hosts b.hosts && same eqPlaced a.pods b.pods && (a.next == b.next) && eqWeights a.weights b.weights
theorem eqCluster_iff (a b : Cluster) : eqCluster a b = true ↔ a = b := by
  constructor
  · intro h
    simp only [eqCluster, Bool.and_eq_true] at h
    have h0 := (same_iff eqHost_iff _ _).1 h.1.1.1
    have h1 := (same_iff eqPlaced_iff _ _).1 h.1.1.2
    have h2 := eq_of_beq h.1.2
    have h3 := (eqWeights_iff _ _).1 h.2
    cases a; cases b
    simp only at h0 h1 h2 h3
    subst h0 h1 h2 h3
    rfl
  · rintro rfl
    have g0 := (same_iff eqHost_iff a.hosts a.hosts).2 rfl
    have g1 := (same_iff eqPlaced_iff a.pods a.pods).2 rfl
    have g3 := (eqWeights_iff a.weights a.weights).2 rfl
    simp [eqCluster, *]
def eqManifest (a b : Manifest) : Bool := (a.kind == b.kind) && eqPod a.pod b.pod && eqHost a.host b.host
theorem eqManifest_iff (a b : Manifest) : eqManifest a b = true ↔ a = b := by
  constructor
  · intro h
    simp only [eqManifest, Bool.and_eq_true] at h
    have h0 := eq_of_beq h.1.1
    have h1 := (eqPod_iff _ _).1 h.1.2
    have h2 := (eqHost_iff _ _).1 h.2
    cases a; cases b
    simp only at h0 h1 h2
    subst h0 h1 h2
    rfl
  · rintro rfl
    have g1 := (eqPod_iff a.pod a.pod).2 rfl
    have g2 := (eqHost_iff a.host a.host).2 rfl
    simp [eqManifest, *]
def eqFault (a b : Fault) : Bool := (a.code == b.code) && (a.at_ == b.at_) && (a.path.toList == b.path.toList)
theorem eqFault_iff (a b : Fault) : eqFault a b = true ↔ a = b := by
  constructor
  · intro h
    simp only [eqFault, Bool.and_eq_true] at h
    have h0 := eq_of_beq h.1.1
    have h1 := eq_of_beq h.1.2
    have h2 := bytes_ext h.2
    cases a; cases b
    simp only at h0 h1 h2
    subst h0 h1 h2
    rfl
  · rintro rfl
    simp [eqFault, *]
end Go.Proofs.Ytkgajoichmnaaaa
