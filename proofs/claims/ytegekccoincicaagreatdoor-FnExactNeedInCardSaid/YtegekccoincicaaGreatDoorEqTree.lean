/- laws' comparison of trees. No condition. -/
import Derived.Test.YtegekccoincicaaGreatDoorTreeSz
import Derived.Test.YtegekccoincicaaGreatDoorEq
namespace Go.Proofs.YtegekccoincicaaGreatDoor
open Dat (rd)
open Go.ChangeShapes Go.WideShapes Go.ChangeAt Go.RowKit
set_option linter.unusedVariables false
set_option linter.unusedSimpArgs false

mutual
/-- two trees are the same -/
def eqTree : Tree → Tree → Bool
  | .mk a b c d e f, .mk a' b' c' d' e' f' => (a == a') && (b == b') && (c == c') && (d.toList == d'.toList) && same eqStr e e' && eqTrees f f'
def eqTrees : List Tree → List Tree → Bool
  | [], [] => true
  | x :: xs, y :: ys => eqTree x y && eqTrees xs ys
  | _, _ => false
end
theorem eqTrees_eq : ∀ xs ys : List Tree, eqTrees xs ys = same eqTree xs ys
  | [], [] => by simp [eqTrees, same]
  | [], _ :: _ => by simp [eqTrees, same]
  | _ :: _, [] => by simp [eqTrees, same]
  | x :: xs, y :: ys => by simp [eqTrees, same, eqTrees_eq xs ys]
theorem eqTree_eq (a b : Tree) : eqTree a b = ((a.kind == b.kind) && (a.flag == b.flag) && (a.num == b.num) && (a.text.toList == b.text.toList) && same eqStr a.keys b.keys && same eqTree a.kids b.kids) := by
  cases a with
  | mk a1 a2 a3 a4 a5 a6 =>
    cases b with
    | mk b1 b2 b3 b4 b5 b6 => rw [eqTree, eqTrees_eq]; rfl
theorem same_iff_mem {α : Type} {eq : α → α → Bool} : ∀ (l m : List α), (∀ a ∈ l, ∀ b, eq a b = true ↔ a = b) → (same eq l m = true ↔ l = m)
  | [], [], _ => by simp [same]
  | [], _ :: _, _ => by simp [same]
  | _ :: _, [], _ => by simp [same]
  | a :: l, b :: m, h => by simp [same, h a (List.mem_cons_self ..), same_iff_mem l m (fun x hx => h x (List.mem_cons_of_mem _ hx))]
theorem eqTree_all (n : Nat) : ∀ a : Tree, SizeOf.sizeOf a ≤ n → ∀ b, eqTree a b = true ↔ a = b := by
  have step : ∀ a : Tree, (∀ k ∈ a.kids, ∀ b, eqTree k b = true ↔ k = b) → ∀ b, eqTree a b = true ↔ a = b := by
    intro a ih b
    rw [eqTree_eq]
    simp only [Bool.and_eq_true, same_iff_mem _ _ ih, same_iff eqStr_iff, beq_iff_eq]
    constructor
    · rintro ⟨⟨⟨⟨⟨h1, h2⟩, h3⟩, h4⟩, h5⟩, h6⟩
      have h4 := bytes_ext (a := a.text) (b := b.text) (by simpa using h4)
      rw [← Tree.eta a, ← Tree.eta b, h1, h2, h3, h4, h5, h6]
    · rintro rfl
      exact ⟨⟨⟨⟨⟨rfl, rfl⟩, rfl⟩, rfl⟩, rfl⟩, rfl⟩
  induction n with
  | zero => intro x hx; exact step x fun k hk => by have := Tree.kid_lt x k hk; omega
  | succ n ih => intro x hx; exact step x fun k hk => ih k (by have := Tree.kid_lt x k hk; omega)
theorem eqTree_iff (a b : Tree) : eqTree a b = true ↔ a = b := eqTree_all _ a (Nat.le_refl _) b
/-- what eqTree answers -/
def EqTree (a : Tree) : Prop := ∀ (b : Tree) (cs ds : List Value) (F G : List Nat) (w : World), rd w a cs F → rd w b ds G → Calls Tryz.prog 11 #[.agg cs.toArray, .agg ds.toArray] w fun e w' => e = .returned (.bool (eqTree a b)) ∧ Below w.heap.size w w'
set_option maxHeartbeats 1000000 in
theorem eqTreeS_step (xs ys : List Tree) (ih : ∀ x ∈ xs, EqTree x) (A B : Option Addr) (c d : Nat) (F G : List Nat) (w : World) (h : Sl w xs A c F) (h' : Sl w ys B d G) :
    Calls Tryz.prog 61 #[.slice A xs.length c, .slice B ys.length d] w fun e w' => e = .returned (.bool (same eqTree xs ys)) ∧ Below w.heap.size w w' := by
  have IH := Lib.hid ih
  clear ih
  have hc := h.cap
  unfold maxLen at hc
  obtain ⟨hc1, hc2⟩ := hc
  have hd := h'.cap
  unfold maxLen at hd
  obtain ⟨hd1, hd2⟩ := hd
  by_cases hl : xs.length = ys.length
  · have HL := Lib.hid hl
    have hb1 : ((xs.length : Int) != (ys.length : Int)) = false := by simp [hl]
    clear hl
    go_enter Tryz.func61, Tryz.ntmps61
    go_wp2
    go_loopw [5] (fun i wr => ∃ k : Nat, k ≤ xs.length ∧ i = .int .i64 k ∧ Hid (same eqTree (xs.take k) (ys.take k) = true) ∧ Below w.heap.size w wr) (fun i _ => xs.length - (intOf i).toNat)
    case atStart => exact ⟨0, Nat.zero_le _, rfl, by show _ = true; simp [same], ext_refl _⟩
    case round =>
      obtain ⟨k, hk, rfl, Heq, hbl⟩ := hrel
      by_cases hlt : k < xs.length
      · obtain ⟨b, o, ck, Fk, rfl, hbF, hbs, hr, hsub, hc⟩ := (h.ext hbl).get hlt
        have hlt' : k < ys.length := by rw [← HL.out]; exact hlt
        obtain ⟨b', o', ck', Fk', rfl, hbF', hbs', hr', hsub', hc'⟩ := (h'.ext hbl).get hlt'
        obtain ⟨Akeys1, ckeys1, Fkeys1, Akids1, ckids1, Fkids1, hck, rfl, hkind1, hnum1, htext1, hkeys1, hkids1⟩ := rd_Tree hr
        subst hck
        obtain ⟨Akeys2, ckeys2, Fkeys2, Akids2, ckids2, Fkids2, hck, rfl, hkind2, hnum2, htext2, hkeys2, hkids2⟩ := rd_Tree hr'
        subst hck
        have q0 : wr.cell? ⟨b, o + k * 6, none⟩ = some (.int .i64 xs[k].kind) := by exact hc 0 _ rfl
        have q1 : wr.cell? ⟨b, o + k * 6 + 1, none⟩ = some (.bool xs[k].flag) := by rw [Nat.add_assoc]; exact hc 1 _ rfl
        have q2 : wr.cell? ⟨b, o + k * 6 + 2, none⟩ = some (.int .i64 xs[k].num) := by rw [Nat.add_assoc]; exact hc 2 _ rfl
        have q3 : wr.cell? ⟨b, o + k * 6 + 3, none⟩ = some (.string xs[k].text) := by rw [Nat.add_assoc]; exact hc 3 _ rfl
        have q4 : wr.cell? ⟨b, o + k * 6 + 4, none⟩ = some (.slice Akeys1 xs[k].keys.length ckeys1) := by rw [Nat.add_assoc]; exact hc 4 _ rfl
        have q5 : wr.cell? ⟨b, o + k * 6 + 5, none⟩ = some (.slice Akids1 xs[k].kids.length ckids1) := by rw [Nat.add_assoc]; exact hc 5 _ rfl
        have p0 : wr.cell? ⟨b', o' + k * 6, none⟩ = some (.int .i64 ys[k].kind) := by exact hc' 0 _ rfl
        have p1 : wr.cell? ⟨b', o' + k * 6 + 1, none⟩ = some (.bool ys[k].flag) := by rw [Nat.add_assoc]; exact hc' 1 _ rfl
        have p2 : wr.cell? ⟨b', o' + k * 6 + 2, none⟩ = some (.int .i64 ys[k].num) := by rw [Nat.add_assoc]; exact hc' 2 _ rfl
        have p3 : wr.cell? ⟨b', o' + k * 6 + 3, none⟩ = some (.string ys[k].text) := by rw [Nat.add_assoc]; exact hc' 3 _ rfl
        have p4 : wr.cell? ⟨b', o' + k * 6 + 4, none⟩ = some (.slice Akeys2 ys[k].keys.length ckeys2) := by rw [Nat.add_assoc]; exact hc' 4 _ rfl
        have p5 : wr.cell? ⟨b', o' + k * 6 + 5, none⟩ = some (.slice Akids2 ys[k].kids.length ckids2) := by rw [Nat.add_assoc]; exact hc' 5 _ rfl
        clear hc hc'
        go_wp2_with fail
        refine wp_region_grow wr (by kernel_rfl) (by kernel_rfl) (by first | exact ext_refl _ | assumption) ?_
        repeat (first
          | (apply inText_skip
             case hw => rfl
             simp only [Act.put, List.setIfInBounds_toArray, List.set_cons_zero, List.set_cons_succ])
          | (apply inText_step
             case hw => rfl
             case h =>
               intro wq hq
               have hcq := (cls_cell hq).1
               have hfq := (cls_cell hq).2
               go_simp
               first
                 | exact ⟨hq, rfl⟩
                 | exact ⟨cls_alloc hq _, rfl⟩
                 | (refine (IH.out xs[k] (List.getElem_mem ..) ys[k] _ _ _ _ _ (Dat.frame hr (fun x hx => hq.out.block x (Dat.lt hr x hx)) hq.out.size) (Dat.frame hr' (fun x hx => hq.out.block x (Dat.lt hr' x hx)) hq.out.size)).mono ?_; rintro e w2 ⟨rfl, hb2⟩; exact ⟨rfl, cls_trans hq hb2⟩)
                 | (simp only [↓IntWalk.iteOmega]; exact ⟨hq, rfl⟩)
             simp only [Act.put, List.setIfInBounds_toArray, List.set_cons_zero, List.set_cons_succ]))
        refine inText_nil ?_
        intro wn hn
        replace hn := hn.out
        go_wp2
        · rename_i hne
          go_ret
          refine ⟨?_, ext_trans hbl hn⟩
          rw [same_drop (k + 1) (by rw [same_take hlt hlt', Heq.out]; simpa [eqStr, eqInt] using hne) HL.out]
          rfl
        · rename_i hne
          exact ⟨⟨k + 1, by omega, by go_num, by show _ = _; rw [same_take hlt hlt', Heq.out]; simpa [eqStr, eqInt] using hne, ext_trans hbl hn⟩, by simp [intOf]; omega⟩
      · have hkl : k = xs.length := by omega
        have HK := Lib.hid hkl
        clear hkl
        go_wp2
        go_ret
        have h1 := Heq.out
        rw [HK.out, List.take_length, HL.out, List.take_length] at h1
        exact ⟨by rw [h1]; rfl, hbl⟩
  · have hb1 : ((xs.length : Int) != (ys.length : Int)) = true := by simp; omega
    have HL := Lib.hid (same_len (eq := eqTree) hl)
    clear hl
    go_enter Tryz.func61, Tryz.ntmps61
    go_wp2
    go_ret
    exact ⟨by rw [HL.out]; rfl, ext_refl _⟩
set_option maxHeartbeats 1000000 in
theorem eqTree_step (a : Tree) (ih : ∀ k ∈ a.kids, EqTree k) : EqTree a := by
  intro b cs ds F G w h h'
  have IH := Lib.hid ih
  clear ih
  replace h : rd w (a.kind, a.flag, a.num, a.text, a.keys, a.kids) cs F := rd_tree h
  replace h' : rd w (b.kind, b.flag, b.num, b.text, b.keys, b.kids) ds G := rd_tree h'
  obtain ⟨_, _, _, _, rfl, rfl, ⟨rfl, rfl, hkind1⟩, _, _, _, _, rfl, rfl, ⟨rfl, rfl⟩, _, _, _, _, rfl, rfl, ⟨rfl, rfl, hnum1⟩, _, _, _, _, rfl, rfl, ⟨rfl, rfl, htext1⟩, _, _, _, _, rfl, rfl, hkeys1, hkids1⟩ := h
  obtain ⟨Akeys1, ckeys1, rfl, hkeys1⟩ := rd_list hkeys1
  obtain ⟨Akids1, ckids1, rfl, hkids1⟩ := rd_list hkids1
  replace hkind1 : I64 a.kind := hkind1
  replace hnum1 : I64 a.num := hnum1
  replace htext1 := sz63 (s := a.text) htext1
  replace hkeys1 : Sl _ a.keys Akeys1 ckeys1 _ := hkeys1
  replace hkids1 : Sl _ a.kids Akids1 ckids1 _ := hkids1
  simp only [List.cons_append, List.nil_append]
  obtain ⟨_, _, _, _, rfl, rfl, ⟨rfl, rfl, hkind2⟩, _, _, _, _, rfl, rfl, ⟨rfl, rfl⟩, _, _, _, _, rfl, rfl, ⟨rfl, rfl, hnum2⟩, _, _, _, _, rfl, rfl, ⟨rfl, rfl, htext2⟩, _, _, _, _, rfl, rfl, hkeys2, hkids2⟩ := h'
  obtain ⟨Akeys2, ckeys2, rfl, hkeys2⟩ := rd_list hkeys2
  obtain ⟨Akids2, ckids2, rfl, hkids2⟩ := rd_list hkids2
  replace hkind2 : I64 b.kind := hkind2
  replace hnum2 : I64 b.num := hnum2
  replace htext2 := sz63 (s := b.text) htext2
  replace hkeys2 : Sl _ b.keys Akeys2 ckeys2 _ := hkeys2
  replace hkids2 : Sl _ b.kids Akids2 ckids2 _ := hkids2
  simp only [List.cons_append, List.nil_append]
  go_enter Tryz.func11, Tryz.ntmps11
  go_wp2_with (first | (go_at_call 60; refine (eqStringS_any a.keys b.keys _ _ _ _ _ _ _ (hkeys1.ext (by repeat (first | with_reducible exact ext_refl _ | with_reducible assumption | with_reducible refine ext_alloc ?_ _ | with_reducible refine ext_trans ?_ (by assumption)))) (hkeys2.ext (by repeat (first | with_reducible exact ext_refl _ | with_reducible assumption | with_reducible refine ext_alloc ?_ _ | with_reducible refine ext_trans ?_ (by assumption))))).mono ?_; rintro e w4 ⟨rfl, hb4⟩; obtain ⟨hc4, hf4⟩ := bcell hb4; have hz40 : w.heap.size < w4.heap.size := (by have := hb4.size; (try simp at this); omega); have hz41 : w.heap.size + 1 < w4.heap.size := (by have := hb4.size; (try simp at this); omega)) | (go_at_call 61; refine (eqTreeS_step a.kids b.kids IH.out _ _ _ _ _ _ _ (hkids1.ext (by repeat (first | with_reducible exact ext_refl _ | with_reducible assumption | with_reducible refine ext_alloc ?_ _ | with_reducible refine ext_trans ?_ (by assumption)))) (hkids2.ext (by repeat (first | with_reducible exact ext_refl _ | with_reducible assumption | with_reducible refine ext_alloc ?_ _ | with_reducible refine ext_trans ?_ (by assumption))))).mono ?_; rintro e w5 ⟨rfl, hb5⟩; obtain ⟨hc5, hf5⟩ := bcell hb5; have hz50 : w.heap.size < w5.heap.size := (by have := hb5.size; (try simp at this); omega); have hz51 : w.heap.size + 1 < w5.heap.size := (by have := hb5.size; (try simp at this); omega)))
  all_goals go_ret
  all_goals refine ⟨?_, by repeat (first | with_reducible exact ext_refl _ | with_reducible assumption | with_reducible refine ext_alloc ?_ _ | with_reducible refine ext_trans ?_ (by assumption))⟩
  all_goals (simp only [Bool.not_eq_true', Bool.not_eq_false', bne_iff_ne, bne_eq_false_iff_eq, beq_iff_eq, beq_eq_false_iff_ne, ne_eq] at *; simp [eqTree_eq, *])
theorem eqTree_calls (n : Nat) : ∀ x : Tree, SizeOf.sizeOf x ≤ n → EqTree x := by
  induction n with
  | zero => intro x hx; exact eqTree_step x fun k hk => by have := Tree.kid_lt x k hk; omega
  | succ n ih => intro x hx; exact eqTree_step x fun k hk => ih k (by have := Tree.kid_lt x k hk; omega)
theorem eqTree_any (a b : Tree) (cs ds : List Value) (F G : List Nat) (w : World) (h : rd w a cs F) (h' : rd w b ds G) :
    Calls Tryz.prog 11 #[.agg cs.toArray, .agg ds.toArray] w fun e w' => e = .returned (.bool (eqTree a b)) ∧ Below w.heap.size w w' := eqTree_calls _ a (Nat.le_refl _) b cs ds F G w h h'
end Go.Proofs.YtegekccoincicaaGreatDoor
