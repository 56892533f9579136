/- laws' size checks of trees. No condition. -/
import Derived.Test.YtegekccoincicaaGreatDoorTreeD
import Derived.Test.YtegekccoincicaaGreatDoorSz
namespace Go.Proofs.YtegekccoincicaaGreatDoor
open Dat (rd)
open Go.ChangeShapes Go.WideShapes Go.ChangeAt Go.RowKit
set_option linter.unusedVariables false
set_option linter.unusedSimpArgs false

mutual
/-- the weight of a tree -/
def Tree.wt : Tree → Nat
  | .mk _ _ _ t ks kids => t.size + wtL ByteArray.size ks + Tree.wts kids
def Tree.wts : List Tree → Nat
  | [] => 0
  | x :: xs => 1 + Tree.wt x + Tree.wts xs
end
theorem Tree.wts_eq : ∀ xs : List Tree, Tree.wts xs = wtL Tree.wt xs
  | [] => by simp [Tree.wts, wtL]
  | x :: xs => by
    rw [Tree.wts, Tree.wts_eq xs]
    unfold wtL
    simp only [List.length_cons, List.map_cons, List.sum_cons]
    omega
theorem Tree.wt_eq (x : Tree) : x.wt = x.text.size + wtL ByteArray.size x.keys + wtL Tree.wt x.kids := by
  cases x with
  | mk a b c d e f => rw [Tree.wt, Tree.wts_eq]; rfl
/-- a tree's cells -/
theorem rd_Tree {w : World} {x : Tree} {cs : List Value} {F : List Nat} (h : rd w x cs F) : ∃ Akeys ckeys Fkeys Akids ckids Fkids, cs = [.int .i64 x.kind, .bool x.flag, .int .i64 x.num, .string x.text, .slice Akeys x.keys.length ckeys, .slice Akids x.kids.length ckids] ∧ F = Fkeys ++ Fkids ∧ I64 x.kind ∧ I64 x.num ∧ x.text.size ≤ maxLen ∧ Sl w x.keys Akeys ckeys Fkeys ∧ Sl w x.kids Akids ckids Fkids := by
  have h := rd_tree h
  obtain ⟨_, _, _, _, rfl, rfl, ⟨rfl, rfl, h1⟩, _, _, _, _, rfl, rfl, ⟨rfl, rfl⟩, _, _, _, _, rfl, rfl, ⟨rfl, rfl, h3⟩, _, _, _, _, rfl, rfl, ⟨rfl, rfl, h4⟩, _, _, Fk, Fc, rfl, rfl, h5, h6⟩ := h
  obtain ⟨Ak, ck, rfl, h5⟩ := rd_list h5
  obtain ⟨Ac, cc, rfl, h6⟩ := rd_list h6
  exact ⟨Ak, ck, Fk, Ac, cc, Fc, rfl, rfl, h1, h3, h4, h5, h6⟩
/-- what szTree answers -/
def SzTree (x : Tree) : Prop := ∀ (cs : List Value) (F : List Nat) (left : Int) (w : World), rd w x cs F → 0 ≤ left → left ≤ 1048576 → Calls Tryz.prog 5 #[.agg cs.toArray, .int .i64 left] w fun e w' => e = .returned (.int .i64 (szR x.wt left)) ∧ Below w.heap.size w w'
set_option maxHeartbeats 1000000 in
theorem szTreeS_step (xs : List Tree) (ih : ∀ x ∈ xs, SzTree x) (A : Option Addr) (c : Nat) (F : List Nat) (left : Int) (w : World) (h : Sl w xs A c F) (h0 : 0 ≤ left) (h1 : left ≤ 1048576) :
    Calls Tryz.prog 35 #[.slice A xs.length c, .int .i64 left] w fun e w' => e = .returned (.int .i64 (szR (wtL Tree.wt xs) left)) ∧ Below w.heap.size w w' := by
  have hc := h.cap
  unfold maxLen at hc
  obtain ⟨hc1, hc2⟩ := hc
  have hwl := wtL_eq Tree.wt xs
  have HWL := Lib.hid hwl
  have IH := Lib.hid ih
  clear ih
  by_cases hl : left - xs.length < 0
  · have hfin : szR (wtL Tree.wt xs) left = -1 := szR_no (by omega)
    have HF := Lib.hid hfin
    clear hfin hwl
    go_enter Tryz.func35, Tryz.ntmps35
    go_wp2
    go_ret
    exact ⟨ret_int HF.out.symm, ext_refl _⟩
  · clear hwl
    go_enter Tryz.func35, Tryz.ntmps35
    go_wp2
    go_loopw [1, 5] (fun l i wr => ∃ k : Nat, k ≤ xs.length ∧ i = .int .i64 k ∧ (xs.length + wtSum Tree.wt (xs.take k) : Int) ≤ left ∧ l = .int .i64 (left - xs.length - wtSum Tree.wt (xs.take k)) ∧ Below w.heap.size w wr) (fun _ i _ => xs.length - (intOf i).toNat)
    case atStart => exact ⟨0, Nat.zero_le _, rfl, by simp [wtSum]; omega, by simp [wtSum], ext_refl _⟩
    case round =>
      obtain ⟨k, hk, rfl, hle, rfl, hbl⟩ := hrel
      by_cases hlt : k < xs.length
      · obtain ⟨b, o, ck, Fk, rfl, hbF, hbs, hr, hsub, hc⟩ := (h.ext hbl).get hlt
        obtain ⟨Akeys, ckeys, Fkeys, Akids, ckids, Fkids, hck, hFk, hkind, hnum, htext, hkeys, hkids⟩ := rd_Tree hr
        subst hck
        have q0 : wr.cell? ⟨b, o + k * 6, none⟩ = some (.int .i64 xs[k].kind) := by exact hc 0 _ rfl
        have q1 : wr.cell? ⟨b, o + k * 6 + 1, none⟩ = some (.bool xs[k].flag) := by rw [Nat.add_assoc]; exact hc 1 _ rfl
        have q2 : wr.cell? ⟨b, o + k * 6 + 2, none⟩ = some (.int .i64 xs[k].num) := by rw [Nat.add_assoc]; exact hc 2 _ rfl
        have q3 : wr.cell? ⟨b, o + k * 6 + 3, none⟩ = some (.string xs[k].text) := by rw [Nat.add_assoc]; exact hc 3 _ rfl
        have q4 : wr.cell? ⟨b, o + k * 6 + 4, none⟩ = some (.slice Akeys xs[k].keys.length ckeys) := by rw [Nat.add_assoc]; exact hc 4 _ rfl
        have q5 : wr.cell? ⟨b, o + k * 6 + 5, none⟩ = some (.slice Akids xs[k].kids.length ckids) := by rw [Nat.add_assoc]; exact hc 5 _ rfl
        clear hc hkeys hkids hFk
        have hst := wtSum_take Tree.wt xs k hlt
        have hle2 := wtSum_le Tree.wt xs (k + 1)
        have Hst := Lib.hid hst
        clear hst
        go_wp2_with (go_at_call 5; refine (IH.out xs[k] (List.getElem_mem ..) _ _ _ _ hr (by omega) (by omega)).mono ?_; rintro e w2 ⟨rfl, hb2⟩)
        · rename_i hneg
          go_ret
          have h4 := Hst.out
          have h5 := HWL.out
          have h3 := szR_spec (Tree.wt xs[k]) (left - xs.length - wtSum Tree.wt (xs.take k))
          exact ⟨ret_int (szR_no (by omega)).symm, ext_trans hbl hb2⟩
        · rename_i hpos
          have h4 := Hst.out
          have h3 := szR_spec (Tree.wt xs[k]) (left - xs.length - wtSum Tree.wt (xs.take k))
          exact ⟨⟨k + 1, by omega, by go_num, by omega, by congr 1; omega, ext_trans hbl hb2⟩, by simp [intOf]; omega⟩
      · go_wp2
        go_ret
        have : k = xs.length := by omega
        subst this
        rw [List.take_length] at hle ⊢
        have h3 := szR_spec (wtL Tree.wt xs) left
        have h5 := HWL.out
        exact ⟨ret_int (by omega), hbl⟩
set_option maxHeartbeats 1000000 in
theorem szTree_step (x : Tree) (ih : ∀ k ∈ x.kids, SzTree k) : SzTree x := by
  intro cs F left w h h0 h1
  obtain ⟨Akeys, ckeys, Fkeys, Akids, ckids, Fkids, hck, hFk, hkind, hnum, htext, hkeys, hkids⟩ := rd_Tree h
  subst hck
  replace htext := sz63 (s := x.text) htext
  have IH := Lib.hid ih
  clear ih h hFk
  go_enter Tryz.func5, Tryz.ntmps5
  go_wp2_with (first
    | (go_at_call 34; refine (szStringS_any x.keys _ _ _ _ _ (hkeys.ext (by repeat (first | with_reducible exact ext_refl _ | with_reducible assumption | with_reducible refine ext_alloc ?_ _ | with_reducible refine ext_trans ?_ (by assumption)))) (by omega) (by omega)).mono ?_; rintro e w1 ⟨rfl, hb1⟩; obtain ⟨hc1, hf1⟩ := bcell hb1; have hz10 : w.heap.size < w1.heap.size := (by have := hb1.size; (try simp at this); omega); have hle1 := szR_le (a := wtL ByteArray.size x.keys) (left := (left - x.text.size)) (by omega))
    | (go_at_call 35; refine (szTreeS_step x.kids IH.out _ _ _ _ _ (hkids.ext (by repeat (first | with_reducible exact ext_refl _ | with_reducible assumption | with_reducible refine ext_alloc ?_ _ | with_reducible refine ext_trans ?_ (by assumption)))) (by omega) (by omega)).mono ?_; rintro e w5 ⟨rfl, hb5⟩; obtain ⟨hc5, hf5⟩ := bcell hb5; have hz50 : w.heap.size < w5.heap.size := (by have := hb5.size; (try simp at this); omega); have hle5 := szR_le (a := wtL Tree.wt x.kids) (left := (szR (wtL ByteArray.size x.keys) (left - x.text.size))) (by omega)))
  all_goals go_ret
  all_goals refine ⟨ret_int ?_, by repeat (first | exact ext_refl _ | assumption | refine ext_alloc ?_ _ | refine ext_trans ?_ (by assumption))⟩
  all_goals have s99 := szR_spec x.wt left
  all_goals have s2 := szR_spec (wtL ByteArray.size x.keys) (left - x.text.size)
  all_goals have s3 := szR_spec (wtL Tree.wt x.kids) (szR (wtL ByteArray.size x.keys) (left - x.text.size))
  all_goals rw [Tree.wt_eq] at s99 ⊢
  all_goals omega
theorem szTree_all (n : Nat) : ∀ x : Tree, SizeOf.sizeOf x ≤ n → SzTree x := by
  induction n with
  | zero => intro x hx; exact szTree_step x fun k hk => by have := Tree.kid_lt x k hk; omega
  | succ n ih => intro x hx; exact szTree_step x fun k hk => ih k (by have := Tree.kid_lt x k hk; omega)
theorem szTree_any (x : Tree) (cs : List Value) (F : List Nat) (left : Int) (w : World) (h : rd w x cs F) (h0 : 0 ≤ left) (h1 : left ≤ 1048576) :
    Calls Tryz.prog 5 #[.agg cs.toArray, .int .i64 left] w fun e w' => e = .returned (.int .i64 (szR x.wt left)) ∧ Below w.heap.size w w' := szTree_all _ x (Nat.le_refl _) cs F left w h h0 h1
end Go.Proofs.YtegekccoincicaaGreatDoor
