/- What the reference reads out of trees: l19Key. No condition. -/
import Derived.Test.YtegekccoincicaaGreatDoorEffect
namespace Go.Proofs.YtegekccoincicaaGreatDoor
open Dat (rd)
open Go.ChangeShapes Go.WideShapes Go.ChangeAt Go.RowKit
set_option linter.unusedVariables false
set_option linter.unusedSimpArgs false

set_option maxRecDepth 100000 in
set_option maxHeartbeats 4000000 in
theorem l19Key_any (x : Tree) (cs : List Value) (F : List Nat) (p : ByteArray) (w : World) (h : rd w x cs F) (hw : (x.wt : Int) ≤ 1048576) (hp : (p.size : Int) ≤ 1048576) :
    Calls Tryz.prog 37 #[.agg cs.toArray, .string p] w fun e w' => e = .returned (.tuple #[.string (readT x p noF sKey keyR).1, .agg #[.int .i64 (readT x p noF sKey keyR).2.code, .int .i64 (readT x p noF sKey keyR).2.at_, .string (readT x p noF sKey keyR).2.path]]) ∧ Below w.heap.size w w' := by
  have h0 := h
  obtain ⟨Ak, ck, Fk, Ac, cc, Fc, hck, hF, hkind, hnum, htext, hkeys, hkids⟩ := rd_Tree h
  subst hck
  clear hF h
  have HT := Lib.hid (fun wq (hq : Below w.heap.size w wq) => TextField_spec x _ _ p sKey wq (rd_extK h0 hq) hw hp (by decide))
  have HSZ := Lib.hid (show ((textR x p sKey).1.size : Int) ≤ 1048576 by have := (textR_ok x p sKey).2; omega)
  obtain ⟨s, f1, hsf⟩ : ∃ s f1, textR x p sKey = (s, f1) := ⟨_, _, rfl⟩
  have HRT := Lib.hid (show readT x p noF sKey keyR = if f1.code = 0 ∧ keyR s = false then (s, fl 14 (pathR p sKey)) else (s, f1) by unfold readT; rw [if_pos (show noF.code = 0 from rfl), hsf])
  rw [hsf] at HT HSZ
  dsimp only at HT HSZ
  clear hsf hw h0
  by_cases h1 : f1.code = 0
  · have hd1 : (f1.code == 0) = true := by simp [h1]
    cases hfs : keyR s with
    | true =>
      have HFN := Lib.hid hfs
      have HRS := Lib.hid (show readT x p noF sKey keyR = (s, f1) by rw [HRT.out]; exact if_neg (by rw [hfs]; simp))
      clear hfs h1
      go_enter Tryz.func37, Tryz.ntmps37
      go_wp2_with fail
      refine (HT.out _ (by repeat (first | with_reducible exact ext_refl _ | with_reducible assumption | with_reducible refine ext_alloc ?_ _ | with_reducible refine ext_setCell ?_ (by first | exact Nat.le_refl _ | (simp; done) | omega | (simp; omega)) _ | with_reducible refine ext_drew ?_ | with_reducible refine ext_trans ?_ (by assumption)))).mono ?_
      rintro e w1 ⟨rfl, hb1⟩
      obtain ⟨hc1, hf1⟩ := bcell hb1
      have hz1 : w.heap.size < w1.heap.size := by have := hb1.size; first | omega | (simp at this; omega)
      have hz1b : w.heap.size + 1 < w1.heap.size := by have := hb1.size; first | omega | (simp at this; omega)
      go_wp2_with (go_at_call 80; refine (LabelKeyOk_spec s _ HSZ.out).mono ?_; rw [HFN.out]; rintro e w4 ⟨rfl, hb4⟩; obtain ⟨hc4, hf4⟩ := bcell hb4; have hz4 : w.heap.size + 1 < w4.heap.size := (by have := hb4.size; first | omega | (simp at this; omega)); have hz40 : w.heap.size < w4.heap.size := (by omega); have hz41 : w1.heap.size < w4.heap.size := (by have := hb4.size; first | omega | (simp at this; omega)))
      go_region
      all_goals
        go_wp2_with fail
        try dsimp only
        iterate 60 (first | go_step | skip)
        refine bodyPost_ret (v := .tuple #[.string s, .agg #[.int .i64 f1.code, .int .i64 f1.at_, .string f1.path]]) (by simp [results, Tryz.results37, go_sem, *]) rfl ⟨by rw [HRS.out]; try rfl, ?_⟩
        repeat (first | with_reducible exact ext_refl _ | with_reducible assumption | with_reducible refine ext_setCell ?_ (by dsimp only; omega) _ | with_reducible refine ext_alloc ?_ _ | with_reducible refine ext_drew ?_ | with_reducible refine ext_trans ?_ (by assumption))
    | false =>
      have HFN := Lib.hid hfs
      have HRS := Lib.hid (show readT x p noF sKey keyR = (s, fl 14 (pathR p sKey)) by rw [HRT.out]; exact if_pos ⟨h1, hfs⟩)
      clear hfs h1
      go_enter Tryz.func37, Tryz.ntmps37
      go_wp2_with fail
      refine (HT.out _ (by repeat (first | with_reducible exact ext_refl _ | with_reducible assumption | with_reducible refine ext_alloc ?_ _ | with_reducible refine ext_setCell ?_ (by first | exact Nat.le_refl _ | (simp; done) | omega | (simp; omega)) _ | with_reducible refine ext_drew ?_ | with_reducible refine ext_trans ?_ (by assumption)))).mono ?_
      rintro e w1 ⟨rfl, hb1⟩
      obtain ⟨hc1, hf1⟩ := bcell hb1
      have hz1 : w.heap.size < w1.heap.size := by have := hb1.size; first | omega | (simp at this; omega)
      have hz1b : w.heap.size + 1 < w1.heap.size := by have := hb1.size; first | omega | (simp at this; omega)
      go_wp2_with (first | (go_at_call 80; refine (LabelKeyOk_spec s _ HSZ.out).mono ?_; rw [HFN.out]; rintro e w4 ⟨rfl, hb4⟩; obtain ⟨hc4, hf4⟩ := bcell hb4; have hz4 : w.heap.size + 1 < w4.heap.size := (by have := hb4.size; first | omega | (simp at this; omega)); have hz40 : w.heap.size < w4.heap.size := (by omega); have hz41 : w1.heap.size < w4.heap.size := (by have := hb4.size; first | omega | (simp at this; omega))) | (go_at_call 40; refine (PathKey_spec p sKey _ hp (by decide)).mono ?_; rintro e w5 ⟨rfl, rfl⟩) | (go_at_call 42; refine (l18Fault_any _ _ _).mono ?_; rintro e w6 ⟨rfl, hb6⟩; obtain ⟨hc6, hf6⟩ := bcell hb6; have hz6 : w.heap.size + 1 < w6.heap.size := (by have := hb6.size; omega); have hz60 : w.heap.size < w6.heap.size := (by omega); have hz61 : w1.heap.size < w6.heap.size := (by have := hb6.size; omega)))
      go_region
      all_goals
        go_wp2_with fail
        try dsimp only
        iterate 60 (first | go_step | skip)
        refine bodyPost_ret (v := .tuple #[.string s, .agg #[.int .i64 14, .int .i64 0, .string (pathR p sKey)]]) (by simp [results, Tryz.results37, go_sem, *]) rfl ⟨by rw [HRS.out]; try rfl, ?_⟩
        repeat (first | with_reducible exact ext_refl _ | with_reducible assumption | with_reducible refine ext_setCell ?_ (by dsimp only; omega) _ | with_reducible refine ext_alloc ?_ _ | with_reducible refine ext_drew ?_ | with_reducible refine ext_trans ?_ (by assumption))
  · have hd1 : (f1.code == 0) = false := by simp [h1]
    have HRS := Lib.hid (show readT x p noF sKey keyR = (s, f1) by rw [HRT.out]; exact if_neg (fun hh => h1 hh.1))
    clear h1
    go_enter Tryz.func37, Tryz.ntmps37
    go_wp2_with fail
    refine (HT.out _ (by repeat (first | with_reducible exact ext_refl _ | with_reducible assumption | with_reducible refine ext_alloc ?_ _ | with_reducible refine ext_setCell ?_ (by first | exact Nat.le_refl _ | (simp; done) | omega | (simp; omega)) _ | with_reducible refine ext_drew ?_ | with_reducible refine ext_trans ?_ (by assumption)))).mono ?_
    rintro e w1 ⟨rfl, hb1⟩
    obtain ⟨hc1, hf1⟩ := bcell hb1
    have hz1 : w.heap.size < w1.heap.size := by have := hb1.size; first | omega | (simp at this; omega)
    have hz1b : w.heap.size + 1 < w1.heap.size := by have := hb1.size; first | omega | (simp at this; omega)
    go_wp2
    go_region
    all_goals
      go_wp2_with fail
      try dsimp only
      iterate 60 (first | go_step | skip)
      refine bodyPost_ret (v := .tuple #[.string s, .agg #[.int .i64 f1.code, .int .i64 f1.at_, .string f1.path]]) (by simp [results, Tryz.results37, go_sem, *]) rfl ⟨by rw [HRS.out]; try rfl, ?_⟩
      repeat (first | with_reducible exact ext_refl _ | with_reducible assumption | with_reducible refine ext_setCell ?_ (by dsimp only; omega) _ | with_reducible refine ext_alloc ?_ _ | with_reducible refine ext_drew ?_ | with_reducible refine ext_trans ?_ (by assumption))
end Go.Proofs.YtegekccoincicaaGreatDoor
namespace Go.Proofs.YtegekccoincicaaGreatDoor
open Dat (rd)
open Go.ChangeShapes Go.WideShapes Go.ChangeAt Go.RowKit
set_option linter.unusedVariables false
set_option linter.unusedSimpArgs false

theorem readT_zero {x : Tree} {p : ByteArray} {f : Fault} {k : ByteArray} {fine : ByteArray → Bool} (h : f.code = 0) : readT x p f k fine = readT x p noF k fine := by
  unfold readT
  rw [if_pos h, if_pos (show noF.code = 0 from rfl)]
theorem readT_size (x : Tree) (p : ByteArray) (f : Fault) (k : ByteArray) (fine : ByteArray → Bool) : (readT x p f k fine).1.size ≤ x.wt := by
  have h1 := (textR_ok x p k).2
  unfold readT
  split
  · split
    · exact h1
    · exact h1
  · exact Nat.zero_le _
theorem readT_ok (x : Tree) (p : ByteArray) (f : Fault) (k : ByteArray) (fine : ByteArray → Bool) {n : Nat} (hf : FOk f n) (hn : p.size + 1 + k.size ≤ n) : FOk (readT x p f k fine).2 n := by
  have h1 := (textR_ok x p k).1
  have h2 := pathR_size p k
  unfold readT
  split
  · split
    · exact fl_ok (by omega) (by omega) (by omega)
    · exact ⟨h1.1, h1.2.1, h1.2.2.1, by have := h1.2.2.2; omega⟩
  · exact hf
end Go.Proofs.YtegekccoincicaaGreatDoor
