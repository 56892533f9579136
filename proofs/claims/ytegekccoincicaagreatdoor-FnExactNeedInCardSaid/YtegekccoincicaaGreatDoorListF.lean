/- ListField of the program and of the reference, at most 40. No condition. -/
import Derived.Test.YtegekccoincicaaGreatDoorTreeG
namespace Go.Proofs.YtegekccoincicaaGreatDoor
open Dat (rd)
open Go.ChangeShapes Go.WideShapes Go.ChangeAt Go.RowKit
set_option linter.unusedVariables false
set_option linter.unusedSimpArgs false

def listR (x : Tree) (p k : ByteArray) : List Tree × Fault :=
  match kidR x k with
  | none => ([], noF)
  | some y => if y.kind ≠ 5 then ([], fl 11 (pathR p k)) else if 40 < y.kids.length then ([], fl 16 (pathR p k)) else (y.kids, noF)
set_option maxRecDepth 100000 in
set_option maxHeartbeats 2000000 in
theorem ListField_impl (x : Tree) (cs : List Value) (F : List Nat) (p k : ByteArray) (w : World) (h : rd w x cs F) (hw : (x.wt : Int) ≤ 1048576) (hp : (p.size : Int) ≤ 1048576) (hk : (k.size : Int) ≤ 1048576) :
    Calls Tryz.prog 93 #[.agg cs.toArray, .string p, .string k, .int .i64 40] w fun e w' => ∃ A c G, e = .returned (.tuple #[.slice A (listR x p k).1.length c, .agg #[.int .i64 (listR x p k).2.code, .int .i64 (listR x p k).2.at_, .string (listR x p k).2.path]]) ∧ Sl w' (listR x p k).1 A c G ∧ (∀ b ∈ G, w.heap.size ≤ b) ∧ Below w.heap.size w w' := by
  have HWX := Lib.hid hw
  clear hw
  have h0 := h
  obtain ⟨Ak, ck, Fk, Ac, cc, Fc, hck, hF, hkind, hnum, htext, hkeys, hkids⟩ := rd_Tree h
  subst hck
  clear hF h
  cases hkr : kidR x k with
  | none =>
    have HK := Lib.hid hkr
    have HF := Lib.hid (show listR x p k = ([], noF) by unfold listR; rw [hkr])
    clear hkr
    go_enter Tryz.func93, Tryz.ntmps93
    go_wp2_with fail
    refine (KidOf_impl x _ _ k _ (rd_extK h0 (by repeat (first | with_reducible exact ext_refl _ | with_reducible assumption | with_reducible refine ext_alloc ?_ _ | with_reducible refine ext_setCell ?_ (by first | exact Nat.le_refl _ | (simp; done) | omega | (simp; omega)) _ | with_reducible refine ext_drew ?_ | with_reducible refine ext_trans ?_ (by assumption)))) HWX.out).mono ?_
    rw [HK.out]
    rintro e w1 ⟨ds, G1, rfl, hO1, hb1⟩
    have hR1 := hO1.rd
    obtain ⟨Ak1, ck1, Fk1, Ac1, cc1, Fc1, hck, hF1, hkind1, hnum1, htext1, hkeys1, hkids1⟩ := rd_Tree hR1
    subst hck
    have HBK := Lib.hid (show ∀ b ∈ Fc1, w.heap.size + 1 < b from fun b hb => by have := hO1.base b (by rw [hF1]; simp [hb]); (try simp at this); omega)
    clear hF1 hR1
    obtain ⟨hc1, hf1⟩ := bcell hb1
    have hz1 : w.heap.size < w1.heap.size := by have := hb1.size; (try simp at this); omega
    have hz1b : w.heap.size + 1 < w1.heap.size := by have := hb1.size; (try simp at this); omega
    go_wp2
    refine bodyPost_ret (v := .tuple #[.slice none 0 0, .agg #[.int .i64 0, .int .i64 0, .string ⟨#[]⟩]]) (by simp [results, Tryz.results93, go_sem, *]) rfl ⟨_, _, _, by rw [HF.out]; rfl, by rw [HF.out]; exact Sl.nil _ _ _ (by unfold maxLen; omega), fun b hb => (by cases hb), (by repeat (first | with_reducible exact ext_refl _ | with_reducible assumption | with_reducible refine ext_alloc ?_ _ | with_reducible refine ext_setCell ?_ (by first | exact Nat.le_refl _ | (simp; done) | omega | (simp; omega)) _ | with_reducible refine ext_drew ?_ | with_reducible refine ext_trans ?_ (by assumption)))⟩
  | some y =>
    have HK := Lib.hid hkr
    by_cases h5 : y.kind = 5
    · by_cases h6 : y.kids.length ≤ 40
      · have hd : (y.kind != 5) = false := by simp [h5]
        have hg : ¬ (40 : Int) < (y.kids.length : Int) := by omega
        have HF := Lib.hid (show listR x p k = (y.kids, noF) by unfold listR; rw [hkr]; dsimp only; rw [if_neg (by omega), if_neg (by omega)])
        clear hkr h5
        go_enter Tryz.func93, Tryz.ntmps93
        go_wp2_with fail
        refine (KidOf_impl x _ _ k _ (rd_extK h0 (by repeat (first | with_reducible exact ext_refl _ | with_reducible assumption | with_reducible refine ext_alloc ?_ _ | with_reducible refine ext_setCell ?_ (by first | exact Nat.le_refl _ | (simp; done) | omega | (simp; omega)) _ | with_reducible refine ext_drew ?_ | with_reducible refine ext_trans ?_ (by assumption)))) HWX.out).mono ?_
        rw [HK.out]
        rintro e w1 ⟨ds, G1, rfl, hO1, hb1⟩
        have hR1 := hO1.rd
        obtain ⟨Ak1, ck1, Fk1, Ac1, cc1, Fc1, hck, hF1, hkind1, hnum1, htext1, hkeys1, hkids1⟩ := rd_Tree hR1
        subst hck
        have HBK := Lib.hid (show ∀ b ∈ Fc1, w.heap.size + 1 < b from fun b hb => by have := hO1.base b (by rw [hF1]; simp [hb]); (try simp at this); omega)
        clear hF1 hR1
        obtain ⟨hc1, hf1⟩ := bcell hb1
        have hz1 : w.heap.size < w1.heap.size := by have := hb1.size; (try simp at this); omega
        have hz1b : w.heap.size + 1 < w1.heap.size := by have := hb1.size; (try simp at this); omega
        rw [Option.getD_some] at *
        go_wp2
        refine bodyPost_ret (v := .tuple #[.slice Ac1 y.kids.length cc1, .agg #[.int .i64 0, .int .i64 0, .string ⟨#[]⟩]]) (by simp [results, Tryz.results93, go_sem, *]) rfl ⟨_, _, _, by rw [HF.out]; rfl, by rw [HF.out]; exact hkids1.frame (fun b hb => by have h1 := HBK.out b hb; have h2 := hkids1.lt b hb; rw [Below.heap_alloc _ _ _ (by simpa [World.setCell] using h2), Below.heap_setCell _ _ _ _ (by dsimp only; omega), Below.heap_setCell _ _ _ _ (by dsimp only; omega), Below.heap_setCell _ _ _ _ (by dsimp only; omega)]) (by simp [World.setCell]), fun b hb => by have h1 := HBK.out b hb; omega, (by repeat (first | with_reducible exact ext_refl _ | with_reducible assumption | with_reducible refine ext_alloc ?_ _ | with_reducible refine ext_setCell ?_ (by first | exact Nat.le_refl _ | (simp; done) | omega | (simp; omega)) _ | with_reducible refine ext_drew ?_ | with_reducible refine ext_trans ?_ (by assumption)))⟩
      · have hd : (y.kind != 5) = false := by simp [h5]
        have hg : (40 : Int) < (y.kids.length : Int) := by omega
        have HF := Lib.hid (show listR x p k = ([], fl 16 (pathR p k)) by unfold listR; rw [hkr]; dsimp only; rw [if_neg (by omega), if_pos (by omega)])
        clear hkr h5
        go_enter Tryz.func93, Tryz.ntmps93
        go_wp2_with fail
        refine (KidOf_impl x _ _ k _ (rd_extK h0 (by repeat (first | with_reducible exact ext_refl _ | with_reducible assumption | with_reducible refine ext_alloc ?_ _ | with_reducible refine ext_setCell ?_ (by first | exact Nat.le_refl _ | (simp; done) | omega | (simp; omega)) _ | with_reducible refine ext_drew ?_ | with_reducible refine ext_trans ?_ (by assumption)))) HWX.out).mono ?_
        rw [HK.out]
        rintro e w1 ⟨ds, G1, rfl, hO1, hb1⟩
        have hR1 := hO1.rd
        obtain ⟨Ak1, ck1, Fk1, Ac1, cc1, Fc1, hck, hF1, hkind1, hnum1, htext1, hkeys1, hkids1⟩ := rd_Tree hR1
        subst hck
        have HBK := Lib.hid (show ∀ b ∈ Fc1, w.heap.size + 1 < b from fun b hb => by have := hO1.base b (by rw [hF1]; simp [hb]); (try simp at this); omega)
        clear hF1 hR1
        obtain ⟨hc1, hf1⟩ := bcell hb1
        have hz1 : w.heap.size < w1.heap.size := by have := hb1.size; (try simp at this); omega
        have hz1b : w.heap.size + 1 < w1.heap.size := by have := hb1.size; (try simp at this); omega
        rw [Option.getD_some] at *
        go_wp2_with (go_at_call 55; refine (PathKey_impl _ _ _ (by omega) (by omega)).mono ?_; rintro e wx1 ⟨rfl, rfl⟩)
        skip
        skip
        refine bodyPost_ret (v := .tuple #[.slice none 0 0, .agg #[.int .i64 16, .int .i64 0, .string (pathR p k)]]) (by simp [results, Tryz.results93, go_sem, *]) rfl ⟨_, _, _, by rw [HF.out]; rfl, by rw [HF.out]; exact Sl.nil _ _ _ (by unfold maxLen; omega), fun b hb => (by cases hb), (by repeat (first | with_reducible exact ext_refl _ | with_reducible assumption | with_reducible refine ext_alloc ?_ _ | with_reducible refine ext_setCell ?_ (by first | exact Nat.le_refl _ | (simp; done) | omega | (simp; omega)) _ | with_reducible refine ext_drew ?_ | with_reducible refine ext_trans ?_ (by assumption)))⟩
    · have hd : (y.kind != 5) = true := by simp [h5]
      have HF := Lib.hid (show listR x p k = ([], fl 11 (pathR p k)) by unfold listR; rw [hkr]; dsimp only; rw [if_pos h5])
      clear hkr
      go_enter Tryz.func93, Tryz.ntmps93
      go_wp2_with fail
      refine (KidOf_impl x _ _ k _ (rd_extK h0 (by repeat (first | with_reducible exact ext_refl _ | with_reducible assumption | with_reducible refine ext_alloc ?_ _ | with_reducible refine ext_setCell ?_ (by first | exact Nat.le_refl _ | (simp; done) | omega | (simp; omega)) _ | with_reducible refine ext_drew ?_ | with_reducible refine ext_trans ?_ (by assumption)))) HWX.out).mono ?_
      rw [HK.out]
      rintro e w1 ⟨ds, G1, rfl, hO1, hb1⟩
      have hR1 := hO1.rd
      obtain ⟨Ak1, ck1, Fk1, Ac1, cc1, Fc1, hck, hF1, hkind1, hnum1, htext1, hkeys1, hkids1⟩ := rd_Tree hR1
      subst hck
      have HBK := Lib.hid (show ∀ b ∈ Fc1, w.heap.size + 1 < b from fun b hb => by have := hO1.base b (by rw [hF1]; simp [hb]); (try simp at this); omega)
      clear hF1 hR1
      obtain ⟨hc1, hf1⟩ := bcell hb1
      have hz1 : w.heap.size < w1.heap.size := by have := hb1.size; (try simp at this); omega
      have hz1b : w.heap.size + 1 < w1.heap.size := by have := hb1.size; (try simp at this); omega
      rw [Option.getD_some] at *
      go_wp2_with (go_at_call 55; refine (PathKey_impl _ _ _ (by omega) (by omega)).mono ?_; rintro e wx1 ⟨rfl, rfl⟩)
      skip
      refine bodyPost_ret (v := .tuple #[.slice none 0 0, .agg #[.int .i64 11, .int .i64 0, .string (pathR p k)]]) (by simp [results, Tryz.results93, go_sem, *]) rfl ⟨_, _, _, by rw [HF.out]; rfl, by rw [HF.out]; exact Sl.nil _ _ _ (by unfold maxLen; omega), fun b hb => (by cases hb), (by repeat (first | with_reducible exact ext_refl _ | with_reducible assumption | with_reducible refine ext_alloc ?_ _ | with_reducible refine ext_setCell ?_ (by first | exact Nat.le_refl _ | (simp; done) | omega | (simp; omega)) _ | with_reducible refine ext_drew ?_ | with_reducible refine ext_trans ?_ (by assumption)))⟩
set_option maxRecDepth 100000 in
set_option maxHeartbeats 2000000 in
theorem ListField_spec (x : Tree) (cs : List Value) (F : List Nat) (p k : ByteArray) (w : World) (h : rd w x cs F) (hw : (x.wt : Int) ≤ 1048576) (hp : (p.size : Int) ≤ 1048576) (hk : (k.size : Int) ≤ 1048576) :
    Calls Tryz.prog 41 #[.agg cs.toArray, .string p, .string k, .int .i64 40] w fun e w' => ∃ A c G, e = .returned (.tuple #[.slice A (listR x p k).1.length c, .agg #[.int .i64 (listR x p k).2.code, .int .i64 (listR x p k).2.at_, .string (listR x p k).2.path]]) ∧ Sl w' (listR x p k).1 A c G ∧ (∀ b ∈ G, w.heap.size ≤ b) ∧ Below w.heap.size w w' := by
  have HWX := Lib.hid hw
  clear hw
  have h0 := h
  obtain ⟨Ak, ck, Fk, Ac, cc, Fc, hck, hF, hkind, hnum, htext, hkeys, hkids⟩ := rd_Tree h
  subst hck
  clear hF h
  cases hkr : kidR x k with
  | none =>
    have HK := Lib.hid hkr
    have HF := Lib.hid (show listR x p k = ([], noF) by unfold listR; rw [hkr])
    clear hkr
    go_enter Tryz.func41, Tryz.ntmps41
    go_wp2_with fail
    refine (KidOf_spec x _ _ k _ (rd_extK h0 (by repeat (first | with_reducible exact ext_refl _ | with_reducible assumption | with_reducible refine ext_alloc ?_ _ | with_reducible refine ext_setCell ?_ (by first | exact Nat.le_refl _ | (simp; done) | omega | (simp; omega)) _ | with_reducible refine ext_drew ?_ | with_reducible refine ext_trans ?_ (by assumption)))) HWX.out).mono ?_
    rw [HK.out]
    rintro e w1 ⟨ds, G1, rfl, hO1, hb1⟩
    have hR1 := hO1.rd
    obtain ⟨Ak1, ck1, Fk1, Ac1, cc1, Fc1, hck, hF1, hkind1, hnum1, htext1, hkeys1, hkids1⟩ := rd_Tree hR1
    subst hck
    have HBK := Lib.hid (show ∀ b ∈ Fc1, w.heap.size + 1 < b from fun b hb => by have := hO1.base b (by rw [hF1]; simp [hb]); (try simp at this); omega)
    clear hF1 hR1
    obtain ⟨hc1, hf1⟩ := bcell hb1
    have hz1 : w.heap.size < w1.heap.size := by have := hb1.size; (try simp at this); omega
    have hz1b : w.heap.size + 1 < w1.heap.size := by have := hb1.size; (try simp at this); omega
    go_wp2
    refine bodyPost_ret (v := .tuple #[.slice (some ⟨w1.heap.size + 1, 0, none⟩) 0 0, .agg #[.int .i64 0, .int .i64 0, .string ⟨#[]⟩]]) (by simp [results, Tryz.results41, go_sem, *]) rfl ⟨_, _, _, by rw [HF.out]; rfl, by rw [HF.out]; exact Sl.nil _ _ _ (by unfold maxLen; omega), fun b hb => (by cases hb), (by repeat (first | with_reducible exact ext_refl _ | with_reducible assumption | with_reducible refine ext_alloc ?_ _ | with_reducible refine ext_setCell ?_ (by first | exact Nat.le_refl _ | (simp; done) | omega | (simp; omega)) _ | with_reducible refine ext_drew ?_ | with_reducible refine ext_trans ?_ (by assumption)))⟩
  | some y =>
    have HK := Lib.hid hkr
    by_cases h5 : y.kind = 5
    · by_cases h6 : y.kids.length ≤ 40
      · have hd : (y.kind != 5) = false := by simp [h5]
        have hg : ¬ (40 : Int) < (y.kids.length : Int) := by omega
        have HF := Lib.hid (show listR x p k = (y.kids, noF) by unfold listR; rw [hkr]; dsimp only; rw [if_neg (by omega), if_neg (by omega)])
        clear hkr h5
        go_enter Tryz.func41, Tryz.ntmps41
        go_wp2_with fail
        refine (KidOf_spec x _ _ k _ (rd_extK h0 (by repeat (first | with_reducible exact ext_refl _ | with_reducible assumption | with_reducible refine ext_alloc ?_ _ | with_reducible refine ext_setCell ?_ (by first | exact Nat.le_refl _ | (simp; done) | omega | (simp; omega)) _ | with_reducible refine ext_drew ?_ | with_reducible refine ext_trans ?_ (by assumption)))) HWX.out).mono ?_
        rw [HK.out]
        rintro e w1 ⟨ds, G1, rfl, hO1, hb1⟩
        have hR1 := hO1.rd
        obtain ⟨Ak1, ck1, Fk1, Ac1, cc1, Fc1, hck, hF1, hkind1, hnum1, htext1, hkeys1, hkids1⟩ := rd_Tree hR1
        subst hck
        have HBK := Lib.hid (show ∀ b ∈ Fc1, w.heap.size + 1 < b from fun b hb => by have := hO1.base b (by rw [hF1]; simp [hb]); (try simp at this); omega)
        clear hF1 hR1
        obtain ⟨hc1, hf1⟩ := bcell hb1
        have hz1 : w.heap.size < w1.heap.size := by have := hb1.size; (try simp at this); omega
        have hz1b : w.heap.size + 1 < w1.heap.size := by have := hb1.size; (try simp at this); omega
        rw [Option.getD_some] at *
        go_wp2
        refine bodyPost_ret (v := .tuple #[.slice Ac1 y.kids.length cc1, .agg #[.int .i64 0, .int .i64 0, .string ⟨#[]⟩]]) (by simp [results, Tryz.results41, go_sem, *]) rfl ⟨_, _, _, by rw [HF.out]; rfl, by rw [HF.out]; exact hkids1.frame (fun b hb => by have h1 := HBK.out b hb; have h2 := hkids1.lt b hb; rw [Below.heap_alloc _ _ _ (by simpa [World.setCell] using h2), Below.heap_setCell _ _ _ _ (by dsimp only; omega), Below.heap_setCell _ _ _ _ (by dsimp only; omega), Below.heap_setCell _ _ _ _ (by dsimp only; omega)]) (by simp [World.setCell]), fun b hb => by have h1 := HBK.out b hb; omega, (by repeat (first | with_reducible exact ext_refl _ | with_reducible assumption | with_reducible refine ext_alloc ?_ _ | with_reducible refine ext_setCell ?_ (by first | exact Nat.le_refl _ | (simp; done) | omega | (simp; omega)) _ | with_reducible refine ext_drew ?_ | with_reducible refine ext_trans ?_ (by assumption)))⟩
      · have hd : (y.kind != 5) = false := by simp [h5]
        have hg : (40 : Int) < (y.kids.length : Int) := by omega
        have HF := Lib.hid (show listR x p k = ([], fl 16 (pathR p k)) by unfold listR; rw [hkr]; dsimp only; rw [if_neg (by omega), if_pos (by omega)])
        clear hkr h5
        go_enter Tryz.func41, Tryz.ntmps41
        go_wp2_with fail
        refine (KidOf_spec x _ _ k _ (rd_extK h0 (by repeat (first | with_reducible exact ext_refl _ | with_reducible assumption | with_reducible refine ext_alloc ?_ _ | with_reducible refine ext_setCell ?_ (by first | exact Nat.le_refl _ | (simp; done) | omega | (simp; omega)) _ | with_reducible refine ext_drew ?_ | with_reducible refine ext_trans ?_ (by assumption)))) HWX.out).mono ?_
        rw [HK.out]
        rintro e w1 ⟨ds, G1, rfl, hO1, hb1⟩
        have hR1 := hO1.rd
        obtain ⟨Ak1, ck1, Fk1, Ac1, cc1, Fc1, hck, hF1, hkind1, hnum1, htext1, hkeys1, hkids1⟩ := rd_Tree hR1
        subst hck
        have HBK := Lib.hid (show ∀ b ∈ Fc1, w.heap.size + 1 < b from fun b hb => by have := hO1.base b (by rw [hF1]; simp [hb]); (try simp at this); omega)
        clear hF1 hR1
        obtain ⟨hc1, hf1⟩ := bcell hb1
        have hz1 : w.heap.size < w1.heap.size := by have := hb1.size; (try simp at this); omega
        have hz1b : w.heap.size + 1 < w1.heap.size := by have := hb1.size; (try simp at this); omega
        rw [Option.getD_some] at *
        go_wp2_with (first | (go_at_call 40; refine (PathKey_spec _ _ _ (by omega) (by omega)).mono ?_; rintro e wx1 ⟨rfl, rfl⟩) | (go_at_call 42; refine (l18Fault_any _ _ _).mono ?_; rintro e wx2 ⟨rfl, hbwx⟩; obtain ⟨hcwx, hfwx⟩ := bcell hbwx; have hzwx0 : w.heap.size < wx2.heap.size := (by have := hbwx.size; (try simp at this); omega); have hzwx1 : w.heap.size + 1 < wx2.heap.size := (by have := hbwx.size; (try simp at this); omega)))
        clear h6 hg
        have BR := Blk.new (w.alloc (.cells #[.int .i64 x.kind, .bool x.flag, .int .i64 x.num, .string x.text, .slice Ak x.keys.length ck, .slice Ac x.kids.length cc] 35)) [.int .i64 0, .int .i64 0, .string ⟨#[]⟩] 30; rw [World.size_alloc] at BR; have BW := (((BR.ext hb1).ext (ext_alloc (ext_refl _) _)).ext (ext_alloc (ext_refl _) _)).ext hbwx; have kx0 := BW.cell (i := 0) (u := .int .i64 0) rfl; have kx1 := BW.cell (i := 1) (u := .int .i64 0) rfl; have kx2 := BW.cell (i := 2) (u := .string ⟨#[]⟩) rfl; clear hc1 hf1 hcwx hfwx
        refine bodyPost_ret (v := .tuple #[.slice (some ⟨w1.heap.size + 1, 0, none⟩) 0 0, .agg #[.int .i64 16, .int .i64 0, .string (pathR p k)]]) (by simp [results, Tryz.results41, go_sem, *]) rfl ⟨_, _, _, by rw [HF.out]; rfl, by rw [HF.out]; exact Sl.nil _ _ _ (by unfold maxLen; omega), fun b hb => (by cases hb), (by repeat (first | with_reducible exact ext_refl _ | with_reducible assumption | with_reducible refine ext_alloc ?_ _ | with_reducible refine ext_setCell ?_ (by first | exact Nat.le_refl _ | (simp; done) | omega | (simp; omega)) _ | with_reducible refine ext_drew ?_ | with_reducible refine ext_trans ?_ (by assumption)))⟩
    · have hd : (y.kind != 5) = true := by simp [h5]
      have HF := Lib.hid (show listR x p k = ([], fl 11 (pathR p k)) by unfold listR; rw [hkr]; dsimp only; rw [if_pos h5])
      clear hkr
      go_enter Tryz.func41, Tryz.ntmps41
      go_wp2_with fail
      refine (KidOf_spec x _ _ k _ (rd_extK h0 (by repeat (first | with_reducible exact ext_refl _ | with_reducible assumption | with_reducible refine ext_alloc ?_ _ | with_reducible refine ext_setCell ?_ (by first | exact Nat.le_refl _ | (simp; done) | omega | (simp; omega)) _ | with_reducible refine ext_drew ?_ | with_reducible refine ext_trans ?_ (by assumption)))) HWX.out).mono ?_
      rw [HK.out]
      rintro e w1 ⟨ds, G1, rfl, hO1, hb1⟩
      have hR1 := hO1.rd
      obtain ⟨Ak1, ck1, Fk1, Ac1, cc1, Fc1, hck, hF1, hkind1, hnum1, htext1, hkeys1, hkids1⟩ := rd_Tree hR1
      subst hck
      have HBK := Lib.hid (show ∀ b ∈ Fc1, w.heap.size + 1 < b from fun b hb => by have := hO1.base b (by rw [hF1]; simp [hb]); (try simp at this); omega)
      clear hF1 hR1
      obtain ⟨hc1, hf1⟩ := bcell hb1
      have hz1 : w.heap.size < w1.heap.size := by have := hb1.size; (try simp at this); omega
      have hz1b : w.heap.size + 1 < w1.heap.size := by have := hb1.size; (try simp at this); omega
      rw [Option.getD_some] at *
      go_wp2_with (first | (go_at_call 40; refine (PathKey_spec _ _ _ (by omega) (by omega)).mono ?_; rintro e wx1 ⟨rfl, rfl⟩) | (go_at_call 42; refine (l18Fault_any _ _ _).mono ?_; rintro e wx2 ⟨rfl, hbwx⟩; obtain ⟨hcwx, hfwx⟩ := bcell hbwx; have hzwx0 : w.heap.size < wx2.heap.size := (by have := hbwx.size; (try simp at this); omega); have hzwx1 : w.heap.size + 1 < wx2.heap.size := (by have := hbwx.size; (try simp at this); omega)))
      have BR := Blk.new (w.alloc (.cells #[.int .i64 x.kind, .bool x.flag, .int .i64 x.num, .string x.text, .slice Ak x.keys.length ck, .slice Ac x.kids.length cc] 35)) [.int .i64 0, .int .i64 0, .string ⟨#[]⟩] 30; rw [World.size_alloc] at BR; have BW := (((BR.ext hb1).ext (ext_alloc (ext_refl _) _)).ext (ext_alloc (ext_refl _) _)).ext hbwx; have kx0 := BW.cell (i := 0) (u := .int .i64 0) rfl; have kx1 := BW.cell (i := 1) (u := .int .i64 0) rfl; have kx2 := BW.cell (i := 2) (u := .string ⟨#[]⟩) rfl; clear hc1 hf1 hcwx hfwx
      refine bodyPost_ret (v := .tuple #[.slice (some ⟨w1.heap.size + 1, 0, none⟩) 0 0, .agg #[.int .i64 11, .int .i64 0, .string (pathR p k)]]) (by simp [results, Tryz.results41, go_sem, *]) rfl ⟨_, _, _, by rw [HF.out]; rfl, by rw [HF.out]; exact Sl.nil _ _ _ (by unfold maxLen; omega), fun b hb => (by cases hb), (by repeat (first | with_reducible exact ext_refl _ | with_reducible assumption | with_reducible refine ext_alloc ?_ _ | with_reducible refine ext_setCell ?_ (by first | exact Nat.le_refl _ | (simp; done) | omega | (simp; omega)) _ | with_reducible refine ext_drew ?_ | with_reducible refine ext_trans ?_ (by assumption)))⟩
end Go.Proofs.YtegekccoincicaaGreatDoor
