/- What the reference reads out of trees: l19One. No condition. -/
import Derived.Test.YtegekccoincicaaGreatDoorTreeG
namespace Go.Proofs.YtegekccoincicaaGreatDoor
open Dat (rd)
open Go.ChangeShapes Go.WideShapes Go.ChangeAt Go.RowKit
set_option linter.unusedVariables false
set_option linter.unusedSimpArgs false

/-- the place of a text among words, 0 where it is none of them -/
def oneR (ws : List ByteArray) (s : ByteArray) : Int := idxI (fun v : ByteArray => v.toList == s.toList) (ws.drop 1) + 1
def oneF (x : Tree) (p k : ByteArray) (ws : List ByteArray) : Int × Fault :=
  if (textR x p k).2.code = 0 then (if oneR ws (textR x p k).1 = 0 then (0, fl 14 (pathR p k)) else (oneR ws (textR x p k).1, (textR x p k).2)) else (0, (textR x p k).2)
theorem oneR_at {ws : List ByteArray} {s : ByteArray} {j : Nat} (hj : j + 1 < ws.length) (hb : ∀ v ∈ (ws.drop 1).take j, (v.toList == s.toList) = false) (h : (ws[j + 1].toList == s.toList) = true) : oneR ws s = ((j + 1 : Nat) : Int) := by
  unfold oneR
  have hl : j < (ws.drop 1).length := by simp; omega
  rw [idxI_found (p := fun v : ByteArray => v.toList == s.toList) hl hb (by simpa using h)]
  omega
theorem oneR_none {ws : List ByteArray} {s : ByteArray} (hb : ∀ v ∈ ws.drop 1, (v.toList == s.toList) = false) : oneR ws s = 0 := by
  unfold oneR
  rw [idxI_none (p := fun v : ByteArray => v.toList == s.toList) hb]
  rfl
set_option maxRecDepth 100000 in
set_option maxHeartbeats 4000000 in
theorem l19One_any (x : Tree) (cs : List Value) (F : List Nat) (p k : ByteArray) (ws : List ByteArray) (A : Option Addr) (n c : Nat) (G : List Nat) (w : World) (h : rd w x cs F) (hs : Sl w ws A c G) (hn : n = ws.length) (hw : (x.wt : Int) ≤ 1048576) (hp : (p.size : Int) ≤ 1048576) (hk : (k.size : Int) ≤ 1048576) (hwl : 1 ≤ ws.length) (hwm : (ws.length : Int) ≤ 1048576) :
    Calls Tryz.prog 38 #[.agg cs.toArray, .string p, .string k, .slice A n c] w fun e w' => e = .returned (.tuple #[.int .i64 (oneF x p k ws).1, .agg #[.int .i64 (oneF x p k ws).2.code, .int .i64 (oneF x p k ws).2.at_, .string (oneF x p k ws).2.path]]) ∧ Below w.heap.size w w' := by
  subst hn
  have h0 := h
  obtain ⟨Ak, ck, Fk, Ac, cc, Fc, hck, hF, hkind, hnum, htext, hkeys, hkids⟩ := rd_Tree h
  subst hck
  clear hF h
  have HT := Lib.hid (fun wq (hq : Below w.heap.size w wq) => TextField_spec x _ _ p k wq (rd_extK h0 hq) hw hp hk)
  have HSZ := Lib.hid (show ((textR x p k).1.size : Int) ≤ 1048576 by have := (textR_ok x p k).2; omega)
  obtain ⟨s, f1, hsf⟩ : ∃ s f1, textR x p k = (s, f1) := ⟨_, _, rfl⟩
  have HO := Lib.hid (show oneF x p k ws = if f1.code = 0 then (if oneR ws s = 0 then (0, fl 14 (pathR p k)) else (oneR ws s, f1)) else (0, f1) by unfold oneF; rw [hsf])
  rw [hsf] at HT HSZ
  dsimp only at HT HSZ
  clear hsf h0 hw
  by_cases h1 : f1.code = 0
  · have hd1 : (f1.code != 0) = false := by simp [h1]
    have HO1 := Lib.hid (show oneF x p k ws = if oneR ws s = 0 then (0, fl 14 (pathR p k)) else (oneR ws s, f1) by rw [HO.out]; exact if_pos h1)
    clear h1
    go_enter Tryz.func38, Tryz.ntmps38
    go_wp2_with fail
    refine (HT.out _ (by repeat (first | with_reducible exact ext_refl _ | with_reducible assumption | with_reducible refine ext_alloc ?_ _ | with_reducible refine ext_setCell ?_ (by first | exact Nat.le_refl _ | (simp; done) | omega | (simp; omega)) _ | with_reducible refine ext_drew ?_ | with_reducible refine ext_trans ?_ (by assumption)))).mono ?_
    rintro e w1 ⟨rfl, hb1⟩
    obtain ⟨hc1, hf1⟩ := bcell hb1
    have hz1 : w.heap.size < w1.heap.size := by have := hb1.size; first | omega | (simp at this; omega)
    have hz1b : w.heap.size + 1 < w1.heap.size := by have := hb1.size; first | omega | (simp at this; omega)
    go_wp2_with fail
    have hs2 := hs.ext (show Below w.heap.size w (w1.alloc (.cells #[.int .i64 f1.code, .int .i64 f1.at_, .string f1.path] 30)) from (by repeat (first | with_reducible exact ext_refl _ | with_reducible assumption | with_reducible refine ext_alloc ?_ _ | with_reducible refine ext_setCell ?_ (by first | exact Nat.le_refl _ | (simp; done) | omega | (simp; omega)) _ | with_reducible refine ext_drew ?_ | with_reducible refine ext_trans ?_ (by assumption))))
    go_loop [12] (fun i => ∃ j : Nat, j + 1 ≤ ws.length ∧ i = .int .i64 ((j + 1 : Nat) : Int) ∧ Hid (∀ v ∈ (ws.drop 1).take j, (v.toList == s.toList) = false)) (fun i => ws.length - (intOf i).toNat)
    case atStart => exact ⟨0, hwl, rfl, by show ∀ _, _; simp⟩
    case round =>
      obtain ⟨j, hj, rfl, HN⟩ := hrel
      by_cases hlt : j + 1 < ws.length
      · obtain ⟨b, o, ck1, Fk1, rfl, hbF, hbs, hr, hsub, hc⟩ := hs2.get hlt
        obtain ⟨hck, hFk, hsz⟩ := hr
        subst hck hFk
        have q0 : (w1.alloc (.cells #[.int .i64 f1.code, .int .i64 f1.at_, .string f1.path] 30)).cell? ⟨b, o + (j + 1), none⟩ = some (.string ws[j + 1]) := by have := hc 0 _ rfl; rwa [show o + ((j + 1) * Dat.size ByteArray + 0) = o + (j + 1) from by show o + ((j + 1) * 1 + 0) = _; omega] at this
        clear hc hsub hbF
        cases hp1 : (ws[j + 1].toList == s.toList) with
        | true =>
          have HF := Lib.hid (show oneF x p k ws = (((j + 1 : Nat) : Int), f1) by rw [HO1.out, oneR_at hlt HN.out hp1]; exact if_neg (by omega))
          go_wp2
          go_region
          all_goals
            go_wp2_with fail
            try dsimp only
            iterate 60 (first | go_step | skip)
            refine bodyPost_ret (v := .tuple #[.int .i64 ((j + 1 : Nat) : Int), .agg #[.int .i64 f1.code, .int .i64 f1.at_, .string f1.path]]) (by simp [results, Tryz.results38, go_sem, *]) rfl ⟨by rw [HF.out]; try rfl, ?_⟩
            repeat (first | with_reducible exact ext_refl _ | with_reducible assumption | with_reducible refine ext_setCell ?_ (by dsimp only; omega) _ | with_reducible refine ext_alloc ?_ _ | with_reducible refine ext_drew ?_ | with_reducible refine ext_trans ?_ (by assumption))
        | false =>
          have HN2 := Lib.hid (show ∀ v ∈ (ws.drop 1).take (j + 1), (v.toList == s.toList) = false from by
            have hl : j < (ws.drop 1).length := by simp; omega
            exact take_none (p := fun v : ByteArray => v.toList == s.toList) hl HN.out (by simpa using hp1))
          go_wp2
          go_round
          case rel => exact ⟨j + 1, by omega, by go_num, HN2.out⟩
          case measure => simp [intOf]; omega
      · have hkl : j + 1 = ws.length := by omega
        have HF := Lib.hid (show oneF x p k ws = (0, fl 14 (pathR p k)) by
          rw [HO1.out, oneR_none (by have hn := HN.out; rwa [List.take_of_length_le (by simp; omega)] at hn)]
          exact if_pos rfl)
        have hg : ¬ ((j + 1 : Nat) : Int) < (ws.length : Int) := by omega
        have hgd : decide (j + 1 < ws.length) = false := by simp; omega
        clear hkl hlt HN
        go_wp2_with (first | (go_at_call 40; refine (PathKey_spec p k _ hp hk).mono ?_; rintro e w5 ⟨rfl, rfl⟩) | (go_at_call 42; refine (l18Fault_any _ _ _).mono ?_; rintro e w6 ⟨rfl, hb6⟩; obtain ⟨hc6, hf6⟩ := bcell hb6; have hz6 : w.heap.size + 1 < w6.heap.size := (by have := hb6.size; first | omega | (simp at this; omega)); have hz60 : w.heap.size < w6.heap.size := (by omega)))
        refine bodyPost_ret (v := .tuple #[.int .i64 0, .agg #[.int .i64 14, .int .i64 0, .string (pathR p k)]]) (by simp [results, Tryz.results38, go_sem, *]) rfl ⟨by rw [HF.out]; try rfl, (by repeat (first | with_reducible exact ext_refl _ | with_reducible assumption | with_reducible refine ext_alloc ?_ _ | with_reducible refine ext_setCell ?_ (by first | exact Nat.le_refl _ | (simp; done) | omega | (simp; omega)) _ | with_reducible refine ext_drew ?_ | with_reducible refine ext_trans ?_ (by assumption)))⟩
  · have hd1 : (f1.code != 0) = true := by simp [h1]
    have HF := Lib.hid (show oneF x p k ws = (0, f1) by rw [HO.out]; exact if_neg h1)
    clear h1
    go_enter Tryz.func38, Tryz.ntmps38
    go_wp2_with fail
    refine (HT.out _ (by repeat (first | with_reducible exact ext_refl _ | with_reducible assumption | with_reducible refine ext_alloc ?_ _ | with_reducible refine ext_setCell ?_ (by first | exact Nat.le_refl _ | (simp; done) | omega | (simp; omega)) _ | with_reducible refine ext_drew ?_ | with_reducible refine ext_trans ?_ (by assumption)))).mono ?_
    rintro e w1 ⟨rfl, hb1⟩
    obtain ⟨hc1, hf1⟩ := bcell hb1
    have hz1 : w.heap.size < w1.heap.size := by have := hb1.size; first | omega | (simp at this; omega)
    have hz1b : w.heap.size + 1 < w1.heap.size := by have := hb1.size; first | omega | (simp at this; omega)
    go_wp2
    go_region
    all_goals
      go_wp2_with fail
      try dsimp only
      iterate 60 (first | go_step | skip)
      refine bodyPost_ret (v := .tuple #[.int .i64 0, .agg #[.int .i64 f1.code, .int .i64 f1.at_, .string f1.path]]) (by simp [results, Tryz.results38, go_sem, *]) rfl ⟨by rw [HF.out]; try rfl, ?_⟩
      repeat (first | with_reducible exact ext_refl _ | with_reducible assumption | with_reducible refine ext_setCell ?_ (by dsimp only; omega) _ | with_reducible refine ext_alloc ?_ _ | with_reducible refine ext_drew ?_ | with_reducible refine ext_trans ?_ (by assumption))
end Go.Proofs.YtegekccoincicaaGreatDoor
