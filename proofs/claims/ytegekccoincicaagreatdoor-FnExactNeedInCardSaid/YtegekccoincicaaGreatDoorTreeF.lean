/- KeyAt, KidOf, PathKey, of the program and of the reference. No condition. -/
import Derived.Test.YtegekccoincicaaGreatDoorTreeP
import Derived.Test.YtegekccoincicaaGreatDoorTreeCS
import Derived.Test.YtegekccoincicaaGreatDoorKeys
namespace Go.Proofs.YtegekccoincicaaGreatDoor
open Dat (rd)
open Go.ChangeShapes Go.WideShapes Go.ChangeAt Go.RowKit
set_option linter.unusedVariables false
set_option linter.unusedSimpArgs false

set_option maxHeartbeats 1000000 in
theorem KeyAt_impl (x : Tree) (cs : List Value) (F : List Nat) (k : ByteArray) (w : World) (h : rd w x cs F) (hl : (x.keys.length : Int) ≤ 1048576) :
    Calls Tryz.prog 141 #[.agg cs.toArray, .string k] w fun e w' => e = .returned (.int .i64 (keyAtR x k)) ∧ Below w.heap.size w w' := by
  obtain ⟨Ak, ck, Fk, Ac, cc, Fc, hck, hF, hkind, hnum, htext, hkeys, hkids⟩ := rd_Tree h
  subst hck
  clear hF h
  by_cases h6 : x.kind = 6
  · have HF := Lib.hid (show keyAtR x k = idxI (fun v : ByteArray => v.toList == k.toList) x.keys by unfold keyAtR; rw [if_pos h6])
    have hd : (x.kind != 6) = false := by simp [h6]
    clear h6
    go_enter Tryz.func141, Tryz.ntmps141
    go_wp2_with (go_at_call 153; refine (Index_any x.keys k _ _ _ _ _ (hkeys.ext (by repeat (first | with_reducible exact ext_refl _ | with_reducible assumption | with_reducible refine ext_alloc ?_ _ | with_reducible refine ext_setCell ?_ (by first | exact Nat.le_refl _ | (simp; done) | omega | (simp; omega)) _ | with_reducible refine ext_drew ?_ | with_reducible refine ext_trans ?_ (by assumption)))) rfl hl).mono ?_; rintro e w1 ⟨rfl, hb1⟩)
    go_ret
    exact ⟨by rw [HF.out]; rfl, (by repeat (first | with_reducible exact ext_refl _ | with_reducible assumption | with_reducible refine ext_alloc ?_ _ | with_reducible refine ext_setCell ?_ (by first | exact Nat.le_refl _ | (simp; done) | omega | (simp; omega)) _ | with_reducible refine ext_drew ?_ | with_reducible refine ext_trans ?_ (by assumption)))⟩
  · have HF := Lib.hid (show keyAtR x k = -1 by unfold keyAtR; rw [if_neg h6])
    have hd : (x.kind != 6) = true := by simp [h6]
    clear h6
    go_enter Tryz.func141, Tryz.ntmps141
    go_wp2
    go_ret
    exact ⟨by rw [HF.out]; rfl, (by repeat (first | with_reducible exact ext_refl _ | with_reducible assumption | with_reducible refine ext_alloc ?_ _ | with_reducible refine ext_setCell ?_ (by first | exact Nat.le_refl _ | (simp; done) | omega | (simp; omega)) _ | with_reducible refine ext_drew ?_ | with_reducible refine ext_trans ?_ (by assumption)))⟩
set_option maxHeartbeats 1000000 in
theorem KeyAt_spec (x : Tree) (cs : List Value) (F : List Nat) (k : ByteArray) (w : World) (h : rd w x cs F) (hl : (x.keys.length : Int) ≤ 1048576) :
    Calls Tryz.prog 118 #[.agg cs.toArray, .string k] w fun e w' => e = .returned (.int .i64 (keyAtR x k)) ∧ Below w.heap.size w w' := by
  obtain ⟨Ak, ck, Fk, Ac, cc, Fc, hck, hF, hkind, hnum, htext, hkeys, hkids⟩ := rd_Tree h
  subst hck
  clear hF h
  obtain ⟨w0, hw0⟩ : ∃ w0, w.alloc (.cells #[.int .i64 x.kind, .bool x.flag, .int .i64 x.num, .string x.text, .slice Ak x.keys.length ck, .slice Ac x.kids.length cc] 35) = w0 := ⟨_, rfl⟩
  have c0 : w0.cell? ⟨w.heap.size, 0, none⟩ = some (.int .i64 x.kind) := by rw [← hw0, cell_of_row _ _ _ _ _ _ (heap_alloc_new w _)]; rfl
  have c4 : w0.cell? ⟨w.heap.size, 4, none⟩ = some (.slice Ak x.keys.length ck) := by rw [← hw0, cell_of_row _ _ _ _ _ _ (heap_alloc_new w _)]; rfl
  have hB0 : Below w.heap.size w w0 := by rw [← hw0]; exact ext_alloc (ext_refl _) _
  have hz0 : w.heap.size < w0.heap.size := by rw [← hw0]; simp
  have HW0 := Lib.hid hw0
  clear hw0
  by_cases h6 : x.kind = 6
  · have hd : (x.kind == 6) = true := by simp [h6]
    have HFF := Lib.hid (show keyAtR x k = idxI (fun v : ByteArray => v.toList == k.toList) x.keys by unfold keyAtR; rw [if_pos h6])
    clear h6
    go_enter Tryz.func118, Tryz.ntmps118
    go_wp2_with fail
    rw [HW0.out]
    go_loop [5] (fun i => ∃ j : Nat, j ≤ x.keys.length ∧ i = .int .i64 j ∧ Hid (∀ v ∈ x.keys.take j, (v.toList == k.toList) = false)) (fun i => x.keys.length - (intOf i).toNat)
    case atStart => exact ⟨0, Nat.zero_le _, rfl, by show ∀ _, _; simp⟩
    case round =>
      obtain ⟨j, hj, rfl, HN⟩ := hrel
      by_cases hlt : j < x.keys.length
      · obtain ⟨b, o, ck1, Fk1, rfl, hbF, hbs, hr, hsub, hc⟩ := (Sl.ext (w' := w0) (A := Ak) (c := ck) hkeys hB0).get hlt
        obtain ⟨hck, hFk, hsz⟩ := hr
        subst hck hFk
        have q0 : w0.cell? ⟨b, o + j, none⟩ = some (.string x.keys[j]) := by have := hc 0 _ rfl; rwa [show o + (j * Dat.size ByteArray + 0) = o + j from by show o + (j * 1 + 0) = _; omega] at this
        clear hc
        cases hp : (x.keys[j].toList == k.toList) with
        | true =>
          have HF := Lib.hid (idxI_found (p := fun v : ByteArray => v.toList == k.toList) hlt HN.out hp)
          go_wp2
          go_ret
          exact ⟨by rw [HFF.out, HF.out]; rfl, hB0⟩
        | false =>
          have HN2 := Lib.hid (take_none (p := fun v : ByteArray => v.toList == k.toList) hlt HN.out hp)
          go_wp2
          go_round
          case rel => exact ⟨j + 1, by omega, by go_num, HN2.out⟩
          case measure => simp [intOf]; omega
      · have hkl : j = x.keys.length := by omega
        subst hkl
        have hn := HN.out
        rw [List.take_length] at hn
        have HF := Lib.hid (idxI_none (p := fun v : ByteArray => v.toList == k.toList) hn)
        clear hn
        go_wp2
        go_ret
        exact ⟨by rw [HFF.out, HF.out]; rfl, hB0⟩
  · have hd : (x.kind == 6) = false := by simp [h6]
    have HFF := Lib.hid (show keyAtR x k = -1 by unfold keyAtR; rw [if_neg h6])
    clear h6
    go_enter Tryz.func118, Tryz.ntmps118
    go_wp2_with fail
    rw [HW0.out]
    go_loop [5] (fun i => i = .int .i64 0) (fun i => 0)
    case atStart => rfl
    case round =>
      obtain rfl := hrel
      by_cases hlt : 0 < x.keys.length
      · have hi : decide ((0 : Int) < (x.keys.length : Int)) = true := by simpa using hlt
        go_wp2
        go_ret
        exact ⟨by rw [HFF.out]; rfl, hB0⟩
      · have hi : decide ((0 : Int) < (x.keys.length : Int)) = false := by simpa using hlt
        go_wp2
        go_ret
        exact ⟨by rw [HFF.out]; rfl, hB0⟩
theorem PathKey_impl (p k : ByteArray) (w : World) (hp : (p.size : Int) ≤ 1048576) (hk : (k.size : Int) ≤ 1048576) :
    Calls Tryz.prog 55 #[.string p, .string k] w fun e w' => e = .returned (.string (pathR p k)) ∧ w = w' := by
  by_cases h0 : 0 < p.size
  · have hne := toList_ne h0
    have hz : ¬ p.size = 0 := by omega
    have HF := Lib.hid (show pathR p k = p ++ ⟨#[46]⟩ ++ k by unfold pathR; rw [if_neg hz])
    have e1 : (p ++ (⟨#[46]⟩ : ByteArray)).size = p.size + 1 := by rw [ByteArray.size_append]; rfl
    have h2 : ((p ++ (⟨#[46]⟩ : ByteArray)).size : Int) ≤ 1048577 := by rw [e1]; omega
    clear hz e1
    go_enter Tryz.func55, Tryz.ntmps55
    go_wp2
    go_ret
    exact ⟨by rw [HF.out]; rfl, rfl⟩
  · obtain rfl := size_zero (s := p) (by omega)
    have HF := Lib.hid (show pathR ⟨#[]⟩ k = k by unfold pathR; exact if_pos rfl)
    go_enter Tryz.func55, Tryz.ntmps55
    go_wp2
    go_ret
    exact ⟨by rw [HF.out]; rfl, rfl⟩
theorem PathKey_spec (p k : ByteArray) (w : World) (hp : (p.size : Int) ≤ 1048576) (hk : (k.size : Int) ≤ 1048576) :
    Calls Tryz.prog 40 #[.string p, .string k] w fun e w' => e = .returned (.string (pathR p k)) ∧ w = w' := by
  by_cases h0 : 0 < p.size
  · have hne := toList_ne h0
    have hz : ¬ p.size = 0 := by omega
    have HF := Lib.hid (show pathR p k = p ++ ⟨#[46]⟩ ++ k by unfold pathR; rw [if_neg hz])
    have e1 : (p ++ (⟨#[46]⟩ : ByteArray)).size = p.size + 1 := by rw [ByteArray.size_append]; rfl
    have h2 : ((p ++ (⟨#[46]⟩ : ByteArray)).size : Int) ≤ 1048577 := by rw [e1]; omega
    clear hz e1
    go_enter Tryz.func40, Tryz.ntmps40
    go_wp2
    go_ret
    exact ⟨by rw [HF.out]; rfl, rfl⟩
  · obtain rfl := size_zero (s := p) (by omega)
    have HF := Lib.hid (show pathR ⟨#[]⟩ k = k by unfold pathR; exact if_pos rfl)
    go_enter Tryz.func40, Tryz.ntmps40
    go_wp2
    go_ret
    exact ⟨by rw [HF.out]; rfl, rfl⟩
set_option maxRecDepth 100000 in
set_option maxHeartbeats 2000000 in
theorem KidOf_impl (x : Tree) (cs : List Value) (F : List Nat) (k : ByteArray) (w : World) (h : rd w x cs F) (hw : (x.wt : Int) ≤ 1048576) :
    Calls Tryz.prog 109 #[.agg cs.toArray, .string k] w fun e w' => ∃ ds G, e = .returned (.tuple #[.agg ds.toArray, .bool (kidR x k).isSome]) ∧ Own w' w.heap.size ((kidR x k).getD Tree.zero) ds G ∧ Below w.heap.size w w' := by
  have hwt := Tree.wt_eq x
  have hl : (x.keys.length : Int) ≤ 1048576 := by have := wtL_len ByteArray.size x.keys; omega
  have hcl : (x.kids.length : Int) ≤ 1048576 := by have := wtL_len Tree.wt x.kids; omega
  have HW := Lib.hid (fun k (hk : k < x.kids.length) => (show (Tree.wt x.kids[k] : Int) ≤ 1048576 by have := wtL_get (f := Tree.wt) hk; omega))
  have hkl := keyAtR_lt x k
  clear hwt hw
  have h0 := h
  obtain ⟨Ak, ck, Fk, Ac, cc, Fc, hck, hF, hkind, hnum, htext, hkeys, hkids⟩ := rd_Tree h
  subst hck
  clear hF h
  have none_ : ∀ (w2 : World), (kidR x k) = none → Own w2 w.heap.size ((kidR x k).getD Tree.zero) [.int .i64 0, .bool false, .int .i64 0, .string ⟨#[]⟩, .slice none 0 0, .slice none 0 0] [] := fun w2 hn => by
    rw [hn]
    exact Own.flat (rd_tree_mk ⟨_, _, _, _, rfl, rfl, ⟨rfl, rfl, by decide, by decide⟩, _, _, _, _, rfl, rfl, ⟨rfl, rfl⟩, _, _, _, _, rfl, rfl, ⟨rfl, rfl, by decide, by decide⟩, _, _, _, _, rfl, rfl, ⟨rfl, rfl, by decide⟩, _, _, _, _, rfl, rfl, Sl.nil _ none 0 (Nat.zero_le _), Sl.nil _ none 0 (Nat.zero_le _)⟩)
  have HNO := Lib.hid none_
  clear none_
  by_cases hn : keyAtR x k < 0
  · have HK := Lib.hid (kidR_neg hn)
    have e1 : keyAtR x k = -1 := by omega
    have HI := Lib.hid e1
    clear hn hkl e1
    go_enter Tryz.func109, Tryz.ntmps109
    go_wp2_with fail
    refine (KeyAt_impl x _ _ k _ (rd_extK h0 (by repeat (first | with_reducible exact ext_refl _ | with_reducible assumption | with_reducible refine ext_alloc ?_ _ | with_reducible refine ext_setCell ?_ (by first | exact Nat.le_refl _ | (simp; done) | omega | (simp; omega)) _ | with_reducible refine ext_drew ?_ | with_reducible refine ext_trans ?_ (by assumption)))) hl).mono ?_
    rw [HI.out]
    rintro e w1 ⟨rfl, hb1⟩
    obtain ⟨hc1, hf1⟩ := bcell hb1
    have hz1 : w.heap.size < w1.heap.size := by have := hb1.size; (try simp at this); omega
    have hz1b : w.heap.size + 1 < w1.heap.size := by have := hb1.size; (try simp at this); omega
    go_wp2_with fail
    try dsimp only
    iterate 60 (first | go_step | skip)
    refine bodyPost_ret (v := .tuple #[.agg #[.int .i64 0, .bool false, .int .i64 0, .string ⟨#[]⟩, .slice none 0 0, .slice none 0 0], .bool false]) (by simp [results, Tryz.results109, go_sem, *]) rfl ⟨[.int .i64 0, .bool false, .int .i64 0, .string ⟨#[]⟩, .slice none 0 0, .slice none 0 0], [], by rw [HK.out]; rfl, HNO.out _ HK.out, (by repeat (first | with_reducible exact ext_refl _ | with_reducible assumption | with_reducible refine ext_alloc ?_ _ | with_reducible refine ext_setCell ?_ (by first | exact Nat.le_refl _ | (simp; done) | omega | (simp; omega)) _ | with_reducible refine ext_drew ?_ | with_reducible refine ext_trans ?_ (by assumption)))⟩
  · obtain ⟨i, hi⟩ : ∃ i : Nat, keyAtR x k = i := ⟨(keyAtR x k).toNat, by omega⟩
    have hik : i < x.keys.length := by omega
    by_cases hne : x.keys.length = x.kids.length
    · have hic : i < x.kids.length := by omega
      have HK := Lib.hid (kidR_at hi hne hic)
      have hd : ((x.keys.length : Int) != (x.kids.length : Int)) = false := by simp [hne]
      have HI := Lib.hid hi
      clear hi hkl hn hne
      obtain ⟨b, o, ck1, Fk1, rfl, hbF, hbs, hr, hsub, hc⟩ := Sl.get (α := Tree) hkids hic
      have hr0 := hr
      obtain ⟨Ak1, ck1, Fk1, Ac1, cc1, Fc1, hck, hF, hkind1, hnum1, htext1, hkeys1, hkids1⟩ := rd_Tree hr
      subst hck
      clear hF hr hsub hbF
      have p0 : w.cell? ⟨b, o + i * 6, none⟩ = some (.int .i64 x.kids[i].kind) := by exact hc 0 _ rfl
      have p1 : w.cell? ⟨b, o + i * 6 + 1, none⟩ = some (.bool x.kids[i].flag) := by rw [Nat.add_assoc]; exact hc 1 _ rfl
      have p2 : w.cell? ⟨b, o + i * 6 + 2, none⟩ = some (.int .i64 x.kids[i].num) := by rw [Nat.add_assoc]; exact hc 2 _ rfl
      have p3 : w.cell? ⟨b, o + i * 6 + 3, none⟩ = some (.string x.kids[i].text) := by rw [Nat.add_assoc]; exact hc 3 _ rfl
      have p4 : w.cell? ⟨b, o + i * 6 + 4, none⟩ = some (.slice Ak1 x.kids[i].keys.length ck1) := by rw [Nat.add_assoc]; exact hc 4 _ rfl
      have p5 : w.cell? ⟨b, o + i * 6 + 5, none⟩ = some (.slice Ac1 x.kids[i].kids.length cc1) := by rw [Nat.add_assoc]; exact hc 5 _ rfl
      clear hc
      have hwk := HW.out i hic
      go_enter Tryz.func109, Tryz.ntmps109
      go_wp2_with fail
      refine (KeyAt_impl x _ _ k _ (rd_extK h0 (by repeat (first | with_reducible exact ext_refl _ | with_reducible assumption | with_reducible refine ext_alloc ?_ _ | with_reducible refine ext_setCell ?_ (by first | exact Nat.le_refl _ | (simp; done) | omega | (simp; omega)) _ | with_reducible refine ext_drew ?_ | with_reducible refine ext_trans ?_ (by assumption)))) hl).mono ?_
      rw [HI.out]
      rintro e w1 ⟨rfl, hb1⟩
      obtain ⟨hc1, hf1⟩ := bcell hb1
      have hz1 : w.heap.size < w1.heap.size := by have := hb1.size; (try simp at this); omega
      have hz1b : w.heap.size + 1 < w1.heap.size := by have := hb1.size; (try simp at this); omega
      replace p0 := ((bcell (ext_trans (ext_alloc (ext_alloc (ext_refl w) _) _) hb1)).1 b _ hbs).trans p0
      replace p1 := ((bcell (ext_trans (ext_alloc (ext_alloc (ext_refl w) _) _) hb1)).1 b _ hbs).trans p1
      replace p2 := ((bcell (ext_trans (ext_alloc (ext_alloc (ext_refl w) _) _) hb1)).1 b _ hbs).trans p2
      replace p3 := ((bcell (ext_trans (ext_alloc (ext_alloc (ext_refl w) _) _) hb1)).1 b _ hbs).trans p3
      replace p4 := ((bcell (ext_trans (ext_alloc (ext_alloc (ext_refl w) _) _) hb1)).1 b _ hbs).trans p4
      replace p5 := ((bcell (ext_trans (ext_alloc (ext_alloc (ext_refl w) _) _) hb1)).1 b _ hbs).trans p5
      go_wp2_with fail
      refine (copyTree_any x.kids[i] _ _ _ (rd_extK hr0 (by repeat (first | with_reducible exact ext_refl _ | with_reducible assumption | with_reducible refine ext_alloc ?_ _ | with_reducible refine ext_setCell ?_ (by first | exact Nat.le_refl _ | (simp; done) | omega | (simp; omega)) _ | with_reducible refine ext_drew ?_ | with_reducible refine ext_trans ?_ (by assumption)))) hwk).mono ?_
      rintro e w2 ⟨cs2, G2, rfl, hO2, hb2⟩
      have hR2 := hO2.rd
      obtain ⟨Ak2, ck2, Fk2, Ac2, cc2, Fc2, hck, hF2, hkind2, hnum2, htext2, hkeys2, hkids2⟩ := rd_Tree hR2
      subst hck
      clear hF2 hR2
      obtain ⟨hc2, hf2⟩ := bcell hb2
      have hz2 : w.heap.size < w2.heap.size := by have := hb2.size; omega
      have hz2b : w.heap.size + 1 < w2.heap.size := by have := hb2.size; omega
      have HO2 := Lib.hid hO2
      clear hO2
      go_wp2_with fail
      try dsimp only
      iterate 60 (first | go_step | skip)
      refine bodyPost_ret (v := .tuple #[.agg #[.int .i64 x.kids[i].kind, .bool x.kids[i].flag, .int .i64 x.kids[i].num, .string x.kids[i].text, .slice Ak2 x.kids[i].keys.length ck2, .slice Ac2 x.kids[i].kids.length cc2], .bool true]) (by simp [results, Tryz.results109, go_sem, *]) rfl ⟨[.int .i64 x.kids[i].kind, .bool x.kids[i].flag, .int .i64 x.kids[i].num, .string x.kids[i].text, .slice Ak2 x.kids[i].keys.length ck2, .slice Ac2 x.kids[i].kids.length cc2], G2, by rw [HK.out]; rfl, ?_, (by repeat (first | with_reducible exact ext_refl _ | with_reducible assumption | with_reducible refine ext_alloc ?_ _ | with_reducible refine ext_setCell ?_ (by first | exact Nat.le_refl _ | (simp; done) | omega | (simp; omega)) _ | with_reducible refine ext_drew ?_ | with_reducible refine ext_trans ?_ (by assumption)))⟩
      rw [HK.out, Option.getD_some]
      refine Own.mono (B := w1.heap.size) ?_ (by omega)
      repeat (first | with_reducible exact HO2.out | with_reducible refine Own.setCell ?_ (by dsimp only; omega) _)
    · have HK := Lib.hid (kidR_ne (k := k) hne)
      have hd : ((x.keys.length : Int) != (x.kids.length : Int)) = true := by simp; omega
      have HI := Lib.hid hi
      clear hi hkl hn hne
      go_enter Tryz.func109, Tryz.ntmps109
      go_wp2_with fail
      refine (KeyAt_impl x _ _ k _ (rd_extK h0 (by repeat (first | with_reducible exact ext_refl _ | with_reducible assumption | with_reducible refine ext_alloc ?_ _ | with_reducible refine ext_setCell ?_ (by first | exact Nat.le_refl _ | (simp; done) | omega | (simp; omega)) _ | with_reducible refine ext_drew ?_ | with_reducible refine ext_trans ?_ (by assumption)))) hl).mono ?_
      rw [HI.out]
      rintro e w1 ⟨rfl, hb1⟩
      obtain ⟨hc1, hf1⟩ := bcell hb1
      have hz1 : w.heap.size < w1.heap.size := by have := hb1.size; (try simp at this); omega
      have hz1b : w.heap.size + 1 < w1.heap.size := by have := hb1.size; (try simp at this); omega
      go_wp2_with fail
      try dsimp only
      iterate 60 (first | go_step | skip)
      refine bodyPost_ret (v := .tuple #[.agg #[.int .i64 0, .bool false, .int .i64 0, .string ⟨#[]⟩, .slice none 0 0, .slice none 0 0], .bool false]) (by simp [results, Tryz.results109, go_sem, *]) rfl ⟨[.int .i64 0, .bool false, .int .i64 0, .string ⟨#[]⟩, .slice none 0 0, .slice none 0 0], [], by rw [HK.out]; rfl, HNO.out _ HK.out, (by repeat (first | with_reducible exact ext_refl _ | with_reducible assumption | with_reducible refine ext_alloc ?_ _ | with_reducible refine ext_setCell ?_ (by first | exact Nat.le_refl _ | (simp; done) | omega | (simp; omega)) _ | with_reducible refine ext_drew ?_ | with_reducible refine ext_trans ?_ (by assumption)))⟩
set_option maxRecDepth 100000 in
set_option maxHeartbeats 2000000 in
theorem KidOf_spec (x : Tree) (cs : List Value) (F : List Nat) (k : ByteArray) (w : World) (h : rd w x cs F) (hw : (x.wt : Int) ≤ 1048576) :
    Calls Tryz.prog 85 #[.agg cs.toArray, .string k] w fun e w' => ∃ ds G, e = .returned (.tuple #[.agg ds.toArray, .bool (kidR x k).isSome]) ∧ Own w' w.heap.size ((kidR x k).getD Tree.zero) ds G ∧ Below w.heap.size w w' := by
  have hwt := Tree.wt_eq x
  have hl : (x.keys.length : Int) ≤ 1048576 := by have := wtL_len ByteArray.size x.keys; omega
  have hcl : (x.kids.length : Int) ≤ 1048576 := by have := wtL_len Tree.wt x.kids; omega
  have HW := Lib.hid (fun k (hk : k < x.kids.length) => (show (Tree.wt x.kids[k] : Int) ≤ 1048576 by have := wtL_get (f := Tree.wt) hk; omega))
  have hkl := keyAtR_lt x k
  clear hwt hw
  have h0 := h
  obtain ⟨Ak, ck, Fk, Ac, cc, Fc, hck, hF, hkind, hnum, htext, hkeys, hkids⟩ := rd_Tree h
  subst hck
  clear hF h
  have none_ : ∀ (w2 : World), (kidR x k) = none → Own w2 w.heap.size ((kidR x k).getD Tree.zero) [.int .i64 0, .bool false, .int .i64 0, .string ⟨#[]⟩, .slice none 0 0, .slice none 0 0] [] := fun w2 hn => by
    rw [hn]
    exact Own.flat (rd_tree_mk ⟨_, _, _, _, rfl, rfl, ⟨rfl, rfl, by decide, by decide⟩, _, _, _, _, rfl, rfl, ⟨rfl, rfl⟩, _, _, _, _, rfl, rfl, ⟨rfl, rfl, by decide, by decide⟩, _, _, _, _, rfl, rfl, ⟨rfl, rfl, by decide⟩, _, _, _, _, rfl, rfl, Sl.nil _ none 0 (Nat.zero_le _), Sl.nil _ none 0 (Nat.zero_le _)⟩)
  have HNO := Lib.hid none_
  clear none_
  by_cases hn : keyAtR x k < 0
  · have HK := Lib.hid (kidR_neg hn)
    have e1 : keyAtR x k = -1 := by omega
    have HI := Lib.hid e1
    clear hn hkl e1
    go_enter Tryz.func85, Tryz.ntmps85
    go_wp2_with fail
    refine (KeyAt_spec x _ _ k _ (rd_extK h0 (by repeat (first | with_reducible exact ext_refl _ | with_reducible assumption | with_reducible refine ext_alloc ?_ _ | with_reducible refine ext_setCell ?_ (by first | exact Nat.le_refl _ | (simp; done) | omega | (simp; omega)) _ | with_reducible refine ext_drew ?_ | with_reducible refine ext_trans ?_ (by assumption)))) hl).mono ?_
    rw [HI.out]
    rintro e w1 ⟨rfl, hb1⟩
    obtain ⟨hc1, hf1⟩ := bcell hb1
    have hz1 : w.heap.size < w1.heap.size := by have := hb1.size; (try simp at this); omega
    have hz1b : w.heap.size + 1 < w1.heap.size := by have := hb1.size; (try simp at this); omega
    go_wp2_with fail
    try dsimp only
    iterate 60 (first | go_step | skip)
    refine bodyPost_ret (v := .tuple #[.agg #[.int .i64 0, .bool false, .int .i64 0, .string ⟨#[]⟩, .slice none 0 0, .slice none 0 0], .bool false]) (by simp [results, Tryz.results85, go_sem, *]) rfl ⟨[.int .i64 0, .bool false, .int .i64 0, .string ⟨#[]⟩, .slice none 0 0, .slice none 0 0], [], by rw [HK.out]; rfl, HNO.out _ HK.out, (by repeat (first | with_reducible exact ext_refl _ | with_reducible assumption | with_reducible refine ext_alloc ?_ _ | with_reducible refine ext_setCell ?_ (by first | exact Nat.le_refl _ | (simp; done) | omega | (simp; omega)) _ | with_reducible refine ext_drew ?_ | with_reducible refine ext_trans ?_ (by assumption)))⟩
  · obtain ⟨i, hi⟩ : ∃ i : Nat, keyAtR x k = i := ⟨(keyAtR x k).toNat, by omega⟩
    have hik : i < x.keys.length := by omega
    by_cases hne : x.keys.length = x.kids.length
    · have hic : i < x.kids.length := by omega
      have HK := Lib.hid (kidR_at hi hne hic)
      have hd : ((x.keys.length : Int) != (x.kids.length : Int)) = false := by simp [hne]
      have HI := Lib.hid hi
      clear hi hkl hn hne
      obtain ⟨b, o, ck1, Fk1, rfl, hbF, hbs, hr, hsub, hc⟩ := Sl.get (α := Tree) hkids hic
      have hr0 := hr
      obtain ⟨Ak1, ck1, Fk1, Ac1, cc1, Fc1, hck, hF, hkind1, hnum1, htext1, hkeys1, hkids1⟩ := rd_Tree hr
      subst hck
      clear hF hr hsub hbF
      have p0 : w.cell? ⟨b, o + i * 6, none⟩ = some (.int .i64 x.kids[i].kind) := by exact hc 0 _ rfl
      have p1 : w.cell? ⟨b, o + i * 6 + 1, none⟩ = some (.bool x.kids[i].flag) := by rw [Nat.add_assoc]; exact hc 1 _ rfl
      have p2 : w.cell? ⟨b, o + i * 6 + 2, none⟩ = some (.int .i64 x.kids[i].num) := by rw [Nat.add_assoc]; exact hc 2 _ rfl
      have p3 : w.cell? ⟨b, o + i * 6 + 3, none⟩ = some (.string x.kids[i].text) := by rw [Nat.add_assoc]; exact hc 3 _ rfl
      have p4 : w.cell? ⟨b, o + i * 6 + 4, none⟩ = some (.slice Ak1 x.kids[i].keys.length ck1) := by rw [Nat.add_assoc]; exact hc 4 _ rfl
      have p5 : w.cell? ⟨b, o + i * 6 + 5, none⟩ = some (.slice Ac1 x.kids[i].kids.length cc1) := by rw [Nat.add_assoc]; exact hc 5 _ rfl
      clear hc
      have hwk := HW.out i hic
      go_enter Tryz.func85, Tryz.ntmps85
      go_wp2_with fail
      refine (KeyAt_spec x _ _ k _ (rd_extK h0 (by repeat (first | with_reducible exact ext_refl _ | with_reducible assumption | with_reducible refine ext_alloc ?_ _ | with_reducible refine ext_setCell ?_ (by first | exact Nat.le_refl _ | (simp; done) | omega | (simp; omega)) _ | with_reducible refine ext_drew ?_ | with_reducible refine ext_trans ?_ (by assumption)))) hl).mono ?_
      rw [HI.out]
      rintro e w1 ⟨rfl, hb1⟩
      obtain ⟨hc1, hf1⟩ := bcell hb1
      have hz1 : w.heap.size < w1.heap.size := by have := hb1.size; (try simp at this); omega
      have hz1b : w.heap.size + 1 < w1.heap.size := by have := hb1.size; (try simp at this); omega
      replace p0 := ((bcell (ext_trans (ext_alloc (ext_alloc (ext_refl w) _) _) hb1)).1 b _ hbs).trans p0
      replace p1 := ((bcell (ext_trans (ext_alloc (ext_alloc (ext_refl w) _) _) hb1)).1 b _ hbs).trans p1
      replace p2 := ((bcell (ext_trans (ext_alloc (ext_alloc (ext_refl w) _) _) hb1)).1 b _ hbs).trans p2
      replace p3 := ((bcell (ext_trans (ext_alloc (ext_alloc (ext_refl w) _) _) hb1)).1 b _ hbs).trans p3
      replace p4 := ((bcell (ext_trans (ext_alloc (ext_alloc (ext_refl w) _) _) hb1)).1 b _ hbs).trans p4
      replace p5 := ((bcell (ext_trans (ext_alloc (ext_alloc (ext_refl w) _) _) hb1)).1 b _ hbs).trans p5
      go_wp2_with fail
      refine (l08Copy_any x.kids[i] _ _ _ (rd_extK hr0 (by repeat (first | with_reducible exact ext_refl _ | with_reducible assumption | with_reducible refine ext_alloc ?_ _ | with_reducible refine ext_setCell ?_ (by first | exact Nat.le_refl _ | (simp; done) | omega | (simp; omega)) _ | with_reducible refine ext_drew ?_ | with_reducible refine ext_trans ?_ (by assumption)))) hwk).mono ?_
      rintro e w2 ⟨cs2, G2, rfl, hO2, hb2⟩
      have hR2 := hO2.rd
      obtain ⟨Ak2, ck2, Fk2, Ac2, cc2, Fc2, hck, hF2, hkind2, hnum2, htext2, hkeys2, hkids2⟩ := rd_Tree hR2
      subst hck
      clear hF2 hR2
      obtain ⟨hc2, hf2⟩ := bcell hb2
      have hz2 : w.heap.size < w2.heap.size := by have := hb2.size; omega
      have hz2b : w.heap.size + 1 < w2.heap.size := by have := hb2.size; omega
      have HO2 := Lib.hid hO2
      clear hO2
      go_wp2_with fail
      try dsimp only
      iterate 60 (first | go_step | skip)
      refine bodyPost_ret (v := .tuple #[.agg #[.int .i64 x.kids[i].kind, .bool x.kids[i].flag, .int .i64 x.kids[i].num, .string x.kids[i].text, .slice Ak2 x.kids[i].keys.length ck2, .slice Ac2 x.kids[i].kids.length cc2], .bool true]) (by simp [results, Tryz.results85, go_sem, *]) rfl ⟨[.int .i64 x.kids[i].kind, .bool x.kids[i].flag, .int .i64 x.kids[i].num, .string x.kids[i].text, .slice Ak2 x.kids[i].keys.length ck2, .slice Ac2 x.kids[i].kids.length cc2], G2, by rw [HK.out]; rfl, ?_, (by repeat (first | with_reducible exact ext_refl _ | with_reducible assumption | with_reducible refine ext_alloc ?_ _ | with_reducible refine ext_setCell ?_ (by first | exact Nat.le_refl _ | (simp; done) | omega | (simp; omega)) _ | with_reducible refine ext_drew ?_ | with_reducible refine ext_trans ?_ (by assumption)))⟩
      rw [HK.out, Option.getD_some]
      refine Own.mono (B := w1.heap.size) ?_ (by omega)
      repeat (first | with_reducible exact HO2.out | with_reducible refine Own.setCell ?_ (by dsimp only; omega) _)
    · have HK := Lib.hid (kidR_ne (k := k) hne)
      have hd : ((x.keys.length : Int) != (x.kids.length : Int)) = true := by simp; omega
      have HI := Lib.hid hi
      clear hi hkl hn hne
      go_enter Tryz.func85, Tryz.ntmps85
      go_wp2_with fail
      refine (KeyAt_spec x _ _ k _ (rd_extK h0 (by repeat (first | with_reducible exact ext_refl _ | with_reducible assumption | with_reducible refine ext_alloc ?_ _ | with_reducible refine ext_setCell ?_ (by first | exact Nat.le_refl _ | (simp; done) | omega | (simp; omega)) _ | with_reducible refine ext_drew ?_ | with_reducible refine ext_trans ?_ (by assumption)))) hl).mono ?_
      rw [HI.out]
      rintro e w1 ⟨rfl, hb1⟩
      obtain ⟨hc1, hf1⟩ := bcell hb1
      have hz1 : w.heap.size < w1.heap.size := by have := hb1.size; (try simp at this); omega
      have hz1b : w.heap.size + 1 < w1.heap.size := by have := hb1.size; (try simp at this); omega
      go_wp2_with fail
      try dsimp only
      iterate 60 (first | go_step | skip)
      refine bodyPost_ret (v := .tuple #[.agg #[.int .i64 0, .bool false, .int .i64 0, .string ⟨#[]⟩, .slice none 0 0, .slice none 0 0], .bool false]) (by simp [results, Tryz.results85, go_sem, *]) rfl ⟨[.int .i64 0, .bool false, .int .i64 0, .string ⟨#[]⟩, .slice none 0 0, .slice none 0 0], [], by rw [HK.out]; rfl, HNO.out _ HK.out, (by repeat (first | with_reducible exact ext_refl _ | with_reducible assumption | with_reducible refine ext_alloc ?_ _ | with_reducible refine ext_setCell ?_ (by first | exact Nat.le_refl _ | (simp; done) | omega | (simp; omega)) _ | with_reducible refine ext_drew ?_ | with_reducible refine ext_trans ?_ (by assumption)))⟩
end Go.Proofs.YtegekccoincicaaGreatDoor
