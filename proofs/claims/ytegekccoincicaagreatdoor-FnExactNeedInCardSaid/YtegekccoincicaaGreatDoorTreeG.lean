/- KnownKeys, TextField, of the program and of the reference. No condition. -/
import Derived.Test.YtegekccoincicaaGreatDoorTreeF
namespace Go.Proofs.YtegekccoincicaaGreatDoor
open Dat (rd)
open Go.ChangeShapes Go.WideShapes Go.ChangeAt Go.RowKit
set_option linter.unusedVariables false
set_option linter.unusedSimpArgs false

theorem l18Fault_any (c : Int) (p : ByteArray) (w : World) :
    Calls Tryz.prog 42 #[.int .i64 c, .string p] w fun e w' => e = .returned (.agg #[.int .i64 c, .int .i64 0, .string p]) ∧ Below w.heap.size w w' := by
  go_enter Tryz.func42, Tryz.ntmps42
  go_wp2
  refine bodyPost_ret (v := .agg #[.int .i64 c, .int .i64 0, .string p]) (by simp [results, Tryz.results42, go_sem, *]) rfl ⟨rfl, (by repeat (first | with_reducible exact ext_refl _ | with_reducible assumption | with_reducible refine ext_alloc ?_ _ | with_reducible refine ext_setCell ?_ (by first | exact Nat.le_refl _ | (simp; done) | omega | (simp; omega)) _ | with_reducible refine ext_drew ?_ | with_reducible refine ext_trans ?_ (by assumption)))⟩
set_option maxRecDepth 100000 in
set_option maxHeartbeats 2000000 in
theorem KnownKeys_impl (x : Tree) (cs : List Value) (F : List Nat) (p : ByteArray) (ks : List ByteArray) (A : Option Addr) (n c : Nat) (G : List Nat) (w : World) (h : rd w x cs F) (hs : Sl w ks A c G) (hn : n = ks.length) (hw : (x.wt : Int) ≤ 1048576) (hp : (p.size : Int) ≤ 1048576) (hkl : (ks.length : Int) ≤ 1048576) :
    Calls Tryz.prog 88 #[.agg cs.toArray, .string p, .slice A n c] w fun e w' => e = .returned (.agg #[.int .i64 (knownR x p ks).code, .int .i64 (knownR x p ks).at_, .string (knownR x p ks).path]) ∧ Below w.heap.size w w' := by
  subst hn
  have hwt := Tree.wt_eq x
  have hl : (x.keys.length : Int) ≤ 1048576 := by have := wtL_len ByteArray.size x.keys; omega
  have HW := Lib.hid (fun k (hk : k < x.keys.length) => (show ((x.keys[k]).size : Int) ≤ 1048576 by have := wtL_get (f := ByteArray.size) hk; omega))
  clear hwt hw
  obtain ⟨Ak, ck, Fk, Ac, cc, Fc, hck, hF, hkind, hnum, htext, hkeys, hkids⟩ := rd_Tree h
  subst hck
  clear hF h
  by_cases h6 : x.kind = 6
  · have hd : (x.kind != 6) = false := by simp [h6]
    have H6 := Lib.hid h6
    clear h6
    go_enter Tryz.func88, Tryz.ntmps88
    go_wp2_with fail
    go_loopw [8, 17] (fun v i wr => ∃ j : Nat, j ≤ x.keys.length ∧ i = .int .i64 j ∧ Hid (∀ k ∈ x.keys.take j, hasR k ks = true) ∧ Cp w wr [.int .i64 x.kind, .bool x.flag, .int .i64 x.num, .string x.text, .slice Ak x.keys.length ck, .slice Ac x.kids.length cc] [.int .i64 0, .int .i64 0, .string ⟨#[]⟩]) (fun _ i _ => x.keys.length - (intOf i).toNat)
    case atStart => exact ⟨0, Nat.zero_le _, rfl, by show ∀ _, _; simp, Cp.new w [.int .i64 x.kind, .bool x.flag, .int .i64 x.num, .string x.text, .slice Ak x.keys.length ck, .slice Ac x.kids.length cc] [.int .i64 0, .int .i64 0, .string ⟨#[]⟩] 35 30⟩
    case round =>
      obtain ⟨j, hj, rfl, HN, hS⟩ := hrel
      have HS := Lib.hid hS
      have hbl := hS.below
      clear hS
      have r0 := HS.out.rb.cell (i := 0) (u := .int .i64 0) rfl
      have r1 := HS.out.rb.cell (i := 1) (u := .int .i64 0) rfl
      have r2 := HS.out.rb.cell (i := 2) (u := .string ⟨#[]⟩) rfl
      have rl := HS.out.rb.lt
      have rl0 := HS.out.box.lt
      have rf := HS.out.rb.fz
      have b4 := HS.out.box.cell (i := 4) (u := .slice Ak x.keys.length ck) rfl
      by_cases hlt : j < x.keys.length
      · obtain ⟨b, o, ck1, Fk1, rfl, hbF, hbs, hr, hsub, hc⟩ := (Sl.ext (w' := wr) (A := Ak) (c := ck) hkeys hbl).get hlt
        obtain ⟨hck, hFk, hsz⟩ := hr
        subst hck hFk
        have q0 : wr.cell? ⟨b, o + j, none⟩ = some (.string x.keys[j]) := by have := hc 0 _ rfl; rwa [show o + (j * Dat.size ByteArray + 0) = o + j from by show o + (j * 1 + 0) = _; omega] at this
        clear hc hsub hbF
        have hks := HW.out j hlt
        cases hp1 : hasR x.keys[j] ks with
        | true =>
          have HP := Lib.hid hp1
          have HN2 := Lib.hid (show ∀ k ∈ x.keys.take (j + 1), hasR k ks = true by
            rw [List.take_succ_eq_append_getElem hlt]
            intro k hm
            rcases List.mem_append.1 hm with hm | hm
            · exact HN.out k hm
            · simp at hm; subst hm; exact hp1)
          clear hp1
          go_wp2_with (go_at_call 121; refine (Contains_any ks x.keys[j] A _ c G _ (hs.ext (by repeat (first | with_reducible exact ext_refl _ | with_reducible assumption | with_reducible refine ext_alloc ?_ _ | with_reducible refine ext_setCell ?_ (by first | exact Nat.le_refl _ | (simp; done) | omega | (simp; omega)) _ | with_reducible refine ext_drew ?_ | with_reducible refine ext_trans ?_ (by assumption)))) rfl hkl).mono ?_; rw [HP.out]; rintro e w1 ⟨rfl, hb1⟩)
          exact ⟨⟨j + 1, by omega, by go_num, HN2.out, Cp.ext HS.out hb1⟩, by simp [intOf]; omega⟩
        | false =>
          have HP := Lib.hid hp1
          have HF := Lib.hid (show knownR x p ks = fl 13 (pathR p x.keys[j]) from knownR_some H6.out (strayR_at hlt HN.out hp1))
          clear hp1
          go_wp2_with (first
            | (go_at_call 121; refine (Contains_any ks x.keys[j] A _ c G _ (hs.ext (by repeat (first | with_reducible exact ext_refl _ | with_reducible assumption | with_reducible refine ext_alloc ?_ _ | with_reducible refine ext_setCell ?_ (by first | exact Nat.le_refl _ | (simp; done) | omega | (simp; omega)) _ | with_reducible refine ext_drew ?_ | with_reducible refine ext_trans ?_ (by assumption)))) rfl hkl).mono ?_; rw [HP.out]; rintro e w1 ⟨rfl, hb1⟩; obtain ⟨hc1, hf1⟩ := bcell hb1; have hz1 : w.heap.size < w1.heap.size := (by have := hb1.size; omega); have hz1b : w.heap.size + 1 < w1.heap.size := (by have := hb1.size; omega); have hz1c : b < w1.heap.size := (by have := hb1.size; omega))
            | (go_at_call 55; refine (PathKey_impl _ _ _ (by omega) (by omega)).mono ?_; rintro e wx1 ⟨rfl, rfl⟩))
          refine bodyPost_ret (v := .agg #[.int .i64 13, .int .i64 0, .string (pathR p x.keys[j])]) (by simp [results, Tryz.results88, go_sem, *]) rfl ⟨by rw [HF.out]; rfl, (by repeat (first | with_reducible exact ext_refl _ | with_reducible assumption | with_reducible refine ext_alloc ?_ _ | with_reducible refine ext_setCell ?_ (by first | exact Nat.le_refl _ | (simp; done) | omega | (simp; omega)) _ | with_reducible refine ext_drew ?_ | with_reducible refine ext_trans ?_ (by assumption)))⟩
      · have hkl2 : j = x.keys.length := by omega
        subst hkl2
        have hn := HN.out
        rw [List.take_length] at hn
        have HF := Lib.hid (show knownR x p ks = noF from knownR_none H6.out (strayR_all hn))
        clear hn
        go_wp2
        refine bodyPost_ret (v := .agg #[.int .i64 0, .int .i64 0, .string ⟨#[]⟩]) (by simp [results, Tryz.results88, go_sem, *]) rfl ⟨by rw [HF.out]; rfl, (by repeat (first | with_reducible exact ext_refl _ | with_reducible assumption | with_reducible refine ext_alloc ?_ _ | with_reducible refine ext_setCell ?_ (by first | exact Nat.le_refl _ | (simp; done) | omega | (simp; omega)) _ | with_reducible refine ext_drew ?_ | with_reducible refine ext_trans ?_ (by assumption)))⟩
  · have hd : (x.kind != 6) = true := by simp [h6]
    have HF := Lib.hid (show knownR x p ks = fl 11 p by unfold knownR; rw [if_neg h6])
    clear h6
    go_enter Tryz.func88, Tryz.ntmps88
    go_wp2
    refine bodyPost_ret (v := .agg #[.int .i64 11, .int .i64 0, .string p]) (by simp [results, Tryz.results88, go_sem, *]) rfl ⟨by rw [HF.out]; rfl, (by repeat (first | with_reducible exact ext_refl _ | with_reducible assumption | with_reducible refine ext_alloc ?_ _ | with_reducible refine ext_setCell ?_ (by first | exact Nat.le_refl _ | (simp; done) | omega | (simp; omega)) _ | with_reducible refine ext_drew ?_ | with_reducible refine ext_trans ?_ (by assumption)))⟩
set_option maxRecDepth 100000 in
set_option maxHeartbeats 2000000 in
theorem KnownKeys_spec (x : Tree) (cs : List Value) (F : List Nat) (p : ByteArray) (ks : List ByteArray) (A : Option Addr) (n c : Nat) (G : List Nat) (w : World) (h : rd w x cs F) (hs : Sl w ks A c G) (hn : n = ks.length) (hw : (x.wt : Int) ≤ 1048576) (hp : (p.size : Int) ≤ 1048576) (hkl : (ks.length : Int) ≤ 1048576) :
    Calls Tryz.prog 36 #[.agg cs.toArray, .string p, .slice A n c] w fun e w' => e = .returned (.agg #[.int .i64 (knownR x p ks).code, .int .i64 (knownR x p ks).at_, .string (knownR x p ks).path]) ∧ Below w.heap.size w w' := by
  subst hn
  have hwt := Tree.wt_eq x
  have hl : (x.keys.length : Int) ≤ 1048576 := by have := wtL_len ByteArray.size x.keys; omega
  have HW := Lib.hid (fun k (hk : k < x.keys.length) => (show ((x.keys[k]).size : Int) ≤ 1048576 by have := wtL_get (f := ByteArray.size) hk; omega))
  clear hwt hw
  obtain ⟨Ak, ck, Fk, Ac, cc, Fc, hck, hF, hkind, hnum, htext, hkeys, hkids⟩ := rd_Tree h
  subst hck
  clear hF h
  by_cases h6 : x.kind = 6
  · have hd : (x.kind != 6) = false := by simp [h6]
    have H6 := Lib.hid h6
    clear h6
    go_enter Tryz.func36, Tryz.ntmps36
    go_wp2_with fail
    go_loopw [7] (fun i wr => ∃ j : Nat, j ≤ x.keys.length ∧ i = .int .i64 j ∧ Hid (∀ k ∈ x.keys.take j, hasR k ks = true) ∧ Cp w wr [.int .i64 x.kind, .bool x.flag, .int .i64 x.num, .string x.text, .slice Ak x.keys.length ck, .slice Ac x.kids.length cc] [.int .i64 0, .int .i64 0, .string ⟨#[]⟩]) (fun i _ => x.keys.length - (intOf i).toNat)
    case atStart => exact ⟨0, Nat.zero_le _, rfl, by show ∀ _, _; simp, Cp.new w [.int .i64 x.kind, .bool x.flag, .int .i64 x.num, .string x.text, .slice Ak x.keys.length ck, .slice Ac x.kids.length cc] [.int .i64 0, .int .i64 0, .string ⟨#[]⟩] 35 30⟩
    case round =>
      obtain ⟨j, hj, rfl, HN, hS⟩ := hrel
      have HS := Lib.hid hS
      have hbl := hS.below
      clear hS
      have r0 := HS.out.rb.cell (i := 0) (u := .int .i64 0) rfl
      have r1 := HS.out.rb.cell (i := 1) (u := .int .i64 0) rfl
      have r2 := HS.out.rb.cell (i := 2) (u := .string ⟨#[]⟩) rfl
      have rl := HS.out.rb.lt
      have rl0 := HS.out.box.lt
      have rf := HS.out.rb.fz
      have b4 := HS.out.box.cell (i := 4) (u := .slice Ak x.keys.length ck) rfl
      by_cases hlt : j < x.keys.length
      · obtain ⟨b, o, ck1, Fk1, rfl, hbF, hbs, hr, hsub, hc⟩ := (Sl.ext (w' := wr) (A := Ak) (c := ck) hkeys hbl).get hlt
        obtain ⟨hck, hFk, hsz⟩ := hr
        subst hck hFk
        have q0 : wr.cell? ⟨b, o + j, none⟩ = some (.string x.keys[j]) := by have := hc 0 _ rfl; rwa [show o + (j * Dat.size ByteArray + 0) = o + j from by show o + (j * 1 + 0) = _; omega] at this
        clear hc hsub hbF
        have hks := HW.out j hlt
        cases hp1 : hasR x.keys[j] ks with
        | true =>
          have HP := Lib.hid hp1
          have HN2 := Lib.hid (show ∀ k ∈ x.keys.take (j + 1), hasR k ks = true by
            rw [List.take_succ_eq_append_getElem hlt]
            intro k hm
            rcases List.mem_append.1 hm with hm | hm
            · exact HN.out k hm
            · simp at hm; subst hm; exact hp1)
          clear hp1
          go_wp2_with (go_at_call 83; refine (l15Has_any ks x.keys[j] A _ c G _ (hs.ext (by repeat (first | with_reducible exact ext_refl _ | with_reducible assumption | with_reducible refine ext_alloc ?_ _ | with_reducible refine ext_setCell ?_ (by first | exact Nat.le_refl _ | (simp; done) | omega | (simp; omega)) _ | with_reducible refine ext_drew ?_ | with_reducible refine ext_trans ?_ (by assumption)))) rfl hkl).mono ?_; rw [HP.out]; rintro e w1 ⟨rfl, hb1⟩)
          exact ⟨⟨j + 1, by omega, by go_num, HN2.out, Cp.ext HS.out hb1⟩, by simp [intOf]; omega⟩
        | false =>
          have HP := Lib.hid hp1
          have HF := Lib.hid (show knownR x p ks = fl 13 (pathR p x.keys[j]) from knownR_some H6.out (strayR_at hlt HN.out hp1))
          clear hp1
          go_wp2_with (first
            | (go_at_call 83; refine (l15Has_any ks x.keys[j] A _ c G _ (hs.ext (by repeat (first | with_reducible exact ext_refl _ | with_reducible assumption | with_reducible refine ext_alloc ?_ _ | with_reducible refine ext_setCell ?_ (by first | exact Nat.le_refl _ | (simp; done) | omega | (simp; omega)) _ | with_reducible refine ext_drew ?_ | with_reducible refine ext_trans ?_ (by assumption)))) rfl hkl).mono ?_; rw [HP.out]; rintro e w1 ⟨rfl, hb1⟩; obtain ⟨hc1, hf1⟩ := bcell hb1; have hz1 : w.heap.size < w1.heap.size := (by have := hb1.size; omega); have hz1b : w.heap.size + 1 < w1.heap.size := (by have := hb1.size; omega); have hz1c : b < w1.heap.size := (by have := hb1.size; omega))
            | (first | (go_at_call 40; refine (PathKey_spec _ _ _ (by omega) (by omega)).mono ?_; rintro e wx1 ⟨rfl, rfl⟩) | (go_at_call 42; refine (l18Fault_any _ _ _).mono ?_; rintro e wx2 ⟨rfl, hbwx⟩; obtain ⟨hcwx, hfwx⟩ := bcell hbwx; have hzwx0 : w.heap.size < wx2.heap.size := (by have := hbwx.size; (try simp at this); omega); have hzwx1 : w.heap.size + 1 < wx2.heap.size := (by have := hbwx.size; (try simp at this); omega))))
          refine bodyPost_ret (v := .agg #[.int .i64 13, .int .i64 0, .string (pathR p x.keys[j])]) (by simp [results, Tryz.results36, go_sem, *]) rfl ⟨by rw [HF.out]; rfl, (by repeat (first | with_reducible exact ext_refl _ | with_reducible assumption | with_reducible refine ext_alloc ?_ _ | with_reducible refine ext_setCell ?_ (by first | exact Nat.le_refl _ | (simp; done) | omega | (simp; omega)) _ | with_reducible refine ext_drew ?_ | with_reducible refine ext_trans ?_ (by assumption)))⟩
      · have hkl2 : j = x.keys.length := by omega
        subst hkl2
        have hn := HN.out
        rw [List.take_length] at hn
        have HF := Lib.hid (show knownR x p ks = noF from knownR_none H6.out (strayR_all hn))
        clear hn
        go_wp2
        refine bodyPost_ret (v := .agg #[.int .i64 0, .int .i64 0, .string ⟨#[]⟩]) (by simp [results, Tryz.results36, go_sem, *]) rfl ⟨by rw [HF.out]; rfl, (by repeat (first | with_reducible exact ext_refl _ | with_reducible assumption | with_reducible refine ext_alloc ?_ _ | with_reducible refine ext_setCell ?_ (by first | exact Nat.le_refl _ | (simp; done) | omega | (simp; omega)) _ | with_reducible refine ext_drew ?_ | with_reducible refine ext_trans ?_ (by assumption)))⟩
  · have hd : (x.kind != 6) = true := by simp [h6]
    have HF := Lib.hid (show knownR x p ks = fl 11 p by unfold knownR; rw [if_neg h6])
    clear h6
    go_enter Tryz.func36, Tryz.ntmps36
    go_wp2_with (first | (go_at_call 40; refine (PathKey_spec _ _ _ (by omega) (by omega)).mono ?_; rintro e wx1 ⟨rfl, rfl⟩) | (go_at_call 42; refine (l18Fault_any _ _ _).mono ?_; rintro e wx2 ⟨rfl, hbwx⟩; obtain ⟨hcwx, hfwx⟩ := bcell hbwx; have hzwx0 : w.heap.size < wx2.heap.size := (by have := hbwx.size; (try simp at this); omega); have hzwx1 : w.heap.size + 1 < wx2.heap.size := (by have := hbwx.size; (try simp at this); omega)))
    refine bodyPost_ret (v := .agg #[.int .i64 11, .int .i64 0, .string p]) (by simp [results, Tryz.results36, go_sem, *]) rfl ⟨by rw [HF.out]; rfl, (by repeat (first | with_reducible exact ext_refl _ | with_reducible assumption | with_reducible refine ext_alloc ?_ _ | with_reducible refine ext_setCell ?_ (by first | exact Nat.le_refl _ | (simp; done) | omega | (simp; omega)) _ | with_reducible refine ext_drew ?_ | with_reducible refine ext_trans ?_ (by assumption)))⟩
set_option maxRecDepth 100000 in
set_option maxHeartbeats 2000000 in
theorem TextField_impl (x : Tree) (cs : List Value) (F : List Nat) (p k : ByteArray) (w : World) (h : rd w x cs F) (hw : (x.wt : Int) ≤ 1048576) (hp : (p.size : Int) ≤ 1048576) (hk : (k.size : Int) ≤ 1048576) :
    Calls Tryz.prog 89 #[.agg cs.toArray, .string p, .string k] w fun e w' => e = .returned (.tuple #[.string (textR x p k).1, .agg #[.int .i64 (textR x p k).2.code, .int .i64 (textR x p k).2.at_, .string (textR x p k).2.path]]) ∧ Below w.heap.size w w' := by
  have HWX := Lib.hid hw
  clear hw
  have h0 := h
  obtain ⟨Ak, ck, Fk, Ac, cc, Fc, hck, hF, hkind, hnum, htext, hkeys, hkids⟩ := rd_Tree h
  subst hck
  clear hF h
  cases hkr : kidR x k with
  | none =>
    have HK := Lib.hid hkr
    have HF := Lib.hid (show textR x p k = (⟨#[]⟩, fl 12 (pathR p k)) by unfold textR; rw [hkr])
    clear hkr
    go_enter Tryz.func89, Tryz.ntmps89
    go_wp2_with fail
    refine (KidOf_impl x _ _ k _ (rd_extK h0 (by repeat (first | with_reducible exact ext_refl _ | with_reducible assumption | with_reducible refine ext_alloc ?_ _ | with_reducible refine ext_setCell ?_ (by first | exact Nat.le_refl _ | (simp; done) | omega | (simp; omega)) _ | with_reducible refine ext_drew ?_ | with_reducible refine ext_trans ?_ (by assumption)))) HWX.out).mono ?_
    rw [HK.out]
    rintro e w1 ⟨ds, G1, rfl, hO1, hb1⟩
    have hR1 := hO1.rd
    obtain ⟨Ak1, ck1, Fk1, Ac1, cc1, Fc1, hck, hF1, hkind1, hnum1, htext1, hkeys1, hkids1⟩ := rd_Tree hR1
    subst hck
    clear hF1 hR1
    obtain ⟨hc1, hf1⟩ := bcell hb1
    have hz1 : w.heap.size < w1.heap.size := by have := hb1.size; (try simp at this); omega
    have hz1b : w.heap.size + 1 < w1.heap.size := by have := hb1.size; (try simp at this); omega
    go_wp2_with (go_at_call 55; refine (PathKey_impl _ _ _ (by omega) (by omega)).mono ?_; rintro e wx1 ⟨rfl, rfl⟩)
    refine bodyPost_ret (v := .tuple #[.string ⟨#[]⟩, .agg #[.int .i64 12, .int .i64 0, .string (pathR p k)]]) (by simp [results, Tryz.results89, go_sem, *]) rfl ⟨by rw [HF.out]; rfl, (by repeat (first | with_reducible exact ext_refl _ | with_reducible assumption | with_reducible refine ext_alloc ?_ _ | with_reducible refine ext_setCell ?_ (by first | exact Nat.le_refl _ | (simp; done) | omega | (simp; omega)) _ | with_reducible refine ext_drew ?_ | with_reducible refine ext_trans ?_ (by assumption)))⟩
  | some y =>
    have HK := Lib.hid hkr
    by_cases h4 : y.kind = 4
    · have hd : (y.kind != 4) = false := by simp [h4]
      have HF := Lib.hid (show textR x p k = (y.text, noF) by unfold textR; rw [hkr]; exact if_pos h4)
      clear hkr h4
      go_enter Tryz.func89, Tryz.ntmps89
      go_wp2_with fail
      refine (KidOf_impl x _ _ k _ (rd_extK h0 (by repeat (first | with_reducible exact ext_refl _ | with_reducible assumption | with_reducible refine ext_alloc ?_ _ | with_reducible refine ext_setCell ?_ (by first | exact Nat.le_refl _ | (simp; done) | omega | (simp; omega)) _ | with_reducible refine ext_drew ?_ | with_reducible refine ext_trans ?_ (by assumption)))) HWX.out).mono ?_
      rw [HK.out]
      rintro e w1 ⟨ds, G1, rfl, hO1, hb1⟩
      have hR1 := hO1.rd
      obtain ⟨Ak1, ck1, Fk1, Ac1, cc1, Fc1, hck, hF1, hkind1, hnum1, htext1, hkeys1, hkids1⟩ := rd_Tree hR1
      subst hck
      clear hF1 hR1
      obtain ⟨hc1, hf1⟩ := bcell hb1
      have hz1 : w.heap.size < w1.heap.size := by have := hb1.size; (try simp at this); omega
      have hz1b : w.heap.size + 1 < w1.heap.size := by have := hb1.size; (try simp at this); omega
      rw [Option.getD_some] at *
      go_wp2
      refine bodyPost_ret (v := .tuple #[.string y.text, .agg #[.int .i64 0, .int .i64 0, .string ⟨#[]⟩]]) (by simp [results, Tryz.results89, go_sem, *]) rfl ⟨by rw [HF.out]; rfl, (by repeat (first | with_reducible exact ext_refl _ | with_reducible assumption | with_reducible refine ext_alloc ?_ _ | with_reducible refine ext_setCell ?_ (by first | exact Nat.le_refl _ | (simp; done) | omega | (simp; omega)) _ | with_reducible refine ext_drew ?_ | with_reducible refine ext_trans ?_ (by assumption)))⟩
    · have hd : (y.kind != 4) = true := by simp [h4]
      have HF := Lib.hid (show textR x p k = (⟨#[]⟩, fl 11 (pathR p k)) by unfold textR; rw [hkr]; exact if_neg h4)
      clear hkr h4
      go_enter Tryz.func89, Tryz.ntmps89
      go_wp2_with fail
      refine (KidOf_impl x _ _ k _ (rd_extK h0 (by repeat (first | with_reducible exact ext_refl _ | with_reducible assumption | with_reducible refine ext_alloc ?_ _ | with_reducible refine ext_setCell ?_ (by first | exact Nat.le_refl _ | (simp; done) | omega | (simp; omega)) _ | with_reducible refine ext_drew ?_ | with_reducible refine ext_trans ?_ (by assumption)))) HWX.out).mono ?_
      rw [HK.out]
      rintro e w1 ⟨ds, G1, rfl, hO1, hb1⟩
      have hR1 := hO1.rd
      obtain ⟨Ak1, ck1, Fk1, Ac1, cc1, Fc1, hck, hF1, hkind1, hnum1, htext1, hkeys1, hkids1⟩ := rd_Tree hR1
      subst hck
      clear hF1 hR1
      obtain ⟨hc1, hf1⟩ := bcell hb1
      have hz1 : w.heap.size < w1.heap.size := by have := hb1.size; (try simp at this); omega
      have hz1b : w.heap.size + 1 < w1.heap.size := by have := hb1.size; (try simp at this); omega
      rw [Option.getD_some] at *
      go_wp2_with (go_at_call 55; refine (PathKey_impl _ _ _ (by omega) (by omega)).mono ?_; rintro e wx1 ⟨rfl, rfl⟩)
      refine bodyPost_ret (v := .tuple #[.string ⟨#[]⟩, .agg #[.int .i64 11, .int .i64 0, .string (pathR p k)]]) (by simp [results, Tryz.results89, go_sem, *]) rfl ⟨by rw [HF.out]; rfl, (by repeat (first | with_reducible exact ext_refl _ | with_reducible assumption | with_reducible refine ext_alloc ?_ _ | with_reducible refine ext_setCell ?_ (by first | exact Nat.le_refl _ | (simp; done) | omega | (simp; omega)) _ | with_reducible refine ext_drew ?_ | with_reducible refine ext_trans ?_ (by assumption)))⟩
set_option maxRecDepth 100000 in
set_option maxHeartbeats 2000000 in
theorem TextField_spec (x : Tree) (cs : List Value) (F : List Nat) (p k : ByteArray) (w : World) (h : rd w x cs F) (hw : (x.wt : Int) ≤ 1048576) (hp : (p.size : Int) ≤ 1048576) (hk : (k.size : Int) ≤ 1048576) :
    Calls Tryz.prog 84 #[.agg cs.toArray, .string p, .string k] w fun e w' => e = .returned (.tuple #[.string (textR x p k).1, .agg #[.int .i64 (textR x p k).2.code, .int .i64 (textR x p k).2.at_, .string (textR x p k).2.path]]) ∧ Below w.heap.size w w' := by
  have HWX := Lib.hid hw
  clear hw
  have h0 := h
  obtain ⟨Ak, ck, Fk, Ac, cc, Fc, hck, hF, hkind, hnum, htext, hkeys, hkids⟩ := rd_Tree h
  subst hck
  clear hF h
  cases hkr : kidR x k with
  | none =>
    have HK := Lib.hid hkr
    have HF := Lib.hid (show textR x p k = (⟨#[]⟩, fl 12 (pathR p k)) by unfold textR; rw [hkr])
    clear hkr
    go_enter Tryz.func84, Tryz.ntmps84
    go_wp2_with fail
    refine (KidOf_spec x _ _ k _ (rd_extK h0 (by repeat (first | with_reducible exact ext_refl _ | with_reducible assumption | with_reducible refine ext_alloc ?_ _ | with_reducible refine ext_setCell ?_ (by first | exact Nat.le_refl _ | (simp; done) | omega | (simp; omega)) _ | with_reducible refine ext_drew ?_ | with_reducible refine ext_trans ?_ (by assumption)))) HWX.out).mono ?_
    rw [HK.out]
    rintro e w1 ⟨ds, G1, rfl, hO1, hb1⟩
    have hR1 := hO1.rd
    obtain ⟨Ak1, ck1, Fk1, Ac1, cc1, Fc1, hck, hF1, hkind1, hnum1, htext1, hkeys1, hkids1⟩ := rd_Tree hR1
    subst hck
    clear hF1 hR1
    obtain ⟨hc1, hf1⟩ := bcell hb1
    have hz1 : w.heap.size < w1.heap.size := by have := hb1.size; (try simp at this); omega
    have hz1b : w.heap.size + 1 < w1.heap.size := by have := hb1.size; (try simp at this); omega
    go_wp2_with (first | (go_at_call 40; refine (PathKey_spec _ _ _ (by omega) (by omega)).mono ?_; rintro e wx1 ⟨rfl, rfl⟩) | (go_at_call 42; refine (l18Fault_any _ _ _).mono ?_; rintro e wx2 ⟨rfl, hbwx⟩; obtain ⟨hcwx, hfwx⟩ := bcell hbwx; have hzwx0 : w.heap.size < wx2.heap.size := (by have := hbwx.size; (try simp at this); omega); have hzwx1 : w.heap.size + 1 < wx2.heap.size := (by have := hbwx.size; (try simp at this); omega)))
    refine bodyPost_ret (v := .tuple #[.string ⟨#[]⟩, .agg #[.int .i64 12, .int .i64 0, .string (pathR p k)]]) (by simp [results, Tryz.results84, go_sem, *]) rfl ⟨by rw [HF.out]; rfl, (by repeat (first | with_reducible exact ext_refl _ | with_reducible assumption | with_reducible refine ext_alloc ?_ _ | with_reducible refine ext_setCell ?_ (by first | exact Nat.le_refl _ | (simp; done) | omega | (simp; omega)) _ | with_reducible refine ext_drew ?_ | with_reducible refine ext_trans ?_ (by assumption)))⟩
  | some y =>
    have HK := Lib.hid hkr
    by_cases h4 : y.kind = 4
    · have hd : (y.kind != 4) = false := by simp [h4]
      have HF := Lib.hid (show textR x p k = (y.text, noF) by unfold textR; rw [hkr]; exact if_pos h4)
      clear hkr h4
      go_enter Tryz.func84, Tryz.ntmps84
      go_wp2_with fail
      refine (KidOf_spec x _ _ k _ (rd_extK h0 (by repeat (first | with_reducible exact ext_refl _ | with_reducible assumption | with_reducible refine ext_alloc ?_ _ | with_reducible refine ext_setCell ?_ (by first | exact Nat.le_refl _ | (simp; done) | omega | (simp; omega)) _ | with_reducible refine ext_drew ?_ | with_reducible refine ext_trans ?_ (by assumption)))) HWX.out).mono ?_
      rw [HK.out]
      rintro e w1 ⟨ds, G1, rfl, hO1, hb1⟩
      have hR1 := hO1.rd
      obtain ⟨Ak1, ck1, Fk1, Ac1, cc1, Fc1, hck, hF1, hkind1, hnum1, htext1, hkeys1, hkids1⟩ := rd_Tree hR1
      subst hck
      clear hF1 hR1
      obtain ⟨hc1, hf1⟩ := bcell hb1
      have hz1 : w.heap.size < w1.heap.size := by have := hb1.size; (try simp at this); omega
      have hz1b : w.heap.size + 1 < w1.heap.size := by have := hb1.size; (try simp at this); omega
      rw [Option.getD_some] at *
      go_wp2
      refine bodyPost_ret (v := .tuple #[.string y.text, .agg #[.int .i64 0, .int .i64 0, .string ⟨#[]⟩]]) (by simp [results, Tryz.results84, go_sem, *]) rfl ⟨by rw [HF.out]; rfl, (by repeat (first | with_reducible exact ext_refl _ | with_reducible assumption | with_reducible refine ext_alloc ?_ _ | with_reducible refine ext_setCell ?_ (by first | exact Nat.le_refl _ | (simp; done) | omega | (simp; omega)) _ | with_reducible refine ext_drew ?_ | with_reducible refine ext_trans ?_ (by assumption)))⟩
    · have hd : (y.kind != 4) = true := by simp [h4]
      have HF := Lib.hid (show textR x p k = (⟨#[]⟩, fl 11 (pathR p k)) by unfold textR; rw [hkr]; exact if_neg h4)
      clear hkr h4
      go_enter Tryz.func84, Tryz.ntmps84
      go_wp2_with fail
      refine (KidOf_spec x _ _ k _ (rd_extK h0 (by repeat (first | with_reducible exact ext_refl _ | with_reducible assumption | with_reducible refine ext_alloc ?_ _ | with_reducible refine ext_setCell ?_ (by first | exact Nat.le_refl _ | (simp; done) | omega | (simp; omega)) _ | with_reducible refine ext_drew ?_ | with_reducible refine ext_trans ?_ (by assumption)))) HWX.out).mono ?_
      rw [HK.out]
      rintro e w1 ⟨ds, G1, rfl, hO1, hb1⟩
      have hR1 := hO1.rd
      obtain ⟨Ak1, ck1, Fk1, Ac1, cc1, Fc1, hck, hF1, hkind1, hnum1, htext1, hkeys1, hkids1⟩ := rd_Tree hR1
      subst hck
      clear hF1 hR1
      obtain ⟨hc1, hf1⟩ := bcell hb1
      have hz1 : w.heap.size < w1.heap.size := by have := hb1.size; (try simp at this); omega
      have hz1b : w.heap.size + 1 < w1.heap.size := by have := hb1.size; (try simp at this); omega
      rw [Option.getD_some] at *
      go_wp2_with (first | (go_at_call 40; refine (PathKey_spec _ _ _ (by omega) (by omega)).mono ?_; rintro e wx1 ⟨rfl, rfl⟩) | (go_at_call 42; refine (l18Fault_any _ _ _).mono ?_; rintro e wx2 ⟨rfl, hbwx⟩; obtain ⟨hcwx, hfwx⟩ := bcell hbwx; have hzwx0 : w.heap.size < wx2.heap.size := (by have := hbwx.size; (try simp at this); omega); have hzwx1 : w.heap.size + 1 < wx2.heap.size := (by have := hbwx.size; (try simp at this); omega)))
      refine bodyPost_ret (v := .tuple #[.string ⟨#[]⟩, .agg #[.int .i64 11, .int .i64 0, .string (pathR p k)]]) (by simp [results, Tryz.results84, go_sem, *]) rfl ⟨by rw [HF.out]; rfl, (by repeat (first | with_reducible exact ext_refl _ | with_reducible assumption | with_reducible refine ext_alloc ?_ _ | with_reducible refine ext_setCell ?_ (by first | exact Nat.le_refl _ | (simp; done) | omega | (simp; omega)) _ | with_reducible refine ext_drew ?_ | with_reducible refine ext_trans ?_ (by assumption)))⟩
end Go.Proofs.YtegekccoincicaaGreatDoor
