/- TaintIn, of the program. No condition. -/
import Derived.Test.YtffjbbamcflmbaaEffect
namespace Go.Proofs.Ytffjbbamcflmbaa
open Go.ChangeShapes Go.WideShapes Go.ChangeAt Go.RowKit
set_option linter.unusedVariables false
set_option linter.unusedSimpArgs false

theorem RS.far {w : World} {g : Nat} {x : Tree} {Ak Ac : Option Addr} {ck cc : Nat} {F : List Nat} {p : ByteArray} {f : Fault} (h : RS w g x Ak Ac ck cc F p f) {c : Nat} (hc : c ≠ g) (hF : ∀ b ∈ F, b < c) (i : Nat) (u : Value) : RS (w.setCell ⟨c, i, none⟩ u) g x Ak Ac ck cc F p f :=
  ⟨h.blk.far hc i u, Dat.frame h.rd (fun b hb => Below.heap_setCell _ _ _ _ (by have := hF b hb; dsimp only; omega)) (by simp [World.setCell]), h.nin, h.fi⟩
def zTaint : Taint := ⟨⟨#[]⟩, ⟨#[]⟩, 0⟩
/-- a taint out of a tree: what each field reads, behind the faults ahead of it -/
def tiK (x : Tree) (p : ByteArray) : ByteArray × Fault := readT x p (knownR x p [sEffect, sKey, sValue]) sKey keyR
def tiV (x : Tree) (p : ByteArray) : ByteArray × Fault := if (kidR x sValue).isSome = true then readT x p (tiK x p).2 sValue valR else (⟨#[]⟩, (tiK x p).2)
def tiE (x : Tree) (p : ByteArray) : ByteArray × Fault := readT x p (tiV x p).2 sEffect effB
def taintInR (x : Tree) (p : ByteArray) : Taint × Fault := if (tiE x p).2.code = 0 then (⟨(tiK x p).1, (tiV x p).1, effR (tiE x p).1⟩, noF) else (zTaint, (tiE x p).2)
set_option maxRecDepth 100000 in
set_option maxHeartbeats 4000000 in
theorem TaintIn_impl (x : Tree) (cs : List Value) (F : List Nat) (p : ByteArray) (w : World) (h : rd w x cs F) (hw : (x.wt : Int) ≤ 1048576) (hp : (p.size : Int) ≤ 1048576) :
    Calls Try.prog 8 #[.agg cs.toArray, .string p] w fun e w' => e = .returned (.tuple #[.agg #[.string (taintInR x p).1.key, .string (taintInR x p).1.value, .int .i64 (taintInR x p).1.effect], .agg #[.int .i64 (taintInR x p).2.code, .int .i64 (taintInR x p).2.at_, .string (taintInR x p).2.path]]) ∧ Below w.heap.size w w' := by
  have HWX := Lib.hid hw
  clear hw
  have h0 := h
  obtain ⟨Ak, ck, Fk, Ac, cc, Fc, hck, hF, hkind, hnum, htext, hkeys, hkids⟩ := rd_Tree h
  subst hck
  clear hF h
  have hW0 : ∃ W, (((((w.alloc (.cells #[.int .i64 x.kind, .bool x.flag, .int .i64 x.num, .string x.text, .slice Ak x.keys.length ck, .slice Ac x.kids.length cc] 35)).alloc (.cells #[.string ⟨#[]⟩, .string ⟨#[]⟩, .int .i64 0] 28)).alloc (.cells #[.int .i64 0, .int .i64 0, .string ⟨#[]⟩] 30)).alloc (.cells #[.int .i64 x.kind, .bool x.flag, .int .i64 x.num, .string x.text, .slice Ak x.keys.length ck, .slice Ac x.kids.length cc, .string p, .int .i64 0, .int .i64 0, .string ⟨#[]⟩] 59)).alloc (.cells #[.string ⟨#[101, 102, 102, 101, 99, 116]⟩, .string ⟨#[107, 101, 121]⟩, .string ⟨#[118, 97, 108, 117, 101]⟩] 9)) = W ∧ Below w.heap.size w W ∧ Blk W (w.heap.size + 1) [.string ⟨#[]⟩, .string ⟨#[]⟩, .int .i64 0] ∧ Blk W (w.heap.size + 1 + 1) [.int .i64 0, .int .i64 0, .string ⟨#[]⟩] ∧ RS W (w.heap.size + 1 + 1 + 1) x Ak Ac ck cc F p noF ∧ Sl W [sEffect, sKey, sValue] (some ⟨w.heap.size + 1 + 1 + 1 + 1, 0, none⟩) 3 [w.heap.size + 1 + 1 + 1 + 1] ∧ W.heap.size = w.heap.size + 1 + 1 + 1 + 1 + 1 := by
    refine ⟨_, rfl, ext_alloc (ext_alloc (ext_alloc (ext_alloc (ext_alloc (ext_refl _) _) _) _) _) _, ?_, ?_, ⟨?_, ?_, ?_, noF_ok _⟩, ?_, by simp⟩
    · have h1 := Blk.new (w.alloc (.cells #[.int .i64 x.kind, .bool x.flag, .int .i64 x.num, .string x.text, .slice Ak x.keys.length ck, .slice Ac x.kids.length cc] 35)) [.string ⟨#[]⟩, .string ⟨#[]⟩, .int .i64 0] 28
      rw [World.size_alloc] at h1
      exact ((h1.ext (ext_alloc (ext_refl _) _)).ext (ext_alloc (ext_refl _) _)).ext (ext_alloc (ext_refl _) _)
    · have h1 := Blk.new ((w.alloc (.cells #[.int .i64 x.kind, .bool x.flag, .int .i64 x.num, .string x.text, .slice Ak x.keys.length ck, .slice Ac x.kids.length cc] 35)).alloc (.cells #[.string ⟨#[]⟩, .string ⟨#[]⟩, .int .i64 0] 28)) [.int .i64 0, .int .i64 0, .string ⟨#[]⟩] 30
      rw [World.size_alloc, World.size_alloc] at h1
      exact (h1.ext (ext_alloc (ext_refl _) _)).ext (ext_alloc (ext_refl _) _)
    · have h1 := Blk.new (((w.alloc (.cells #[.int .i64 x.kind, .bool x.flag, .int .i64 x.num, .string x.text, .slice Ak x.keys.length ck, .slice Ac x.kids.length cc] 35)).alloc (.cells #[.string ⟨#[]⟩, .string ⟨#[]⟩, .int .i64 0] 28)).alloc (.cells #[.int .i64 0, .int .i64 0, .string ⟨#[]⟩] 30)) [.int .i64 x.kind, .bool x.flag, .int .i64 x.num, .string x.text, .slice Ak x.keys.length ck, .slice Ac x.kids.length cc, .string p, .int .i64 noF.code, .int .i64 noF.at_, .string noF.path] 59
      rw [World.size_alloc, World.size_alloc, World.size_alloc] at h1
      exact h1.ext (ext_alloc (ext_refl _) _)
    · exact rd_extK h0 (ext_alloc (ext_alloc (ext_alloc (ext_alloc (ext_alloc (ext_refl _) _) _) _) _) _)
    · intro hm
      have := Dat.lt h0 _ hm
      omega
    · have h1 := Blk.new ((((w.alloc (.cells #[.int .i64 x.kind, .bool x.flag, .int .i64 x.num, .string x.text, .slice Ak x.keys.length ck, .slice Ac x.kids.length cc] 35)).alloc (.cells #[.string ⟨#[]⟩, .string ⟨#[]⟩, .int .i64 0] 28)).alloc (.cells #[.int .i64 0, .int .i64 0, .string ⟨#[]⟩] 30)).alloc (.cells #[.int .i64 x.kind, .bool x.flag, .int .i64 x.num, .string x.text, .slice Ak x.keys.length ck, .slice Ac x.kids.length cc, .string p, .int .i64 0, .int .i64 0, .string ⟨#[]⟩] 59)) [.string ⟨#[101, 102, 102, 101, 99, 116]⟩, .string ⟨#[107, 101, 121]⟩, .string ⟨#[118, 97, 108, 117, 101]⟩] 9
      rw [World.size_alloc, World.size_alloc, World.size_alloc, World.size_alloc] at h1
      exact Sl.strs (ss := [sEffect, sKey, sValue]) h1 (by intro s hs; simp only [List.mem_cons, List.not_mem_nil, or_false] at hs; rcases hs with rfl | rfl | rfl <;> (unfold maxLen; decide)) (by unfold maxLen; decide)
  obtain ⟨W, hW, hB, B1, B2, R0, S0, hZ⟩ := hW0
  have HW := Lib.hid hW
  clear hW
  go_enter Try.func8, Try.ntmps8
  go_wp2_with fail
  rw [HW.out]
  refine (known_any (w.heap.size + 1 + 1 + 1) x Ak Ac ck cc F p noF [sEffect, sKey, sValue] _ 3 3 _ W R0 S0 rfl HWX.out hp (by decide)).mono ?_
  rintro e w1 ⟨rfl, R1, hU1⟩
  have hUB1 : Below w.heap.size W w1 := hU1.below (fun b hb => by simp at hb; omega) (by omega)
  replace hB := hB.trans hUB1
  replace B1 := B1.keep (hU1.block _ (by have := B1.lt; omega) (by simp))
  replace B2 := B2.keep (hU1.block _ (by have := B2.lt; omega) (by simp))
  have hZ1 := hU1.size
  clear S0 R0 HW
  go_wp2_with fail
  have T1 := text_any (w.heap.size + 1 + 1 + 1) x Ak Ac ck cc F p (knownR x p [sEffect, sKey, sValue]) sKey keyR 26 w1 R1 HWX.out hp (by decide) (fun _ _ => rfl) (fun s w2 hs _ => LabelKeyOk_impl s w2 hs)
  obtain ⟨s1, f1, e1⟩ : ∃ s f, tiK x p = (s, f) := ⟨_, _, rfl⟩
  have HTK := Lib.hid e1
  unfold tiK at e1
  rw [e1] at T1
  clear e1
  refine T1.mono ?_
  rintro e w2 ⟨rfl, R2, hU2⟩
  clear T1
  have hUB2 : Below w.heap.size w1 w2 := hU2.below (fun b hb => by simp at hb; omega) (by omega)
  replace hB := hB.trans hUB2
  replace B1 := B1.keep (hU2.block _ (by have := B1.lt; omega) (by simp))
  replace B2 := B2.keep (hU2.block _ (by have := B2.lt; omega) (by simp))
  have hZ2 := hU2.size
  have HFL := Lib.hid (show ∀ b ∈ F, b < w.heap.size from fun b hb => Dat.lt h0 b hb)
  have HH := Lib.hid (has_any (w.heap.size + 1 + 1 + 1) x Ak Ac ck cc F p f1 sValue (w2.alloc (.cells #[.string s1, .string ⟨#[]⟩, .int .i64 0] 28)) (R2.ext (ext_alloc (ext_refl _) _)) HWX.out)
  clear hU1 hU2 R1
  go_wp2_with fail
  refine HH.out.mono ?_
  clear HH
  cases hv : (kidR x sValue).isSome with
  | true =>
    rintro e w3 ⟨rfl, hb3⟩
    have hb23 : Below w2.heap.size w2 w3 := ext_trans (ext_alloc (ext_refl _) _) hb3
    have R3 := R2.ext hb23
    replace hB := hB.trans (hb23.mono (by omega))
    replace B1 := B1.ext hb23
    replace B2 := B2.ext hb23
    obtain ⟨bx, hbx⟩ : ∃ bx, w2.heap.size = bx := ⟨_, rfl⟩
    have BX := (Blk.new w2 [.string s1, .string ⟨#[]⟩, .int .i64 0] 28).ext hb3
    have hz3 := hb3.size
    rw [World.size_alloc] at hz3
    have hz23 := hb23.size
    rw [hbx] at BX hz3 hZ2 hz23
    clear hb3 hb23
    go_wp2_with fail
    have T2 := text_any (w.heap.size + 1 + 1 + 1) x Ak Ac ck cc F p f1 sValue valR 28 w3 R3 HWX.out hp (by decide) (fun _ _ => rfl) (fun s w2 hs _ => LabelValueOk_impl s w2 hs)
    obtain ⟨s2, f2, e2⟩ : ∃ s f, readT x p f1 sValue valR = (s, f) := ⟨_, _, rfl⟩
    rw [e2] at T2
    have HTV := Lib.hid (show tiV x p = (s2, f2) by unfold tiV; rw [if_pos hv, HTK.out, e2])
    clear e2 hv
    refine T2.mono ?_
    rintro e w4 ⟨rfl, R4, hU4⟩
    clear T2
    have hUB4 : Below w.heap.size w3 w4 := hU4.below (fun b hb => by simp at hb; omega) (by omega)
    replace hB := hB.trans hUB4
    replace B1 := B1.keep (hU4.block _ (by have := B1.lt; omega) (by simp))
    replace B2 := B2.keep (hU4.block _ (by have := B2.lt; omega) (by simp))
    replace BX := BX.keep (hU4.block _ BX.lt (by simp; omega))
    have hZ4 := hU4.size
    clear hU4 R2 R3
    try rw [hbx]
    have k1 := BX.cell (i := 1) (u := .string ⟨#[]⟩) rfl
    have kl := BX.lt
    have kf := BX.fz
    replace hB := ext_setCell hB (p := ⟨bx, 1, none⟩) (by dsimp only; omega) (.string s2)
    replace B1 := B1.far (c := bx) (by omega) 1 (.string s2)
    replace B2 := B2.far (c := bx) (by omega) 1 (.string s2)
    replace BX := BX.put 1 (.string s2)
    have R5 := RS.far R4 (c := bx) (by omega) (fun b hb => by have := HFL.out b hb; omega) 1 (.string s2)
    obtain ⟨wc, hwc⟩ : ∃ wc, w4.setCell ⟨bx, 1, none⟩ (.string s2) = wc := ⟨_, rfl⟩
    rw [hwc] at hB B1 B2 BX R5
    have hzc : (w4.setCell ⟨bx, 1, none⟩ (.string s2)).heap.size = wc.heap.size := by rw [hwc]
    try simp only [World.setCell, Array.size_modify] at hzc
    go_wp2_with fail
    try rw [hwc]
    clear hwc
    have T3 := text_any (w.heap.size + 1 + 1 + 1) x Ak Ac ck cc F p f2 sEffect effB 30 wc R5 HWX.out hp (by decide) (fun _ _ => rfl) (fun s w2 hs _ => isEffect_any s w2)
    obtain ⟨s3, f3, e3⟩ : ∃ s f, readT x p f2 sEffect effB = (s, f) := ⟨_, _, rfl⟩
    rw [e3] at T3
    have HE := Lib.hid (show taintInR x p = if f3.code = 0 then (⟨s1, s2, effR s3⟩, noF) else (zTaint, f3) by unfold taintInR tiE; rw [HTV.out, e3, HTK.out])
    clear e3
    refine T3.mono ?_
    rintro e w6 ⟨rfl, R6, hU6⟩
    clear T3
    have hUB6 : Below w.heap.size wc w6 := hU6.below (fun b hb => by simp at hb; omega) (by omega)
    replace hB := hB.trans hUB6
    replace B1 := B1.keep (hU6.block _ (by have := B1.lt; omega) (by simp))
    replace B2 := B2.keep (hU6.block _ (by have := B2.lt; omega) (by simp))
    replace BX := BX.keep (hU6.block _ BX.lt (by simp; omega))
    have hZ6 := hU6.size
    have k2 := BX.cell (i := 2) (u := .int .i64 0) rfl
    have kf := BX.fz
    have kl := BX.lt
    go_wp2_with fail
    refine (effectOf_any s3 w6).mono ?_
    rintro e w7 ⟨rfl, rfl⟩
    clear hU6
    have hER := effR_range s3
    replace hB := ext_setCell hB (p := ⟨bx, 2, none⟩) (by dsimp only; omega) (.int .i64 (effR s3))
    replace B1 := B1.far (c := bx) (by omega) 2 (.int .i64 (effR s3))
    replace B2 := B2.far (c := bx) (by omega) 2 (.int .i64 (effR s3))
    replace BX := BX.put 2 (.int .i64 (effR s3))
    have R7 := RS.far R6 (c := bx) (by omega) (fun b hb => by have := HFL.out b hb; omega) 2 (.int .i64 (effR s3))
    have g1 := R7.blk.cell (i := 7) (u := .int .i64 f3.code) rfl
    have g2 := R7.blk.cell (i := 8) (u := .int .i64 f3.at_) rfl
    have g3 := R7.blk.cell (i := 9) (u := .string f3.path) rfl
    have gl := R7.blk.lt
    have y0 := BX.cell (i := 0) (u := .string s1) rfl
    have y1 := BX.cell (i := 1) (u := .string s2) rfl
    have y2 := BX.cell (i := 2) (u := .int .i64 (effR s3)) rfl
    have yl := BX.lt
    have m0 := B1.cell (i := 0) (u := .string ⟨#[]⟩) rfl
    have m1 := B1.cell (i := 1) (u := .string ⟨#[]⟩) rfl
    have m2 := B1.cell (i := 2) (u := .int .i64 0) rfl
    have n0 := B2.cell (i := 0) (u := .int .i64 0) rfl
    have n1 := B2.cell (i := 1) (u := .int .i64 0) rfl
    have n2 := B2.cell (i := 2) (u := .string ⟨#[]⟩) rfl
    have l1 := B1.lt
    have l2 := B2.lt
    have z1 := B1.fz
    have z2 := B2.fz
    have HB := Lib.hid hB
    clear hB B1 B2 BX R6 R7
    by_cases h3 : f3.code = 0
    · have hd : (f3.code != 0) = false := by simp [h3]
      have HR := Lib.hid (show taintInR x p = (⟨s1, s2, effR s3⟩, noF) by rw [HE.out]; exact if_pos h3)
      clear h3
      go_wp2_with fail
      try dsimp only
      iterate 60 (first | go_step | skip)
      refine bodyPost_ret (v := .tuple #[.agg #[.string s1, .string s2, .int .i64 (effR s3)], .agg #[.int .i64 0, .int .i64 0, .string ⟨#[]⟩]]) (by simp [results, Try.results8, go_sem, *]) rfl ⟨by rw [HR.out]; rfl, ?_⟩
      have hB := HB.out
      repeat (first | with_reducible exact hB | with_reducible refine ext_setCell ?_ (by dsimp only; omega) _)
    · have hd : (f3.code != 0) = true := by simp [h3]
      have HR := Lib.hid (show taintInR x p = (zTaint, f3) by rw [HE.out]; exact if_neg h3)
      clear h3
      go_wp2_with fail
      go_region
      all_goals
        go_wp2_with fail
        try dsimp only
        iterate 60 (first | go_step | skip)
        refine bodyPost_ret (v := .tuple #[.agg #[.string ⟨#[]⟩, .string ⟨#[]⟩, .int .i64 0], .agg #[.int .i64 f3.code, .int .i64 f3.at_, .string f3.path]]) (by simp [results, Try.results8, go_sem, *]) rfl ⟨by rw [HR.out]; rfl, ?_⟩
        have hB := HB.out
        repeat (first | with_reducible exact hB | with_reducible refine ext_setCell ?_ (by dsimp only; omega) _ | with_reducible refine ext_drew ?_)
  | false =>
    rintro e w3 ⟨rfl, hb3⟩
    have hb23 : Below w2.heap.size w2 w3 := ext_trans (ext_alloc (ext_refl _) _) hb3
    have R5 := R2.ext hb23
    replace hB := hB.trans (hb23.mono (by omega))
    replace B1 := B1.ext hb23
    replace B2 := B2.ext hb23
    obtain ⟨bx, hbx⟩ : ∃ bx, w2.heap.size = bx := ⟨_, rfl⟩
    have BX := (Blk.new w2 [.string s1, .string ⟨#[]⟩, .int .i64 0] 28).ext hb3
    have hz3 := hb3.size
    rw [World.size_alloc] at hz3
    have hz23 := hb23.size
    rw [hbx] at BX hz3 hZ2 hz23
    clear hb3 hb23
    have HTV := Lib.hid (show tiV x p = (⟨#[]⟩, f1) by unfold tiV; rw [if_neg (by rw [hv]; simp), HTK.out])
    clear hv R2
    try rw [hbx]
    obtain ⟨wc, hwc⟩ : ∃ wc, w3 = wc := ⟨_, rfl⟩
    rw [hwc] at hB B1 B2 BX R5
    have hzc : (w3).heap.size = wc.heap.size := by rw [hwc]
    try simp only [World.setCell, Array.size_modify] at hzc
    go_wp2_with fail
    try rw [hwc]
    clear hwc
    have T3 := text_any (w.heap.size + 1 + 1 + 1) x Ak Ac ck cc F p f1 sEffect effB 30 wc R5 HWX.out hp (by decide) (fun _ _ => rfl) (fun s w2 hs _ => isEffect_any s w2)
    obtain ⟨s3, f3, e3⟩ : ∃ s f, readT x p f1 sEffect effB = (s, f) := ⟨_, _, rfl⟩
    rw [e3] at T3
    have HE := Lib.hid (show taintInR x p = if f3.code = 0 then (⟨s1, ⟨#[]⟩, effR s3⟩, noF) else (zTaint, f3) by unfold taintInR tiE; rw [HTV.out, e3, HTK.out])
    clear e3
    refine T3.mono ?_
    rintro e w6 ⟨rfl, R6, hU6⟩
    clear T3
    have hUB6 : Below w.heap.size wc w6 := hU6.below (fun b hb => by simp at hb; omega) (by omega)
    replace hB := hB.trans hUB6
    replace B1 := B1.keep (hU6.block _ (by have := B1.lt; omega) (by simp))
    replace B2 := B2.keep (hU6.block _ (by have := B2.lt; omega) (by simp))
    replace BX := BX.keep (hU6.block _ BX.lt (by simp; omega))
    have hZ6 := hU6.size
    have k2 := BX.cell (i := 2) (u := .int .i64 0) rfl
    have kf := BX.fz
    have kl := BX.lt
    go_wp2_with fail
    refine (effectOf_any s3 w6).mono ?_
    rintro e w7 ⟨rfl, rfl⟩
    clear hU6
    have hER := effR_range s3
    replace hB := ext_setCell hB (p := ⟨bx, 2, none⟩) (by dsimp only; omega) (.int .i64 (effR s3))
    replace B1 := B1.far (c := bx) (by omega) 2 (.int .i64 (effR s3))
    replace B2 := B2.far (c := bx) (by omega) 2 (.int .i64 (effR s3))
    replace BX := BX.put 2 (.int .i64 (effR s3))
    have R7 := RS.far R6 (c := bx) (by omega) (fun b hb => by have := HFL.out b hb; omega) 2 (.int .i64 (effR s3))
    have g1 := R7.blk.cell (i := 7) (u := .int .i64 f3.code) rfl
    have g2 := R7.blk.cell (i := 8) (u := .int .i64 f3.at_) rfl
    have g3 := R7.blk.cell (i := 9) (u := .string f3.path) rfl
    have gl := R7.blk.lt
    have y0 := BX.cell (i := 0) (u := .string s1) rfl
    have y1 := BX.cell (i := 1) (u := .string ⟨#[]⟩) rfl
    have y2 := BX.cell (i := 2) (u := .int .i64 (effR s3)) rfl
    have yl := BX.lt
    have m0 := B1.cell (i := 0) (u := .string ⟨#[]⟩) rfl
    have m1 := B1.cell (i := 1) (u := .string ⟨#[]⟩) rfl
    have m2 := B1.cell (i := 2) (u := .int .i64 0) rfl
    have n0 := B2.cell (i := 0) (u := .int .i64 0) rfl
    have n1 := B2.cell (i := 1) (u := .int .i64 0) rfl
    have n2 := B2.cell (i := 2) (u := .string ⟨#[]⟩) rfl
    have l1 := B1.lt
    have l2 := B2.lt
    have z1 := B1.fz
    have z2 := B2.fz
    have HB := Lib.hid hB
    clear hB B1 B2 BX R6 R7
    by_cases h3 : f3.code = 0
    · have hd : (f3.code != 0) = false := by simp [h3]
      have HR := Lib.hid (show taintInR x p = (⟨s1, ⟨#[]⟩, effR s3⟩, noF) by rw [HE.out]; exact if_pos h3)
      clear h3
      go_wp2_with fail
      try dsimp only
      iterate 60 (first | go_step | skip)
      refine bodyPost_ret (v := .tuple #[.agg #[.string s1, .string ⟨#[]⟩, .int .i64 (effR s3)], .agg #[.int .i64 0, .int .i64 0, .string ⟨#[]⟩]]) (by simp [results, Try.results8, go_sem, *]) rfl ⟨by rw [HR.out]; rfl, ?_⟩
      have hB := HB.out
      repeat (first | with_reducible exact hB | with_reducible refine ext_setCell ?_ (by dsimp only; omega) _)
    · have hd : (f3.code != 0) = true := by simp [h3]
      have HR := Lib.hid (show taintInR x p = (zTaint, f3) by rw [HE.out]; exact if_neg h3)
      clear h3
      go_wp2_with fail
      go_region
      all_goals
        go_wp2_with fail
        try dsimp only
        iterate 60 (first | go_step | skip)
        refine bodyPost_ret (v := .tuple #[.agg #[.string ⟨#[]⟩, .string ⟨#[]⟩, .int .i64 0], .agg #[.int .i64 f3.code, .int .i64 f3.at_, .string f3.path]]) (by simp [results, Try.results8, go_sem, *]) rfl ⟨by rw [HR.out]; rfl, ?_⟩
        have hB := HB.out
        repeat (first | with_reducible exact hB | with_reducible refine ext_setCell ?_ (by dsimp only; omega) _ | with_reducible refine ext_drew ?_)
end Go.Proofs.Ytffjbbamcflmbaa
