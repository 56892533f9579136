/- TaintIn, of the reference. No condition. -/
import Derived.Test.YtffjbbamcflmbaaL19Key
import Derived.Test.YtffjbbamcflmbaaL19Value
import Derived.Test.YtffjbbamcflmbaaL19One
import Derived.Test.YtffjbbamcflmbaaTaintInI
namespace Go.Proofs.Ytffjbbamcflmbaa
open Go.ChangeShapes Go.WideShapes Go.ChangeAt Go.RowKit
set_option linter.unusedVariables false
set_option linter.unusedSimpArgs false

def effWs : List ByteArray := [⟨#[]⟩, ⟨#[110, 101, 118, 101, 114]⟩, ⟨#[115, 111, 102, 116]⟩]
theorem l19Effects_any (w : World) : Calls Try.prog 21 #[] w fun e w' => e = .returned (.slice (some ⟨w.heap.size, 0, none⟩) 3 3) ∧ w' = w.alloc (.cells #[.string ⟨#[]⟩, .string ⟨#[110, 101, 118, 101, 114]⟩, .string ⟨#[115, 111, 102, 116]⟩] 9) := by
  go_enter Try.func21, Try.ntmps21
  go_wp2
  go_ret
  exact ⟨rfl, rfl⟩
/-- a taint out of a tree, as the reference reads it -/
def taintInS (x : Tree) (p : ByteArray) : Taint × Fault :=
  if (knownR x p [sEffect, sKey, sValue]).code = 0 then
    (if (readT x p noF sKey keyR).2.code = 0 then
      (if (valueF x p).2.2.code = 0 then
        (if (oneF x p sEffect effWs).2.code = 0 then (⟨(readT x p noF sKey keyR).1, (valueF x p).1, (oneF x p sEffect effWs).1⟩, noF) else (zTaint, (oneF x p sEffect effWs).2))
      else (zTaint, (valueF x p).2.2))
    else (zTaint, (readT x p noF sKey keyR).2))
  else (zTaint, knownR x p [sEffect, sKey, sValue])
set_option maxRecDepth 100000 in
set_option maxHeartbeats 8000000 in
theorem TaintIn_spec (x : Tree) (cs : List Value) (F : List Nat) (p : ByteArray) (w : World) (h : rd w x cs F) (hw : (x.wt : Int) ≤ 1048576) (hp : (p.size : Int) ≤ 1048576) :
    Calls Try.prog 6 #[.agg cs.toArray, .string p] w fun e w' => e = .returned (.tuple #[.agg #[.string (taintInS x p).1.key, .string (taintInS x p).1.value, .int .i64 (taintInS x p).1.effect], .agg #[.int .i64 (taintInS x p).2.code, .int .i64 (taintInS x p).2.at_, .string (taintInS x p).2.path]]) ∧ Below w.heap.size w w' := by
  have HWX := Lib.hid hw
  clear hw
  have h0 := h
  obtain ⟨Ak, ck, Fk, Ac, cc, Fc, hck, hF, hkind, hnum, htext, hkeys, hkids⟩ := rd_Tree h
  subst hck
  clear hF h
  have hW0 : ∃ W, ((((w.alloc (.cells #[.int .i64 x.kind, .bool x.flag, .int .i64 x.num, .string x.text, .slice Ak x.keys.length ck, .slice Ac x.kids.length cc] 35)).alloc (.cells #[.string ⟨#[]⟩, .string ⟨#[]⟩, .int .i64 0] 28)).alloc (.cells #[.int .i64 0, .int .i64 0, .string ⟨#[]⟩] 30)).alloc (.cells #[.string ⟨#[101, 102, 102, 101, 99, 116]⟩, .string ⟨#[107, 101, 121]⟩, .string ⟨#[118, 97, 108, 117, 101]⟩] 9)) = W ∧ Below w.heap.size w W ∧ Blk W w.heap.size [.int .i64 x.kind, .bool x.flag, .int .i64 x.num, .string x.text, .slice Ak x.keys.length ck, .slice Ac x.kids.length cc] ∧ Blk W (w.heap.size + 1) [.string ⟨#[]⟩, .string ⟨#[]⟩, .int .i64 0] ∧ Blk W (w.heap.size + 1 + 1) [.int .i64 0, .int .i64 0, .string ⟨#[]⟩] ∧ Sl W [sEffect, sKey, sValue] (some ⟨w.heap.size + 1 + 1 + 1, 0, none⟩) 3 [w.heap.size + 1 + 1 + 1] ∧ W.heap.size = w.heap.size + 1 + 1 + 1 + 1 := by
    refine ⟨_, rfl, ext_alloc (ext_alloc (ext_alloc (ext_alloc (ext_refl _) _) _) _) _, ?_, ?_, ?_, ?_, by simp⟩
    · exact (((Blk.new w [.int .i64 x.kind, .bool x.flag, .int .i64 x.num, .string x.text, .slice Ak x.keys.length ck, .slice Ac x.kids.length cc] 35).ext (ext_alloc (ext_refl _) _)).ext (ext_alloc (ext_refl _) _)).ext (ext_alloc (ext_refl _) _)
    · have h1 := Blk.new (w.alloc (.cells #[.int .i64 x.kind, .bool x.flag, .int .i64 x.num, .string x.text, .slice Ak x.keys.length ck, .slice Ac x.kids.length cc] 35)) [.string ⟨#[]⟩, .string ⟨#[]⟩, .int .i64 0] 28
      rw [World.size_alloc] at h1
      exact (h1.ext (ext_alloc (ext_refl _) _)).ext (ext_alloc (ext_refl _) _)
    · have h1 := Blk.new ((w.alloc (.cells #[.int .i64 x.kind, .bool x.flag, .int .i64 x.num, .string x.text, .slice Ak x.keys.length ck, .slice Ac x.kids.length cc] 35)).alloc (.cells #[.string ⟨#[]⟩, .string ⟨#[]⟩, .int .i64 0] 28)) [.int .i64 0, .int .i64 0, .string ⟨#[]⟩] 30
      rw [World.size_alloc, World.size_alloc] at h1
      exact h1.ext (ext_alloc (ext_refl _) _)
    · have h1 := Blk.new (((w.alloc (.cells #[.int .i64 x.kind, .bool x.flag, .int .i64 x.num, .string x.text, .slice Ak x.keys.length ck, .slice Ac x.kids.length cc] 35)).alloc (.cells #[.string ⟨#[]⟩, .string ⟨#[]⟩, .int .i64 0] 28)).alloc (.cells #[.int .i64 0, .int .i64 0, .string ⟨#[]⟩] 30)) [.string ⟨#[101, 102, 102, 101, 99, 116]⟩, .string ⟨#[107, 101, 121]⟩, .string ⟨#[118, 97, 108, 117, 101]⟩] 9
      rw [World.size_alloc, World.size_alloc, World.size_alloc] at h1
      exact Sl.strs (ss := [sEffect, sKey, sValue]) h1 (by intro s hs; simp only [List.mem_cons, List.not_mem_nil, or_false] at hs; rcases hs with rfl | rfl | rfl <;> (unfold maxLen; decide)) (by unfold maxLen; decide)
  obtain ⟨W, hW, hB, T0, B1, B2, S0, hZ⟩ := hW0
  have HW := Lib.hid hW
  clear hW
  have K0 := KnownKeys_spec x _ _ p [sEffect, sKey, sValue] _ 3 3 _ W (rd_extK h0 hB) S0 rfl HWX.out hp (by decide)
  obtain ⟨f0, e0⟩ : ∃ f, knownR x p [sEffect, sKey, sValue] = f := ⟨_, rfl⟩
  rw [e0] at K0
  have H0 := Lib.hid e0
  clear e0
  go_enter Try.func6, Try.ntmps6
  go_wp2_with fail
  rw [HW.out]
  refine K0.mono ?_
  rintro e w1 ⟨rfl, hb1⟩
  clear K0 S0 HW
  replace hB := hB.trans (hb1.mono (by omega))
  replace T0 := T0.ext hb1
  replace B1 := B1.ext hb1
  replace B2 := B2.ext hb1
  have hz1 := hb1.size
  clear hb1
  obtain ⟨bf, hbf⟩ : ∃ bf, w1.heap.size = bf := ⟨_, rfl⟩
  have BF := Blk.new w1 [.int .i64 f0.code, .int .i64 f0.at_, .string f0.path] 30
  have hA1 : Below w1.heap.size w1 (w1.alloc (.cells #[.int .i64 f0.code, .int .i64 f0.at_, .string f0.path] 30)) := ext_alloc (ext_refl _) _
  replace T0 := T0.ext hA1
  replace B1 := B1.ext hA1
  replace B2 := B2.ext hA1
  replace hB := ext_trans hB hA1
  clear hA1
  have hzA : (w1.alloc (.cells #[.int .i64 f0.code, .int .i64 f0.at_, .string f0.path] 30)).heap.size = bf + 1 := by rw [World.size_alloc, hbf]
  rw [hbf] at BF hz1
  by_cases h1 : f0.code = 0
  · have hd1 : (f0.code != 0) = false := by simp [h1]
    have K1 := Lib.hid (fun wq (hq : Below w.heap.size w wq) => l19Key_any x _ _ p wq (rd_extK h0 hq) HWX.out hp)
    obtain ⟨s1, f1, e1⟩ : ∃ s f, readT x p noF sKey keyR = (s, f) := ⟨_, _, rfl⟩
    rw [e1] at K1
    have H1 := Lib.hid e1
    have HA := Lib.hid h1
    clear e1 h1
    have BX := Blk.new (w1.alloc (.cells #[.int .i64 f0.code, .int .i64 f0.at_, .string f0.path] 30)) [.string ⟨#[]⟩, .string ⟨#[]⟩, .int .i64 0] 28
    have hA2 : Below (w1.alloc (.cells #[.int .i64 f0.code, .int .i64 f0.at_, .string f0.path] 30)).heap.size (w1.alloc (.cells #[.int .i64 f0.code, .int .i64 f0.at_, .string f0.path] 30)) ((w1.alloc (.cells #[.int .i64 f0.code, .int .i64 f0.at_, .string f0.path] 30)).alloc (.cells #[.string ⟨#[]⟩, .string ⟨#[]⟩, .int .i64 0] 28)) := ext_alloc (ext_refl _) _
    replace T0 := T0.ext hA2
    replace B1 := B1.ext hA2
    replace B2 := B2.ext hA2
    replace BF := BF.ext hA2
    have hB2 := ext_trans hB hA2
    clear hB
    rw [hzA] at BX
    have t0 := T0.cell (i := 0) (u := .int .i64 x.kind) rfl
    have t1 := T0.cell (i := 1) (u := .bool x.flag) rfl
    have t2 := T0.cell (i := 2) (u := .int .i64 x.num) rfl
    have t3 := T0.cell (i := 3) (u := .string x.text) rfl
    have t4 := T0.cell (i := 4) (u := .slice Ak x.keys.length ck) rfl
    have t5 := T0.cell (i := 5) (u := .slice Ac x.kids.length cc) rfl
    have tl := T0.lt
    go_wp2_with fail
    try rw [hbf]
    clear t0 t1 t2 t3 t4 t5 tl
    refine (K1.out _ hB2).mono ?_
    rintro e w3 ⟨rfl, hb3⟩
    have hz3 := hb3.size
    rw [World.size_alloc, hzA] at hz3
    replace T0 := T0.ext hb3
    replace B1 := B1.ext hb3
    replace B2 := B2.ext hb3
    replace BF := BF.ext hb3
    replace BX := BX.ext hb3
    have hB := ext_trans hB2 hb3
    clear hB2 hb3 hA2 K1
    obtain ⟨bx, hbx⟩ : ∃ bx, bf + 1 = bx := ⟨_, rfl⟩
    rw [hbx] at BX hz3 hzA
    have hbf1 : bf < bx := by omega
    try rw [hbx]
    have HBX := Lib.hid hbx
    clear hbx
    have k0 := BX.cell (i := 0) (u := .string ⟨#[]⟩) rfl
    have kf := BX.fz
    have kl := BX.lt
    replace hB := ext_setCell hB (p := ⟨bx, 0, none⟩) (by dsimp only; omega) (.string s1)
    replace T0 := T0.far (c := bx) (by omega) 0 (.string s1)
    replace B1 := B1.far (c := bx) (by omega) 0 (.string s1)
    replace B2 := B2.far (c := bx) (by omega) 0 (.string s1)
    replace BF := BF.far (c := bx) (by omega) 0 (.string s1)
    replace BX := BX.put 0 (.string s1)
    have j0 := BF.cell (i := 0) (u := .int .i64 f0.code) rfl
    have j1 := BF.cell (i := 1) (u := .int .i64 f0.at_) rfl
    have j2 := BF.cell (i := 2) (u := .string f0.path) rfl
    have jf := BF.fz
    have jl := BF.lt
    replace T0 := T0.far (c := bf) (by omega) 0 (.int .i64 f1.code)
    replace B1 := B1.far (c := bf) (by omega) 0 (.int .i64 f1.code)
    replace B2 := B2.far (c := bf) (by omega) 0 (.int .i64 f1.code)
    replace BX := BX.far (c := bf) (by omega) 0 (.int .i64 f1.code)
    replace BF := BF.put 0 (.int .i64 f1.code)
    replace hB := ext_setCell hB (p := ⟨bf, 0, none⟩) (by dsimp only; omega) (.int .i64 f1.code)
    replace T0 := T0.far (c := bf) (by omega) 1 (.int .i64 f1.at_)
    replace B1 := B1.far (c := bf) (by omega) 1 (.int .i64 f1.at_)
    replace B2 := B2.far (c := bf) (by omega) 1 (.int .i64 f1.at_)
    replace BX := BX.far (c := bf) (by omega) 1 (.int .i64 f1.at_)
    replace BF := BF.put 1 (.int .i64 f1.at_)
    replace hB := ext_setCell hB (p := ⟨bf, 1, none⟩) (by dsimp only; omega) (.int .i64 f1.at_)
    replace T0 := T0.far (c := bf) (by omega) 2 (.string f1.path)
    replace B1 := B1.far (c := bf) (by omega) 2 (.string f1.path)
    replace B2 := B2.far (c := bf) (by omega) 2 (.string f1.path)
    replace BX := BX.far (c := bf) (by omega) 2 (.string f1.path)
    replace BF := BF.put 2 (.string f1.path)
    replace hB := ext_setCell hB (p := ⟨bf, 2, none⟩) (by dsimp only; omega) (.string f1.path)
    have y0 := BF.cell (i := 0) (u := .int .i64 f1.code) rfl
    have y1 := BF.cell (i := 1) (u := .int .i64 f1.at_) rfl
    have y2 := BF.cell (i := 2) (u := .string f1.path) rfl
    have yl := BF.lt
    by_cases h2 : f1.code = 0
    · have hd2 : (f1.code != 0) = false := by simp [h2]
      have K2 := Lib.hid (fun wq (hq : Below w.heap.size w wq) => l19Value_any x _ _ p wq (rd_extK h0 hq) HWX.out hp)
      obtain ⟨s2, b2, g2, e2⟩ : ∃ s b f, valueF x p = (s, b, f) := ⟨_, _, _, rfl⟩
      rw [e2] at K2
      have H2 := Lib.hid e2
      have HA2 := Lib.hid h2
      clear e2 h2
      have t0 := T0.cell (i := 0) (u := .int .i64 x.kind) rfl
      have t1 := T0.cell (i := 1) (u := .bool x.flag) rfl
      have t2 := T0.cell (i := 2) (u := .int .i64 x.num) rfl
      have t3 := T0.cell (i := 3) (u := .string x.text) rfl
      have t4 := T0.cell (i := 4) (u := .slice Ak x.keys.length ck) rfl
      have t5 := T0.cell (i := 5) (u := .slice Ac x.kids.length cc) rfl
      have tl := T0.lt
      go_wp2_with fail
      clear t0 t1 t2 t3 t4 t5 tl
      refine (K2.out _ hB).mono ?_
      rintro e w5 ⟨rfl, hb5⟩
      have hz5 := hb5.size
      simp only [World.setCell, Array.size_modify] at hz5
      replace T0 := T0.ext hb5
      replace B1 := B1.ext hb5
      replace B2 := B2.ext hb5
      replace BF := BF.ext hb5
      replace BX := BX.ext hb5
      replace hB := ext_trans hB hb5
      clear hb5 K2 k0 kf kl j0 j1 j2 jf jl y0 y1 y2 yl
      have BG := Blk.new w5 [.int .i64 g2.code, .int .i64 g2.at_, .string g2.path] 30
      have hA5 : Below w5.heap.size w5 (w5.alloc (.cells #[.int .i64 g2.code, .int .i64 g2.at_, .string g2.path] 30)) := ext_alloc (ext_refl _) _
      replace T0 := T0.ext hA5
      replace B1 := B1.ext hA5
      replace B2 := B2.ext hA5
      replace BF := BF.ext hA5
      replace BX := BX.ext hA5
      replace hB := ext_trans hB hA5
      have hz6 : (w5.alloc (.cells #[.int .i64 g2.code, .int .i64 g2.at_, .string g2.path] 30)).heap.size = w5.heap.size + 1 := World.size_alloc _ _
      clear hA5
      have k1 := BX.cell (i := 1) (u := .string ⟨#[]⟩) rfl
      have kf := BX.fz
      have kl := BX.lt
      by_cases h3 : g2.code = 0
      · have hd3 : (g2.code != 0) = false := by simp [h3]
        have HA3 := Lib.hid h3
        clear h3
        replace hB := ext_setCell hB (p := ⟨bx, 1, none⟩) (by dsimp only; omega) (.string s2)
        replace T0 := T0.far (c := bx) (by omega) 1 (.string s2)
        replace B1 := B1.far (c := bx) (by omega) 1 (.string s2)
        replace B2 := B2.far (c := bx) (by omega) 1 (.string s2)
        replace BF := BF.far (c := bx) (by omega) 1 (.string s2)
        replace BX := BX.put 1 (.string s2)
        have hzs : ((w5.alloc (.cells #[.int .i64 g2.code, .int .i64 g2.at_, .string g2.path] 30)).setCell ⟨bx, 1, none⟩ (.string s2)).heap.size = w5.heap.size + 1 := by simp [World.setCell]
        go_wp2_with fail
        obtain ⟨w6, hw6⟩ : ∃ w6, (w5.alloc (.cells #[.int .i64 g2.code, .int .i64 g2.at_, .string g2.path] 30)).setCell ⟨bx, 1, none⟩ (.string s2) = w6 := ⟨_, rfl⟩
        rw [hw6] at hB T0 B1 B2 BF BX hzs
        try rw [hw6]
        have HZS := Lib.hid hzs
        clear hw6 k1 kf kl BG hzs
        have hzB : w.heap.size ≤ w6.heap.size := hB.size
        obtain ⟨i3, f3, e3⟩ : ∃ i f, oneF x p sEffect effWs = (i, f) := ⟨_, _, rfl⟩
        have HE := Lib.hid (show taintInS x p = if f3.code = 0 then (⟨s1, s2, i3⟩, noF) else (zTaint, f3) by unfold taintInS; rw [H0.out, if_pos HA.out, H1.out, if_pos HA2.out, H2.out, if_pos HA3.out, e3])
        have T6 := T0.keep (w' := w6.drew) rfl
        refine wp_region_anyC (C := (fun w' => w'.cell? ⟨w.heap.size, 0, none⟩ = some (.int .i64 x.kind) ∧ w'.cell? ⟨w.heap.size, 1, none⟩ = some (.bool x.flag) ∧ w'.cell? ⟨w.heap.size, 2, none⟩ = some (.int .i64 x.num) ∧ w'.cell? ⟨w.heap.size, 3, none⟩ = some (.string x.text) ∧ w'.cell? ⟨w.heap.size, 4, none⟩ = some (.slice Ak x.keys.length ck) ∧ w'.cell? ⟨w.heap.size, 5, none⟩ = some (.slice Ac x.kids.length cc))) 10 (by kernel_rfl) rfl ⟨T6.cell (i := 0) (u := .int .i64 x.kind) rfl, T6.cell (i := 1) (u := .bool x.flag) rfl, T6.cell (i := 2) (u := .int .i64 x.num) rfl, T6.cell (i := 3) (u := .string x.text) rfl, T6.cell (i := 4) (u := .slice Ak x.keys.length ck) rfl, T6.cell (i := 5) (u := .slice Ac x.kids.length cc) rfl⟩ ?_
        have hC : (fun w' => w'.cell? ⟨w.heap.size, 0, none⟩ = some (.int .i64 x.kind) ∧ w'.cell? ⟨w.heap.size, 1, none⟩ = some (.bool x.flag) ∧ w'.cell? ⟨w.heap.size, 2, none⟩ = some (.int .i64 x.num) ∧ w'.cell? ⟨w.heap.size, 3, none⟩ = some (.string x.text) ∧ w'.cell? ⟨w.heap.size, 4, none⟩ = some (.slice Ak x.keys.length ck) ∧ w'.cell? ⟨w.heap.size, 5, none⟩ = some (.slice Ac x.kids.length cc)) w6.drew := ⟨T6.cell (i := 0) (u := .int .i64 x.kind) rfl, T6.cell (i := 1) (u := .bool x.flag) rfl, T6.cell (i := 2) (u := .int .i64 x.num) rfl, T6.cell (i := 3) (u := .string x.text) rfl, T6.cell (i := 4) (u := .slice Ak x.keys.length ck) rfl, T6.cell (i := 5) (u := .slice Ac x.kids.length cc) rfl⟩
        refine anyH_take 0 _ (by rfl) (by kernel_rfl) (fun _ _ d _ _ h => by cases d <;> exact h) hC (Or.inl ⟨rfl, fun wq hq => by
          obtain ⟨y0, y1, y2, y3, y4, y5⟩ := hq
          go_simp
          try rfl⟩) ?_
        simp only [Act.put, List.setIfInBounds_toArray, List.set_cons_zero, List.set_cons_succ]
        refine anyH_take 1 _ (by rfl) (by kernel_rfl) (fun _ _ d _ _ h => by cases d <;> exact h) hC (Or.inl ⟨rfl, fun wq hq => by
          obtain ⟨y0, y1, y2, y3, y4, y5⟩ := hq
          go_simp
          try rfl⟩) ?_
        simp only [Act.put, List.setIfInBounds_toArray, List.set_cons_zero, List.set_cons_succ]
        refine anyH_one 2 (by rfl) (by kernel_rfl) (by rfl) (fun K hK => ?_)
        go_simp
        refine (l19Effects_any w6.drew).mono ?_
        rintro e w7 ⟨rfl, hw7⟩
        have hb7 : Below w6.drew.heap.size w6.drew w7 := by rw [hw7]; exact ext_alloc (ext_refl _) _
        have S7 : Sl w7 effWs (some ⟨w6.heap.size, 0, none⟩) 3 [w6.heap.size] := by rw [hw7]; exact Sl.strs (ss := effWs) (Blk.new w6.drew [.string ⟨#[]⟩, .string ⟨#[110, 101, 118, 101, 114]⟩, .string ⟨#[115, 111, 102, 116]⟩] 9) (by intro s hs; simp only [effWs, List.mem_cons, List.not_mem_nil, or_false] at hs; rcases hs with rfl | rfl | rfl <;> (unfold maxLen; decide)) (by unfold maxLen; decide)
        clear hw7
        have T7 := T6.ext hb7
        replace hC : (fun w' => w'.cell? ⟨w.heap.size, 0, none⟩ = some (.int .i64 x.kind) ∧ w'.cell? ⟨w.heap.size, 1, none⟩ = some (.bool x.flag) ∧ w'.cell? ⟨w.heap.size, 2, none⟩ = some (.int .i64 x.num) ∧ w'.cell? ⟨w.heap.size, 3, none⟩ = some (.string x.text) ∧ w'.cell? ⟨w.heap.size, 4, none⟩ = some (.slice Ak x.keys.length ck) ∧ w'.cell? ⟨w.heap.size, 5, none⟩ = some (.slice Ac x.kids.length cc)) w7 := ⟨T7.cell (i := 0) (u := .int .i64 x.kind) rfl, T7.cell (i := 1) (u := .bool x.flag) rfl, T7.cell (i := 2) (u := .int .i64 x.num) rfl, T7.cell (i := 3) (u := .string x.text) rfl, T7.cell (i := 4) (u := .slice Ak x.keys.length ck) rfl, T7.cell (i := 5) (u := .slice Ac x.kids.length cc) rfl⟩
        refine hK _ _ hC ?_
        try simp only [Act.put, List.setIfInBounds_toArray, List.set_cons_zero, List.set_cons_succ]
        clear hK K
        refine anyH_one 3 (by rfl) (by kernel_rfl) (by rfl) (fun K hK => ?_)
        go_simp
        refine (l19One_any x _ _ p sEffect effWs _ 3 3 _ w7 (rd_extK h0 (ext_trans (ext_drew hB) hb7)) S7 rfl HWX.out hp (by decide) (by decide) (by decide)).mono ?_
        rw [e3]
        rintro e w8 ⟨rfl, hb8⟩
        dsimp only
        have hb68 : Below w6.heap.size w6 w8 := ext_trans (ext_trans (ext_drew (ext_refl w6)) hb7) hb8
        have T8 := T7.ext hb8
        replace hC : (fun w' => w'.cell? ⟨w.heap.size, 0, none⟩ = some (.int .i64 x.kind) ∧ w'.cell? ⟨w.heap.size, 1, none⟩ = some (.bool x.flag) ∧ w'.cell? ⟨w.heap.size, 2, none⟩ = some (.int .i64 x.num) ∧ w'.cell? ⟨w.heap.size, 3, none⟩ = some (.string x.text) ∧ w'.cell? ⟨w.heap.size, 4, none⟩ = some (.slice Ak x.keys.length ck) ∧ w'.cell? ⟨w.heap.size, 5, none⟩ = some (.slice Ac x.kids.length cc)) w8 := ⟨T8.cell (i := 0) (u := .int .i64 x.kind) rfl, T8.cell (i := 1) (u := .bool x.flag) rfl, T8.cell (i := 2) (u := .int .i64 x.num) rfl, T8.cell (i := 3) (u := .string x.text) rfl, T8.cell (i := 4) (u := .slice Ak x.keys.length ck) rfl, T8.cell (i := 5) (u := .slice Ac x.kids.length cc) rfl⟩
        refine hK _ _ hC ?_
        try simp only [Act.put, List.setIfInBounds_toArray, List.set_cons_zero, List.set_cons_succ]
        clear hK K
        refine anyH_one 4 (by rfl) (by kernel_rfl) (by rfl) (fun K hK => ?_)
        go_simp
        refine hK _ _ hC ?_
        try simp only [Act.put, List.setIfInBounds_toArray, List.set_cons_zero, List.set_cons_succ]
        clear hK K
        refine anyH_take 5 _ (by rfl) (by kernel_rfl) (fun _ _ d _ _ h => by cases d <;> exact h) hC (Or.inl ⟨rfl, fun wq hq => by
          obtain ⟨y0, y1, y2, y3, y4, y5⟩ := hq
          go_simp
          try rfl⟩) ?_
        simp only [Act.put, List.setIfInBounds_toArray, List.set_cons_zero, List.set_cons_succ]
        refine anyH_take 6 _ (by rfl) (by kernel_rfl) (fun _ _ d _ _ h => by cases d <;> exact h) hC (Or.inl ⟨rfl, fun wq hq => by
          obtain ⟨y0, y1, y2, y3, y4, y5⟩ := hq
          go_simp
          try rfl⟩) ?_
        simp only [Act.put, List.setIfInBounds_toArray, List.set_cons_zero, List.set_cons_succ]
        refine anyH_take 7 _ (by rfl) (by kernel_rfl) (fun _ _ d _ _ h => by cases d <;> exact h) hC (Or.inl ⟨rfl, fun wq hq => by
          obtain ⟨y0, y1, y2, y3, y4, y5⟩ := hq
          go_simp
          try rfl⟩) ?_
        simp only [Act.put, List.setIfInBounds_toArray, List.set_cons_zero, List.set_cons_succ]
        replace hB := hB.trans (hb68.mono hzB)
        replace T0 := T0.ext hb68
        replace B1 := B1.ext hb68
        replace B2 := B2.ext hb68
        replace BF := BF.ext hb68
        replace BX := BX.ext hb68
        have k2 := BX.cell (i := 2) (u := .int .i64 0) rfl
        have kf := BX.fz
        have kl := BX.lt
        have j0 := BF.cell (i := 0) (u := .int .i64 f1.code) rfl
        have j1 := BF.cell (i := 1) (u := .int .i64 f1.at_) rfl
        have j2 := BF.cell (i := 2) (u := .string f1.path) rfl
        have jf := BF.fz
        have jl := BF.lt
        have hzz := hb68.size
        refine anyH_one 8 (by rfl) (by kernel_rfl) (by rfl) (fun K hK => ?_)
        go_simp
        refine hK _ _ ?_ ?_
        · exact ⟨(T0.far (c := bx) (by omega) 2 (.int .i64 i3)).cell (i := 0) (u := .int .i64 x.kind) rfl, (T0.far (c := bx) (by omega) 2 (.int .i64 i3)).cell (i := 1) (u := .bool x.flag) rfl, (T0.far (c := bx) (by omega) 2 (.int .i64 i3)).cell (i := 2) (u := .int .i64 x.num) rfl, (T0.far (c := bx) (by omega) 2 (.int .i64 i3)).cell (i := 3) (u := .string x.text) rfl, (T0.far (c := bx) (by omega) 2 (.int .i64 i3)).cell (i := 4) (u := .slice Ak x.keys.length ck) rfl, (T0.far (c := bx) (by omega) 2 (.int .i64 i3)).cell (i := 5) (u := .slice Ac x.kids.length cc) rfl⟩
        clear hK K
        try simp only [Act.put, List.setIfInBounds_toArray, List.set_cons_zero, List.set_cons_succ]
        replace T0 := T0.far (c := bx) (by omega) 2 (.int .i64 i3)
        replace B1 := B1.far (c := bx) (by omega) 2 (.int .i64 i3)
        replace B2 := B2.far (c := bx) (by omega) 2 (.int .i64 i3)
        replace BF := BF.far (c := bx) (by omega) 2 (.int .i64 i3)
        replace BX := BX.put 2 (.int .i64 i3)
        replace hB := ext_setCell hB (p := ⟨bx, 2, none⟩) (by dsimp only; omega) (.int .i64 i3)
        have q0 := BF.cell (i := 0) (u := .int .i64 f1.code) rfl
        have q1 := BF.cell (i := 1) (u := .int .i64 f1.at_) rfl
        have q2 := BF.cell (i := 2) (u := .string f1.path) rfl
        have qf := BF.fz
        have ql := BF.lt
        replace T0 := T0.far (c := bf) (by omega) 0 (.int .i64 f3.code)
        replace B1 := B1.far (c := bf) (by omega) 0 (.int .i64 f3.code)
        replace B2 := B2.far (c := bf) (by omega) 0 (.int .i64 f3.code)
        replace BX := BX.far (c := bf) (by omega) 0 (.int .i64 f3.code)
        replace BF := BF.put 0 (.int .i64 f3.code)
        replace hB := ext_setCell hB (p := ⟨bf, 0, none⟩) (by dsimp only; omega) (.int .i64 f3.code)
        replace T0 := T0.far (c := bf) (by omega) 1 (.int .i64 f3.at_)
        replace B1 := B1.far (c := bf) (by omega) 1 (.int .i64 f3.at_)
        replace B2 := B2.far (c := bf) (by omega) 1 (.int .i64 f3.at_)
        replace BX := BX.far (c := bf) (by omega) 1 (.int .i64 f3.at_)
        replace BF := BF.put 1 (.int .i64 f3.at_)
        replace hB := ext_setCell hB (p := ⟨bf, 1, none⟩) (by dsimp only; omega) (.int .i64 f3.at_)
        replace T0 := T0.far (c := bf) (by omega) 2 (.string f3.path)
        replace B1 := B1.far (c := bf) (by omega) 2 (.string f3.path)
        replace B2 := B2.far (c := bf) (by omega) 2 (.string f3.path)
        replace BX := BX.far (c := bf) (by omega) 2 (.string f3.path)
        replace BF := BF.put 2 (.string f3.path)
        replace hB := ext_setCell hB (p := ⟨bf, 2, none⟩) (by dsimp only; omega) (.string f3.path)
        refine anyH_one 9 (by rfl) (by kernel_rfl) (by rfl) (fun K hK => ?_)
        go_simp
        refine hK _ _ ⟨T0.cell (i := 0) (u := .int .i64 x.kind) rfl, T0.cell (i := 1) (u := .bool x.flag) rfl, T0.cell (i := 2) (u := .int .i64 x.num) rfl, T0.cell (i := 3) (u := .string x.text) rfl, T0.cell (i := 4) (u := .slice Ak x.keys.length ck) rfl, T0.cell (i := 5) (u := .slice Ac x.kids.length cc) rfl⟩ ?_
        clear hK K
        try simp only [Act.put, List.setIfInBounds_toArray, List.set_cons_zero, List.set_cons_succ]
        refine anyH_done (by kernel_rfl) ?_
        clear T6 T7 T8 hC hb68 S7 k2 kf kl j0 j1 j2 jf jl q0 q1 q2 qf ql hzz hb7 hb8
        obtain ⟨w9, hw9⟩ : ∃ w9, (((w8.setCell ⟨bx, 2, none⟩ (.int .i64 i3)).setCell ⟨bf, 0, none⟩ (.int .i64 f3.code)).setCell ⟨bf, 1, none⟩ (.int .i64 f3.at_)).setCell ⟨bf, 2, none⟩ (.string f3.path) = w9 := ⟨_, rfl⟩
        rw [hw9] at T0 B1 B2 BF BX hB ⊢
        clear hw9
        have o0 := BF.cell (i := 0) (u := .int .i64 f3.code) rfl
        have o1 := BF.cell (i := 1) (u := .int .i64 f3.at_) rfl
        have o2 := BF.cell (i := 2) (u := .string f3.path) rfl
        have ol := BF.lt
        by_cases h3 : f3.code = 0
        · have hd3 : (f3.code != 0) = false := by simp [h3]
          have HR := Lib.hid (show taintInS x p = (⟨s1, s2, i3⟩, noF) by rw [HE.out]; exact if_pos h3)
          clear h3
          have r0 := BX.cell (i := 0) (u := .string s1) rfl
          have r1 := BX.cell (i := 1) (u := .string s2) rfl
          have r2 := BX.cell (i := 2) (u := .int .i64 i3) rfl
          have rl := BX.lt
          have m0 := B1.cell (i := 0) (u := .string ⟨#[]⟩) rfl
          have m1 := B1.cell (i := 1) (u := .string ⟨#[]⟩) rfl
          have m2 := B1.cell (i := 2) (u := .int .i64 0) rfl
          have n0 := B2.cell (i := 0) (u := .int .i64 0) rfl
          have n1 := B2.cell (i := 1) (u := .int .i64 0) rfl
          have n2 := B2.cell (i := 2) (u := .string ⟨#[]⟩) rfl
          have l1 := B1.lt
          have l2 := B2.lt
          have z1 := B1.fz
          have z2 := B2.fz
          have HB := Lib.hid hB
          clear hB
          go_wp2_with fail
          try dsimp only
          iterate 60 (first | go_step | skip)
          refine bodyPost_ret (v := .tuple #[.agg #[.string s1, .string s2, .int .i64 i3], .agg #[.int .i64 0, .int .i64 0, .string ⟨#[]⟩]]) (by simp [results, Try.results6, go_sem, *]) rfl ⟨by rw [HR.out]; try rfl, ?_⟩
          have hB := HB.out
          repeat (first | with_reducible exact hB | with_reducible refine ext_setCell ?_ (by dsimp only; omega) _ | with_reducible refine ext_drew ?_)
        · have hd3 : (f3.code != 0) = true := by simp [h3]
          have HR := Lib.hid (show taintInS x p = (zTaint, f3) by rw [HE.out]; exact if_neg h3)
          clear h3
          have m0 := B1.cell (i := 0) (u := .string ⟨#[]⟩) rfl
          have m1 := B1.cell (i := 1) (u := .string ⟨#[]⟩) rfl
          have m2 := B1.cell (i := 2) (u := .int .i64 0) rfl
          have n0 := B2.cell (i := 0) (u := .int .i64 0) rfl
          have n1 := B2.cell (i := 1) (u := .int .i64 0) rfl
          have n2 := B2.cell (i := 2) (u := .string ⟨#[]⟩) rfl
          have l1 := B1.lt
          have l2 := B2.lt
          have z1 := B1.fz
          have z2 := B2.fz
          have HB := Lib.hid hB
          clear hB
          go_wp2_with fail
          go_region
          all_goals
            go_wp2_with fail
            try dsimp only
            iterate 60 (first | go_step | skip)
            refine bodyPost_ret (v := .tuple #[.agg #[.string ⟨#[]⟩, .string ⟨#[]⟩, .int .i64 0], .agg #[.int .i64 f3.code, .int .i64 f3.at_, .string f3.path]]) (by simp [results, Try.results6, go_sem, *]) rfl ⟨by rw [HR.out]; try rfl, ?_⟩
            have hB := HB.out
            repeat (first | with_reducible exact hB | with_reducible refine ext_setCell ?_ (by dsimp only; omega) _ | with_reducible refine ext_drew ?_)
      · have hd3 : (g2.code != 0) = true := by simp [h3]
        have HR := Lib.hid (show taintInS x p = (zTaint, g2) by unfold taintInS; rw [H0.out, if_pos HA.out, H1.out, if_pos HA2.out, H2.out]; exact if_neg h3)
        clear h3
        have m0 := B1.cell (i := 0) (u := .string ⟨#[]⟩) rfl
        have m1 := B1.cell (i := 1) (u := .string ⟨#[]⟩) rfl
        have m2 := B1.cell (i := 2) (u := .int .i64 0) rfl
        have n0 := B2.cell (i := 0) (u := .int .i64 0) rfl
        have n1 := B2.cell (i := 1) (u := .int .i64 0) rfl
        have n2 := B2.cell (i := 2) (u := .string ⟨#[]⟩) rfl
        have l1 := B1.lt
        have l2 := B2.lt
        have z1 := B1.fz
        have z2 := B2.fz
        have HB := Lib.hid hB
        clear hB
        go_wp2_with fail
        go_region
        all_goals
          go_wp2_with fail
          try dsimp only
          iterate 60 (first | go_step | skip)
          refine bodyPost_ret (v := .tuple #[.agg #[.string ⟨#[]⟩, .string ⟨#[]⟩, .int .i64 0], .agg #[.int .i64 g2.code, .int .i64 g2.at_, .string g2.path]]) (by simp [results, Try.results6, go_sem, *]) rfl ⟨by rw [HR.out]; try rfl, ?_⟩
          have hB := HB.out
          repeat (first | with_reducible exact hB | with_reducible refine ext_setCell ?_ (by dsimp only; omega) _ | with_reducible refine ext_drew ?_)
    · have hd2 : (f1.code != 0) = true := by simp [h2]
      have HR := Lib.hid (show taintInS x p = (zTaint, f1) by unfold taintInS; rw [H0.out, if_pos HA.out, H1.out]; exact if_neg h2)
      clear h2
      have m0 := B1.cell (i := 0) (u := .string ⟨#[]⟩) rfl
      have m1 := B1.cell (i := 1) (u := .string ⟨#[]⟩) rfl
      have m2 := B1.cell (i := 2) (u := .int .i64 0) rfl
      have n0 := B2.cell (i := 0) (u := .int .i64 0) rfl
      have n1 := B2.cell (i := 1) (u := .int .i64 0) rfl
      have n2 := B2.cell (i := 2) (u := .string ⟨#[]⟩) rfl
      have l1 := B1.lt
      have l2 := B2.lt
      have z1 := B1.fz
      have z2 := B2.fz
      have HB := Lib.hid hB
      clear hB
      go_wp2_with fail
      go_region
      all_goals
        go_wp2_with fail
        try dsimp only
        iterate 60 (first | go_step | skip)
        refine bodyPost_ret (v := .tuple #[.agg #[.string ⟨#[]⟩, .string ⟨#[]⟩, .int .i64 0], .agg #[.int .i64 f1.code, .int .i64 f1.at_, .string f1.path]]) (by simp [results, Try.results6, go_sem, *]) rfl ⟨by rw [HR.out]; try rfl, ?_⟩
        have hB := HB.out
        repeat (first | with_reducible exact hB | with_reducible refine ext_setCell ?_ (by dsimp only; omega) _ | with_reducible refine ext_drew ?_)
  · have hd1 : (f0.code != 0) = true := by simp [h1]
    have HR := Lib.hid (show taintInS x p = (zTaint, f0) by unfold taintInS; rw [H0.out]; exact if_neg h1)
    clear h1
    have m0 := B1.cell (i := 0) (u := .string ⟨#[]⟩) rfl
    have m1 := B1.cell (i := 1) (u := .string ⟨#[]⟩) rfl
    have m2 := B1.cell (i := 2) (u := .int .i64 0) rfl
    have n0 := B2.cell (i := 0) (u := .int .i64 0) rfl
    have n1 := B2.cell (i := 1) (u := .int .i64 0) rfl
    have n2 := B2.cell (i := 2) (u := .string ⟨#[]⟩) rfl
    have l1 := B1.lt
    have l2 := B2.lt
    have z1 := B1.fz
    have z2 := B2.fz
    have HB := Lib.hid hB
    clear hB
    go_wp2_with fail
    go_region
    all_goals
      go_wp2_with fail
      try dsimp only
      iterate 60 (first | go_step | skip)
      refine bodyPost_ret (v := .tuple #[.agg #[.string ⟨#[]⟩, .string ⟨#[]⟩, .int .i64 0], .agg #[.int .i64 f0.code, .int .i64 f0.at_, .string f0.path]]) (by simp [results, Try.results6, go_sem, *]) rfl ⟨by rw [HR.out]; try rfl, ?_⟩
      have hB := HB.out
      repeat (first | with_reducible exact hB | with_reducible refine ext_setCell ?_ (by dsimp only; omega) _ | with_reducible refine ext_drew ?_)
end Go.Proofs.Ytffjbbamcflmbaa
