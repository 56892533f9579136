/- ToleranceIn, of the reference. No condition. -/
import Derived.Test.YtffjbbamcflmbaaTolInI
import Derived.Test.YtffjbbamcflmbaaTaintInS
import Derived.Deep.CutRange
namespace Go.Proofs.Ytffjbbamcflmbaa
open Go.ChangeShapes Go.WideShapes Go.ChangeAt Go.RowKit
set_option linter.unusedVariables false
set_option linter.unusedSimpArgs false

def tsK (x : Tree) (p : ByteArray) : ByteArray × Fault := if (kidR x sKey).isSome = true then readT x p noF sKey keyE else (⟨#[]⟩, noF)
def tsV (x : Tree) (p : ByteArray) : ByteArray × Bool × Fault := if (valueF x p).2.2.code = 0 ∧ (valueF x p).2.1 = true ∧ (tsK x p).1.size = 0 then ((valueF x p).1, (valueF x p).2.1, fl 14 (pathR p sValue)) else valueF x p
def tsE (x : Tree) (p : ByteArray) : Int × Fault := if (kidR x sEffect).isSome = true then oneF x p sEffect effWs else (0, noF)
def tolInS (x : Tree) (p : ByteArray) : Tolerance × Fault :=
  if (knownR x p [sEffect, sKey, sValue]).code = 0 then
    (if (tsK x p).2.code = 0 then
      (if (tsV x p).2.2.code = 0 then
        (if (tsE x p).2.code = 0 then (⟨(tsK x p).1, (tsV x p).2.1, (tsV x p).1, (tsE x p).1⟩, noF) else (zTol, (tsE x p).2))
      else (zTol, (tsV x p).2.2))
    else (zTol, (tsK x p).2))
  else (zTol, knownR x p [sEffect, sKey, sValue])
theorem keyE_nil : keyE ⟨#[]⟩ = true := by unfold keyE; simp [show (⟨#[]⟩ : ByteArray).size = 0 from rfl]
theorem keyE_pos {s : ByteArray} (h : 0 < s.size) : keyE s = keyR s := by unfold keyE; simp [show ¬ s.size = 0 by omega]
set_option maxRecDepth 100000 in
set_option maxHeartbeats 16000000 in
theorem ToleranceIn_spec (x : Tree) (cs : List Value) (F : List Nat) (p : ByteArray) (w : World) (h : rd w x cs F) (hw : (x.wt : Int) ≤ 1048576) (hp : (p.size : Int) ≤ 1048576) :
    Calls Try.prog 12 #[.agg cs.toArray, .string p] w fun e w' => e = .returned (.tuple #[.agg #[.string (tolInS x p).1.key, .bool (tolInS x p).1.equal, .string (tolInS x p).1.value, .int .i64 (tolInS x p).1.effect], .agg #[.int .i64 (tolInS x p).2.code, .int .i64 (tolInS x p).2.at_, .string (tolInS x p).2.path]]) ∧ Below w.heap.size w w' := by
  have HWX := Lib.hid hw
  clear hw
  have h0 := h
  obtain ⟨Ak, ck, Fk, Ac, cc, Fc, hck, hF, hkind, hnum, htext, hkeys, hkids⟩ := rd_Tree h
  subst hck
  clear hF h
  have hW0 : ∃ W, ((((w.alloc (.cells #[.int .i64 x.kind, .bool x.flag, .int .i64 x.num, .string x.text, .slice Ak x.keys.length ck, .slice Ac x.kids.length cc] 35)).alloc (.cells #[.string ⟨#[]⟩, .bool false, .string ⟨#[]⟩, .int .i64 0] 42)).alloc (.cells #[.int .i64 0, .int .i64 0, .string ⟨#[]⟩] 30)).alloc (.cells #[.string ⟨#[101, 102, 102, 101, 99, 116]⟩, .string ⟨#[107, 101, 121]⟩, .string ⟨#[118, 97, 108, 117, 101]⟩] 9)) = W ∧ Below w.heap.size w W ∧ Blk W w.heap.size [.int .i64 x.kind, .bool x.flag, .int .i64 x.num, .string x.text, .slice Ak x.keys.length ck, .slice Ac x.kids.length cc] ∧ Blk W (w.heap.size + 1) [.string ⟨#[]⟩, .bool false, .string ⟨#[]⟩, .int .i64 0] ∧ Blk W (w.heap.size + 1 + 1) [.int .i64 0, .int .i64 0, .string ⟨#[]⟩] ∧ Sl W [sEffect, sKey, sValue] (some ⟨w.heap.size + 1 + 1 + 1, 0, none⟩) 3 [w.heap.size + 1 + 1 + 1] ∧ W.heap.size = w.heap.size + 1 + 1 + 1 + 1 := by
    refine ⟨_, rfl, ext_alloc (ext_alloc (ext_alloc (ext_alloc (ext_refl _) _) _) _) _, ?_, ?_, ?_, ?_, by simp⟩
    · exact (((Blk.new w [.int .i64 x.kind, .bool x.flag, .int .i64 x.num, .string x.text, .slice Ak x.keys.length ck, .slice Ac x.kids.length cc] 35).ext (ext_alloc (ext_refl _) _)).ext (ext_alloc (ext_refl _) _)).ext (ext_alloc (ext_refl _) _)
    · have h1 := Blk.new (w.alloc (.cells #[.int .i64 x.kind, .bool x.flag, .int .i64 x.num, .string x.text, .slice Ak x.keys.length ck, .slice Ac x.kids.length cc] 35)) [.string ⟨#[]⟩, .bool false, .string ⟨#[]⟩, .int .i64 0] 42
      rw [World.size_alloc] at h1
      exact (h1.ext (ext_alloc (ext_refl _) _)).ext (ext_alloc (ext_refl _) _)
    · have h1 := Blk.new ((w.alloc (.cells #[.int .i64 x.kind, .bool x.flag, .int .i64 x.num, .string x.text, .slice Ak x.keys.length ck, .slice Ac x.kids.length cc] 35)).alloc (.cells #[.string ⟨#[]⟩, .bool false, .string ⟨#[]⟩, .int .i64 0] 42)) [.int .i64 0, .int .i64 0, .string ⟨#[]⟩] 30
      rw [World.size_alloc, World.size_alloc] at h1
      exact h1.ext (ext_alloc (ext_refl _) _)
    · have h1 := Blk.new (((w.alloc (.cells #[.int .i64 x.kind, .bool x.flag, .int .i64 x.num, .string x.text, .slice Ak x.keys.length ck, .slice Ac x.kids.length cc] 35)).alloc (.cells #[.string ⟨#[]⟩, .bool false, .string ⟨#[]⟩, .int .i64 0] 42)).alloc (.cells #[.int .i64 0, .int .i64 0, .string ⟨#[]⟩] 30)) [.string ⟨#[101, 102, 102, 101, 99, 116]⟩, .string ⟨#[107, 101, 121]⟩, .string ⟨#[118, 97, 108, 117, 101]⟩] 9
      rw [World.size_alloc, World.size_alloc, World.size_alloc] at h1
      exact Sl.strs (ss := [sEffect, sKey, sValue]) h1 (by intro s hs; simp only [List.mem_cons, List.not_mem_nil, or_false] at hs; rcases hs with rfl | rfl | rfl <;> (unfold maxLen; decide)) (by unfold maxLen; decide)
  obtain ⟨W, hW, hB, T0, B1, B2, S0, hZ⟩ := hW0
  have HW := Lib.hid hW
  clear hW
  have K0 := KnownKeys_spec x _ _ p [sEffect, sKey, sValue] _ 3 3 _ W (rd_extK h0 hB) S0 rfl HWX.out hp (by decide)
  obtain ⟨f0, e0⟩ : ∃ f, knownR x p [sEffect, sKey, sValue] = f := ⟨_, rfl⟩
  rw [e0] at K0
  have H0 := Lib.hid e0
  clear e0
  go_enter Try.func12, Try.ntmps12
  go_wp2_with fail
  rw [HW.out]
  refine K0.mono ?_
  rintro e w1 ⟨rfl, hb1⟩
  clear K0 S0 HW
  replace hB := hB.trans (hb1.mono (by omega))
  replace T0 := T0.ext hb1
  replace B1 := B1.ext hb1
  replace B2 := B2.ext hb1
  have hz1 := hb1.size
  clear hb1
  obtain ⟨bf, hbf⟩ : ∃ bf, w1.heap.size = bf := ⟨_, rfl⟩
  have BF := Blk.new w1 [.int .i64 f0.code, .int .i64 f0.at_, .string f0.path] 30
  have hA1 : Below w1.heap.size w1 (w1.alloc (.cells #[.int .i64 f0.code, .int .i64 f0.at_, .string f0.path] 30)) := ext_alloc (ext_refl _) _
  replace T0 := T0.ext hA1
  replace B1 := B1.ext hA1
  replace B2 := B2.ext hA1
  replace hB := ext_trans hB hA1
  clear hA1
  have hzA : (w1.alloc (.cells #[.int .i64 f0.code, .int .i64 f0.at_, .string f0.path] 30)).heap.size = bf + 1 := by rw [World.size_alloc, hbf]
  rw [hbf] at BF hz1
  by_cases h1 : f0.code = 0
  case neg =>
    have hd1 : (f0.code != 0) = true := by simp [h1]
    have HR := Lib.hid (show tolInS x p = (zTol, f0) by unfold tolInS; rw [H0.out]; exact if_neg h1)
    clear h1
    have m0 := B1.cell (i := 0) (u := .string ⟨#[]⟩) rfl
    have m1 := B1.cell (i := 1) (u := .bool false) rfl
    have m2 := B1.cell (i := 2) (u := .string ⟨#[]⟩) rfl
    have m3 := B1.cell (i := 3) (u := .int .i64 0) rfl
    have n0 := B2.cell (i := 0) (u := .int .i64 0) rfl
    have n1 := B2.cell (i := 1) (u := .int .i64 0) rfl
    have n2 := B2.cell (i := 2) (u := .string ⟨#[]⟩) rfl
    have l1 := B1.lt
    have l2 := B2.lt
    have z1 := B1.fz
    have z2 := B2.fz
    have e0 := BF.cell (i := 0) (u := .int .i64 f0.code) rfl
    have e1 := BF.cell (i := 1) (u := .int .i64 f0.at_) rfl
    have e2 := BF.cell (i := 2) (u := .string f0.path) rfl
    have el := BF.lt
    have HB := Lib.hid hB
    clear hB
    go_wp2_with fail
    go_region
    all_goals
      go_wp2_with fail
      try dsimp only
      iterate 80 (first | go_step | skip)
      refine bodyPost_ret (v := .tuple #[.agg #[.string ⟨#[]⟩, .bool false, .string ⟨#[]⟩, .int .i64 0], .agg #[.int .i64 f0.code, .int .i64 f0.at_, .string f0.path]]) (by simp [results, Try.results12, go_sem, *]) rfl ⟨by rw [HR.out]; try rfl, ?_⟩
      have hB := HB.out
      repeat (first | with_reducible exact hB | with_reducible refine ext_setCell ?_ (by dsimp only; omega) _ | with_reducible refine ext_drew ?_)
  have hd1 : (f0.code != 0) = false := by simp [h1]
  have HA := Lib.hid h1
  clear h1
  have BX := Blk.new (w1.alloc (.cells #[.int .i64 f0.code, .int .i64 f0.at_, .string f0.path] 30)) [.string ⟨#[]⟩, .bool false, .string ⟨#[]⟩, .int .i64 0] 42
  have hA2 : Below (w1.alloc (.cells #[.int .i64 f0.code, .int .i64 f0.at_, .string f0.path] 30)).heap.size (w1.alloc (.cells #[.int .i64 f0.code, .int .i64 f0.at_, .string f0.path] 30)) ((w1.alloc (.cells #[.int .i64 f0.code, .int .i64 f0.at_, .string f0.path] 30)).alloc (.cells #[.string ⟨#[]⟩, .bool false, .string ⟨#[]⟩, .int .i64 0] 42)) := ext_alloc (ext_refl _) _
  replace T0 := T0.ext hA2
  replace B1 := B1.ext hA2
  replace B2 := B2.ext hA2
  replace BF := BF.ext hA2
  replace hB := ext_trans hB hA2
  rw [hzA] at BX
  have t0 := T0.cell (i := 0) (u := .int .i64 x.kind) rfl
  have t1 := T0.cell (i := 1) (u := .bool x.flag) rfl
  have t2 := T0.cell (i := 2) (u := .int .i64 x.num) rfl
  have t3 := T0.cell (i := 3) (u := .string x.text) rfl
  have t4 := T0.cell (i := 4) (u := .slice Ak x.keys.length ck) rfl
  have t5 := T0.cell (i := 5) (u := .slice Ac x.kids.length cc) rfl
  have tl := T0.lt
  go_wp2_with fail
  try rw [hbf]
  clear t0 t1 t2 t3 t4 t5 tl hA2
  refine (KidOf_spec x _ _ sKey _ (rd_extK h0 hB) HWX.out).mono ?_
  rintro e w2 ⟨ds, G1, rfl, hO1, hb2⟩
  have hR1 := hO1.rd
  obtain ⟨Ak8, ck8, Fk8, Ac8, cc8, Fc8, hck, hF8, hkind8, hnum8, htext8, hkeys8, hkids8⟩ := rd_Tree hR1
  subst hck
  clear hF8 hR1 hkeys8 hkids8 hO1
  have hz2 := hb2.size
  rw [World.size_alloc, hzA] at hz2
  replace T0 := T0.ext hb2
  replace B1 := B1.ext hb2
  replace B2 := B2.ext hb2
  replace BF := BF.ext hb2
  replace BX := BX.ext hb2
  replace hB := ext_trans hB hb2
  obtain ⟨bx, hbx⟩ : ∃ bx, bf + 1 = bx := ⟨_, rfl⟩
  rw [hbx] at BX hz2 hzA
  have hbf1 : bf < bx := by omega
  try rw [hbx]
  have HBX := Lib.hid hbx
  clear hbx hb2 hzA
  obtain ⟨y8, hy8⟩ : ∃ y8, (kidR x sKey).getD Tree.zero = y8 := ⟨_, rfl⟩
  rw [hy8] at htext8 hkind8 hnum8
  try rw [hy8]
  clear hy8
  have hA3 : Below w2.heap.size w2 (w2.alloc (.cells #[.int .i64 y8.kind, .bool y8.flag, .int .i64 y8.num, .string y8.text, .slice Ak8 y8.keys.length ck8, .slice Ac8 y8.kids.length cc8] 35)) := ext_alloc (ext_refl _) _
  replace T0 := T0.ext hA3
  replace B1 := B1.ext hA3
  replace B2 := B2.ext hA3
  replace BF := BF.ext hA3
  replace BX := BX.ext hA3
  replace hB := ext_trans hB hA3
  have hz3 : bx < (w2.alloc (.cells #[.int .i64 y8.kind, .bool y8.flag, .int .i64 y8.num, .string y8.text, .slice Ak8 y8.keys.length ck8, .slice Ac8 y8.kids.length cc8] 35)).heap.size := by rw [World.size_alloc]; omega
  have hz3w := hz3
  have t0 := T0.cell (i := 0) (u := .int .i64 x.kind) rfl
  have t1 := T0.cell (i := 1) (u := .bool x.flag) rfl
  have t2 := T0.cell (i := 2) (u := .int .i64 x.num) rfl
  have t3 := T0.cell (i := 3) (u := .string x.text) rfl
  have t4 := T0.cell (i := 4) (u := .slice Ak x.keys.length ck) rfl
  have t5 := T0.cell (i := 5) (u := .slice Ac x.kids.length cc) rfl
  have tl := T0.lt
  go_upto_if 30 with fail
  clear t0 t1 t2 t3 t4 t5 tl
  obtain ⟨wq, hn⟩ : ∃ wq, (w2.alloc (.cells #[.int .i64 y8.kind, .bool y8.flag, .int .i64 y8.num, .string y8.text, .slice Ak8 y8.keys.length ck8, .slice Ac8 y8.kids.length cc8] 35)) = wq := ⟨_, rfl⟩
  rw [hn] at hB T0 B1 B2 BF BX hz3
  try rw [hn]
  clear hn hz3w
  go_cut [] from 9 to 57 (fun wc => ∃ (s1 : ByteArray) (f1 : Fault), Below w.heap.size w wc ∧ Blk wc w.heap.size [.int .i64 x.kind, .bool x.flag, .int .i64 x.num, .string x.text, .slice Ak x.keys.length ck, .slice Ac x.kids.length cc] ∧ Blk wc (w.heap.size + 1) [.string ⟨#[]⟩, .bool false, .string ⟨#[]⟩, .int .i64 0] ∧ Blk wc (w.heap.size + 1 + 1) [.int .i64 0, .int .i64 0, .string ⟨#[]⟩] ∧ Blk wc bf [.int .i64 f1.code, .int .i64 f1.at_, .string f1.path] ∧ Blk wc bx [.string s1, .bool false, .string ⟨#[]⟩, .int .i64 0] ∧ bx < wc.heap.size ∧ Hid ((tsK x p).1 = s1 ∧ (tsK x p).2.code = 0))
  case first =>
    cases hk : (kidR x sKey).isSome
    case' false =>
      have HK := Lib.hid (show (tsK x p).1 = ⟨#[]⟩ ∧ (tsK x p).2.code = 0 by have e : tsK x p = (⟨#[]⟩, noF) := by unfold tsK; rw [hk]; rfl
                                                                             rw [e]; exact ⟨rfl, rfl⟩)
      clear hk
      go_wp2_with fail
      go_meet
      exact ⟨_, _, hB, T0, B1, B2, BF, BX, hz3, HK⟩
    case' true =>
      have K1 := TextField_spec x _ _ p sKey wq (rd_extK h0 hB) HWX.out hp (by decide)
      have HSZ := Lib.hid (show ((textR x p sKey).1.size : Int) ≤ 1048576 by have := (textR_ok x p sKey).2; have := HWX.out; omega)
      obtain ⟨s1, f1, e1⟩ : ∃ s f, textR x p sKey = (s, f) := ⟨_, _, rfl⟩
      rw [e1] at K1 HSZ
      have HK := Lib.hid (show tsK x p = if f1.code = 0 ∧ keyE s1 = false then (s1, fl 14 (pathR p sKey)) else (s1, f1) by unfold tsK readT; rw [hk, if_pos rfl, if_pos (show noF.code = 0 from rfl), e1])
      clear e1 hk
      have t0 := T0.cell (i := 0) (u := .int .i64 x.kind) rfl
      have t1 := T0.cell (i := 1) (u := .bool x.flag) rfl
      have t2 := T0.cell (i := 2) (u := .int .i64 x.num) rfl
      have t3 := T0.cell (i := 3) (u := .string x.text) rfl
      have t4 := T0.cell (i := 4) (u := .slice Ak x.keys.length ck) rfl
      have t5 := T0.cell (i := 5) (u := .slice Ac x.kids.length cc) rfl
      have tl := T0.lt
      go_wp2_with fail
      clear t0 t1 t2 t3 t4 t5 tl
      refine K1.mono ?_
      rintro e w3 ⟨rfl, hb3⟩
      have hz4 := hb3.size
      replace T0 := T0.ext hb3
      replace B1 := B1.ext hb3
      replace B2 := B2.ext hb3
      replace BF := BF.ext hb3
      replace BX := BX.ext hb3
      replace hB := ext_trans hB hb3
      clear K1 hb3
      have hz5 : bx < w3.heap.size := by omega
      have k0 := BX.cell (i := 0) (u := .string ⟨#[]⟩) rfl
      have kf := BX.fz
      have kl := BX.lt
      replace hB := ext_setCell hB (p := ⟨bx, 0, none⟩) (by dsimp only; omega) (.string s1)
      replace T0 := T0.far (c := bx) (by omega) 0 (.string s1)
      replace B1 := B1.far (c := bx) (by omega) 0 (.string s1)
      replace B2 := B2.far (c := bx) (by omega) 0 (.string s1)
      replace BF := BF.far (c := bx) (by omega) 0 (.string s1)
      replace BX := BX.put 0 (.string s1)
      have j0 := BF.cell (i := 0) (u := .int .i64 f0.code) rfl
      have j1 := BF.cell (i := 1) (u := .int .i64 f0.at_) rfl
      have j2 := BF.cell (i := 2) (u := .string f0.path) rfl
      have jf := BF.fz
      have jl := BF.lt
      replace T0 := T0.far (c := bf) (by omega) 0 (.int .i64 f1.code)
      replace B1 := B1.far (c := bf) (by omega) 0 (.int .i64 f1.code)
      replace B2 := B2.far (c := bf) (by omega) 0 (.int .i64 f1.code)
      replace BX := BX.far (c := bf) (by omega) 0 (.int .i64 f1.code)
      replace BF := BF.put 0 (.int .i64 f1.code)
      replace hB := ext_setCell hB (p := ⟨bf, 0, none⟩) (by dsimp only; omega) (.int .i64 f1.code)
      replace T0 := T0.far (c := bf) (by omega) 1 (.int .i64 f1.at_)
      replace B1 := B1.far (c := bf) (by omega) 1 (.int .i64 f1.at_)
      replace B2 := B2.far (c := bf) (by omega) 1 (.int .i64 f1.at_)
      replace BX := BX.far (c := bf) (by omega) 1 (.int .i64 f1.at_)
      replace BF := BF.put 1 (.int .i64 f1.at_)
      replace hB := ext_setCell hB (p := ⟨bf, 1, none⟩) (by dsimp only; omega) (.int .i64 f1.at_)
      replace T0 := T0.far (c := bf) (by omega) 2 (.string f1.path)
      replace B1 := B1.far (c := bf) (by omega) 2 (.string f1.path)
      replace B2 := B2.far (c := bf) (by omega) 2 (.string f1.path)
      replace BX := BX.far (c := bf) (by omega) 2 (.string f1.path)
      replace BF := BF.put 2 (.string f1.path)
      replace hB := ext_setCell hB (p := ⟨bf, 2, none⟩) (by dsimp only; omega) (.string f1.path)
      replace BX : Blk _ bx [.string s1, .bool false, .string ⟨#[]⟩, .int .i64 0] := BX
      have hz6 : bx < ((((w3.setCell ⟨bx, 0, none⟩ (.string s1)).setCell ⟨bf, 0, none⟩ (.int .i64 f1.code)).setCell ⟨bf, 1, none⟩ (.int .i64 f1.at_)).setCell ⟨bf, 2, none⟩ (.string f1.path)).heap.size := by simp only [World.setCell, Array.size_modify]; exact hz5
      clear hz3 hz4 hz5
      by_cases hc : f1.code = 0
      case' neg =>
        have HKK : tsK x p = (s1, f1) := HK.out.trans (if_neg (fun hh => hc hh.1))
        have HR := Lib.hid (show tolInS x p = (zTol, f1) by unfold tolInS; rw [H0.out, if_pos HA.out, HKK]; exact if_neg hc)
        have hd4 : (f1.code == 0) = false := by simp [hc]
        have hd5 : (f1.code != 0) = true := by simp [hc]
        clear HKK hc
        have m0 := B1.cell (i := 0) (u := .string ⟨#[]⟩) rfl
        have m1 := B1.cell (i := 1) (u := .bool false) rfl
        have m2 := B1.cell (i := 2) (u := .string ⟨#[]⟩) rfl
        have m3 := B1.cell (i := 3) (u := .int .i64 0) rfl
        have n0 := B2.cell (i := 0) (u := .int .i64 0) rfl
        have n1 := B2.cell (i := 1) (u := .int .i64 0) rfl
        have n2 := B2.cell (i := 2) (u := .string ⟨#[]⟩) rfl
        have l1 := B1.lt
        have l2 := B2.lt
        have z1 := B1.fz
        have z2 := B2.fz
        have e0 := BF.cell (i := 0) (u := .int .i64 f1.code) rfl
        have e1 := BF.cell (i := 1) (u := .int .i64 f1.at_) rfl
        have e2 := BF.cell (i := 2) (u := .string f1.path) rfl
        have el := BF.lt
        have HB := Lib.hid hB
        clear hB
        go_wp2_with fail
        go_region
        all_goals
          go_wp2_with fail
          try dsimp only
          iterate 80 (first | go_step | skip)
          refine bodyPost_ret (v := .tuple #[.agg #[.string ⟨#[]⟩, .bool false, .string ⟨#[]⟩, .int .i64 0], .agg #[.int .i64 f1.code, .int .i64 f1.at_, .string f1.path]]) (by simp [results, Try.results12, go_sem, *]) rfl ⟨by rw [HR.out]; try rfl, ?_⟩
          have hB := HB.out
          repeat (first | with_reducible exact hB | with_reducible refine ext_setCell ?_ (by dsimp only; omega) _ | with_reducible refine ext_drew ?_)
      case' pos =>
        have hd4 : (f1.code == 0) = true := by simp [hc]
        have hd5 : (f1.code != 0) = false := by simp [hc]
        have y0 := BF.cell (i := 0) (u := .int .i64 f1.code) rfl
        have y1 := BF.cell (i := 1) (u := .int .i64 f1.at_) rfl
        have y2 := BF.cell (i := 2) (u := .string f1.path) rfl
        have yl := BF.lt
        have y9 := BX.cell (i := 0) (u := .string s1) rfl
        have yl2 := BX.lt
        have t0 := T0.cell (i := 0) (u := .int .i64 x.kind) rfl
        have t1 := T0.cell (i := 1) (u := .bool x.flag) rfl
        have t2 := T0.cell (i := 2) (u := .int .i64 x.num) rfl
        have t3 := T0.cell (i := 3) (u := .string x.text) rfl
        have t4 := T0.cell (i := 4) (u := .slice Ak x.keys.length ck) rfl
        have t5 := T0.cell (i := 5) (u := .slice Ac x.kids.length cc) rfl
        have tl := T0.lt
        by_cases hs : 0 < s1.size
        case' pos =>
          have hne := toList_ne hs
          have hne2 : (s1.toList != []) = true := by rw [bne, hne]; rfl
          cases hkr : keyR s1
          case' false =>
            have HKR := Lib.hid hkr
            have HKK : tsK x p = (s1, fl 14 (pathR p sKey)) := HK.out.trans (if_pos ⟨hc, by rw [keyE_pos hs]; exact hkr⟩)
            have HR := Lib.hid (show tolInS x p = (zTol, fl 14 (pathR p sKey)) by unfold tolInS; rw [H0.out, if_pos HA.out, HKK]; rfl)
            clear HKK hc hkr
            go_wp2_with (first
              | (go_at_call 35; refine (LabelKeyOk_spec s1 _ HSZ.out).mono ?_; rw [HKR.out]; rintro e w4 ⟨rfl, hb4⟩)
              | (go_at_call 37; refine (PathKey_spec p sKey _ hp (by decide)).mono ?_; rintro e w5 ⟨rfl, rfl⟩))
            replace T0 := T0.ext hb4
            replace B1 := B1.ext hb4
            replace B2 := B2.ext hb4
            replace BF := BF.ext hb4
            replace BX := BX.ext hb4
            replace hB := ext_trans hB hb4
            refine (l18Fault_any _ _ _).mono ?_
            rintro e wy ⟨rfl, hby⟩
            replace T0 := T0.ext hby
            replace B1 := B1.ext hby
            replace B2 := B2.ext hby
            replace BF := BF.ext hby
            replace BX := BX.ext hby
            replace hB := ext_trans hB hby
            clear y0 y1 y2 yl y9 yl2 t0 t1 t2 t3 t4 t5 tl k0 kf kl j0 j1 j2 jf jl
            have j0 := BF.cell (i := 0) (u := .int .i64 f1.code) rfl
            have j1 := BF.cell (i := 1) (u := .int .i64 f1.at_) rfl
            have j2 := BF.cell (i := 2) (u := .string f1.path) rfl
            have jf := BF.fz
            have jl := BF.lt
            obtain ⟨ff, hff⟩ : ∃ ff, fl 14 (pathR p sKey) = ff := ⟨_, rfl⟩
            have hf14 : Value.int .i64 14 = .int .i64 ff.code ∧ Value.int .i64 0 = .int .i64 ff.at_ ∧ Value.string (pathR p sKey) = .string ff.path := by rw [← hff]; exact ⟨rfl, rfl, rfl⟩
            rw [hf14.1, hf14.2.1, hf14.2.2]
            rw [hff] at HR
            have hd6 : (ff.code != 0) = true := by rw [← hff]; rfl
            clear hf14 hff
            replace T0 := T0.far (c := bf) (by omega) 0 (.int .i64 ff.code)
            replace B1 := B1.far (c := bf) (by omega) 0 (.int .i64 ff.code)
            replace B2 := B2.far (c := bf) (by omega) 0 (.int .i64 ff.code)
            replace BX := BX.far (c := bf) (by omega) 0 (.int .i64 ff.code)
            replace BF := BF.put 0 (.int .i64 ff.code)
            replace hB := ext_setCell hB (p := ⟨bf, 0, none⟩) (by dsimp only; omega) (.int .i64 ff.code)
            replace T0 := T0.far (c := bf) (by omega) 1 (.int .i64 ff.at_)
            replace B1 := B1.far (c := bf) (by omega) 1 (.int .i64 ff.at_)
            replace B2 := B2.far (c := bf) (by omega) 1 (.int .i64 ff.at_)
            replace BX := BX.far (c := bf) (by omega) 1 (.int .i64 ff.at_)
            replace BF := BF.put 1 (.int .i64 ff.at_)
            replace hB := ext_setCell hB (p := ⟨bf, 1, none⟩) (by dsimp only; omega) (.int .i64 ff.at_)
            replace T0 := T0.far (c := bf) (by omega) 2 (.string ff.path)
            replace B1 := B1.far (c := bf) (by omega) 2 (.string ff.path)
            replace B2 := B2.far (c := bf) (by omega) 2 (.string ff.path)
            replace BX := BX.far (c := bf) (by omega) 2 (.string ff.path)
            replace BF := BF.put 2 (.string ff.path)
            replace hB := ext_setCell hB (p := ⟨bf, 2, none⟩) (by dsimp only; omega) (.string ff.path)
            have m0 := B1.cell (i := 0) (u := .string ⟨#[]⟩) rfl
            have m1 := B1.cell (i := 1) (u := .bool false) rfl
            have m2 := B1.cell (i := 2) (u := .string ⟨#[]⟩) rfl
            have m3 := B1.cell (i := 3) (u := .int .i64 0) rfl
            have n0 := B2.cell (i := 0) (u := .int .i64 0) rfl
            have n1 := B2.cell (i := 1) (u := .int .i64 0) rfl
            have n2 := B2.cell (i := 2) (u := .string ⟨#[]⟩) rfl
            have l1 := B1.lt
            have l2 := B2.lt
            have z1 := B1.fz
            have z2 := B2.fz
            have e0 := BF.cell (i := 0) (u := .int .i64 ff.code) rfl
            have e1 := BF.cell (i := 1) (u := .int .i64 ff.at_) rfl
            have e2 := BF.cell (i := 2) (u := .string ff.path) rfl
            have el := BF.lt
            have HB := Lib.hid hB
            clear hB
            go_wp2_with fail
            go_region
            all_goals
              go_wp2_with fail
              try dsimp only
              iterate 80 (first | go_step | skip)
              refine bodyPost_ret (v := .tuple #[.agg #[.string ⟨#[]⟩, .bool false, .string ⟨#[]⟩, .int .i64 0], .agg #[.int .i64 ff.code, .int .i64 ff.at_, .string ff.path]]) (by simp [results, Try.results12, go_sem, *]) rfl ⟨by rw [HR.out]; try rfl, ?_⟩
              have hB := HB.out
              repeat (first | with_reducible exact hB | with_reducible refine ext_setCell ?_ (by dsimp only; omega) _ | with_reducible refine ext_drew ?_)
          case' true =>
            have HKR := Lib.hid hkr
            have HKK : tsK x p = (s1, f1) := HK.out.trans (if_neg (fun hh => by rw [keyE_pos hs, hkr] at hh; cases hh.2))
            have HKC := Lib.hid (show (tsK x p).1 = s1 ∧ (tsK x p).2.code = 0 from by rw [HKK]; exact ⟨rfl, hc⟩)
            clear HKK hc hkr
            go_wp2_with (go_at_call 35; refine (LabelKeyOk_spec s1 _ HSZ.out).mono ?_; rw [HKR.out]; rintro e w4 ⟨rfl, hb4⟩; have BF4 := BF.ext hb4; have T04 := T0.ext hb4; have v0 := BF4.cell (i := 0) (u := .int .i64 f1.code) rfl; have vl := BF4.lt; have u0 := T04.cell (i := 0) (u := .int .i64 x.kind) rfl; have u1 := T04.cell (i := 1) (u := .bool x.flag) rfl; have u2 := T04.cell (i := 2) (u := .int .i64 x.num) rfl; have u3 := T04.cell (i := 3) (u := .string x.text) rfl; have u4 := T04.cell (i := 4) (u := .slice Ak x.keys.length ck) rfl; have u5 := T04.cell (i := 5) (u := .slice Ac x.kids.length cc) rfl; have ul := T04.lt)
            have hz3 := Nat.lt_of_lt_of_le hz6 hb4.size
            replace T0 := T0.ext hb4
            replace B1 := B1.ext hb4
            replace B2 := B2.ext hb4
            replace BF := BF.ext hb4
            replace BX := BX.ext hb4
            replace hB := ext_trans hB hb4
            clear y0 y1 y2 yl y9 yl2 t0 t1 t2 t3 t4 t5 tl k0 kf kl j0 j1 j2 jf jl v0 vl u0 u1 u2 u3 u4 u5 ul BF4 T04 hb4 hz6 hne hne2 hs hd4 hd5 HKR HSZ HK
            go_meet
            exact ⟨_, _, hB, T0, B1, B2, BF, BX, hz3, HKC⟩
        case' neg =>
          have hse : s1 = ⟨#[]⟩ := size_zero (by omega)
          subst hse
          have HKK : tsK x p = (⟨#[]⟩, f1) := HK.out.trans (if_neg (fun hh => by rw [keyE_nil] at hh; cases hh.2))
          have HKC := Lib.hid (show (tsK x p).1 = ⟨#[]⟩ ∧ (tsK x p).2.code = 0 from by rw [HKK]; exact ⟨rfl, hc⟩)
          clear HKK hc
          go_wp2_with fail
          clear y0 y1 y2 yl y9 yl2 t0 t1 t2 t3 t4 t5 tl k0 kf kl j0 j1 j2 jf jl hs hd4 hd5 HSZ HK
          have hz3 := hz6
          go_meet
          exact ⟨_, _, hB, T0, B1, B2, BF, BX, hz3, HKC⟩
  obtain ⟨s1, f1, hB, T0, B1, B2, BF, BX, hz3, HKC⟩ := hcut
  obtain ⟨wa, hn⟩ : ∃ wa, wc = wa := ⟨_, rfl⟩
  subst hn
  have K2 := l19Value_any x _ _ p _ (rd_extK h0 hB) HWX.out hp
  obtain ⟨s2, b2, g2, e2⟩ : ∃ s b f, valueF x p = (s, b, f) := ⟨_, _, _, rfl⟩
  rw [e2] at K2
  have t0 := T0.cell (i := 0) (u := .int .i64 x.kind) rfl
  have t1 := T0.cell (i := 1) (u := .bool x.flag) rfl
  have t2 := T0.cell (i := 2) (u := .int .i64 x.num) rfl
  have t3 := T0.cell (i := 3) (u := .string x.text) rfl
  have t4 := T0.cell (i := 4) (u := .slice Ak x.keys.length ck) rfl
  have t5 := T0.cell (i := 5) (u := .slice Ac x.kids.length cc) rfl
  have tl := T0.lt
  go_wp2_with fail
  clear t0 t1 t2 t3 t4 t5 tl
  refine K2.mono ?_
  clear K2
  rintro e w5 ⟨rfl, hb5⟩
  have hz4 := Nat.lt_of_lt_of_le hz3 hb5.size
  replace T0 := T0.ext hb5
  replace B1 := B1.ext hb5
  replace B2 := B2.ext hb5
  replace BF := BF.ext hb5
  replace BX := BX.ext hb5
  replace hB := ext_trans hB hb5
  clear hb5 hz3
  have BG := Blk.new w5 [.int .i64 g2.code, .int .i64 g2.at_, .string g2.path] 30
  have hA5 : Below w5.heap.size w5 (w5.alloc (.cells #[.int .i64 g2.code, .int .i64 g2.at_, .string g2.path] 30)) := ext_alloc (ext_refl _) _
  replace T0 := T0.ext hA5
  replace B1 := B1.ext hA5
  replace B2 := B2.ext hA5
  replace BF := BF.ext hA5
  replace BX := BX.ext hA5
  replace hB := ext_trans hB hA5
  have hz6 : bx < (w5.alloc (.cells #[.int .i64 g2.code, .int .i64 g2.at_, .string g2.path] 30)).heap.size := Nat.lt_of_lt_of_le hz4 hA5.size
  clear hA5
  have H2 := Lib.hid e2
  clear e2
  go_upto_region 13 with fail
  obtain ⟨wq5, hn⟩ : ∃ wq5, w5.alloc (.cells #[.int .i64 g2.code, .int .i64 g2.at_, .string g2.path] 30) = wq5 := ⟨_, rfl⟩
  rw [hn] at hB T0 B1 B2 BF BX BG hz6
  try rw [hn]
  clear hn
  obtain ⟨bg, hbg⟩ : ∃ bg, w5.heap.size = bg := ⟨_, rfl⟩
  rw [hbg] at BG hz4
  try rw [hbg]
  have hbg1 : w.heap.size + 1 + 1 < bg := by omega
  clear hbg
  go_cut [77] from 67 to 76 (fun c wc => c = .bool (decide (g2.code = 0) && (b2 && decide (s1.size = 0))) ∧ wq5 = wc)
  case first =>
    have y9 := BX.cell (i := 0) (u := .string s1) rfl
    have yl2 := BX.lt
    have r0 := BG.cell (i := 0) (u := .int .i64 g2.code) rfl
    have rl := BG.lt
    by_cases hg : g2.code = 0
    · have HG := Lib.hid hg
      have hd4 : (g2.code == 0) = true := by simp [hg]
      clear hg
      cases b2
      · go_wp2_with fail
        go_meet
        exact ⟨by simp, rfl⟩
      · by_cases hs : 0 < s1.size
        · have HS := Lib.hid hs
          have hne := toList_ne hs
          clear hs
          go_wp2_with fail
          go_meet
          exact ⟨by have := HS.out; simp [HG.out, show ¬ s1.size = 0 by omega], rfl⟩
        · obtain rfl := size_zero (s := s1) (by omega)
          go_wp2_with fail
          go_meet
          exact ⟨by simp [HG.out, show (⟨#[]⟩ : ByteArray).size = 0 from rfl], rfl⟩
    · have HG := Lib.hid hg
      have hd4 : (g2.code == 0) = false := by simp [hg]
      clear hg
      go_wp2_with fail
      go_meet
      exact ⟨by simp [HG.out], rfl⟩
  obtain ⟨rfl, hw⟩ := hcut
  subst hw
  by_cases hG : g2.code = 0 ∧ b2 = true ∧ s1.size = 0
  case pos =>
    have HR := Lib.hid (show tolInS x p = (zTol, fl 14 (pathR p sValue)) by
      have e : tsV x p = (s2, b2, fl 14 (pathR p sValue)) := by unfold tsV; rw [H2.out, HKC.out.1]; exact if_pos hG
      unfold tolInS
      rw [H0.out, if_pos HA.out, if_pos HKC.out.2, e]; rfl)
    rw [show (decide (g2.code = 0) && (b2 && decide (s1.size = 0))) = true by simp [hG]]
    clear hG
    go_wp2_with (go_at_call 37; refine (PathKey_spec p sValue _ hp (by decide)).mono ?_; rintro e w5 ⟨rfl, rfl⟩)
    refine (l18Fault_any _ _ _).mono ?_
    rintro e wy ⟨rfl, hby⟩
    replace T0 := T0.ext hby
    replace B1 := B1.ext hby
    replace B2 := B2.ext hby
    replace BF := BF.ext hby
    replace BX := BX.ext hby
    replace BG := BG.ext hby
    replace hB := ext_trans hB hby
    have j0 := BG.cell (i := 0) (u := .int .i64 g2.code) rfl
    have j1 := BG.cell (i := 1) (u := .int .i64 g2.at_) rfl
    have j2 := BG.cell (i := 2) (u := .string g2.path) rfl
    have jf := BG.fz
    have jl := BG.lt
    obtain ⟨ff, hff⟩ : ∃ ff, fl 14 (pathR p sValue) = ff := ⟨_, rfl⟩
    have hf14 : Value.int .i64 14 = .int .i64 ff.code ∧ Value.int .i64 0 = .int .i64 ff.at_ ∧ Value.string (pathR p sValue) = .string ff.path := by rw [← hff]; exact ⟨rfl, rfl, rfl⟩
    rw [hf14.1, hf14.2.1, hf14.2.2]
    rw [hff] at HR
    have hd6 : (ff.code != 0) = true := by rw [← hff]; rfl
    clear hf14 hff
    replace B1 := B1.far (c := bg) (by omega) 0 (.int .i64 ff.code)
    replace B2 := B2.far (c := bg) (by omega) 0 (.int .i64 ff.code)
    replace BG := BG.put 0 (.int .i64 ff.code)
    replace hB := ext_setCell hB (p := ⟨bg, 0, none⟩) (by dsimp only; omega) (.int .i64 ff.code)
    replace B1 := B1.far (c := bg) (by omega) 1 (.int .i64 ff.at_)
    replace B2 := B2.far (c := bg) (by omega) 1 (.int .i64 ff.at_)
    replace BG := BG.put 1 (.int .i64 ff.at_)
    replace hB := ext_setCell hB (p := ⟨bg, 1, none⟩) (by dsimp only; omega) (.int .i64 ff.at_)
    replace B1 := B1.far (c := bg) (by omega) 2 (.string ff.path)
    replace B2 := B2.far (c := bg) (by omega) 2 (.string ff.path)
    replace BG := BG.put 2 (.string ff.path)
    replace hB := ext_setCell hB (p := ⟨bg, 2, none⟩) (by dsimp only; omega) (.string ff.path)
    have m0 := B1.cell (i := 0) (u := .string ⟨#[]⟩) rfl
    have m1 := B1.cell (i := 1) (u := .bool false) rfl
    have m2 := B1.cell (i := 2) (u := .string ⟨#[]⟩) rfl
    have m3 := B1.cell (i := 3) (u := .int .i64 0) rfl
    have n0 := B2.cell (i := 0) (u := .int .i64 0) rfl
    have n1 := B2.cell (i := 1) (u := .int .i64 0) rfl
    have n2 := B2.cell (i := 2) (u := .string ⟨#[]⟩) rfl
    have l1 := B1.lt
    have l2 := B2.lt
    have z1 := B1.fz
    have z2 := B2.fz
    have e0 := BG.cell (i := 0) (u := .int .i64 ff.code) rfl
    have e1 := BG.cell (i := 1) (u := .int .i64 ff.at_) rfl
    have e2 := BG.cell (i := 2) (u := .string ff.path) rfl
    have el := BG.lt
    have HB := Lib.hid hB
    clear hB
    go_wp2_with fail
    go_region
    all_goals
      go_wp2_with fail
      try dsimp only
      iterate 80 (first | go_step | skip)
      refine bodyPost_ret (v := .tuple #[.agg #[.string ⟨#[]⟩, .bool false, .string ⟨#[]⟩, .int .i64 0], .agg #[.int .i64 ff.code, .int .i64 ff.at_, .string ff.path]]) (by simp [results, Try.results12, go_sem, *]) rfl ⟨by rw [HR.out]; try rfl, ?_⟩
      have hB := HB.out
      repeat (first | with_reducible exact hB | with_reducible refine ext_setCell ?_ (by dsimp only; omega) _ | with_reducible refine ext_drew ?_)
  case' neg =>
    rw [show (decide (g2.code = 0) && (b2 && decide (s1.size = 0))) = false by
      cases hb : (decide (g2.code = 0) && (b2 && decide (s1.size = 0))) with
      | false => rfl
      | true => simp only [Bool.and_eq_true, decide_eq_true_eq] at hb; exact absurd ⟨hb.1, hb.2.1, hb.2.2⟩ hG]
    have HV := Lib.hid (show tsV x p = (s2, b2, g2) by unfold tsV; rw [H2.out, HKC.out.1]; exact if_neg hG)
    clear hG
    by_cases hg : g2.code = 0
    case neg =>
      have HR := Lib.hid (show tolInS x p = (zTol, g2) by
        unfold tolInS
        rw [H0.out, if_pos HA.out, if_pos HKC.out.2, HV.out]; exact if_neg hg)
      have hd5 : (g2.code != 0) = true := by simp [hg]
      clear hg
      have m0 := B1.cell (i := 0) (u := .string ⟨#[]⟩) rfl
      have m1 := B1.cell (i := 1) (u := .bool false) rfl
      have m2 := B1.cell (i := 2) (u := .string ⟨#[]⟩) rfl
      have m3 := B1.cell (i := 3) (u := .int .i64 0) rfl
      have n0 := B2.cell (i := 0) (u := .int .i64 0) rfl
      have n1 := B2.cell (i := 1) (u := .int .i64 0) rfl
      have n2 := B2.cell (i := 2) (u := .string ⟨#[]⟩) rfl
      have l1 := B1.lt
      have l2 := B2.lt
      have z1 := B1.fz
      have z2 := B2.fz
      have e0 := BG.cell (i := 0) (u := .int .i64 g2.code) rfl
      have e1 := BG.cell (i := 1) (u := .int .i64 g2.at_) rfl
      have e2 := BG.cell (i := 2) (u := .string g2.path) rfl
      have el := BG.lt
      have HB := Lib.hid hB
      clear hB
      go_wp2_with fail
      go_region
      all_goals
        go_wp2_with fail
        try dsimp only
        iterate 80 (first | go_step | skip)
        refine bodyPost_ret (v := .tuple #[.agg #[.string ⟨#[]⟩, .bool false, .string ⟨#[]⟩, .int .i64 0], .agg #[.int .i64 g2.code, .int .i64 g2.at_, .string g2.path]]) (by simp [results, Try.results12, go_sem, *]) rfl ⟨by rw [HR.out]; try rfl, ?_⟩
        have hB := HB.out
        repeat (first | with_reducible exact hB | with_reducible refine ext_setCell ?_ (by dsimp only; omega) _ | with_reducible refine ext_drew ?_)
    case' pos =>
      have hd5 : (g2.code != 0) = false := by simp [hg]
      have HVC := Lib.hid (show (tsV x p).1 = s2 ∧ (tsV x p).2.1 = b2 ∧ (tsV x p).2.2.code = 0 by rw [HV.out]; exact ⟨rfl, rfl, hg⟩)
      clear hg
      have r0 := BG.cell (i := 0) (u := .int .i64 g2.code) rfl
      have rl := BG.lt
      have o0 := BX.cell (i := 0) (u := .string s1) rfl
      have o1 := BX.cell (i := 1) (u := .bool false) rfl
      have o2 := BX.cell (i := 2) (u := .string ⟨#[]⟩) rfl
      have oz := BX.fz
      have ol := BX.lt
      replace hB := ext_setCell (ext_setCell hB (p := ⟨bx, 1, none⟩) (by dsimp only; omega) (.bool b2)) (p := ⟨bx, 2, none⟩) (by dsimp only; omega) (.string s2)
      replace T0 := (T0.far (c := bx) (by omega) 1 (.bool b2)).far (c := bx) (by omega) 2 (.string s2)
      replace B1 := (B1.far (c := bx) (by omega) 1 (.bool b2)).far (c := bx) (by omega) 2 (.string s2)
      replace B2 := (B2.far (c := bx) (by omega) 1 (.bool b2)).far (c := bx) (by omega) 2 (.string s2)
      replace BF := (BF.far (c := bx) (by omega) 1 (.bool b2)).far (c := bx) (by omega) 2 (.string s2)
      replace BX := (BX.put 1 (.bool b2)).put 2 (.string s2)
      replace BX : Blk ((wq5.setCell ⟨bx, 1, none⟩ (.bool b2)).setCell ⟨bx, 2, none⟩ (.string s2)) bx [.string s1, .bool b2, .string s2, .int .i64 0] := BX
      replace hz6 : bx < ((wq5.setCell ⟨bx, 1, none⟩ (.bool b2)).setCell ⟨bx, 2, none⟩ (.string s2)).heap.size := by simp only [World.setCell, Array.size_modify]; exact hz6
      have t0 := T0.cell (i := 0) (u := .int .i64 x.kind) rfl
      have t1 := T0.cell (i := 1) (u := .bool x.flag) rfl
      have t2 := T0.cell (i := 2) (u := .int .i64 x.num) rfl
      have t3 := T0.cell (i := 3) (u := .string x.text) rfl
      have t4 := T0.cell (i := 4) (u := .slice Ak x.keys.length ck) rfl
      have t5 := T0.cell (i := 5) (u := .slice Ac x.kids.length cc) rfl
      have tl := T0.lt
      go_wp2_with fail
      clear t0 t1 t2 t3 t4 t5 tl r0 rl o0 o1 o2 oz ol hd5
      obtain ⟨wc, hn⟩ : ∃ wc, (wq5.setCell ⟨bx, 1, none⟩ (.bool b2)).setCell ⟨bx, 2, none⟩ (.string s2) = wc := ⟨_, rfl⟩
      rw [hn] at hB T0 B1 B2 BF BX hz6
      try rw [hn]
      clear hn hz4
      obtain ⟨bb, hbb⟩ : ∃ bb, b2 = bb := ⟨_, rfl⟩
      rw [hbb] at BX HVC
      clear hbb
  all_goals
    all_goals
      refine (KidOf_spec x _ _ sEffect _ (rd_extK h0 hB) HWX.out).mono ?_
      rintro e w6 ⟨ds, G1, rfl, hO1, hb6⟩
      have hR1 := hO1.rd
      obtain ⟨Ak9, ck9, Fk9, Ac9, cc9, Fc9, hck, hF9, hkind9, hnum9, htext9, hkeys9, hkids9⟩ := rd_Tree hR1
      subst hck
      clear hF9 hR1 hkeys9 hkids9 hO1
      have hz7 := Nat.lt_of_lt_of_le hz6 hb6.size
      replace T0 := T0.ext hb6
      replace B1 := B1.ext hb6
      replace B2 := B2.ext hb6
      replace BF := BF.ext hb6
      replace BX := BX.ext hb6
      replace hB := ext_trans hB hb6
      obtain ⟨y9, hy9⟩ : ∃ y9, (kidR x sEffect).getD Tree.zero = y9 := ⟨_, rfl⟩
      rw [hy9] at htext9 hkind9 hnum9
      try rw [hy9]
      clear hy9 hb6 hz6
      have hA7 : Below w6.heap.size w6 (w6.alloc (.cells #[.int .i64 y9.kind, .bool y9.flag, .int .i64 y9.num, .string y9.text, .slice Ak9 y9.keys.length ck9, .slice Ac9 y9.kids.length cc9] 35)) := ext_alloc (ext_refl _) _
      replace T0 := T0.ext hA7
      replace B1 := B1.ext hA7
      replace B2 := B2.ext hA7
      replace BF := BF.ext hA7
      replace BX := BX.ext hA7
      replace hB := ext_trans hB hA7
      clear hA7
      cases hk : (kidR x sEffect).isSome
      case' false =>
        have HR := Lib.hid (show tolInS x p = (⟨s1, bb, s2, 0⟩, noF) by
          have e : tsE x p = (0, noF) := by unfold tsE; rw [hk]; rfl
          unfold tolInS
          rw [H0.out, if_pos HA.out, if_pos HKC.out.2, if_pos HVC.out.2.2, e, HKC.out.1, HVC.out.1, HVC.out.2.1]; rfl)
        clear hk
        have r0 := BX.cell (i := 0) (u := .string s1) rfl
        have r1 := BX.cell (i := 1) (u := .bool bb) rfl
        have r2 := BX.cell (i := 2) (u := .string s2) rfl
        have r3 := BX.cell (i := 3) (u := .int .i64 0) rfl
        have rl := BX.lt
        have m0 := B1.cell (i := 0) (u := .string ⟨#[]⟩) rfl
        have m1 := B1.cell (i := 1) (u := .bool false) rfl
        have m2 := B1.cell (i := 2) (u := .string ⟨#[]⟩) rfl
        have m3 := B1.cell (i := 3) (u := .int .i64 0) rfl
        have n0 := B2.cell (i := 0) (u := .int .i64 0) rfl
        have n1 := B2.cell (i := 1) (u := .int .i64 0) rfl
        have n2 := B2.cell (i := 2) (u := .string ⟨#[]⟩) rfl
        have l1 := B1.lt
        have l2 := B2.lt
        have z1 := B1.fz
        have z2 := B2.fz
        have HB := Lib.hid hB
        clear hB
        go_wp2_with fail
        try dsimp only
        iterate 80 (first | go_step | skip)
        refine bodyPost_ret (v := .tuple #[.agg #[.string s1, .bool bb, .string s2, .int .i64 0], .agg #[.int .i64 0, .int .i64 0, .string ⟨#[]⟩]]) (by simp [results, Try.results12, go_sem, *]) rfl ⟨by rw [HR.out]; try rfl, ?_⟩
        have hB := HB.out
        repeat (first | with_reducible exact hB | with_reducible refine ext_setCell ?_ (by dsimp only; omega) _ | with_reducible refine ext_drew ?_)
      case' true =>
        obtain ⟨i3, f3, e3⟩ : ∃ i f, oneF x p sEffect effWs = (i, f) := ⟨_, _, rfl⟩
        have HE := Lib.hid (show tolInS x p = if f3.code = 0 then (⟨s1, bb, s2, i3⟩, noF) else (zTol, f3) by
          have e : tsE x p = (i3, f3) := by unfold tsE; rw [hk, if_pos rfl]; exact e3
          unfold tolInS
          rw [H0.out, if_pos HA.out, if_pos HKC.out.2, if_pos HVC.out.2.2, e, HKC.out.1, HVC.out.1, HVC.out.2.1])
        clear hk
        go_wp2_with fail
        obtain ⟨wq6, hn⟩ : ∃ wq6, w6.alloc (.cells #[.int .i64 y9.kind, .bool y9.flag, .int .i64 y9.num, .string y9.text, .slice Ak9 y9.keys.length ck9, .slice Ac9 y9.kids.length cc9] 35) = wq6 := ⟨_, rfl⟩
        rw [hn] at hB T0 B1 B2 BF BX
        try rw [hn]
        clear hn hz7
        obtain ⟨w6, hn⟩ : ∃ w6, wq6 = w6 := ⟨_, rfl⟩
        subst hn
        have hzB : w.heap.size ≤ wq6.heap.size := hB.size
        have T6 := T0.keep (w' := wq6.drew) rfl
        refine wp_region_anyC (C := (fun w' => w'.cell? ⟨w.heap.size, 0, none⟩ = some (.int .i64 x.kind) ∧ w'.cell? ⟨w.heap.size, 1, none⟩ = some (.bool x.flag) ∧ w'.cell? ⟨w.heap.size, 2, none⟩ = some (.int .i64 x.num) ∧ w'.cell? ⟨w.heap.size, 3, none⟩ = some (.string x.text) ∧ w'.cell? ⟨w.heap.size, 4, none⟩ = some (.slice Ak x.keys.length ck) ∧ w'.cell? ⟨w.heap.size, 5, none⟩ = some (.slice Ac x.kids.length cc))) 10 (by kernel_rfl) rfl ⟨T6.cell (i := 0) (u := .int .i64 x.kind) rfl, T6.cell (i := 1) (u := .bool x.flag) rfl, T6.cell (i := 2) (u := .int .i64 x.num) rfl, T6.cell (i := 3) (u := .string x.text) rfl, T6.cell (i := 4) (u := .slice Ak x.keys.length ck) rfl, T6.cell (i := 5) (u := .slice Ac x.kids.length cc) rfl⟩ ?_
        have hC : (fun w' => w'.cell? ⟨w.heap.size, 0, none⟩ = some (.int .i64 x.kind) ∧ w'.cell? ⟨w.heap.size, 1, none⟩ = some (.bool x.flag) ∧ w'.cell? ⟨w.heap.size, 2, none⟩ = some (.int .i64 x.num) ∧ w'.cell? ⟨w.heap.size, 3, none⟩ = some (.string x.text) ∧ w'.cell? ⟨w.heap.size, 4, none⟩ = some (.slice Ak x.keys.length ck) ∧ w'.cell? ⟨w.heap.size, 5, none⟩ = some (.slice Ac x.kids.length cc)) wq6.drew := ⟨T6.cell (i := 0) (u := .int .i64 x.kind) rfl, T6.cell (i := 1) (u := .bool x.flag) rfl, T6.cell (i := 2) (u := .int .i64 x.num) rfl, T6.cell (i := 3) (u := .string x.text) rfl, T6.cell (i := 4) (u := .slice Ak x.keys.length ck) rfl, T6.cell (i := 5) (u := .slice Ac x.kids.length cc) rfl⟩
        refine anyH_take 0 _ (by rfl) (by kernel_rfl) (fun _ _ d _ _ h => by cases d <;> exact h) hC (Or.inl ⟨rfl, fun wq hq => by
          obtain ⟨y0, y1, y2, y3, y4, y5⟩ := hq
          go_simp
          try rfl⟩) ?_
        simp only [Act.put, List.setIfInBounds_toArray, List.set_cons_zero, List.set_cons_succ]
        refine anyH_take 1 _ (by rfl) (by kernel_rfl) (fun _ _ d _ _ h => by cases d <;> exact h) hC (Or.inl ⟨rfl, fun wq hq => by
          obtain ⟨y0, y1, y2, y3, y4, y5⟩ := hq
          go_simp
          try rfl⟩) ?_
        simp only [Act.put, List.setIfInBounds_toArray, List.set_cons_zero, List.set_cons_succ]
        refine anyH_one 2 (by rfl) (by kernel_rfl) (by rfl) (fun K hK => ?_)
        go_simp
        refine (l19Effects_any wq6.drew).mono ?_
        rintro e w7 ⟨rfl, hw7⟩
        have hb7 : Below wq6.drew.heap.size wq6.drew w7 := by rw [hw7]; exact ext_alloc (ext_refl _) _
        have S7 : Sl w7 effWs (some ⟨wq6.heap.size, 0, none⟩) 3 [wq6.heap.size] := by rw [hw7]; exact Sl.strs (ss := effWs) (Blk.new wq6.drew [.string ⟨#[]⟩, .string ⟨#[110, 101, 118, 101, 114]⟩, .string ⟨#[115, 111, 102, 116]⟩] 9) (by intro s hs; simp only [effWs, List.mem_cons, List.not_mem_nil, or_false] at hs; rcases hs with rfl | rfl | rfl <;> (unfold maxLen; decide)) (by unfold maxLen; decide)
        clear hw7
        have T7 := T6.ext hb7
        replace hC : (fun w' => w'.cell? ⟨w.heap.size, 0, none⟩ = some (.int .i64 x.kind) ∧ w'.cell? ⟨w.heap.size, 1, none⟩ = some (.bool x.flag) ∧ w'.cell? ⟨w.heap.size, 2, none⟩ = some (.int .i64 x.num) ∧ w'.cell? ⟨w.heap.size, 3, none⟩ = some (.string x.text) ∧ w'.cell? ⟨w.heap.size, 4, none⟩ = some (.slice Ak x.keys.length ck) ∧ w'.cell? ⟨w.heap.size, 5, none⟩ = some (.slice Ac x.kids.length cc)) w7 := ⟨T7.cell (i := 0) (u := .int .i64 x.kind) rfl, T7.cell (i := 1) (u := .bool x.flag) rfl, T7.cell (i := 2) (u := .int .i64 x.num) rfl, T7.cell (i := 3) (u := .string x.text) rfl, T7.cell (i := 4) (u := .slice Ak x.keys.length ck) rfl, T7.cell (i := 5) (u := .slice Ac x.kids.length cc) rfl⟩
        refine hK _ _ hC ?_
        try simp only [Act.put, List.setIfInBounds_toArray, List.set_cons_zero, List.set_cons_succ]
        clear hK K
        refine anyH_one 3 (by rfl) (by kernel_rfl) (by rfl) (fun K hK => ?_)
        go_simp
        refine (l19One_any x _ _ p sEffect effWs _ 3 3 _ w7 (rd_extK h0 (ext_trans (ext_drew hB) hb7)) S7 rfl HWX.out hp (by decide) (by decide) (by decide)).mono ?_
        rw [e3]
        rintro e w8 ⟨rfl, hb8⟩
        dsimp only
        have hb68 : Below wq6.heap.size wq6 w8 := ext_trans (ext_trans (ext_drew (ext_refl wq6)) hb7) hb8
        have T8 := T7.ext hb8
        replace hC : (fun w' => w'.cell? ⟨w.heap.size, 0, none⟩ = some (.int .i64 x.kind) ∧ w'.cell? ⟨w.heap.size, 1, none⟩ = some (.bool x.flag) ∧ w'.cell? ⟨w.heap.size, 2, none⟩ = some (.int .i64 x.num) ∧ w'.cell? ⟨w.heap.size, 3, none⟩ = some (.string x.text) ∧ w'.cell? ⟨w.heap.size, 4, none⟩ = some (.slice Ak x.keys.length ck) ∧ w'.cell? ⟨w.heap.size, 5, none⟩ = some (.slice Ac x.kids.length cc)) w8 := ⟨T8.cell (i := 0) (u := .int .i64 x.kind) rfl, T8.cell (i := 1) (u := .bool x.flag) rfl, T8.cell (i := 2) (u := .int .i64 x.num) rfl, T8.cell (i := 3) (u := .string x.text) rfl, T8.cell (i := 4) (u := .slice Ak x.keys.length ck) rfl, T8.cell (i := 5) (u := .slice Ac x.kids.length cc) rfl⟩
        refine hK _ _ hC ?_
        try simp only [Act.put, List.setIfInBounds_toArray, List.set_cons_zero, List.set_cons_succ]
        clear hK K
        refine anyH_one 4 (by rfl) (by kernel_rfl) (by rfl) (fun K hK => ?_)
        go_simp
        refine hK _ _ hC ?_
        try simp only [Act.put, List.setIfInBounds_toArray, List.set_cons_zero, List.set_cons_succ]
        clear hK K
        refine anyH_take 5 _ (by rfl) (by kernel_rfl) (fun _ _ d _ _ h => by cases d <;> exact h) hC (Or.inl ⟨rfl, fun wq hq => by
          obtain ⟨y0, y1, y2, y3, y4, y5⟩ := hq
          go_simp
          try rfl⟩) ?_
        simp only [Act.put, List.setIfInBounds_toArray, List.set_cons_zero, List.set_cons_succ]
        refine anyH_take 6 _ (by rfl) (by kernel_rfl) (fun _ _ d _ _ h => by cases d <;> exact h) hC (Or.inl ⟨rfl, fun wq hq => by
          obtain ⟨y0, y1, y2, y3, y4, y5⟩ := hq
          go_simp
          try rfl⟩) ?_
        simp only [Act.put, List.setIfInBounds_toArray, List.set_cons_zero, List.set_cons_succ]
        refine anyH_take 7 _ (by rfl) (by kernel_rfl) (fun _ _ d _ _ h => by cases d <;> exact h) hC (Or.inl ⟨rfl, fun wq hq => by
          obtain ⟨y0, y1, y2, y3, y4, y5⟩ := hq
          go_simp
          try rfl⟩) ?_
        simp only [Act.put, List.setIfInBounds_toArray, List.set_cons_zero, List.set_cons_succ]
        replace hB := hB.trans (hb68.mono hzB)
        replace T0 := T0.ext hb68
        replace B1 := B1.ext hb68
        replace B2 := B2.ext hb68
        replace BF := BF.ext hb68
        replace BX := BX.ext hb68
        have k2 := BX.cell (i := 3) (u := .int .i64 0) rfl
        have kf := BX.fz
        have kl := BX.lt
        have j0 := BF.cell (i := 0) (u := .int .i64 f1.code) rfl
        have j1 := BF.cell (i := 1) (u := .int .i64 f1.at_) rfl
        have j2 := BF.cell (i := 2) (u := .string f1.path) rfl
        have jf := BF.fz
        have jl := BF.lt
        have hzz := hb68.size
        refine anyH_one 8 (by rfl) (by kernel_rfl) (by rfl) (fun K hK => ?_)
        go_simp
        refine hK _ _ ?_ ?_
        · exact ⟨(T0.far (c := bx) (by omega) 3 (.int .i64 i3)).cell (i := 0) (u := .int .i64 x.kind) rfl, (T0.far (c := bx) (by omega) 3 (.int .i64 i3)).cell (i := 1) (u := .bool x.flag) rfl, (T0.far (c := bx) (by omega) 3 (.int .i64 i3)).cell (i := 2) (u := .int .i64 x.num) rfl, (T0.far (c := bx) (by omega) 3 (.int .i64 i3)).cell (i := 3) (u := .string x.text) rfl, (T0.far (c := bx) (by omega) 3 (.int .i64 i3)).cell (i := 4) (u := .slice Ak x.keys.length ck) rfl, (T0.far (c := bx) (by omega) 3 (.int .i64 i3)).cell (i := 5) (u := .slice Ac x.kids.length cc) rfl⟩
        clear hK K
        try simp only [Act.put, List.setIfInBounds_toArray, List.set_cons_zero, List.set_cons_succ]
        replace T0 := T0.far (c := bx) (by omega) 3 (.int .i64 i3)
        replace B1 := B1.far (c := bx) (by omega) 3 (.int .i64 i3)
        replace B2 := B2.far (c := bx) (by omega) 3 (.int .i64 i3)
        replace BF := BF.far (c := bx) (by omega) 3 (.int .i64 i3)
        replace BX := BX.put 3 (.int .i64 i3)
        replace hB := ext_setCell hB (p := ⟨bx, 3, none⟩) (by dsimp only; omega) (.int .i64 i3)
        have q0 := BF.cell (i := 0) (u := .int .i64 f1.code) rfl
        have q1 := BF.cell (i := 1) (u := .int .i64 f1.at_) rfl
        have q2 := BF.cell (i := 2) (u := .string f1.path) rfl
        have qf := BF.fz
        have ql := BF.lt
        replace T0 := T0.far (c := bf) (by omega) 0 (.int .i64 f3.code)
        replace B1 := B1.far (c := bf) (by omega) 0 (.int .i64 f3.code)
        replace B2 := B2.far (c := bf) (by omega) 0 (.int .i64 f3.code)
        replace BX := BX.far (c := bf) (by omega) 0 (.int .i64 f3.code)
        replace BF := BF.put 0 (.int .i64 f3.code)
        replace hB := ext_setCell hB (p := ⟨bf, 0, none⟩) (by dsimp only; omega) (.int .i64 f3.code)
        replace T0 := T0.far (c := bf) (by omega) 1 (.int .i64 f3.at_)
        replace B1 := B1.far (c := bf) (by omega) 1 (.int .i64 f3.at_)
        replace B2 := B2.far (c := bf) (by omega) 1 (.int .i64 f3.at_)
        replace BX := BX.far (c := bf) (by omega) 1 (.int .i64 f3.at_)
        replace BF := BF.put 1 (.int .i64 f3.at_)
        replace hB := ext_setCell hB (p := ⟨bf, 1, none⟩) (by dsimp only; omega) (.int .i64 f3.at_)
        replace T0 := T0.far (c := bf) (by omega) 2 (.string f3.path)
        replace B1 := B1.far (c := bf) (by omega) 2 (.string f3.path)
        replace B2 := B2.far (c := bf) (by omega) 2 (.string f3.path)
        replace BX := BX.far (c := bf) (by omega) 2 (.string f3.path)
        replace BF := BF.put 2 (.string f3.path)
        replace hB := ext_setCell hB (p := ⟨bf, 2, none⟩) (by dsimp only; omega) (.string f3.path)
        refine anyH_one 9 (by rfl) (by kernel_rfl) (by rfl) (fun K hK => ?_)
        go_simp
        refine hK _ _ ⟨T0.cell (i := 0) (u := .int .i64 x.kind) rfl, T0.cell (i := 1) (u := .bool x.flag) rfl, T0.cell (i := 2) (u := .int .i64 x.num) rfl, T0.cell (i := 3) (u := .string x.text) rfl, T0.cell (i := 4) (u := .slice Ak x.keys.length ck) rfl, T0.cell (i := 5) (u := .slice Ac x.kids.length cc) rfl⟩ ?_
        clear hK K
        try simp only [Act.put, List.setIfInBounds_toArray, List.set_cons_zero, List.set_cons_succ]
        refine anyH_done (by kernel_rfl) ?_
        clear T6 T7 T8 hC hb68 S7 k2 kf kl j0 j1 j2 jf jl q0 q1 q2 qf ql hzz hb7 hb8
        obtain ⟨w9, hw9⟩ : ∃ w9, (((w8.setCell ⟨bx, 3, none⟩ (.int .i64 i3)).setCell ⟨bf, 0, none⟩ (.int .i64 f3.code)).setCell ⟨bf, 1, none⟩ (.int .i64 f3.at_)).setCell ⟨bf, 2, none⟩ (.string f3.path) = w9 := ⟨_, rfl⟩
        rw [hw9] at T0 B1 B2 BF BX hB ⊢
        clear hw9
        have o0 := BF.cell (i := 0) (u := .int .i64 f3.code) rfl
        have o1 := BF.cell (i := 1) (u := .int .i64 f3.at_) rfl
        have o2 := BF.cell (i := 2) (u := .string f3.path) rfl
        have ol := BF.lt
        replace BX : Blk _ bx [.string s1, .bool bb, .string s2, .int .i64 i3] := BX
        by_cases h3 : f3.code = 0
        · have hd3 : (f3.code != 0) = false := by simp [h3]
          have HR := Lib.hid (show tolInS x p = (⟨s1, bb, s2, i3⟩, noF) by rw [HE.out]; exact if_pos h3)
          clear h3
          have r0 := BX.cell (i := 0) (u := .string s1) rfl
          have r1 := BX.cell (i := 1) (u := .bool bb) rfl
          have r2 := BX.cell (i := 2) (u := .string s2) rfl
          have r3 := BX.cell (i := 3) (u := .int .i64 i3) rfl
          have rl := BX.lt
          have m0 := B1.cell (i := 0) (u := .string ⟨#[]⟩) rfl
          have m1 := B1.cell (i := 1) (u := .bool false) rfl
          have m2 := B1.cell (i := 2) (u := .string ⟨#[]⟩) rfl
          have m3 := B1.cell (i := 3) (u := .int .i64 0) rfl
          have n0 := B2.cell (i := 0) (u := .int .i64 0) rfl
          have n1 := B2.cell (i := 1) (u := .int .i64 0) rfl
          have n2 := B2.cell (i := 2) (u := .string ⟨#[]⟩) rfl
          have l1 := B1.lt
          have l2 := B2.lt
          have z1 := B1.fz
          have z2 := B2.fz
          have HB := Lib.hid hB
          clear hB
          go_wp2_with fail
          try dsimp only
          iterate 80 (first | go_step | skip)
          refine bodyPost_ret (v := .tuple #[.agg #[.string s1, .bool bb, .string s2, .int .i64 i3], .agg #[.int .i64 0, .int .i64 0, .string ⟨#[]⟩]]) (by simp [results, Try.results12, go_sem, *]) rfl ⟨by rw [HR.out]; try rfl, ?_⟩
          have hB := HB.out
          repeat (first | with_reducible exact hB | with_reducible refine ext_setCell ?_ (by dsimp only; omega) _ | with_reducible refine ext_drew ?_)
        · have hd3 : (f3.code != 0) = true := by simp [h3]
          have HR := Lib.hid (show tolInS x p = (zTol, f3) by rw [HE.out]; exact if_neg h3)
          clear h3
          have m0 := B1.cell (i := 0) (u := .string ⟨#[]⟩) rfl
          have m1 := B1.cell (i := 1) (u := .bool false) rfl
          have m2 := B1.cell (i := 2) (u := .string ⟨#[]⟩) rfl
          have m3 := B1.cell (i := 3) (u := .int .i64 0) rfl
          have n0 := B2.cell (i := 0) (u := .int .i64 0) rfl
          have n1 := B2.cell (i := 1) (u := .int .i64 0) rfl
          have n2 := B2.cell (i := 2) (u := .string ⟨#[]⟩) rfl
          have l1 := B1.lt
          have l2 := B2.lt
          have z1 := B1.fz
          have z2 := B2.fz
          have e0 := BF.cell (i := 0) (u := .int .i64 f3.code) rfl
          have e1 := BF.cell (i := 1) (u := .int .i64 f3.at_) rfl
          have e2 := BF.cell (i := 2) (u := .string f3.path) rfl
          have el := BF.lt
          have HB := Lib.hid hB
          clear hB
          go_wp2_with fail
          go_region
          all_goals
            go_wp2_with fail
            try dsimp only
            iterate 80 (first | go_step | skip)
            refine bodyPost_ret (v := .tuple #[.agg #[.string ⟨#[]⟩, .bool false, .string ⟨#[]⟩, .int .i64 0], .agg #[.int .i64 f3.code, .int .i64 f3.at_, .string f3.path]]) (by simp [results, Try.results12, go_sem, *]) rfl ⟨by rw [HR.out]; try rfl, ?_⟩
            have hB := HB.out
            repeat (first | with_reducible exact hB | with_reducible refine ext_setCell ?_ (by dsimp only; omega) _ | with_reducible refine ext_drew ?_)
end Go.Proofs.Ytffjbbamcflmbaa
