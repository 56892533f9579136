/- ToleranceIn, of the program. No condition. -/
import Derived.Test.YtffjbbamcflmbaaTaintInI
namespace Go.Proofs.Ytffjbbamcflmbaa
open Go.ChangeShapes Go.WideShapes Go.ChangeAt Go.RowKit
set_option linter.unusedVariables false
set_option linter.unusedSimpArgs false

def zTol : Tolerance := ⟨⟨#[]⟩, false, ⟨#[]⟩, 0⟩
def keyE (s : ByteArray) : Bool := decide (s.size = 0) || keyR s
def valE (k s : ByteArray) : Bool := decide (k.size ≠ 0) && valR s
def tlK (x : Tree) (p : ByteArray) : ByteArray × Fault := if (kidR x sKey).isSome = true then readT x p (knownR x p [sEffect, sKey, sValue]) sKey keyE else (⟨#[]⟩, knownR x p [sEffect, sKey, sValue])
def tlV (x : Tree) (p : ByteArray) : ByteArray × Fault := if (kidR x sValue).isSome = true then readT x p (tlK x p).2 sValue (valE (tlK x p).1) else (⟨#[]⟩, (tlK x p).2)
def tlE (x : Tree) (p : ByteArray) : ByteArray × Fault := if (kidR x sEffect).isSome = true then readT x p (tlV x p).2 sEffect effB else (⟨#[]⟩, (tlV x p).2)
def tolInR (x : Tree) (p : ByteArray) : Tolerance × Fault := if (tlE x p).2.code = 0 then (⟨(tlK x p).1, (kidR x sValue).isSome, (tlV x p).1, effR (tlE x p).1⟩, noF) else (zTol, (tlE x p).2)
theorem Tol1_any (s : ByteArray) (w : World) (hs : (s.size : Int) ≤ 1048576) : Calls Try.prog 38 #[.string s] w fun e w' => e = .returned (.bool (keyE s)) ∧ Below w.heap.size w w' := by
  by_cases h0 : 0 < s.size
  · have hne := toList_ne h0
    have HK := Lib.hid (show keyE s = keyR s by unfold keyE; simp [show ¬ s.size = 0 by omega])
    have hL := LabelKeyOk_impl s w hs
    generalize keyR s = r at *
    go_enter Try.func38, Try.ntmps38
    go_wp2_with fail
    refine hL.mono ?_
    rintro e w1 ⟨rfl, hb⟩
    go_wp2
    go_ret
    exact ⟨by rw [HK.out]; try rfl, hb⟩
  · obtain rfl := size_zero (s := s) (by omega)
    have HK := Lib.hid (show keyE ⟨#[]⟩ = true by unfold keyE; simp [show (⟨#[]⟩ : ByteArray).size = 0 from rfl])
    go_enter Try.func38, Try.ntmps38
    go_wp2
    go_ret
    exact ⟨by rw [HK.out]; try rfl, ext_refl _⟩
theorem Tol2_any (s k : ByteArray) (q : Nat) (w : World) (hs : (s.size : Int) ≤ 1048576) (hq : w.cell? ⟨q, 0, none⟩ = some (.string k)) (hl : q < w.heap.size) : Calls Try.prog 39 #[.string s, .pointer (some ⟨q, 0, none⟩)] w fun e w' => e = .returned (.bool (valE k s)) ∧ Below w.heap.size w w' := by
  by_cases h0 : 0 < k.size
  · have hne := toList_ne h0
    have hne2 : (k.toList != []) = true := by rw [bne, hne]; rfl
    have HK := Lib.hid (show valE k s = valR s by unfold valE; simp [show ¬ k.size = 0 by omega])
    have hL := LabelValueOk_impl s w hs
    generalize valR s = r at *
    go_enter Try.func39, Try.ntmps39
    go_wp2_with fail
    refine hL.mono ?_
    rintro e w1 ⟨rfl, hb⟩
    go_wp2
    go_ret
    exact ⟨by rw [HK.out]; try rfl, hb⟩
  · obtain rfl := size_zero (s := k) (by omega)
    have HK := Lib.hid (show valE ⟨#[]⟩ s = false by unfold valE; simp [show (⟨#[]⟩ : ByteArray).size = 0 from rfl])
    go_enter Try.func39, Try.ntmps39
    go_wp2
    go_ret
    exact ⟨by rw [HK.out]; try rfl, ext_refl _⟩

theorem effR_empty : effR ⟨#[]⟩ = 0 := by
  unfold effR
  rw [never_l, soft_l, ByteArray.toList_eq]
  rfl
set_option maxRecDepth 100000 in
set_option maxHeartbeats 8000000 in
theorem ToleranceIn_impl (x : Tree) (cs : List Value) (F : List Nat) (p : ByteArray) (w : World) (h : rd w x cs F) (hw : (x.wt : Int) ≤ 1048576) (hp : (p.size : Int) ≤ 1048576) :
    Calls Try.prog 13 #[.agg cs.toArray, .string p] w fun e w' => e = .returned (.tuple #[.agg #[.string (tolInR x p).1.key, .bool (tolInR x p).1.equal, .string (tolInR x p).1.value, .int .i64 (tolInR x p).1.effect], .agg #[.int .i64 (tolInR x p).2.code, .int .i64 (tolInR x p).2.at_, .string (tolInR x p).2.path]]) ∧ Below w.heap.size w w' := by
  have HWX := Lib.hid hw
  clear hw
  have h0 := h
  obtain ⟨Ak, ck, Fk, Ac, cc, Fc, hck, hF, hkind, hnum, htext, hkeys, hkids⟩ := rd_Tree h
  subst hck
  clear hF h
  have hW0 : ∃ W, (((((w.alloc (.cells #[.int .i64 x.kind, .bool x.flag, .int .i64 x.num, .string x.text, .slice Ak x.keys.length ck, .slice Ac x.kids.length cc] 35)).alloc (.cells #[.string ⟨#[]⟩, .bool false, .string ⟨#[]⟩, .int .i64 0] 42)).alloc (.cells #[.int .i64 0, .int .i64 0, .string ⟨#[]⟩] 30)).alloc (.cells #[.int .i64 x.kind, .bool x.flag, .int .i64 x.num, .string x.text, .slice Ak x.keys.length ck, .slice Ac x.kids.length cc, .string p, .int .i64 0, .int .i64 0, .string ⟨#[]⟩] 59)).alloc (.cells #[.string ⟨#[101, 102, 102, 101, 99, 116]⟩, .string ⟨#[107, 101, 121]⟩, .string ⟨#[118, 97, 108, 117, 101]⟩] 9)) = W ∧ Below w.heap.size w W ∧ Blk W (w.heap.size + 1) [.string ⟨#[]⟩, .bool false, .string ⟨#[]⟩, .int .i64 0] ∧ Blk W (w.heap.size + 1 + 1) [.int .i64 0, .int .i64 0, .string ⟨#[]⟩] ∧ RS W (w.heap.size + 1 + 1 + 1) x Ak Ac ck cc F p noF ∧ Sl W [sEffect, sKey, sValue] (some ⟨w.heap.size + 1 + 1 + 1 + 1, 0, none⟩) 3 [w.heap.size + 1 + 1 + 1 + 1] ∧ W.heap.size = w.heap.size + 1 + 1 + 1 + 1 + 1 := by
    refine ⟨_, rfl, ext_alloc (ext_alloc (ext_alloc (ext_alloc (ext_alloc (ext_refl _) _) _) _) _) _, ?_, ?_, ⟨?_, ?_, ?_, noF_ok _⟩, ?_, by simp⟩
    · have h1 := Blk.new (w.alloc (.cells #[.int .i64 x.kind, .bool x.flag, .int .i64 x.num, .string x.text, .slice Ak x.keys.length ck, .slice Ac x.kids.length cc] 35)) [.string ⟨#[]⟩, .bool false, .string ⟨#[]⟩, .int .i64 0] 42
      rw [World.size_alloc] at h1
      exact ((h1.ext (ext_alloc (ext_refl _) _)).ext (ext_alloc (ext_refl _) _)).ext (ext_alloc (ext_refl _) _)
    · have h1 := Blk.new ((w.alloc (.cells #[.int .i64 x.kind, .bool x.flag, .int .i64 x.num, .string x.text, .slice Ak x.keys.length ck, .slice Ac x.kids.length cc] 35)).alloc (.cells #[.string ⟨#[]⟩, .bool false, .string ⟨#[]⟩, .int .i64 0] 42)) [.int .i64 0, .int .i64 0, .string ⟨#[]⟩] 30
      rw [World.size_alloc, World.size_alloc] at h1
      exact (h1.ext (ext_alloc (ext_refl _) _)).ext (ext_alloc (ext_refl _) _)
    · have h1 := Blk.new (((w.alloc (.cells #[.int .i64 x.kind, .bool x.flag, .int .i64 x.num, .string x.text, .slice Ak x.keys.length ck, .slice Ac x.kids.length cc] 35)).alloc (.cells #[.string ⟨#[]⟩, .bool false, .string ⟨#[]⟩, .int .i64 0] 42)).alloc (.cells #[.int .i64 0, .int .i64 0, .string ⟨#[]⟩] 30)) [.int .i64 x.kind, .bool x.flag, .int .i64 x.num, .string x.text, .slice Ak x.keys.length ck, .slice Ac x.kids.length cc, .string p, .int .i64 noF.code, .int .i64 noF.at_, .string noF.path] 59
      rw [World.size_alloc, World.size_alloc, World.size_alloc] at h1
      exact h1.ext (ext_alloc (ext_refl _) _)
    · exact rd_extK h0 (ext_alloc (ext_alloc (ext_alloc (ext_alloc (ext_alloc (ext_refl _) _) _) _) _) _)
    · intro hm
      have := Dat.lt h0 _ hm
      omega
    · have h1 := Blk.new ((((w.alloc (.cells #[.int .i64 x.kind, .bool x.flag, .int .i64 x.num, .string x.text, .slice Ak x.keys.length ck, .slice Ac x.kids.length cc] 35)).alloc (.cells #[.string ⟨#[]⟩, .bool false, .string ⟨#[]⟩, .int .i64 0] 42)).alloc (.cells #[.int .i64 0, .int .i64 0, .string ⟨#[]⟩] 30)).alloc (.cells #[.int .i64 x.kind, .bool x.flag, .int .i64 x.num, .string x.text, .slice Ak x.keys.length ck, .slice Ac x.kids.length cc, .string p, .int .i64 0, .int .i64 0, .string ⟨#[]⟩] 59)) [.string ⟨#[101, 102, 102, 101, 99, 116]⟩, .string ⟨#[107, 101, 121]⟩, .string ⟨#[118, 97, 108, 117, 101]⟩] 9
      rw [World.size_alloc, World.size_alloc, World.size_alloc, World.size_alloc] at h1
      exact Sl.strs (ss := [sEffect, sKey, sValue]) h1 (by intro s hs; simp only [List.mem_cons, List.not_mem_nil, or_false] at hs; rcases hs with rfl | rfl | rfl <;> (unfold maxLen; decide)) (by unfold maxLen; decide)
  obtain ⟨W, hW, hB, B1, B2, R0, S0, hZ⟩ := hW0
  have HW := Lib.hid hW
  clear hW
  go_enter Try.func13, Try.ntmps13
  go_wp2_with fail
  rw [HW.out]
  refine (known_any (w.heap.size + 1 + 1 + 1) x Ak Ac ck cc F p noF [sEffect, sKey, sValue] _ 3 3 _ W R0 S0 rfl HWX.out hp (by decide)).mono ?_
  obtain ⟨f0, e0⟩ : ∃ f, knownR x p [sEffect, sKey, sValue] = f := ⟨_, rfl⟩
  rw [e0]
  have H0 := Lib.hid e0
  clear e0
  rintro e w1 ⟨rfl, R1, hU1⟩
  have hUB1 : Below w.heap.size W w1 := hU1.below (fun b hb => by simp at hb; omega) (by omega)
  replace hB := hB.trans hUB1
  replace B1 := B1.keep (hU1.block _ (by have := B1.lt; omega) (by simp))
  replace B2 := B2.keep (hU1.block _ (by have := B2.lt; omega) (by simp))
  have hZ1 := hU1.size
  clear S0 R0 HW
  have HFL := Lib.hid (show ∀ b ∈ F, b < w.heap.size from fun b hb => Dat.lt h0 b hb)
  have RR := R1.ext (ext_alloc (ext_refl w1) (.cells #[.string ⟨#[]⟩, .bool false, .string ⟨#[]⟩, .int .i64 0] 42))
  replace hB := ext_alloc hB (.cells #[.string ⟨#[]⟩, .bool false, .string ⟨#[]⟩, .int .i64 0] 42)
  replace B1 := B1.ext (ext_alloc (ext_refl w1) (.cells #[.string ⟨#[]⟩, .bool false, .string ⟨#[]⟩, .int .i64 0] 42))
  replace B2 := B2.ext (ext_alloc (ext_refl w1) (.cells #[.string ⟨#[]⟩, .bool false, .string ⟨#[]⟩, .int .i64 0] 42))
  have BX := Blk.new w1 [.string ⟨#[]⟩, .bool false, .string ⟨#[]⟩, .int .i64 0] 42
  obtain ⟨bx, hbx⟩ : ∃ bx, w1.heap.size = bx := ⟨_, rfl⟩
  have hWX : bx < (w1.alloc (.cells #[.string ⟨#[]⟩, .bool false, .string ⟨#[]⟩, .int .i64 0] 42)).heap.size := by rw [World.size_alloc]; omega
  have hWZ : w.heap.size ≤ (w1.alloc (.cells #[.string ⟨#[]⟩, .bool false, .string ⟨#[]⟩, .int .i64 0] 42)).heap.size := by rw [World.size_alloc]; omega
  have hbx5 : w.heap.size + 1 + 1 + 1 < bx := by omega
  rw [hbx] at BX
  have HBX := Lib.hid hbx
  clear hU1 R1 hbx hZ1 hZ
  go_wp2_with fail
  rw [HBX.out]
  refine (has_any (w.heap.size + 1 + 1 + 1) x Ak Ac ck cc F p f0 sKey _ RR HWX.out).mono ?_
  rintro e wa ⟨rfl, hbn⟩
  replace RR := RR.ext hbn
  replace hB := hB.trans (hbn.mono hWZ)
  replace B1 := B1.ext hbn
  replace B2 := B2.ext hbn
  replace BX := BX.ext hbn
  have hzn := hbn.size
  replace hWX := Nat.lt_of_lt_of_le hWX hzn
  replace hWZ := Nat.le_trans hWZ hzn
  clear hzn hbn
  cases hk : (kidR x sKey).isSome
  case' false =>
    have HK := Lib.hid (show tlK x p = (⟨#[]⟩, f0) by unfold tlK; rw [hk, H0.out]; rfl)
    obtain ⟨s1, hs1⟩ : ∃ s1 : ByteArray, ⟨#[]⟩ = s1 := ⟨_, rfl⟩
    obtain ⟨f1, hf1⟩ : ∃ f1, f0 = f1 := ⟨_, rfl⟩
    rw [show ([.string ⟨#[]⟩, .bool false, .string ⟨#[]⟩, .int .i64 0] : List Value) = [.string s1, .bool false, .string ⟨#[]⟩, .int .i64 0] by rw [hs1]] at BX
    rw [hs1, hf1] at HK
    rw [hf1] at RR
    clear hs1 hf1 hk
    go_wp2_with fail
    obtain ⟨wb, hwb⟩ : ∃ wb, wa = wb := ⟨_, rfl⟩
    subst hwb
  case' true =>
    go_wp2_with fail
    have T1 := text_any (w.heap.size + 1 + 1 + 1) x Ak Ac ck cc F p f0 sKey keyE 38 wa RR HWX.out hp (by decide) (fun _ _ => rfl) (fun s w2 hs _ => Tol1_any s w2 hs)
    obtain ⟨s1, f1, e1⟩ : ∃ s f, readT x p f0 sKey keyE = (s, f) := ⟨_, _, rfl⟩
    rw [e1] at T1
    have HK := Lib.hid (show tlK x p = (s1, f1) by unfold tlK; rw [hk, H0.out, if_pos rfl, e1])
    clear e1 hk
    refine T1.mono ?_
    clear T1 RR
    rintro e wt ⟨rfl, RR, hU⟩
    have hUB : Below w.heap.size wa wt := hU.below (fun b hb => by simp at hb; omega) hWZ
    replace hB := hB.trans hUB
    replace B1 := B1.keep (hU.block _ B1.lt (by simp))
    replace B2 := B2.keep (hU.block _ B2.lt (by simp))
    replace BX := BX.keep (hU.block _ BX.lt (by simp; omega))
    replace hWX := Nat.lt_of_lt_of_le hWX hU.size
    replace hWZ := Nat.le_trans hWZ hU.size
    clear hU hUB
    have ks := BX.cell (i := 0) (u := .string ⟨#[]⟩) rfl
    have kf := BX.fz
    have kl := BX.lt
    replace hB := ext_setCell hB (p := ⟨bx, 0, none⟩) (by dsimp only; omega) (.string s1)
    replace B1 := B1.far (c := bx) (by omega) 0 (.string s1)
    replace B2 := B2.far (c := bx) (by omega) 0 (.string s1)
    replace BX := BX.put 0 (.string s1)
    replace RR := RS.far RR (c := bx) (by omega) (fun b hb => by have := HFL.out b hb; omega) 0 (.string s1)
    go_wp2_with fail
    clear ks kf kl
    obtain ⟨wa, hn⟩ : ∃ wa, wt.setCell ⟨bx, 0, none⟩ (.string s1) = wa := ⟨_, rfl⟩
    have hzz : (wt.setCell ⟨bx, 0, none⟩ (.string s1)).heap.size = wa.heap.size := by rw [hn]
    simp only [World.setCell, Array.size_modify] at hzz
    rw [hn] at hB B1 B2 BX RR
    rw [hzz] at hWX hWZ
    try rw [hn]
    clear hn hzz
    replace BX : Blk wa bx [.string s1, .bool false, .string ⟨#[]⟩, .int .i64 0] := BX
  all_goals
    refine (has_any (w.heap.size + 1 + 1 + 1) x Ak Ac ck cc F p f1 sValue _ RR HWX.out).mono ?_
    rintro e wc ⟨rfl, hbn⟩
    replace RR := RR.ext hbn
    replace hB := hB.trans (hbn.mono hWZ)
    replace B1 := B1.ext hbn
    replace B2 := B2.ext hbn
    replace BX := BX.ext hbn
    have hzn := hbn.size
    replace hWX := Nat.lt_of_lt_of_le hWX hzn
    replace hWZ := Nat.le_trans hWZ hzn
    clear hzn hbn
    cases hk : (kidR x sValue).isSome
    case' false =>
      have HV := Lib.hid (show tlV x p = (⟨#[]⟩, f1) ∧ (kidR x sValue).isSome = false from ⟨by unfold tlV; rw [hk, HK.out]; rfl, hk⟩)
      obtain ⟨s2, hs2⟩ : ∃ s2 : ByteArray, ⟨#[]⟩ = s2 := ⟨_, rfl⟩
      obtain ⟨b2, hb2⟩ : ∃ b2, false = b2 := ⟨_, rfl⟩
      obtain ⟨f2, hf2⟩ : ∃ f2, f1 = f2 := ⟨_, rfl⟩
      rw [show ([.string s1, .bool false, .string ⟨#[]⟩, .int .i64 0] : List Value) = [.string s1, .bool b2, .string s2, .int .i64 0] by rw [hs2, hb2]] at BX
      rw [hs2, hf2, hb2] at HV
      rw [hf2] at RR
      clear hs2 hf2 hb2 hk
      go_wp2_with fail
    case' true =>
      have HK2 := Lib.hid hk
      have ks := BX.cell (i := 1) (u := .bool false) rfl
      have kf := BX.fz
      have kl := BX.lt
      replace hB := ext_setCell hB (p := ⟨bx, 1, none⟩) (by dsimp only; omega) (.bool true)
      replace B1 := B1.far (c := bx) (by omega) 1 (.bool true)
      replace B2 := B2.far (c := bx) (by omega) 1 (.bool true)
      replace BX := BX.put 1 (.bool true)
      replace RR := RS.far RR (c := bx) (by omega) (fun b hb => by have := HFL.out b hb; omega) 1 (.bool true)
      go_wp2_with fail
      clear ks kf kl
      obtain ⟨wd, hn⟩ : ∃ wd, wc.setCell ⟨bx, 1, none⟩ (.bool true) = wd := ⟨_, rfl⟩
      have hzz : (wc.setCell ⟨bx, 1, none⟩ (.bool true)).heap.size = wd.heap.size := by rw [hn]
      simp only [World.setCell, Array.size_modify] at hzz
      rw [hn] at hB B1 B2 BX RR
      rw [hzz] at hWX hWZ
      try rw [hn]
      clear hn hzz
      have HBX2 := Lib.hid BX
      have T2 := textC_any (w.heap.size + 1 + 1 + 1) x Ak Ac ck cc F p f1 sValue (valE s1) 39 bx wd RR HWX.out hp (by decide) (fun _ _ => rfl) (fun s w2 hs hu => Tol2_any s s1 bx w2 hs ((HBX2.out.keep (hu.block _ HBX2.out.lt (by simp; omega))).cell (i := 0) (u := .string s1) rfl) ((HBX2.out.keep (hu.block _ HBX2.out.lt (by simp; omega))).lt))
      obtain ⟨s2, f2, e2⟩ : ∃ s f, readT x p f1 sValue (valE s1) = (s, f) := ⟨_, _, rfl⟩
      rw [e2] at T2
      obtain ⟨b2, hb2⟩ : ∃ b2, true = b2 := ⟨_, rfl⟩
      have HV := Lib.hid (show tlV x p = (s2, f2) ∧ (kidR x sValue).isSome = b2 from ⟨by unfold tlV; rw [hk, HK.out, if_pos rfl]; exact e2, by rw [hk, hb2]⟩)
      clear e2 hk
      refine T2.mono ?_
      clear T2 RR HBX2
      rintro e wt ⟨rfl, RR, hU⟩
      have hUB : Below w.heap.size wd wt := hU.below (fun b hb => by simp at hb; omega) hWZ
      replace hB := hB.trans hUB
      replace B1 := B1.keep (hU.block _ B1.lt (by simp))
      replace B2 := B2.keep (hU.block _ B2.lt (by simp))
      replace BX := BX.keep (hU.block _ BX.lt (by simp; omega))
      replace hWX := Nat.lt_of_lt_of_le hWX hU.size
      replace hWZ := Nat.le_trans hWZ hU.size
      clear hU hUB
      have ks := BX.cell (i := 2) (u := .string ⟨#[]⟩) rfl
      have kf := BX.fz
      have kl := BX.lt
      replace hB := ext_setCell hB (p := ⟨bx, 2, none⟩) (by dsimp only; omega) (.string s2)
      replace B1 := B1.far (c := bx) (by omega) 2 (.string s2)
      replace B2 := B2.far (c := bx) (by omega) 2 (.string s2)
      replace BX := BX.put 2 (.string s2)
      replace RR := RS.far RR (c := bx) (by omega) (fun b hb => by have := HFL.out b hb; omega) 2 (.string s2)
      replace BX : Blk (wt.setCell ⟨bx, 2, none⟩ (.string s2)) bx [.string s1, .bool b2, .string s2, .int .i64 0] := by rw [← hb2]; exact BX
      clear hb2
      go_wp2_with fail
      clear ks kf kl
      obtain ⟨wc, hn⟩ : ∃ wc, wt.setCell ⟨bx, 2, none⟩ (.string s2) = wc := ⟨_, rfl⟩
      have hzz : (wt.setCell ⟨bx, 2, none⟩ (.string s2)).heap.size = wc.heap.size := by rw [hn]
      simp only [World.setCell, Array.size_modify] at hzz
      rw [hn] at hB B1 B2 BX RR
      rw [hzz] at hWX hWZ
      try rw [hn]
      clear hn hzz
    all_goals
      refine (has_any (w.heap.size + 1 + 1 + 1) x Ak Ac ck cc F p f2 sEffect _ RR HWX.out).mono ?_
      rintro e we ⟨rfl, hbn⟩
      replace RR := RR.ext hbn
      replace hB := hB.trans (hbn.mono hWZ)
      replace B1 := B1.ext hbn
      replace B2 := B2.ext hbn
      replace BX := BX.ext hbn
      have hzn := hbn.size
      replace hWX := Nat.lt_of_lt_of_le hWX hzn
      replace hWZ := Nat.le_trans hWZ hzn
      clear hzn hbn
      cases hk : (kidR x sEffect).isSome
      · have HE := Lib.hid (show tolInR x p = if f2.code = 0 then (⟨s1, b2, s2, 0⟩, noF) else (zTol, f2) by
          have e1 : tlE x p = (⟨#[]⟩, f2) := by unfold tlE; rw [hk, HV.out.1]; rfl
          unfold tolInR
          rw [e1, HK.out, HV.out.1, HV.out.2, effR_empty])
        clear hk
        have g1 := RR.blk.cell (i := 7) (u := .int .i64 f2.code) rfl
        have g2 := RR.blk.cell (i := 8) (u := .int .i64 f2.at_) rfl
        have g3 := RR.blk.cell (i := 9) (u := .string f2.path) rfl
        have gl := RR.blk.lt
        have y0 := BX.cell (i := 0) (u := .string s1) rfl
        have y1 := BX.cell (i := 1) (u := .bool b2) rfl
        have y2 := BX.cell (i := 2) (u := .string s2) rfl
        have y3 := BX.cell (i := 3) (u := .int .i64 0) rfl
        have yl := BX.lt
        have m0 := B1.cell (i := 0) (u := .string ⟨#[]⟩) rfl
        have m1 := B1.cell (i := 1) (u := .bool false) rfl
        have m2 := B1.cell (i := 2) (u := .string ⟨#[]⟩) rfl
        have m3 := B1.cell (i := 3) (u := .int .i64 0) rfl
        have n0 := B2.cell (i := 0) (u := .int .i64 0) rfl
        have n1 := B2.cell (i := 1) (u := .int .i64 0) rfl
        have n2 := B2.cell (i := 2) (u := .string ⟨#[]⟩) rfl
        have l1 := B1.lt
        have l2 := B2.lt
        have z1 := B1.fz
        have z2 := B2.fz
        have HB := Lib.hid hB
        clear hB B1 B2 BX RR
        by_cases h3 : f2.code = 0
        · have hd : (f2.code != 0) = false := by simp [h3]
          have HR := Lib.hid (show tolInR x p = (⟨s1, b2, s2, 0⟩, noF) from (HE.out.trans (if_pos h3)))
          clear h3
          go_wp2_with fail
          try dsimp only
          iterate 80 (first | go_step | skip)
          refine bodyPost_ret (v := .tuple #[.agg #[.string s1, .bool b2, .string s2, .int .i64 0], .agg #[.int .i64 0, .int .i64 0, .string ⟨#[]⟩]]) (by simp [results, Try.results13, go_sem, *]) rfl ⟨by rw [HR.out]; try rfl, ?_⟩
          have hB := HB.out
          repeat (first | with_reducible exact hB | with_reducible refine ext_setCell ?_ (by dsimp only; omega) _)
        · have hd : (f2.code != 0) = true := by simp [h3]
          have HR := Lib.hid (show tolInR x p = (zTol, f2) from (HE.out.trans (if_neg h3)))
          clear h3
          go_wp2_with fail
          go_region
          all_goals
            go_wp2_with fail
            try dsimp only
            iterate 80 (first | go_step | skip)
            refine bodyPost_ret (v := .tuple #[.agg #[.string ⟨#[]⟩, .bool false, .string ⟨#[]⟩, .int .i64 0], .agg #[.int .i64 f2.code, .int .i64 f2.at_, .string f2.path]]) (by simp [results, Try.results13, go_sem, *]) rfl ⟨by rw [HR.out]; try rfl, ?_⟩
            have hB := HB.out
            repeat (first | with_reducible exact hB | with_reducible refine ext_setCell ?_ (by dsimp only; omega) _ | with_reducible refine ext_drew ?_)
      · go_wp2_with fail
        have T3 := text_any (w.heap.size + 1 + 1 + 1) x Ak Ac ck cc F p f2 sEffect effB 30 we RR HWX.out hp (by decide) (fun _ _ => rfl) (fun s w2 hs _ => isEffect_any s w2)
        obtain ⟨s3, f3, e3⟩ : ∃ s f, readT x p f2 sEffect effB = (s, f) := ⟨_, _, rfl⟩
        rw [e3] at T3
        have HE := Lib.hid (show tolInR x p = if f3.code = 0 then (⟨s1, b2, s2, effR s3⟩, noF) else (zTol, f3) by
          have e1 : tlE x p = (s3, f3) := by unfold tlE; rw [hk, HV.out.1, if_pos rfl]; exact e3
          unfold tolInR
          rw [e1, HK.out, HV.out.1, HV.out.2])
        clear e3 hk
        refine T3.mono ?_
        clear T3 RR
        rintro e wt ⟨rfl, RR, hU⟩
        have hUB : Below w.heap.size we wt := hU.below (fun b hb => by simp at hb; omega) hWZ
        replace hB := hB.trans hUB
        replace B1 := B1.keep (hU.block _ B1.lt (by simp))
        replace B2 := B2.keep (hU.block _ B2.lt (by simp))
        replace BX := BX.keep (hU.block _ BX.lt (by simp; omega))
        replace hWX := Nat.lt_of_lt_of_le hWX hU.size
        replace hWZ := Nat.le_trans hWZ hU.size
        clear hU hUB
        have ks := BX.cell (i := 3) (u := .int .i64 0) rfl
        have kf := BX.fz
        have kl := BX.lt
        go_wp2_with fail
        refine (effectOf_any s3 wt).mono ?_
        rintro e w7 ⟨rfl, rfl⟩
        replace hB := ext_setCell hB (p := ⟨bx, 3, none⟩) (by dsimp only; omega) (.int .i64 (effR s3))
        replace B1 := B1.far (c := bx) (by omega) 3 (.int .i64 (effR s3))
        replace B2 := B2.far (c := bx) (by omega) 3 (.int .i64 (effR s3))
        replace BX := BX.put 3 (.int .i64 (effR s3))
        replace RR := RS.far RR (c := bx) (by omega) (fun b hb => by have := HFL.out b hb; omega) 3 (.int .i64 (effR s3))
        have g1 := RR.blk.cell (i := 7) (u := .int .i64 f3.code) rfl
        have g2 := RR.blk.cell (i := 8) (u := .int .i64 f3.at_) rfl
        have g3 := RR.blk.cell (i := 9) (u := .string f3.path) rfl
        have gl := RR.blk.lt
        have y0 := BX.cell (i := 0) (u := .string s1) rfl
        have y1 := BX.cell (i := 1) (u := .bool b2) rfl
        have y2 := BX.cell (i := 2) (u := .string s2) rfl
        have y3 := BX.cell (i := 3) (u := .int .i64 (effR s3)) rfl
        have yl := BX.lt
        have m0 := B1.cell (i := 0) (u := .string ⟨#[]⟩) rfl
        have m1 := B1.cell (i := 1) (u := .bool false) rfl
        have m2 := B1.cell (i := 2) (u := .string ⟨#[]⟩) rfl
        have m3 := B1.cell (i := 3) (u := .int .i64 0) rfl
        have n0 := B2.cell (i := 0) (u := .int .i64 0) rfl
        have n1 := B2.cell (i := 1) (u := .int .i64 0) rfl
        have n2 := B2.cell (i := 2) (u := .string ⟨#[]⟩) rfl
        have l1 := B1.lt
        have l2 := B2.lt
        have z1 := B1.fz
        have z2 := B2.fz
        have HB := Lib.hid hB
        clear hB B1 B2 BX RR
        by_cases h3 : f3.code = 0
        · have hd : (f3.code != 0) = false := by simp [h3]
          have HR := Lib.hid (show tolInR x p = (⟨s1, b2, s2, effR s3⟩, noF) from (HE.out.trans (if_pos h3)))
          clear h3
          go_wp2_with fail
          try dsimp only
          iterate 80 (first | go_step | skip)
          refine bodyPost_ret (v := .tuple #[.agg #[.string s1, .bool b2, .string s2, .int .i64 (effR s3)], .agg #[.int .i64 0, .int .i64 0, .string ⟨#[]⟩]]) (by simp [results, Try.results13, go_sem, *]) rfl ⟨by rw [HR.out]; try rfl, ?_⟩
          have hB := HB.out
          repeat (first | with_reducible exact hB | with_reducible refine ext_setCell ?_ (by dsimp only; omega) _)
        · have hd : (f3.code != 0) = true := by simp [h3]
          have HR := Lib.hid (show tolInR x p = (zTol, f3) from (HE.out.trans (if_neg h3)))
          clear h3
          go_wp2_with fail
          go_region
          all_goals
            go_wp2_with fail
            try dsimp only
            iterate 80 (first | go_step | skip)
            refine bodyPost_ret (v := .tuple #[.agg #[.string ⟨#[]⟩, .bool false, .string ⟨#[]⟩, .int .i64 0], .agg #[.int .i64 f3.code, .int .i64 f3.at_, .string f3.path]]) (by simp [results, Try.results13, go_sem, *]) rfl ⟨by rw [HR.out]; try rfl, ?_⟩
            have hB := HB.out
            repeat (first | with_reducible exact hB | with_reducible refine ext_setCell ?_ (by dsimp only; omega) _ | with_reducible refine ext_drew ?_)
end Go.Proofs.Ytffjbbamcflmbaa
