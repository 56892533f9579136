/- NeedIn, of the reference. No condition. -/
import Derived.Test.YtegekccoincicaaGreatDoorValsI
import Derived.Test.YtegekccoincicaaGreatDoorValsS
import Derived.Test.YtegekccoincicaaGreatDoorNeedInT
import Derived.StillTailTactics
import Derived.Deep.CutRange
namespace Go.Proofs.YtegekccoincicaaGreatDoor
open Dat (rd)
open Go.ChangeShapes Go.WideShapes Go.ChangeAt Go.RowKit
set_option linter.unusedVariables false
set_option linter.unusedSimpArgs false

theorem oneF_range {x : Tree} {p k : ByteArray} {i : Int} {f : Fault} (h : oneF x p k opWs = (i, f)) (hf : f.code = 0) : 1 ≤ i ∧ i ≤ 4 := by
  have hr := opR_range (textR x p k).1
  unfold opR at hr
  unfold oneF at h
  split at h
  · split at h
    · simp only [Prod.mk.injEq] at h
      obtain ⟨_, rfl⟩ := h
      exact absurd hf (by show (14 : Int) ≠ 0; decide)
    · simp only [Prod.mk.injEq] at h
      obtain ⟨rfl, _⟩ := h
      omega
  · rename_i hn
    simp only [Prod.mk.injEq] at h
    obtain ⟨_, rfl⟩ := h
    exact absurd hf hn
set_option maxRecDepth 100000 in
set_option maxHeartbeats 8000000 in
theorem NeedIn_spec (x : Tree) (cs : List Value) (F : List Nat) (p : ByteArray) (w : World) (h : rd w x cs F) (hw : (x.wt : Int) ≤ 1048576) (hp : (p.size : Int) ≤ 1048576) :
    Calls Tryz.prog 6 #[.agg cs.toArray, .string p] w fun e w' => ∃ A c V, e = .returned (.tuple #[.agg #[.string (needInS x p).1.key, .int .i64 (needInS x p).1.op, .slice A (needInS x p).1.values.length c], .agg #[.int .i64 (needInS x p).2.code, .int .i64 (needInS x p).2.at_, .string (needInS x p).2.path]]) ∧ Own w' w.heap.size (needInS x p).1.values [.slice A (needInS x p).1.values.length c] V ∧ Below w.heap.size w w' := by
  have HWX := Lib.hid hw
  clear hw
  have h0 := h
  obtain ⟨Ak, ck, Fk, Ac, cc, Fc, hck, hF, hkind, hnum, htext, hkeys, hkids⟩ := rd_Tree h
  subst hck
  clear hF h
  have hW0 : ∃ W, ((((w.alloc (.cells #[.int .i64 x.kind, .bool x.flag, .int .i64 x.num, .string x.text, .slice Ak x.keys.length ck, .slice Ac x.kids.length cc] 35)).alloc (.cells #[.string ⟨#[]⟩, .int .i64 0, .slice none 0 0] 28)).alloc (.cells #[.int .i64 0, .int .i64 0, .string ⟨#[]⟩] 30)).alloc (.cells #[.string ⟨#[107, 101, 121]⟩, .string ⟨#[111, 112]⟩, .string ⟨#[118, 97, 108, 117, 101, 115]⟩] 9)) = W ∧ Below w.heap.size w W ∧ Blk W w.heap.size [.int .i64 x.kind, .bool x.flag, .int .i64 x.num, .string x.text, .slice Ak x.keys.length ck, .slice Ac x.kids.length cc] ∧ Blk W (w.heap.size + 1) [.string ⟨#[]⟩, .int .i64 0, .slice none 0 0] ∧ Blk W (w.heap.size + 1 + 1) [.int .i64 0, .int .i64 0, .string ⟨#[]⟩] ∧ Sl W [sKey, sOp, sVals] (some ⟨w.heap.size + 1 + 1 + 1, 0, none⟩) 3 [w.heap.size + 1 + 1 + 1] ∧ W.heap.size = w.heap.size + 1 + 1 + 1 + 1 := by
    refine ⟨_, rfl, ext_alloc (ext_alloc (ext_alloc (ext_alloc (ext_refl _) _) _) _) _, ?_, ?_, ?_, ?_, by simp⟩
    · exact (((Blk.new w [.int .i64 x.kind, .bool x.flag, .int .i64 x.num, .string x.text, .slice Ak x.keys.length ck, .slice Ac x.kids.length cc] 35).ext (ext_alloc (ext_refl _) _)).ext (ext_alloc (ext_refl _) _)).ext (ext_alloc (ext_refl _) _)
    · have h1 := Blk.new (w.alloc (.cells #[.int .i64 x.kind, .bool x.flag, .int .i64 x.num, .string x.text, .slice Ak x.keys.length ck, .slice Ac x.kids.length cc] 35)) [.string ⟨#[]⟩, .int .i64 0, .slice none 0 0] 28
      rw [World.size_alloc] at h1
      exact (h1.ext (ext_alloc (ext_refl _) _)).ext (ext_alloc (ext_refl _) _)
    · have h1 := Blk.new ((w.alloc (.cells #[.int .i64 x.kind, .bool x.flag, .int .i64 x.num, .string x.text, .slice Ak x.keys.length ck, .slice Ac x.kids.length cc] 35)).alloc (.cells #[.string ⟨#[]⟩, .int .i64 0, .slice none 0 0] 28)) [.int .i64 0, .int .i64 0, .string ⟨#[]⟩] 30
      rw [World.size_alloc, World.size_alloc] at h1
      exact h1.ext (ext_alloc (ext_refl _) _)
    · have h1 := Blk.new (((w.alloc (.cells #[.int .i64 x.kind, .bool x.flag, .int .i64 x.num, .string x.text, .slice Ak x.keys.length ck, .slice Ac x.kids.length cc] 35)).alloc (.cells #[.string ⟨#[]⟩, .int .i64 0, .slice none 0 0] 28)).alloc (.cells #[.int .i64 0, .int .i64 0, .string ⟨#[]⟩] 30)) [.string ⟨#[107, 101, 121]⟩, .string ⟨#[111, 112]⟩, .string ⟨#[118, 97, 108, 117, 101, 115]⟩] 9
      rw [World.size_alloc, World.size_alloc, World.size_alloc] at h1
      exact Sl.strs (ss := [sKey, sOp, sVals]) h1 (by intro s hs; simp only [List.mem_cons, List.not_mem_nil, or_false] at hs; rcases hs with rfl | rfl | rfl <;> (unfold maxLen; decide)) (by unfold maxLen; decide)
  obtain ⟨W, hW, hB, T0, B1, B2, S0, hZ⟩ := hW0
  have HW := Lib.hid hW
  clear hW
  have K0 := KnownKeys_spec x _ _ p [sKey, sOp, sVals] _ 3 3 _ W (rd_extK h0 hB) S0 rfl HWX.out hp (by decide)
  obtain ⟨f0, e0⟩ : ∃ f, knownR x p [sKey, sOp, sVals] = f := ⟨_, rfl⟩
  rw [e0] at K0
  have H0 := Lib.hid (show knownR x p nmKeys = f0 from e0)
  clear e0
  go_enter Tryz.func6, Tryz.ntmps6
  go_wp2_with fail
  rw [HW.out]
  refine K0.mono ?_
  rintro e w1 ⟨rfl, hb1⟩
  clear K0 S0 HW
  replace hB := hB.trans (hb1.mono (by omega))
  replace T0 := T0.ext hb1
  replace B1 := B1.ext hb1
  replace B2 := B2.ext hb1
  have hz1 := hb1.size
  clear hb1
  obtain ⟨bf, hbf⟩ : ∃ bf, w1.heap.size = bf := ⟨_, rfl⟩
  have BF := Blk.new w1 [.int .i64 f0.code, .int .i64 f0.at_, .string f0.path] 30
  have hA1 : Below w1.heap.size w1 (w1.alloc (.cells #[.int .i64 f0.code, .int .i64 f0.at_, .string f0.path] 30)) := ext_alloc (ext_refl _) _
  replace T0 := T0.ext hA1
  replace B1 := B1.ext hA1
  replace B2 := B2.ext hA1
  replace hB := ext_trans hB hA1
  clear hA1
  have hzA : (w1.alloc (.cells #[.int .i64 f0.code, .int .i64 f0.at_, .string f0.path] 30)).heap.size = bf + 1 := by rw [World.size_alloc, hbf]
  rw [hbf] at BF hz1
  by_cases h1 : f0.code = 0
  case neg =>
    have hd1 : (f0.code != 0) = true := by simp [h1]
    have HR := Lib.hid (show needInS x p = (zNeed, f0) by unfold needInS; rw [H0.out]; exact if_neg h1)
    clear h1
    have m0 := B1.cell (i := 0) (u := .string ⟨#[]⟩) rfl
    have m1 := B1.cell (i := 1) (u := .int .i64 0) rfl
    have m2 := B1.cell (i := 2) (u := .slice none 0 0) rfl
    have n0 := B2.cell (i := 0) (u := .int .i64 0) rfl
    have n1 := B2.cell (i := 1) (u := .int .i64 0) rfl
    have n2 := B2.cell (i := 2) (u := .string ⟨#[]⟩) rfl
    have l1 := B1.lt
    have l2 := B2.lt
    have z1 := B1.fz
    have z2 := B2.fz
    have e0 := BF.cell (i := 0) (u := .int .i64 f0.code) rfl
    have e1 := BF.cell (i := 1) (u := .int .i64 f0.at_) rfl
    have e2 := BF.cell (i := 2) (u := .string f0.path) rfl
    have el := BF.lt
    have HB := Lib.hid hB
    clear hB
    go_upto_region 3 with fail
    go_region
    all_goals
      try dsimp only
      iterate 80 (first | go_step | skip)
      refine bodyPost_ret (v := .tuple #[.agg #[.string ⟨#[]⟩, .int .i64 0, .slice none 0 0], .agg #[.int .i64 f0.code, .int .i64 f0.at_, .string f0.path]]) (by simp [results, Tryz.results6, go_sem, *]) rfl ⟨none, 0, [], ?_, ?_, ?_⟩
      · rw [HR.out]; try rfl
      · rw [HR.out]; exact Own.flat (Sl.nil (α := ByteArray) _ none 0 (Nat.zero_le _))
      · have hB := HB.out
        repeat (first | with_reducible exact hB | with_reducible refine ext_setCell ?_ (by dsimp only; omega) _ | with_reducible refine ext_drew ?_)
  have hd1 : (f0.code != 0) = false := by simp [h1]
  have K1 := Lib.hid (fun wq (hq : Below w.heap.size w wq) => l19Key_any x _ _ p wq (rd_extK h0 hq) HWX.out hp)
  obtain ⟨s1, f1, e1⟩ : ∃ s f, readT x p noF sKey keyR = (s, f) := ⟨_, _, rfl⟩
  rw [e1] at K1
  have H1 := Lib.hid e1
  have HA := Lib.hid h1
  clear e1 h1
  have BX := Blk.new (w1.alloc (.cells #[.int .i64 f0.code, .int .i64 f0.at_, .string f0.path] 30)) [.string ⟨#[]⟩, .int .i64 0, .slice none 0 0] 28
  have hA2 : Below (w1.alloc (.cells #[.int .i64 f0.code, .int .i64 f0.at_, .string f0.path] 30)).heap.size (w1.alloc (.cells #[.int .i64 f0.code, .int .i64 f0.at_, .string f0.path] 30)) ((w1.alloc (.cells #[.int .i64 f0.code, .int .i64 f0.at_, .string f0.path] 30)).alloc (.cells #[.string ⟨#[]⟩, .int .i64 0, .slice none 0 0] 28)) := ext_alloc (ext_refl _) _
  replace T0 := T0.ext hA2
  replace B1 := B1.ext hA2
  replace B2 := B2.ext hA2
  replace BF := BF.ext hA2
  have hB2 := ext_trans hB hA2
  clear hB
  rw [hzA] at BX
  have t0 := T0.cell (i := 0) (u := .int .i64 x.kind) rfl
  have t1 := T0.cell (i := 1) (u := .bool x.flag) rfl
  have t2 := T0.cell (i := 2) (u := .int .i64 x.num) rfl
  have t3 := T0.cell (i := 3) (u := .string x.text) rfl
  have t4 := T0.cell (i := 4) (u := .slice Ak x.keys.length ck) rfl
  have t5 := T0.cell (i := 5) (u := .slice Ac x.kids.length cc) rfl
  have tl := T0.lt
  go_wp2_with fail
  try rw [hbf]
  clear t0 t1 t2 t3 t4 t5 tl
  refine (K1.out _ hB2).mono ?_
  rintro e w3 ⟨rfl, hb3⟩
  have hz3 := hb3.size
  rw [World.size_alloc, hzA] at hz3
  replace T0 := T0.ext hb3
  replace B1 := B1.ext hb3
  replace B2 := B2.ext hb3
  replace BF := BF.ext hb3
  replace BX := BX.ext hb3
  have hB := ext_trans hB2 hb3
  clear hB2 hb3 hA2 K1
  obtain ⟨bx, hbx⟩ : ∃ bx, bf + 1 = bx := ⟨_, rfl⟩
  rw [hbx] at BX hz3 hzA
  have hbf1 : bf < bx := by omega
  try rw [hbx]
  have HBX := Lib.hid hbx
  clear hbx
  have k0 := BX.cell (i := 0) (u := .string ⟨#[]⟩) rfl
  have kf := BX.fz
  have kl := BX.lt
  have j0 := BF.cell (i := 0) (u := .int .i64 f0.code) rfl
  have j1 := BF.cell (i := 1) (u := .int .i64 f0.at_) rfl
  have j2 := BF.cell (i := 2) (u := .string f0.path) rfl
  have jf := BF.fz
  have jl := BF.lt
  go_upto_region 6 with fail
  clear k0 kf kl j0 j1 j2 jf jl
  replace hB := ext_setCell hB (p := ⟨bx, 0, none⟩) (by dsimp only; omega) (.string s1)
  replace T0 := T0.far (c := bx) (by omega) 0 (.string s1)
  replace B1 := B1.far (c := bx) (by omega) 0 (.string s1)
  replace B2 := B2.far (c := bx) (by omega) 0 (.string s1)
  replace BF := BF.far (c := bx) (by omega) 0 (.string s1)
  replace BX := BX.put 0 (.string s1)
  replace T0 := T0.far (c := bf) (by omega) 0 (.int .i64 f1.code)
  replace B1 := B1.far (c := bf) (by omega) 0 (.int .i64 f1.code)
  replace B2 := B2.far (c := bf) (by omega) 0 (.int .i64 f1.code)
  replace BX := BX.far (c := bf) (by omega) 0 (.int .i64 f1.code)
  replace BF := BF.put 0 (.int .i64 f1.code)
  replace hB := ext_setCell hB (p := ⟨bf, 0, none⟩) (by dsimp only; omega) (.int .i64 f1.code)
  replace T0 := T0.far (c := bf) (by omega) 1 (.int .i64 f1.at_)
  replace B1 := B1.far (c := bf) (by omega) 1 (.int .i64 f1.at_)
  replace B2 := B2.far (c := bf) (by omega) 1 (.int .i64 f1.at_)
  replace BX := BX.far (c := bf) (by omega) 1 (.int .i64 f1.at_)
  replace BF := BF.put 1 (.int .i64 f1.at_)
  replace hB := ext_setCell hB (p := ⟨bf, 1, none⟩) (by dsimp only; omega) (.int .i64 f1.at_)
  replace T0 := T0.far (c := bf) (by omega) 2 (.string f1.path)
  replace B1 := B1.far (c := bf) (by omega) 2 (.string f1.path)
  replace B2 := B2.far (c := bf) (by omega) 2 (.string f1.path)
  replace BX := BX.far (c := bf) (by omega) 2 (.string f1.path)
  replace BF := BF.put 2 (.string f1.path)
  replace hB := ext_setCell hB (p := ⟨bf, 2, none⟩) (by dsimp only; omega) (.string f1.path)
  generalize (((w3.setCell ⟨bx, 0, none⟩ (.string s1)).setCell ⟨bf, 0, none⟩ (.int .i64 f1.code)).setCell ⟨bf, 1, none⟩ (.int .i64 f1.at_)).setCell ⟨bf, 2, none⟩ (.string f1.path) = w6 at *
  replace BX : Blk w6 bx [.string s1, .int .i64 0, .slice none 0 0] := BX
  replace BF : Blk w6 bf [.int .i64 f1.code, .int .i64 f1.at_, .string f1.path] := BF
  have hz6 : bx < w6.heap.size := BX.lt
  clear hz3 hzA
  by_cases h2 : f1.code = 0
  case neg =>
    have hd2 : (f1.code != 0) = true := by simp [h2]
    have HR := Lib.hid (show needInS x p = (zNeed, f1) by unfold needInS; rw [H0.out, if_pos HA.out, H1.out]; exact if_neg h2)
    clear h2
    have m0 := B1.cell (i := 0) (u := .string ⟨#[]⟩) rfl
    have m1 := B1.cell (i := 1) (u := .int .i64 0) rfl
    have m2 := B1.cell (i := 2) (u := .slice none 0 0) rfl
    have n0 := B2.cell (i := 0) (u := .int .i64 0) rfl
    have n1 := B2.cell (i := 1) (u := .int .i64 0) rfl
    have n2 := B2.cell (i := 2) (u := .string ⟨#[]⟩) rfl
    have l1 := B1.lt
    have l2 := B2.lt
    have z1 := B1.fz
    have z2 := B2.fz
    have e0 := BF.cell (i := 0) (u := .int .i64 f1.code) rfl
    have e1 := BF.cell (i := 1) (u := .int .i64 f1.at_) rfl
    have e2 := BF.cell (i := 2) (u := .string f1.path) rfl
    have el := BF.lt
    have HB := Lib.hid hB
    clear hB
    go_upto_region 7 with fail
    go_region
    all_goals
      try dsimp only
      iterate 80 (first | go_step | skip)
      refine bodyPost_ret (v := .tuple #[.agg #[.string ⟨#[]⟩, .int .i64 0, .slice none 0 0], .agg #[.int .i64 f1.code, .int .i64 f1.at_, .string f1.path]]) (by simp [results, Tryz.results6, go_sem, *]) rfl ⟨none, 0, [], ?_, ?_, ?_⟩
      · rw [HR.out]; try rfl
      · rw [HR.out]; exact Own.flat (Sl.nil (α := ByteArray) _ none 0 (Nat.zero_le _))
      · have hB := HB.out
        repeat (first | with_reducible exact hB | with_reducible refine ext_setCell ?_ (by dsimp only; omega) _ | with_reducible refine ext_drew ?_)
  have hd2 : (f1.code != 0) = false := by simp [h2]
  have HA2 := Lib.hid h2
  clear h2
  have y0 := BF.cell (i := 0) (u := .int .i64 f1.code) rfl
  have y1 := BF.cell (i := 1) (u := .int .i64 f1.at_) rfl
  have y2 := BF.cell (i := 2) (u := .string f1.path) rfl
  have yl := BF.lt
  go_upto_region 8 with fail
  clear y0 y1 y2 yl hd1 hd2
  have hzB : w.heap.size ≤ w6.heap.size := hB.size
  obtain ⟨i3, f3, e3⟩ : ∃ i f, oneF x p sOp opWs = (i, f) := ⟨_, _, rfl⟩
  have H3 := Lib.hid e3
  have T6 := T0.keep (w' := w6.drew) rfl
  refine wp_region_anyC (C := (fun w' => w'.cell? ⟨w.heap.size, 0, none⟩ = some (.int .i64 x.kind) ∧ w'.cell? ⟨w.heap.size, 1, none⟩ = some (.bool x.flag) ∧ w'.cell? ⟨w.heap.size, 2, none⟩ = some (.int .i64 x.num) ∧ w'.cell? ⟨w.heap.size, 3, none⟩ = some (.string x.text) ∧ w'.cell? ⟨w.heap.size, 4, none⟩ = some (.slice Ak x.keys.length ck) ∧ w'.cell? ⟨w.heap.size, 5, none⟩ = some (.slice Ac x.kids.length cc))) 10 (by kernel_rfl) rfl ⟨T6.cell (i := 0) (u := .int .i64 x.kind) rfl, T6.cell (i := 1) (u := .bool x.flag) rfl, T6.cell (i := 2) (u := .int .i64 x.num) rfl, T6.cell (i := 3) (u := .string x.text) rfl, T6.cell (i := 4) (u := .slice Ak x.keys.length ck) rfl, T6.cell (i := 5) (u := .slice Ac x.kids.length cc) rfl⟩ ?_
  have hC : (fun w' => w'.cell? ⟨w.heap.size, 0, none⟩ = some (.int .i64 x.kind) ∧ w'.cell? ⟨w.heap.size, 1, none⟩ = some (.bool x.flag) ∧ w'.cell? ⟨w.heap.size, 2, none⟩ = some (.int .i64 x.num) ∧ w'.cell? ⟨w.heap.size, 3, none⟩ = some (.string x.text) ∧ w'.cell? ⟨w.heap.size, 4, none⟩ = some (.slice Ak x.keys.length ck) ∧ w'.cell? ⟨w.heap.size, 5, none⟩ = some (.slice Ac x.kids.length cc)) w6.drew := ⟨T6.cell (i := 0) (u := .int .i64 x.kind) rfl, T6.cell (i := 1) (u := .bool x.flag) rfl, T6.cell (i := 2) (u := .int .i64 x.num) rfl, T6.cell (i := 3) (u := .string x.text) rfl, T6.cell (i := 4) (u := .slice Ak x.keys.length ck) rfl, T6.cell (i := 5) (u := .slice Ac x.kids.length cc) rfl⟩
  refine anyH_take 0 _ (by rfl) (by kernel_rfl) (fun _ _ d _ _ h => by cases d <;> exact h) hC (Or.inl ⟨rfl, fun wq hq => by
    obtain ⟨y0, y1, y2, y3, y4, y5⟩ := hq
    go_simp
    try rfl⟩) ?_
  simp only [Act.put, List.setIfInBounds_toArray, List.set_cons_zero, List.set_cons_succ]
  refine anyH_take 1 _ (by rfl) (by kernel_rfl) (fun _ _ d _ _ h => by cases d <;> exact h) hC (Or.inl ⟨rfl, fun wq hq => by
    obtain ⟨y0, y1, y2, y3, y4, y5⟩ := hq
    go_simp
    try rfl⟩) ?_
  simp only [Act.put, List.setIfInBounds_toArray, List.set_cons_zero, List.set_cons_succ]
  refine anyH_one 2 (by rfl) (by kernel_rfl) (by rfl) (fun K hK => ?_)
  go_simp
  refine (l15Ops_any w6.drew).mono ?_
  rintro e w7 ⟨rfl, hw7⟩
  have hb7 : Below w6.drew.heap.size w6.drew w7 := by rw [hw7]; exact ext_alloc (ext_refl _) _
  have S7 : Sl w7 opWs (some ⟨w6.heap.size, 0, none⟩) 5 [w6.heap.size] := by rw [hw7]; exact Sl.strs (ss := opWs) (Blk.new w6.drew [.string ⟨#[]⟩, .string ⟨#[105, 110]⟩, .string ⟨#[110, 111, 116, 105, 110]⟩, .string ⟨#[104, 97, 115]⟩, .string ⟨#[104, 97, 115, 110, 111, 116]⟩] 9) (by intro s hs; simp only [opWs, List.mem_cons, List.not_mem_nil, or_false] at hs; rcases hs with rfl | rfl | rfl | rfl | rfl <;> (unfold maxLen; decide)) (by unfold maxLen; decide)
  clear hw7
  have T7 := T6.ext hb7
  replace hC : (fun w' => w'.cell? ⟨w.heap.size, 0, none⟩ = some (.int .i64 x.kind) ∧ w'.cell? ⟨w.heap.size, 1, none⟩ = some (.bool x.flag) ∧ w'.cell? ⟨w.heap.size, 2, none⟩ = some (.int .i64 x.num) ∧ w'.cell? ⟨w.heap.size, 3, none⟩ = some (.string x.text) ∧ w'.cell? ⟨w.heap.size, 4, none⟩ = some (.slice Ak x.keys.length ck) ∧ w'.cell? ⟨w.heap.size, 5, none⟩ = some (.slice Ac x.kids.length cc)) w7 := ⟨T7.cell (i := 0) (u := .int .i64 x.kind) rfl, T7.cell (i := 1) (u := .bool x.flag) rfl, T7.cell (i := 2) (u := .int .i64 x.num) rfl, T7.cell (i := 3) (u := .string x.text) rfl, T7.cell (i := 4) (u := .slice Ak x.keys.length ck) rfl, T7.cell (i := 5) (u := .slice Ac x.kids.length cc) rfl⟩
  refine hK _ _ hC ?_
  try simp only [Act.put, List.setIfInBounds_toArray, List.set_cons_zero, List.set_cons_succ]
  clear hK K
  refine anyH_one 3 (by rfl) (by kernel_rfl) (by rfl) (fun K hK => ?_)
  go_simp
  refine (l19One_any x _ _ p sOp opWs _ 5 5 _ w7 (rd_extK h0 (ext_trans (ext_drew hB) hb7)) S7 rfl HWX.out hp (by decide) (by decide) (by decide)).mono ?_
  rw [e3]
  rintro e w8 ⟨rfl, hb8⟩
  dsimp only
  have hb68 : Below w6.heap.size w6 w8 := ext_trans (ext_trans (ext_drew (ext_refl w6)) hb7) hb8
  have T8 := T7.ext hb8
  replace hC : (fun w' => w'.cell? ⟨w.heap.size, 0, none⟩ = some (.int .i64 x.kind) ∧ w'.cell? ⟨w.heap.size, 1, none⟩ = some (.bool x.flag) ∧ w'.cell? ⟨w.heap.size, 2, none⟩ = some (.int .i64 x.num) ∧ w'.cell? ⟨w.heap.size, 3, none⟩ = some (.string x.text) ∧ w'.cell? ⟨w.heap.size, 4, none⟩ = some (.slice Ak x.keys.length ck) ∧ w'.cell? ⟨w.heap.size, 5, none⟩ = some (.slice Ac x.kids.length cc)) w8 := ⟨T8.cell (i := 0) (u := .int .i64 x.kind) rfl, T8.cell (i := 1) (u := .bool x.flag) rfl, T8.cell (i := 2) (u := .int .i64 x.num) rfl, T8.cell (i := 3) (u := .string x.text) rfl, T8.cell (i := 4) (u := .slice Ak x.keys.length ck) rfl, T8.cell (i := 5) (u := .slice Ac x.kids.length cc) rfl⟩
  refine hK _ _ hC ?_
  try simp only [Act.put, List.setIfInBounds_toArray, List.set_cons_zero, List.set_cons_succ]
  clear hK K
  refine anyH_one 4 (by rfl) (by kernel_rfl) (by rfl) (fun K hK => ?_)
  go_simp
  refine hK _ _ hC ?_
  try simp only [Act.put, List.setIfInBounds_toArray, List.set_cons_zero, List.set_cons_succ]
  clear hK K
  refine anyH_take 5 _ (by rfl) (by kernel_rfl) (fun _ _ d _ _ h => by cases d <;> exact h) hC (Or.inl ⟨rfl, fun wq hq => by
    obtain ⟨y0, y1, y2, y3, y4, y5⟩ := hq
    go_simp
    try rfl⟩) ?_
  simp only [Act.put, List.setIfInBounds_toArray, List.set_cons_zero, List.set_cons_succ]
  refine anyH_take 6 _ (by rfl) (by kernel_rfl) (fun _ _ d _ _ h => by cases d <;> exact h) hC (Or.inl ⟨rfl, fun wq hq => by
    obtain ⟨y0, y1, y2, y3, y4, y5⟩ := hq
    go_simp
    try rfl⟩) ?_
  simp only [Act.put, List.setIfInBounds_toArray, List.set_cons_zero, List.set_cons_succ]
  refine anyH_take 7 _ (by rfl) (by kernel_rfl) (fun _ _ d _ _ h => by cases d <;> exact h) hC (Or.inl ⟨rfl, fun wq hq => by
    obtain ⟨y0, y1, y2, y3, y4, y5⟩ := hq
    go_simp
    try rfl⟩) ?_
  simp only [Act.put, List.setIfInBounds_toArray, List.set_cons_zero, List.set_cons_succ]
  replace hB := hB.trans (hb68.mono hzB)
  replace T0 := T0.ext hb68
  replace B1 := B1.ext hb68
  replace B2 := B2.ext hb68
  replace BF := BF.ext hb68
  replace BX := BX.ext hb68
  have k2 := BX.cell (i := 1) (u := .int .i64 0) rfl
  have kf := BX.fz
  have kl := BX.lt
  have j0 := BF.cell (i := 0) (u := .int .i64 f1.code) rfl
  have j1 := BF.cell (i := 1) (u := .int .i64 f1.at_) rfl
  have j2 := BF.cell (i := 2) (u := .string f1.path) rfl
  have jf := BF.fz
  have jl := BF.lt
  have hzz := hb68.size
  refine anyH_one 8 (by rfl) (by kernel_rfl) (by rfl) (fun K hK => ?_)
  go_simp
  refine hK _ _ ?_ ?_
  · exact ⟨(T0.far (c := bx) (by omega) 1 (.int .i64 i3)).cell (i := 0) (u := .int .i64 x.kind) rfl, (T0.far (c := bx) (by omega) 1 (.int .i64 i3)).cell (i := 1) (u := .bool x.flag) rfl, (T0.far (c := bx) (by omega) 1 (.int .i64 i3)).cell (i := 2) (u := .int .i64 x.num) rfl, (T0.far (c := bx) (by omega) 1 (.int .i64 i3)).cell (i := 3) (u := .string x.text) rfl, (T0.far (c := bx) (by omega) 1 (.int .i64 i3)).cell (i := 4) (u := .slice Ak x.keys.length ck) rfl, (T0.far (c := bx) (by omega) 1 (.int .i64 i3)).cell (i := 5) (u := .slice Ac x.kids.length cc) rfl⟩
  clear hK K
  try simp only [Act.put, List.setIfInBounds_toArray, List.set_cons_zero, List.set_cons_succ]
  replace T0 := T0.far (c := bx) (by omega) 1 (.int .i64 i3)
  replace B1 := B1.far (c := bx) (by omega) 1 (.int .i64 i3)
  replace B2 := B2.far (c := bx) (by omega) 1 (.int .i64 i3)
  replace BF := BF.far (c := bx) (by omega) 1 (.int .i64 i3)
  replace BX := BX.put 1 (.int .i64 i3)
  replace hB := ext_setCell hB (p := ⟨bx, 1, none⟩) (by dsimp only; omega) (.int .i64 i3)
  have q0 := BF.cell (i := 0) (u := .int .i64 f1.code) rfl
  have q1 := BF.cell (i := 1) (u := .int .i64 f1.at_) rfl
  have q2 := BF.cell (i := 2) (u := .string f1.path) rfl
  have qf := BF.fz
  have ql := BF.lt
  replace T0 := T0.far (c := bf) (by omega) 0 (.int .i64 f3.code)
  replace B1 := B1.far (c := bf) (by omega) 0 (.int .i64 f3.code)
  replace B2 := B2.far (c := bf) (by omega) 0 (.int .i64 f3.code)
  replace BX := BX.far (c := bf) (by omega) 0 (.int .i64 f3.code)
  replace BF := BF.put 0 (.int .i64 f3.code)
  replace hB := ext_setCell hB (p := ⟨bf, 0, none⟩) (by dsimp only; omega) (.int .i64 f3.code)
  replace T0 := T0.far (c := bf) (by omega) 1 (.int .i64 f3.at_)
  replace B1 := B1.far (c := bf) (by omega) 1 (.int .i64 f3.at_)
  replace B2 := B2.far (c := bf) (by omega) 1 (.int .i64 f3.at_)
  replace BX := BX.far (c := bf) (by omega) 1 (.int .i64 f3.at_)
  replace BF := BF.put 1 (.int .i64 f3.at_)
  replace hB := ext_setCell hB (p := ⟨bf, 1, none⟩) (by dsimp only; omega) (.int .i64 f3.at_)
  replace T0 := T0.far (c := bf) (by omega) 2 (.string f3.path)
  replace B1 := B1.far (c := bf) (by omega) 2 (.string f3.path)
  replace B2 := B2.far (c := bf) (by omega) 2 (.string f3.path)
  replace BX := BX.far (c := bf) (by omega) 2 (.string f3.path)
  replace BF := BF.put 2 (.string f3.path)
  replace hB := ext_setCell hB (p := ⟨bf, 2, none⟩) (by dsimp only; omega) (.string f3.path)
  refine anyH_one 9 (by rfl) (by kernel_rfl) (by rfl) (fun K hK => ?_)
  go_simp
  refine hK _ _ ⟨T0.cell (i := 0) (u := .int .i64 x.kind) rfl, T0.cell (i := 1) (u := .bool x.flag) rfl, T0.cell (i := 2) (u := .int .i64 x.num) rfl, T0.cell (i := 3) (u := .string x.text) rfl, T0.cell (i := 4) (u := .slice Ak x.keys.length ck) rfl, T0.cell (i := 5) (u := .slice Ac x.kids.length cc) rfl⟩ ?_
  clear hK K
  try simp only [Act.put, List.setIfInBounds_toArray, List.set_cons_zero, List.set_cons_succ]
  refine anyH_done (by kernel_rfl) ?_
  clear T6 T7 T8 hC hb68 S7 k2 kf kl j0 j1 j2 jf jl q0 q1 q2 qf ql hzz hb7 hb8
  obtain ⟨w9, hw9⟩ : ∃ w9, (((w8.setCell ⟨bx, 1, none⟩ (.int .i64 i3)).setCell ⟨bf, 0, none⟩ (.int .i64 f3.code)).setCell ⟨bf, 1, none⟩ (.int .i64 f3.at_)).setCell ⟨bf, 2, none⟩ (.string f3.path) = w9 := ⟨_, rfl⟩
  rw [hw9] at T0 B1 B2 BF BX hB ⊢
  clear hw9
  have hz9 : bx < w9.heap.size := BX.lt
  by_cases h3 : f3.code = 0
  case neg =>
    have hd3 : (f3.code != 0) = true := by simp [h3]
    have HR := Lib.hid (show needInS x p = (zNeed, f3) by unfold needInS; rw [H0.out, if_pos HA.out, H1.out, if_pos HA2.out, H3.out]; exact if_neg h3)
    clear h3
    have m0 := B1.cell (i := 0) (u := .string ⟨#[]⟩) rfl
    have m1 := B1.cell (i := 1) (u := .int .i64 0) rfl
    have m2 := B1.cell (i := 2) (u := .slice none 0 0) rfl
    have n0 := B2.cell (i := 0) (u := .int .i64 0) rfl
    have n1 := B2.cell (i := 1) (u := .int .i64 0) rfl
    have n2 := B2.cell (i := 2) (u := .string ⟨#[]⟩) rfl
    have l1 := B1.lt
    have l2 := B2.lt
    have z1 := B1.fz
    have z2 := B2.fz
    have e0 := BF.cell (i := 0) (u := .int .i64 f3.code) rfl
    have e1 := BF.cell (i := 1) (u := .int .i64 f3.at_) rfl
    have e2 := BF.cell (i := 2) (u := .string f3.path) rfl
    have el := BF.lt
    have HB := Lib.hid hB
    clear hB
    go_upto_region 10 with fail
    go_region
    all_goals
      try dsimp only
      iterate 80 (first | go_step | skip)
      refine bodyPost_ret (v := .tuple #[.agg #[.string ⟨#[]⟩, .int .i64 0, .slice none 0 0], .agg #[.int .i64 f3.code, .int .i64 f3.at_, .string f3.path]]) (by simp [results, Tryz.results6, go_sem, *]) rfl ⟨none, 0, [], ?_, ?_, ?_⟩
      · rw [HR.out]; try rfl
      · rw [HR.out]; exact Own.flat (Sl.nil (α := ByteArray) _ none 0 (Nat.zero_le _))
      · have hB := HB.out
        repeat (first | with_reducible exact hB | with_reducible refine ext_setCell ?_ (by dsimp only; omega) _ | with_reducible refine ext_drew ?_)
  have hd3 : (f3.code != 0) = false := by simp [h3]
  have HA3 := Lib.hid h3
  have hi3 : 1 ≤ i3 ∧ i3 ≤ 4 := oneF_range e3 h3
  clear h3
  have y0 := BF.cell (i := 0) (u := .int .i64 f3.code) rfl
  have y1 := BF.cell (i := 1) (u := .int .i64 f3.at_) rfl
  have y2 := BF.cell (i := 2) (u := .string f3.path) rfl
  have yl := BF.lt
  go_wp2_with fail
  refine (PathKey_spec p sVals _ hp (by decide)).mono ?_
  rintro e wk ⟨rfl, rfl⟩
  clear y0 y1 y2 yl hd3 BF
  have HPQ := Lib.hid (show ((pathR p sVals).size : Int) ≤ 1048583 by have h1 := pathR_size p sVals; have h2 : sVals.size = 6 := rfl; omega)
  have t0 := T0.cell (i := 0) (u := .int .i64 x.kind) rfl
  have t1 := T0.cell (i := 1) (u := .bool x.flag) rfl
  have t2 := T0.cell (i := 2) (u := .int .i64 x.num) rfl
  have t3 := T0.cell (i := 3) (u := .string x.text) rfl
  have t4 := T0.cell (i := 4) (u := .slice Ak x.keys.length ck) rfl
  have t5 := T0.cell (i := 5) (u := .slice Ac x.kids.length cc) rfl
  have tl := T0.lt
  go_wp2_with fail
  refine (ListField_spec x _ _ p sVals w9 (rd_extK h0 hB) HWX.out hp (by decide)).mono ?_
  obtain ⟨kids, g, e1⟩ : ∃ l f, listR x p sVals = (l, f) := ⟨_, _, rfl⟩
  have hl40 := listR_len x p sVals
  have hkw := listR_text x p sVals
  rw [e1] at hl40 hkw ⊢
  have HLR := Lib.hid e1
  clear e1 t0 t1 t2 t3 t4 t5 tl T0
  rintro e w5 ⟨A, c, Gk, rfl, hSk, _, hb5⟩
  dsimp only at hl40 hkw hSk ⊢
  replace hB := ext_trans hB hb5
  replace B1 := B1.ext hb5
  replace B2 := B2.ext hb5
  replace BX := BX.ext hb5
  have hz5 := hb5.size
  clear hb5
  have HSK := Lib.hid hSk
  have HKW := Lib.hid (show ∀ y ∈ kids, (y.text.size : Int) ≤ 1048576 from fun y hy => by have h1 := hkw y hy; have h2 := HWX.out; omega)
  clear hSk hkw
  have BG := Blk.new w5 [.int .i64 g.code, .int .i64 g.at_, .string g.path] 30
  have hA5 : Below w5.heap.size w5 (w5.alloc (.cells #[.int .i64 g.code, .int .i64 g.at_, .string g.path] 30)) := ext_alloc (ext_refl _) _
  replace B1 := B1.ext hA5
  replace B2 := B2.ext hA5
  replace BX := BX.ext hA5
  replace hB := ext_trans hB hA5
  replace HSK := Lib.hid (HSK.out.ext hA5)
  clear hA5
  by_cases h4 : g.code = 0
  case neg =>
    have hd4 : (g.code != 0) = true := by simp [h4]
    have HR := Lib.hid (show needInS x p = (zNeed, g) by unfold needInS; rw [H0.out, if_pos HA.out, H1.out, if_pos HA2.out, H3.out, if_pos HA3.out, HLR.out]; exact if_neg h4)
    clear h4 BX
    have m0 := B1.cell (i := 0) (u := .string ⟨#[]⟩) rfl
    have m1 := B1.cell (i := 1) (u := .int .i64 0) rfl
    have m2 := B1.cell (i := 2) (u := .slice none 0 0) rfl
    have n0 := B2.cell (i := 0) (u := .int .i64 0) rfl
    have n1 := B2.cell (i := 1) (u := .int .i64 0) rfl
    have n2 := B2.cell (i := 2) (u := .string ⟨#[]⟩) rfl
    have l1 := B1.lt
    have l2 := B2.lt
    have z1 := B1.fz
    have z2 := B2.fz
    have e0 := BG.cell (i := 0) (u := .int .i64 g.code) rfl
    have e1 := BG.cell (i := 1) (u := .int .i64 g.at_) rfl
    have e2 := BG.cell (i := 2) (u := .string g.path) rfl
    have el := BG.lt
    have HB := Lib.hid hB
    clear hB
    go_upto_region 14 with fail
    go_region
    all_goals
      try dsimp only
      iterate 80 (first | go_step | skip)
      refine bodyPost_ret (v := .tuple #[.agg #[.string ⟨#[]⟩, .int .i64 0, .slice none 0 0], .agg #[.int .i64 g.code, .int .i64 g.at_, .string g.path]]) (by simp [results, Tryz.results6, go_sem, *]) rfl ⟨none, 0, [], ?_, ?_, ?_⟩
      · rw [HR.out]; try rfl
      · rw [HR.out]; exact Own.flat (Sl.nil (α := ByteArray) _ none 0 (Nat.zero_le _))
      · have hB := HB.out
        repeat (first | with_reducible exact hB | with_reducible refine ext_setCell ?_ (by dsimp only; omega) _ | with_reducible refine ext_drew ?_)
  have hd4 : (g.code != 0) = false := by simp [h4]
  have HA4 := Lib.hid h4
  clear h4
  have y0 := BG.cell (i := 0) (u := .int .i64 g.code) rfl
  have y1 := BG.cell (i := 1) (u := .int .i64 g.at_) rfl
  have y2 := BG.cell (i := 2) (u := .string g.path) rfl
  have yl := BG.lt
  go_upto_region 15 with fail
  clear y0 y1 y2 yl hd4 BG
  generalize w5.alloc (.cells #[.int .i64 g.code, .int .i64 g.at_, .string g.path] 30) = wB at *
  have hzb : bx < wB.heap.size := BX.lt
  go_wp2_with fail
  have HB := Lib.hid hB
  clear hB
  go_loopw [11, 12] (fun v i wr => ∃ (j : Nat) (A' : Option Addr) (c' : Nat), v = .slice A' j c' ∧ i = .int .i64 j ∧ j ≤ kids.length ∧ Hid (kidsN (pathR p sVals) noF kids j = noF ∧ wr.ownsRow wB.heap.size 9 1 (.slice A' j c') j (txts kids j) ∧ Below wB.heap.size wB wr)) (fun _ i _ => kids.length - (intOf i).toNat)
  case atStart => exact ⟨0, _, _, rfl, rfl, Nat.zero_le _, Lib.hid ⟨rfl, row_newI _ 9 1 _ rfl, ext_alloc (ext_refl _) _⟩⟩
  case round =>
    obtain ⟨j, A', c', rfl, rfl, hj, HX⟩ := hrel
    obtain ⟨hKN, ROWJ, hbe⟩ := HX.out
    have HKN := Lib.hid hKN
    have HBE := Lib.hid hbe
    clear HX hKN hbe
    have hzr := HBE.out.size
    by_cases hlt : j < kids.length
    · obtain ⟨bk, ok, ckk, Fkk, hAk, hbF, hbs, hr, _, hck⟩ := HSK.out.get hlt
      subst hAk
      obtain ⟨y, hy⟩ : ∃ y, kids[j] = y := ⟨_, rfl⟩
      rw [hy] at hr
      have HKS := Lib.hid (kidsN_succ (q := pathR p sVals) (f := noF) hlt)
      have HTS := Lib.hid (txts_succ hlt)
      rw [hy] at HKS HTS
      have hyw : y.text.size ≤ maxLen := by obtain ⟨_, _, _, _, _, _, _, _, _, _, h9, _, _⟩ := rd_Tree hr; exact h9
      have HTX := Lib.hid (show (y.text.size : Int) ≤ 1048576 from HKW.out y (by rw [← hy]; exact List.getElem_mem hlt))
      obtain ⟨Ak3, ck3, Fk3, Ac3, cc3, Fc3, hce, hF3, hkind3, hnum3, htext3, hkeys3, hkids3⟩ := rd_Tree hr
      subst hce
      have q0 : wr.cell? ⟨bk, ok + j * 6, none⟩ = some (.int .i64 y.kind) := by have h0 := hck 0 _ rfl; exact (HBE.out.cell (p := ⟨bk, ok + j * 6, none⟩) hbs).trans (by rwa [show ok + (j * Dat.size Tree + 0) = ok + j * 6 by show ok + (j * 6 + 0) = _; omega] at h0)
      have q3 : wr.cell? ⟨bk, ok + j * 6 + 3, none⟩ = some (.string y.text) := by have h0 := hck 3 _ rfl; exact (HBE.out.cell (p := ⟨bk, ok + j * 6 + 3, none⟩) hbs).trans (by rwa [show ok + (j * Dat.size Tree + 3) = ok + j * 6 + 3 by show ok + (j * 6 + 3) = _; omega] at h0)
      have HCK := Lib.hid hck
      have hcap := (show Sl wB kids (some ⟨bk, ok, none⟩) c Gk from HSK.out).cap
      have hki : (j : Int) < kids.length := by omega
      have hbl : bk < wr.heap.size := by omega
      have hj40 : j < 100 := by omega
      have HPQ2 := Lib.hid (show ((pathR p sVals).size : Int) ≤ 2097152 by have := HPQ.out; omega)
      have hB := ext_trans HB.out (HBE.out)
      replace B1 := B1.ext HBE.out
      replace B2 := B2.ext HBE.out
      have hBw := hB.size
      clear hck hr hF3 hkind3 hnum3 htext3 hkeys3 hkids3 hy
      have HJN := Lib.hid (show ∀ f, kidsN (pathR p sVals) noF kids (j + 1) = f → f.code ≠ 0 → needInS x p = (zNeed, f) from fun f hf hc => by
        have e := (kidsN_bad (j := j + 1) (by rw [hf]; exact hc) kids.length (by omega)).trans hf
        unfold needInS
        rw [H0.out, if_pos HA.out, H1.out, if_pos HA2.out, H3.out, if_pos HA3.out, HLR.out, if_pos HA4.out]
        dsimp only
        rw [e, if_neg hc])
      by_cases hk4 : y.kind = 4
      · have d4 : (y.kind != 4) = false := by simp [hk4]
        cases hv : valR y.text
        · have HR := Lib.hid (HJN.out (fl 14 (placeR (pathR p sVals) j)) (by rw [HKS.out, HKN.out]; exact kidF_val rfl hk4 hv) (by show (14 : Int) ≠ 0; decide))
          have hL := LabelValueOk_spec y.text wr HTX.out
          rw [hv] at hL
          clear hk4 hv HJN
          go_wp2_with fail
          refine hL.mono ?_
          clear hL
          rintro e wl ⟨rfl, hbl2⟩
          replace hB := ext_trans hB hbl2
          replace B1 := B1.ext hbl2
          replace B2 := B2.ext hbl2
          clear hbl2
          have m0 := B1.cell (i := 0) (u := .string ⟨#[]⟩) rfl
          have m1 := B1.cell (i := 1) (u := .int .i64 0) rfl
          have m2 := B1.cell (i := 2) (u := .slice none 0 0) rfl
          have n0 := B2.cell (i := 0) (u := .int .i64 0) rfl
          have n1 := B2.cell (i := 1) (u := .int .i64 0) rfl
          have n2 := B2.cell (i := 2) (u := .string ⟨#[]⟩) rfl
          have l1 := B1.lt
          have l2 := B2.lt
          have z1 := B1.fz
          have z2 := B2.fz
          have HB := Lib.hid hB
          go_wp2_with fail
          refine (PathPlace_spec (pathR p sVals) j hj40 _ HPQ2.out).mono ?_
          rintro e wy ⟨rfl, hby⟩
          replace hB := ext_trans hB hby
          replace B1 := B1.ext hby
          replace B2 := B2.ext hby
          clear hby
          go_wp2_with fail
          refine (l18Fault_any 14 (placeR (pathR p sVals) j) _).mono ?_
          rintro e wz ⟨rfl, hbz⟩
          obtain ⟨hcz, hfz⟩ := bcell hbz
          have HBZ := Lib.hid (ext_trans hB hbz)
          have hzz := hbz.size
          replace B1 := B1.ext hbz
          replace B2 := B2.ext hbz
          clear m0 m1 m2 n0 n1 n2 l1 l2 z1 z2 hB hbz
          have m0 := B1.cell (i := 0) (u := .string ⟨#[]⟩) rfl
          have m1 := B1.cell (i := 1) (u := .int .i64 0) rfl
          have m2 := B1.cell (i := 2) (u := .slice none 0 0) rfl
          have n0 := B2.cell (i := 0) (u := .int .i64 0) rfl
          have n1 := B2.cell (i := 1) (u := .int .i64 0) rfl
          have n2 := B2.cell (i := 2) (u := .string ⟨#[]⟩) rfl
          have l1 := B1.lt
          have l2 := B2.lt
          have z1 := B1.fz
          have z2 := B2.fz
          try dsimp only
          iterate 80 (first | go_step | skip)
          refine bodyPost_ret (v := .tuple #[.agg #[.string ⟨#[]⟩, .int .i64 0, .slice none 0 0], .agg #[.int .i64 14, .int .i64 0, .string ((placeR (pathR p sVals) j))]]) (by simp [results, Tryz.results6, go_sem, *]) rfl ⟨none, 0, [], ?_, ?_, ?_⟩
          · rw [HR.out]; try rfl
          · rw [HR.out]; exact Own.flat (Sl.nil (α := ByteArray) _ none 0 (Nat.zero_le _))
          · have hB := HBZ.out
            repeat (first | with_reducible exact hB | with_reducible refine ext_setCell ?_ (by dsimp only; omega) _ | with_reducible refine ext_drew ?_)
        · have hL := LabelValueOk_spec y.text wr HTX.out
          rw [hv] at hL
          replace HKN := Lib.hid (show kidsN (pathR p sVals) noF kids (j + 1) = noF by rw [HKS.out, HKN.out]; exact kidF_fine hk4 hv)
          clear hk4 hv HJN HKS B1 B2 hB hBw
          go_wp2_with fail
          refine hL.mono ?_
          clear hL
          rintro e wl ⟨rfl, hbl2⟩
          replace HBE := Lib.hid (HBE.out.trans (hbl2.mono hzr))
          replace ROWJ := row_upd ROWJ (Upd.of_ext [bx] hbl2) (by omega)
          have hzl := HBE.out.size
          have hck := HCK.out
          have q9 : wl.cell? ⟨bk, ok + j * 6 + 3, none⟩ = some (.string y.text) := by have h0 := hck 3 _ rfl; exact (HBE.out.cell (p := ⟨bk, ok + j * 6 + 3, none⟩) hbs).trans (by rwa [show ok + (j * Dat.size Tree + 3) = ok + j * 6 + 3 by show ok + (j * 6 + 3) = _; omega] at h0)
          have hbl3 : bk < wl.heap.size := by omega
          clear hck hbl2 q0 q3
          go_wp2_with (
            at_builtin
            go_must (refine wpList_append1 elString (by rfl) _ _ (by rfl) _ _ _ _ _ ROWJ (by rfl) [.string y.text] (by first | rfl | (simp; rfl)) (by rfl) (by simp [Value.oneCell']) (by omega) (by omega) hzl ?_)
            intro v6 w6 hown6 hg6 hz6
            go_must (obtain ⟨A6, c6, hv6⟩ := row_sliceK hown6)
            go_must (subst hv6)
            go_must (have hb6 : Below wB.heap.size wl w6 := grown_ext ROWJ hg6 (Below.refl _ _) hzl))
          rw [← HTS.out] at hown6
          exact ⟨⟨j + 1, A6, c6, rfl, (by go_num), by omega, Lib.hid ⟨HKN.out, hown6, HBE.out.trans hb6⟩⟩, by simp only [intOf]; omega⟩
      · have d4 : (y.kind != 4) = true := by simp [hk4]
        have HR := Lib.hid (HJN.out (fl 11 (placeR (pathR p sVals) j)) (by rw [HKS.out, HKN.out]; exact kidF_kind rfl hk4) (by show (11 : Int) ≠ 0; decide))
        clear hk4 HJN
        have m0 := B1.cell (i := 0) (u := .string ⟨#[]⟩) rfl
        have m1 := B1.cell (i := 1) (u := .int .i64 0) rfl
        have m2 := B1.cell (i := 2) (u := .slice none 0 0) rfl
        have n0 := B2.cell (i := 0) (u := .int .i64 0) rfl
        have n1 := B2.cell (i := 1) (u := .int .i64 0) rfl
        have n2 := B2.cell (i := 2) (u := .string ⟨#[]⟩) rfl
        have l1 := B1.lt
        have l2 := B2.lt
        have z1 := B1.fz
        have z2 := B2.fz
        have HB := Lib.hid hB
        go_wp2_with fail
        refine (PathPlace_spec (pathR p sVals) j hj40 _ HPQ2.out).mono ?_
        rintro e wy ⟨rfl, hby⟩
        replace hB := ext_trans hB hby
        replace B1 := B1.ext hby
        replace B2 := B2.ext hby
        clear hby
        go_wp2_with fail
        refine (l18Fault_any 11 (placeR (pathR p sVals) j) _).mono ?_
        rintro e wz ⟨rfl, hbz⟩
        obtain ⟨hcz, hfz⟩ := bcell hbz
        have HBZ := Lib.hid (ext_trans hB hbz)
        have hzz := hbz.size
        replace B1 := B1.ext hbz
        replace B2 := B2.ext hbz
        clear m0 m1 m2 n0 n1 n2 l1 l2 z1 z2 hB hbz
        have m0 := B1.cell (i := 0) (u := .string ⟨#[]⟩) rfl
        have m1 := B1.cell (i := 1) (u := .int .i64 0) rfl
        have m2 := B1.cell (i := 2) (u := .slice none 0 0) rfl
        have n0 := B2.cell (i := 0) (u := .int .i64 0) rfl
        have n1 := B2.cell (i := 1) (u := .int .i64 0) rfl
        have n2 := B2.cell (i := 2) (u := .string ⟨#[]⟩) rfl
        have l1 := B1.lt
        have l2 := B2.lt
        have z1 := B1.fz
        have z2 := B2.fz
        try dsimp only
        iterate 80 (first | go_step | skip)
        refine bodyPost_ret (v := .tuple #[.agg #[.string ⟨#[]⟩, .int .i64 0, .slice none 0 0], .agg #[.int .i64 11, .int .i64 0, .string ((placeR (pathR p sVals) j))]]) (by simp [results, Tryz.results6, go_sem, *]) rfl ⟨none, 0, [], ?_, ?_, ?_⟩
        · rw [HR.out]; try rfl
        · rw [HR.out]; exact Own.flat (Sl.nil (α := ByteArray) _ none 0 (Nat.zero_le _))
        · have hB := HBZ.out
          repeat (first | with_reducible exact hB | with_reducible refine ext_setCell ?_ (by dsimp only; omega) _ | with_reducible refine ext_drew ?_)
    · have hje : j = kids.length := by omega
      have hki : ¬ (j : Int) < kids.length := by omega
      obtain ⟨vs, hvs⟩ : ∃ vs, kids.map Tree.text = vs := ⟨_, rfl⟩
      have hvl : vs.length = j := by rw [← hvs, List.length_map, hje]
      have hvm : ∀ s ∈ vs, s.size ≤ maxLen := by
        rw [← hvs]
        intro s hs
        obtain ⟨y, hy, rfl⟩ := List.mem_map.1 hs
        have := HKW.out y hy
        unfold maxLen; omega
      have hts : txts kids j = vs.map Value.string := by unfold txts; rw [hje, List.take_length, ← hvs, List.map_map]; rfl
      have HN := Lib.hid (show needInS x p = if (endF p noF i3 (valsR vs).length).code = 0 then (⟨s1, i3, valsR vs⟩, noF) else (zNeed, endF p noF i3 (valsR vs).length) by
        have hk := HKN.out
        rw [hje] at hk
        unfold needInS
        rw [H0.out, if_pos HA.out, H1.out, if_pos HA2.out, H3.out, if_pos HA3.out, HLR.out, if_pos HA4.out]
        dsimp only
        rw [hk, if_pos (show noF.code = 0 from rfl), hvs])
      rw [hts] at ROWJ
      have hO := Own.of_row (α := ByteArray) (xs := vs) (F := []) (w := wr) (B := wB.heap.size) (by rw [hvl]; exact ROWJ) ⟨str_rdCells hvm, List.nodup_nil, (fun b hb => by cases hb), (fun b hb => by cases hb)⟩ (fun g _ hm => by cases hm)
      obtain ⟨A5, c5, V, hv6, hO⟩ := hO
      have hv7 := hv6
      simp only [Value.slice.injEq] at hv7
      obtain ⟨rfl, hq7, rfl⟩ := hv7
      have hS := l15Values_any vs A' c' V wr hO.rd (by omega)
      rw [hvl] at hS
      have hzl : (valsR vs).length ≤ 40 := by have := valsR_len vs; omega
      have HS := Lib.hid hS
      clear hS hv6 ROWJ hts hvs hvm hje hq7 hvl hO hlt
      go_wp2_with fail
      refine HS.out.mono ?_
      clear HS
      generalize valsR vs = zs at *
      rintro e w7 ⟨A6, c6, V6, rfl, hO6, hb7⟩
      have hB7 : Below wB.heap.size wB w7 := HBE.out.trans (hb7.mono (by omega))
      have hB := ext_trans HB.out hB7
      replace B1 := B1.ext hB7
      replace B2 := B2.ext hB7
      replace BX := BX.ext hB7
      have hz7 := hB7.size
      have x2 := BX.cell (i := 2) (u := .slice none 0 0) rfl
      have x3 := BX.fz
      have xl := BX.lt
      have hw0 := HB.out.size
      go_upto_region 25 with fail
      clear x2 x3 xl hb7 hB7
      replace hB := ext_setCell hB (p := ⟨bx, 2, none⟩) (by dsimp only; omega) (.slice A6 zs.length c6)
      replace B1 := B1.far (c := bx) (by omega) 2 (.slice A6 zs.length c6)
      replace B2 := B2.far (c := bx) (by omega) 2 (.slice A6 zs.length c6)
      replace BX := BX.put 2 (.slice A6 zs.length c6)
      have hOJ := (hO6.mono (B' := wB.heap.size) hzr).setCell (p := ⟨bx, 2, none⟩) (show bx < wB.heap.size by omega) (.slice A6 zs.length c6)
      clear hO6
      generalize w7.setCell ⟨bx, 2, none⟩ (.slice A6 zs.length c6) = w8 at *
      replace BX : Blk w8 bx [.string s1, .int .i64 i3, .slice A6 zs.length c6] := BX
      have x0 := BX.cell (i := 0) (u := .string s1) rfl
      have x1 := BX.cell (i := 1) (u := .int .i64 i3) rfl
      have x2 := BX.cell (i := 2) (u := .slice A6 zs.length c6) rfl
      have xl := BX.lt
      go_cut [109] from 99 to 108 (fun c wc => c = .bool (!fitB i3 zs.length) ∧ w8 = wc)
      case first =>
        go_wp2_with fail
        go_meet
        refine ⟨?_, rfl⟩
        have e1 : (i3 == 1 || i3 == 2) = decide (i3 < 3) := by
          by_cases h : i3 < 3
          · have h2 : i3 = 1 ∨ i3 = 2 := by omega
            rcases h2 with h2 | h2 <;> simp [h2]
          · have h1 : i3 ≠ 1 := by omega
            have h2 : i3 ≠ 2 := by omega
            simp [h, h1, h2]
        unfold fitB
        rw [e1]
        try simp
      obtain ⟨rfl, hw⟩ := hcut
      subst hw
      clear x0 x1 x2 xl
      cases hf : fitB i3 zs.length
      · have HR := Lib.hid (show needInS x p = (zNeed, fl 14 (pathR p sVals)) by
          have e : endF p noF i3 zs.length = fl 14 (pathR p sVals) := by
            unfold endF
            rw [if_pos hf, failR_zero (show noF.code = 0 from rfl), failR_bad (show (fl 14 (pathR p sVals)).code ≠ 0 by show (14 : Int) ≠ 0; decide)]
            split <;> rfl
          rw [HN.out, e]
          exact if_neg (by show ¬ (14 : Int) = 0; decide))
        rw [show (!false) = true from rfl]
        clear hf BX hOJ
        have m0 := B1.cell (i := 0) (u := .string ⟨#[]⟩) rfl
        have m1 := B1.cell (i := 1) (u := .int .i64 0) rfl
        have m2 := B1.cell (i := 2) (u := .slice none 0 0) rfl
        have n0 := B2.cell (i := 0) (u := .int .i64 0) rfl
        have n1 := B2.cell (i := 1) (u := .int .i64 0) rfl
        have n2 := B2.cell (i := 2) (u := .string ⟨#[]⟩) rfl
        have l1 := B1.lt
        have l2 := B2.lt
        have z1 := B1.fz
        have z2 := B2.fz
        have HB := Lib.hid hB
        go_wp2_with fail
        refine (l18Fault_any 14 (pathR p sVals) _).mono ?_
        rintro e wz ⟨rfl, hbz⟩
        obtain ⟨hcz, hfz⟩ := bcell hbz
        have HBZ := Lib.hid (ext_trans hB hbz)
        have hzz := hbz.size
        replace B1 := B1.ext hbz
        replace B2 := B2.ext hbz
        clear m0 m1 m2 n0 n1 n2 l1 l2 z1 z2 hB hbz
        have m0 := B1.cell (i := 0) (u := .string ⟨#[]⟩) rfl
        have m1 := B1.cell (i := 1) (u := .int .i64 0) rfl
        have m2 := B1.cell (i := 2) (u := .slice none 0 0) rfl
        have n0 := B2.cell (i := 0) (u := .int .i64 0) rfl
        have n1 := B2.cell (i := 1) (u := .int .i64 0) rfl
        have n2 := B2.cell (i := 2) (u := .string ⟨#[]⟩) rfl
        have l1 := B1.lt
        have l2 := B2.lt
        have z1 := B1.fz
        have z2 := B2.fz
        try dsimp only
        iterate 80 (first | go_step | skip)
        refine bodyPost_ret (v := .tuple #[.agg #[.string ⟨#[]⟩, .int .i64 0, .slice none 0 0], .agg #[.int .i64 14, .int .i64 0, .string ((pathR p sVals))]]) (by simp [results, Tryz.results6, go_sem, *]) rfl ⟨none, 0, [], ?_, ?_, ?_⟩
        · rw [HR.out]; try rfl
        · rw [HR.out]; exact Own.flat (Sl.nil (α := ByteArray) _ none 0 (Nat.zero_le _))
        · have hB := HBZ.out
          repeat (first | with_reducible exact hB | with_reducible refine ext_setCell ?_ (by dsimp only; omega) _ | with_reducible refine ext_drew ?_)
      · rw [show (!true) = false from rfl]
        have x0 := BX.cell (i := 0) (u := .string s1) rfl
        have x1 := BX.cell (i := 1) (u := .int .i64 i3) rfl
        have x2 := BX.cell (i := 2) (u := .slice A6 zs.length c6) rfl
        have xl := BX.lt
        by_cases h4 : 4 < zs.length
        · have h4i : (4 : Int) < zs.length := by omega
          have HR := Lib.hid (show needInS x p = (zNeed, fl 16 (pathR p sVals)) by
            have e : endF p noF i3 zs.length = fl 16 (pathR p sVals) := by
              unfold endF
              rw [hf, if_pos h4, if_neg (show ¬ (true = false) by simp), failR_zero (show noF.code = 0 from rfl)]
            rw [HN.out, e]
            exact if_neg (by show ¬ (16 : Int) = 0; decide))
          clear hf h4 hOJ
          have m0 := B1.cell (i := 0) (u := .string ⟨#[]⟩) rfl
          have m1 := B1.cell (i := 1) (u := .int .i64 0) rfl
          have m2 := B1.cell (i := 2) (u := .slice none 0 0) rfl
          have n0 := B2.cell (i := 0) (u := .int .i64 0) rfl
          have n1 := B2.cell (i := 1) (u := .int .i64 0) rfl
          have n2 := B2.cell (i := 2) (u := .string ⟨#[]⟩) rfl
          have l1 := B1.lt
          have l2 := B2.lt
          have z1 := B1.fz
          have z2 := B2.fz
          have HB := Lib.hid hB
          go_wp2_with fail
          refine (l18Fault_any 16 (pathR p sVals) _).mono ?_
          rintro e wz ⟨rfl, hbz⟩
          obtain ⟨hcz, hfz⟩ := bcell hbz
          have HBZ := Lib.hid (ext_trans hB hbz)
          have hzz := hbz.size
          replace B1 := B1.ext hbz
          replace B2 := B2.ext hbz
          clear m0 m1 m2 n0 n1 n2 l1 l2 z1 z2 hB hbz
          have m0 := B1.cell (i := 0) (u := .string ⟨#[]⟩) rfl
          have m1 := B1.cell (i := 1) (u := .int .i64 0) rfl
          have m2 := B1.cell (i := 2) (u := .slice none 0 0) rfl
          have n0 := B2.cell (i := 0) (u := .int .i64 0) rfl
          have n1 := B2.cell (i := 1) (u := .int .i64 0) rfl
          have n2 := B2.cell (i := 2) (u := .string ⟨#[]⟩) rfl
          have l1 := B1.lt
          have l2 := B2.lt
          have z1 := B1.fz
          have z2 := B2.fz
          try dsimp only
          iterate 80 (first | go_step | skip)
          refine bodyPost_ret (v := .tuple #[.agg #[.string ⟨#[]⟩, .int .i64 0, .slice none 0 0], .agg #[.int .i64 16, .int .i64 0, .string ((pathR p sVals))]]) (by simp [results, Tryz.results6, go_sem, *]) rfl ⟨none, 0, [], ?_, ?_, ?_⟩
          · rw [HR.out]; try rfl
          · rw [HR.out]; exact Own.flat (Sl.nil (α := ByteArray) _ none 0 (Nat.zero_le _))
          · have hB := HBZ.out
            repeat (first | with_reducible exact hB | with_reducible refine ext_setCell ?_ (by dsimp only; omega) _ | with_reducible refine ext_drew ?_)
        · have h4i : ¬ (4 : Int) < zs.length := by omega
          have HR := Lib.hid (show needInS x p = (⟨s1, i3, zs⟩, noF) by
            have e : endF p noF i3 zs.length = noF := by
              unfold endF
              rw [hf, if_neg h4, if_neg (show ¬ (true = false) by simp)]
            rw [HN.out, e]
            exact if_pos rfl)
          clear hf h4
          go_upto_region 29 with fail
          clear h4i x0 x1 x2 xl
          have m0 := B1.cell (i := 0) (u := .string ⟨#[]⟩) rfl
          have m1 := B1.cell (i := 1) (u := .int .i64 0) rfl
          have m2 := B1.cell (i := 2) (u := .slice none 0 0) rfl
          have n0 := B2.cell (i := 0) (u := .int .i64 0) rfl
          have n1 := B2.cell (i := 1) (u := .int .i64 0) rfl
          have n2 := B2.cell (i := 2) (u := .string ⟨#[]⟩) rfl
          have l1 := B1.lt
          have l2 := B2.lt
          have z1 := B1.fz
          have z2 := B2.fz
          have x0 := BX.cell (i := 0) (u := .string s1) rfl
          have x1 := BX.cell (i := 1) (u := .int .i64 i3) rfl
          have x2 := BX.cell (i := 2) (u := .slice A6 zs.length c6) rfl
          have xl := BX.lt
          have HO := Lib.hid hOJ
          have HBF := Lib.hid hB
          have hwB : w.heap.size + 1 + 1 < wB.heap.size := by omega
          clear hOJ hB B1 B2 BX
          try dsimp only
          iterate 80 (first | go_step | skip)
          refine bodyPost_ret (v := .tuple #[.agg #[.string s1, .int .i64 i3, .slice A6 zs.length c6], .agg #[.int .i64 0, .int .i64 0, .string ⟨#[]⟩]]) (by simp [results, Tryz.results6, go_sem, *]) rfl ⟨A6, c6, V6, ?_, ?_, ?_⟩
          · rw [HR.out]; try rfl
          · rw [HR.out]
            have hO := HO.out
            exact ((((((hO.setCell (p := ⟨w.heap.size + 1, 0, none⟩) (show w.heap.size + 1 < wB.heap.size by omega) _).setCell (p := ⟨w.heap.size + 1, 1, none⟩) (show w.heap.size + 1 < wB.heap.size by omega) _).setCell (p := ⟨w.heap.size + 1, 2, none⟩) (show w.heap.size + 1 < wB.heap.size by omega) _).setCell (p := ⟨w.heap.size + 1 + 1, 0, none⟩) (show w.heap.size + 1 + 1 < wB.heap.size by omega) _).setCell (p := ⟨w.heap.size + 1 + 1, 1, none⟩) (show w.heap.size + 1 + 1 < wB.heap.size by omega) _).setCell (p := ⟨w.heap.size + 1 + 1, 2, none⟩) (show w.heap.size + 1 + 1 < wB.heap.size by omega) _).mono (by omega)
          · have hB := HBF.out
            repeat (first | with_reducible exact hB | with_reducible refine ext_setCell ?_ (by dsimp only; omega) _)

end Go.Proofs.YtegekccoincicaaGreatDoor
