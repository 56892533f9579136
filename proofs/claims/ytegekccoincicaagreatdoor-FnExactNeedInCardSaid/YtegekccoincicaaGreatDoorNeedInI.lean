/- NeedIn, of the program. No condition. -/
import Derived.Test.YtegekccoincicaaGreatDoorValsI
import Derived.Test.YtegekccoincicaaGreatDoorNeedInT
import Derived.Test.YtegekccoincicaaGreatDoorValsS
import Derived.StillTailTactics
import Derived.Deep.CutRange
namespace Go.Proofs.YtegekccoincicaaGreatDoor
open Dat (rd)
open Go.ChangeShapes Go.WideShapes Go.ChangeAt Go.RowKit
set_option linter.unusedVariables false
set_option linter.unusedSimpArgs false

theorem RS.keepB {w w' : World} {g : Nat} {x : Tree} {Ak Ac : Option Addr} {ck cc : Nat} {F : List Nat} {p : ByteArray} {f : Fault} (h : RS w g x Ak Ac ck cc F p f) {B : Nat} (hk : ∀ b, b < B → w'.heap[b]? = w.heap[b]?) (hz : w.heap.size ≤ w'.heap.size) (hg : g < B) (hF : ∀ b ∈ F, b < B) : RS w' g x Ak Ac ck cc F p f :=
  ⟨h.blk.keep (hk g hg), Dat.frame h.rd (fun b hb => hk b (hF b hb)) hz, h.nin, h.fi⟩
theorem Op1_any (s : ByteArray) (w : World) : Calls Tryz.prog 51 #[.string s] w fun e w' => e = .returned (.bool (opB s)) ∧ Below w.heap.size w w' := by
  have hE := opOf_any s w
  unfold opB
  generalize opR s = r at *
  go_enter Tryz.func51, Tryz.ntmps51
  go_wp2_with fail
  refine hE.mono ?_
  rintro e w1 ⟨rfl, rfl⟩
  go_wp2
  go_ret
  exact ⟨rfl, ext_refl _⟩
set_option maxRecDepth 100000 in
set_option maxHeartbeats 8000000 in
theorem NeedIn_impl (x : Tree) (cs : List Value) (F : List Nat) (p : ByteArray) (w : World) (h : rd w x cs F) (hw : (x.wt : Int) ≤ 1048576) (hp : (p.size : Int) ≤ 1048576) :
    Calls Tryz.prog 8 #[.agg cs.toArray, .string p] w fun e w' => ∃ A c V, e = .returned (.tuple #[.agg #[.string (needInR x p).1.key, .int .i64 (needInR x p).1.op, .slice A (needInR x p).1.values.length c], .agg #[.int .i64 (needInR x p).2.code, .int .i64 (needInR x p).2.at_, .string (needInR x p).2.path]]) ∧ Own w' w.heap.size (needInR x p).1.values [.slice A (needInR x p).1.values.length c] V ∧ Below w.heap.size w w' := by
  have HWX := Lib.hid hw
  clear hw
  have h0 := h
  obtain ⟨Ak, ck, Fk, Ac, cc, Fc, hck, hF, hkind, hnum, htext, hkeys, hkids⟩ := rd_Tree h
  subst hck
  clear hF h
  have hW0 : ∃ W, (((((w.alloc (.cells #[.int .i64 x.kind, .bool x.flag, .int .i64 x.num, .string x.text, .slice Ak x.keys.length ck, .slice Ac x.kids.length cc] 35)).alloc (.cells #[.string ⟨#[]⟩, .int .i64 0, .slice none 0 0] 28)).alloc (.cells #[.int .i64 0, .int .i64 0, .string ⟨#[]⟩] 30)).alloc (.cells #[.int .i64 x.kind, .bool x.flag, .int .i64 x.num, .string x.text, .slice Ak x.keys.length ck, .slice Ac x.kids.length cc, .string p, .int .i64 0, .int .i64 0, .string ⟨#[]⟩] 90)).alloc (.cells #[.string ⟨#[107, 101, 121]⟩, .string ⟨#[111, 112]⟩, .string ⟨#[118, 97, 108, 117, 101, 115]⟩] 9)) = W ∧ Below w.heap.size w W ∧ Blk W (w.heap.size + 1) [.string ⟨#[]⟩, .int .i64 0, .slice none 0 0] ∧ Blk W (w.heap.size + 1 + 1) [.int .i64 0, .int .i64 0, .string ⟨#[]⟩] ∧ RS W (w.heap.size + 1 + 1 + 1) x Ak Ac ck cc F p noF ∧ Sl W [sKey, sOp, sVals] (some ⟨w.heap.size + 1 + 1 + 1 + 1, 0, none⟩) 3 [w.heap.size + 1 + 1 + 1 + 1] ∧ W.heap.size = w.heap.size + 1 + 1 + 1 + 1 + 1 := by
    refine ⟨_, rfl, ext_alloc (ext_alloc (ext_alloc (ext_alloc (ext_alloc (ext_refl _) _) _) _) _) _, ?_, ?_, ⟨?_, ?_, ?_, noF_ok _⟩, ?_, by simp⟩
    · have h1 := Blk.new (w.alloc (.cells #[.int .i64 x.kind, .bool x.flag, .int .i64 x.num, .string x.text, .slice Ak x.keys.length ck, .slice Ac x.kids.length cc] 35)) [.string ⟨#[]⟩, .int .i64 0, .slice none 0 0] 28
      rw [World.size_alloc] at h1
      exact ((h1.ext (ext_alloc (ext_refl _) _)).ext (ext_alloc (ext_refl _) _)).ext (ext_alloc (ext_refl _) _)
    · have h1 := Blk.new ((w.alloc (.cells #[.int .i64 x.kind, .bool x.flag, .int .i64 x.num, .string x.text, .slice Ak x.keys.length ck, .slice Ac x.kids.length cc] 35)).alloc (.cells #[.string ⟨#[]⟩, .int .i64 0, .slice none 0 0] 28)) [.int .i64 0, .int .i64 0, .string ⟨#[]⟩] 30
      rw [World.size_alloc, World.size_alloc] at h1
      exact (h1.ext (ext_alloc (ext_refl _) _)).ext (ext_alloc (ext_refl _) _)
    · have h1 := Blk.new (((w.alloc (.cells #[.int .i64 x.kind, .bool x.flag, .int .i64 x.num, .string x.text, .slice Ak x.keys.length ck, .slice Ac x.kids.length cc] 35)).alloc (.cells #[.string ⟨#[]⟩, .int .i64 0, .slice none 0 0] 28)).alloc (.cells #[.int .i64 0, .int .i64 0, .string ⟨#[]⟩] 30)) [.int .i64 x.kind, .bool x.flag, .int .i64 x.num, .string x.text, .slice Ak x.keys.length ck, .slice Ac x.kids.length cc, .string p, .int .i64 noF.code, .int .i64 noF.at_, .string noF.path] 90
      rw [World.size_alloc, World.size_alloc, World.size_alloc] at h1
      exact h1.ext (ext_alloc (ext_refl _) _)
    · exact rd_extK h0 (ext_alloc (ext_alloc (ext_alloc (ext_alloc (ext_alloc (ext_refl _) _) _) _) _) _)
    · intro hm
      have := Dat.lt h0 _ hm
      omega
    · have h1 := Blk.new ((((w.alloc (.cells #[.int .i64 x.kind, .bool x.flag, .int .i64 x.num, .string x.text, .slice Ak x.keys.length ck, .slice Ac x.kids.length cc] 35)).alloc (.cells #[.string ⟨#[]⟩, .int .i64 0, .slice none 0 0] 28)).alloc (.cells #[.int .i64 0, .int .i64 0, .string ⟨#[]⟩] 30)).alloc (.cells #[.int .i64 x.kind, .bool x.flag, .int .i64 x.num, .string x.text, .slice Ak x.keys.length ck, .slice Ac x.kids.length cc, .string p, .int .i64 0, .int .i64 0, .string ⟨#[]⟩] 90)) [.string ⟨#[107, 101, 121]⟩, .string ⟨#[111, 112]⟩, .string ⟨#[118, 97, 108, 117, 101, 115]⟩] 9
      rw [World.size_alloc, World.size_alloc, World.size_alloc, World.size_alloc] at h1
      exact Sl.strs (ss := [sKey, sOp, sVals]) h1 (by intro s hs; simp only [List.mem_cons, List.not_mem_nil, or_false] at hs; rcases hs with rfl | rfl | rfl <;> (unfold maxLen; decide)) (by unfold maxLen; decide)
  obtain ⟨W, hW, hB, B1, B2, R0, S0, hZ⟩ := hW0
  have HW := Lib.hid hW
  clear hW
  go_enter Tryz.func8, Tryz.ntmps8
  go_wp2_with fail
  rw [HW.out]
  refine (known_any (w.heap.size + 1 + 1 + 1) x Ak Ac ck cc F p noF [sKey, sOp, sVals] _ 3 3 _ W R0 S0 rfl HWX.out hp (by decide)).mono ?_
  obtain ⟨f0, e0⟩ : ∃ f, knownR x p [sKey, sOp, sVals] = f := ⟨_, rfl⟩
  rw [e0]
  have H0 := Lib.hid e0
  clear e0
  rintro e w1 ⟨rfl, R1, hU⟩
  have hWZ : w.heap.size + 1 + 1 + 1 + 1 + 1 ≤ W.heap.size := by omega
  replace hWZ := Nat.le_trans (show w.heap.size ≤ W.heap.size by omega) (Nat.le_refl _)
  have hUB : Below w.heap.size W w1 := hU.below (fun b hb => by simp at hb; omega) hWZ
  replace hB := hB.trans hUB
  replace B1 := B1.keep (hU.block _ B1.lt (by simp))
  replace B2 := B2.keep (hU.block _ B2.lt (by simp))
  replace hWZ := Nat.le_trans hWZ hU.size
  clear hUB
  have hz1 : w.heap.size + 1 + 1 + 1 + 1 < w1.heap.size := by have := hU.size; omega
  clear hU S0 R0 HW hZ
  have HFL := Lib.hid (show ∀ b ∈ F, b < w.heap.size from fun b hb => Dat.lt h0 b hb)
  go_wp2_with fail
  have T1 := text_any (w.heap.size + 1 + 1 + 1) x Ak Ac ck cc F p f0 sKey keyR 50 w1 R1 HWX.out hp (by decide) (fun _ _ => rfl) (fun s w2 hs _ => LabelKeyOk_impl s w2 hs)
  obtain ⟨s1, f1, e1⟩ : ∃ s f, readT x p f0 sKey keyR = (s, f) := ⟨_, _, rfl⟩
  rw [e1] at T1
  have HK := Lib.hid (show niK x p = (s1, f1) by unfold niK niF nmKeys; rw [H0.out, e1])
  clear e1
  refine T1.mono ?_
  clear T1 R1
  rintro e w2 ⟨rfl, R2, hU⟩
  have hUB : Below w.heap.size w1 w2 := hU.below (fun b hb => by simp at hb; omega) hWZ
  replace hB := hB.trans hUB
  replace B1 := B1.keep (hU.block _ B1.lt (by simp))
  replace B2 := B2.keep (hU.block _ B2.lt (by simp))
  replace hWZ := Nat.le_trans hWZ hU.size
  clear hUB
  obtain ⟨bx, hbx⟩ : ∃ bx, w2.heap.size = bx := ⟨_, rfl⟩
  have hz2 : w.heap.size + 1 + 1 + 1 + 1 < bx := by have := hU.size; omega
  clear hU hz1
  have hA : Below w2.heap.size w2 (w2.alloc (.cells #[.string s1, .int .i64 0, .slice none 0 0] 28)) := ext_alloc (ext_refl _) _
  replace R2 := R2.ext hA
  replace hB := ext_trans hB hA
  replace B1 := B1.ext hA
  replace B2 := B2.ext hA
  have BX := Blk.new w2 [.string s1, .int .i64 0, .slice none 0 0] 28
  have hzA : (w2.alloc (.cells #[.string s1, .int .i64 0, .slice none 0 0] 28)).heap.size = bx + 1 := by rw [World.size_alloc, hbx]
  rw [hbx] at BX hWZ
  clear hA
  go_wp2_with fail
  try rw [hbx]
  generalize w2.alloc (.cells #[.string s1, .int .i64 0, .slice none 0 0] 28) = w2b at *
  replace hWZ : w.heap.size ≤ w2b.heap.size := by omega
  have T1 := text_any (w.heap.size + 1 + 1 + 1) x Ak Ac ck cc F p f1 sOp opB 51 w2b R2 HWX.out hp (by decide) (fun _ _ => rfl) (fun s w2 hs _ => Op1_any s w2)
  obtain ⟨s2, f2, e1⟩ : ∃ s f, readT x p f1 sOp opB = (s, f) := ⟨_, _, rfl⟩
  rw [e1] at T1
  have HWD := Lib.hid (show niW x p = (s2, f2) by unfold niW; rw [HK.out, e1])
  clear e1
  refine T1.mono ?_
  clear T1 R2 hbx
  rintro e w3 ⟨rfl, R3, hU⟩
  have hUB : Below w.heap.size w2b w3 := hU.below (fun b hb => by simp at hb; omega) hWZ
  replace hB := hB.trans hUB
  replace B1 := B1.keep (hU.block _ B1.lt (by simp))
  replace B2 := B2.keep (hU.block _ B2.lt (by simp))
  replace hWZ := Nat.le_trans hWZ hU.size
  clear hUB
  replace BX := BX.keep (hU.block _ BX.lt (by simp; omega))
  have hz3 : bx < w3.heap.size := by have := hU.size; omega
  clear hU hzA
  have ks := BX.cell (i := 1) (u := .int .i64 0) rfl
  have kf := BX.fz
  have hor := opR_range s2
  go_wp2_with fail
  refine (opOf_any s2 w3).mono ?_
  rintro e w4 ⟨rfl, rfl⟩
  obtain ⟨op, hop⟩ : ∃ op, opR s2 = op := ⟨_, rfl⟩
  rw [hop] at hor ⊢
  have HOP := Lib.hid hop
  clear hop
  replace hB := ext_setCell hB (p := ⟨bx, 1, none⟩) (by dsimp only; omega) (.int .i64 op)
  replace B1 := B1.far (c := bx) (by omega) 1 (.int .i64 op)
  replace B2 := B2.far (c := bx) (by omega) 1 (.int .i64 op)
  replace BX := BX.put 1 (.int .i64 op)
  replace R3 := RS.far R3 (c := bx) (by omega) (fun b hb => by have := HFL.out b hb; omega) 1 (.int .i64 op)
  go_wp2_with fail
  clear ks kf
  have hzz : (w3.setCell ⟨bx, 1, none⟩ (.int .i64 op)).heap.size = w3.heap.size := by simp [World.setCell]
  generalize w3.setCell ⟨bx, 1, none⟩ (.int .i64 op) = w4 at *
  replace BX : Blk w4 bx [.string s1, .int .i64 op, .slice none 0 0] := BX
  refine (list_any (w.heap.size + 1 + 1 + 1) x Ak Ac ck cc F p f2 sVals w4 R3 HWX.out hp (by decide)).mono ?_
  obtain ⟨kids, f3, e1⟩ : ∃ l f, readL x p f2 sVals = (l, f) := ⟨_, _, rfl⟩
  have hl40 := readL_len x p f2 sVals
  have hkw := readL_text x p f2 sVals
  rw [e1] at hl40 hkw ⊢
  have HLR := Lib.hid (show niL x p = (kids, f3) by unfold niL; rw [HWD.out, e1])
  clear e1
  rintro e w5 ⟨A, c, Gk, rfl, hSk, hGk, R5, hU⟩
  dsimp only at hl40 hSk
  replace hWZ : w.heap.size ≤ w4.heap.size := by omega
  have hUB : Below w.heap.size w4 w5 := hU.below (fun b hb => by simp at hb; omega) hWZ
  replace hB := hB.trans hUB
  replace B1 := B1.keep (hU.block _ B1.lt (by simp))
  replace B2 := B2.keep (hU.block _ B2.lt (by simp))
  replace hWZ := Nat.le_trans hWZ hU.size
  clear hUB
  replace BX := BX.keep (hU.block _ BX.lt (by simp; omega))
  have hz5 : bx < w5.heap.size := by have := hU.size; omega
  have hGx : ∀ b ∈ Gk, bx < b := fun b hb => by have := hGk b hb; omega
  clear hU hz3 hzz R3 hGk
  have HSK := Lib.hid hSk
  have HGX := Lib.hid hGx
  clear hSk hGx
  have HPQ := Lib.hid (show ((pathR p sVals).size : Int) ≤ 1048583 by have h1 := pathR_size p sVals; have h2 : sVals.size = 6 := rfl; omega)
  go_wp2_with fail
  have HKW := Lib.hid (show ∀ y ∈ kids, (y.text.size : Int) ≤ 1048576 from fun y hy => by have h1 := hkw y hy; have h2 := HWX.out; omega)
  go_loopw [25] (fun i wr => ∃ (j : Nat) (A' : Option Addr) (c' : Nat), i = .int .i64 j ∧ j ≤ kids.length ∧ Hid (RS wr (w.heap.size + 1 + 1 + 1) x Ak Ac ck cc F p (kidsN (pathR p sVals) f3 kids j) ∧ Blk wr bx [.string s1, .int .i64 op, .slice A' j c'] ∧ wr.ownsRow w5.heap.size 9 1 (.slice A' j c') j (txts kids j) ∧ (∀ b, b < w5.heap.size → b ≠ (w.heap.size + 1 + 1 + 1) → b ≠ bx → wr.heap[b]? = w5.heap[b]?) ∧ w5.heap.size ≤ wr.heap.size ∧ Below w.heap.size w wr)) (fun i _ => kids.length - (intOf i).toNat)
  case atStart => exact ⟨0, none, 0, rfl, Nat.zero_le _, Lib.hid ⟨R5, BX, World.ownsRow_nil _ _ _ _, fun _ _ _ _ => rfl, Nat.le_refl _, hB⟩⟩
  case round =>
    obtain ⟨j, A', c', rfl, hj, HX⟩ := hrel
    obtain ⟨RJ, BXJ, ROWJ, KEJ, hzJ, HBJ⟩ := HX.out
    clear HX
    by_cases hlt : j < kids.length
    · obtain ⟨bk, ok, ckk, Fkk, hAk, hbF, hbs, hr, _, hck⟩ := HSK.out.get hlt
      subst hAk
      obtain ⟨y, hy⟩ : ∃ y, kids[j] = y := ⟨_, rfl⟩
      rw [hy] at hr
      have HKS := Lib.hid (kidsN_succ (q := pathR p sVals) (f := f3) hlt)
      have HTS := Lib.hid (txts_succ hlt)
      rw [hy] at HKS HTS
      have hyw : y.text.size ≤ maxLen := by obtain ⟨_, _, _, _, _, _, _, _, _, _, h9, _, _⟩ := rd_Tree hr; exact h9
      have HTX := Lib.hid (show (y.text.size : Int) ≤ 1048576 from HKW.out y (by rw [← hy]; exact List.getElem_mem hlt))
      obtain ⟨Ak3, ck3, Fk3, Ac3, cc3, Fc3, hce, hF3, hkind3, hnum3, htext3, hkeys3, hkids3⟩ := rd_Tree hr
      subst hce
      have q0 : wr.cell? ⟨bk, ok + j * 6, none⟩ = some (.int .i64 y.kind) := by have h0 := hck 0 _ rfl; exact (World.cell?_of_block (a := ⟨bk, ok + j * 6, none⟩) (KEJ bk hbs (by have := HGX.out bk hbF; omega) (by have := HGX.out bk hbF; omega))).trans (by rwa [show ok + (j * Dat.size Tree + 0) = ok + j * 6 by show ok + (j * 6 + 0) = _; omega] at h0)
      have q1 : wr.cell? ⟨bk, ok + j * 6 + 1, none⟩ = some (.bool y.flag) := by have h0 := hck 1 _ rfl; exact (World.cell?_of_block (a := ⟨bk, ok + j * 6 + 1, none⟩) (KEJ bk hbs (by have := HGX.out bk hbF; omega) (by have := HGX.out bk hbF; omega))).trans (by rwa [show ok + (j * Dat.size Tree + 1) = ok + j * 6 + 1 by show ok + (j * 6 + 1) = _; omega] at h0)
      have q2 : wr.cell? ⟨bk, ok + j * 6 + 2, none⟩ = some (.int .i64 y.num) := by have h0 := hck 2 _ rfl; exact (World.cell?_of_block (a := ⟨bk, ok + j * 6 + 2, none⟩) (KEJ bk hbs (by have := HGX.out bk hbF; omega) (by have := HGX.out bk hbF; omega))).trans (by rwa [show ok + (j * Dat.size Tree + 2) = ok + j * 6 + 2 by show ok + (j * 6 + 2) = _; omega] at h0)
      have q3 : wr.cell? ⟨bk, ok + j * 6 + 3, none⟩ = some (.string y.text) := by have h0 := hck 3 _ rfl; exact (World.cell?_of_block (a := ⟨bk, ok + j * 6 + 3, none⟩) (KEJ bk hbs (by have := HGX.out bk hbF; omega) (by have := HGX.out bk hbF; omega))).trans (by rwa [show ok + (j * Dat.size Tree + 3) = ok + j * 6 + 3 by show ok + (j * 6 + 3) = _; omega] at h0)
      have q4 : wr.cell? ⟨bk, ok + j * 6 + 4, none⟩ = some (.slice Ak3 y.keys.length ck3) := by have h0 := hck 4 _ rfl; exact (World.cell?_of_block (a := ⟨bk, ok + j * 6 + 4, none⟩) (KEJ bk hbs (by have := HGX.out bk hbF; omega) (by have := HGX.out bk hbF; omega))).trans (by rwa [show ok + (j * Dat.size Tree + 4) = ok + j * 6 + 4 by show ok + (j * 6 + 4) = _; omega] at h0)
      have q5 : wr.cell? ⟨bk, ok + j * 6 + 5, none⟩ = some (.slice Ac3 y.kids.length cc3) := by have h0 := hck 5 _ rfl; exact (World.cell?_of_block (a := ⟨bk, ok + j * 6 + 5, none⟩) (KEJ bk hbs (by have := HGX.out bk hbF; omega) (by have := HGX.out bk hbF; omega))).trans (by rwa [show ok + (j * Dat.size Tree + 5) = ok + j * 6 + 5 by show ok + (j * 6 + 5) = _; omega] at h0)
      have hcap := (show Sl w5 kids (some ⟨bk, ok, none⟩) c Gk from HSK.out).cap
      have hki : (j : Int) < kids.length := by omega
      have hbl : bk < wr.heap.size := by omega
      have hj40 : j < 100 := by omega
      clear hck hr hF3 hkind3 hnum3 htext3 hkeys3 hkids3 hy
      go_wp2_with fail
      refine (PathKey_impl p sVals _ hp (by decide)).mono ?_
      rintro e wk ⟨rfl, rfl⟩
      go_wp2_with fail
      refine (PathPlace_impl (pathR p sVals) j hj40 _ (by have := HPQ.out; omega)).mono ?_
      rintro e wk ⟨rfl, rfl⟩
      clear q0 q1 q2 q3 q4 q5
      obtain ⟨pl, hpl⟩ : ∃ pl, placeR (pathR p sVals) j = pl := ⟨_, rfl⟩
      have HPL := Lib.hid (show pl.size ≤ 4194304 by rw [← hpl]; have h1 := placeR_size (pathR p sVals) j; have h2 := HPQ.out; omega)
      rw [hpl]
      obtain ⟨fj, hfj⟩ : ∃ fj, kidsN (pathR p sVals) f3 kids j = fj := ⟨_, rfl⟩
      rw [hfj] at RJ HKS
      have HFJ := Lib.hid (show kidsN (pathR p sVals) f3 kids (j + 1) = if valR y.text = false then failR (if y.kind ≠ 4 then failR fj 11 pl else fj) 14 pl else (if y.kind ≠ 4 then failR fj 11 pl else fj) by rw [HKS.out]; unfold kidF; rw [hpl])
      clear hfj HKS hpl
      have hbe : Below wr.heap.size wr (wr.alloc (.cells #[.int .i64 y.kind, .bool y.flag, .int .i64 y.num, .string y.text, .slice Ak3 y.keys.length ck3, .slice Ac3 y.kids.length cc3] 35)) := ext_alloc (ext_refl _) _
      have BVJ := Blk.new wr [.int .i64 y.kind, .bool y.flag, .int .i64 y.num, .string y.text, .slice Ak3 y.keys.length ck3, .slice Ac3 y.kids.length cc3] 35
      have hvJ : wr.heap.size < (wr.alloc (.cells #[.int .i64 y.kind, .bool y.flag, .int .i64 y.num, .string y.text, .slice Ak3 y.keys.length ck3, .slice Ac3 y.kids.length cc3] 35)).heap.size := by rw [World.size_alloc]; omega
      obtain ⟨bv, hbv⟩ : ∃ bv, wr.heap.size = bv := ⟨_, rfl⟩
      have hbvB : w5.heap.size ≤ bv := by omega
      replace RJ := RJ.ext hbe
      replace BXJ := BXJ.ext hbe
      replace ROWJ := ROWJ.alloc (.cells #[.int .i64 y.kind, .bool y.flag, .int .i64 y.num, .string y.text, .slice Ak3 y.keys.length ck3, .slice Ac3 y.kids.length cc3] 35)
      replace KEJ : ∀ b, b < w5.heap.size → b ≠ (w.heap.size + 1 + 1 + 1) → b ≠ bx → (wr.alloc (.cells #[.int .i64 y.kind, .bool y.flag, .int .i64 y.num, .string y.text, .slice Ak3 y.keys.length ck3, .slice Ac3 y.kids.length cc3] 35)).heap[b]? = w5.heap[b]? := fun b h1 h2 h3 => (hbe.block b (by omega)).trans (KEJ b h1 h2 h3)
      replace HBJ := ext_trans HBJ hbe
      replace hzJ := Nat.le_trans hzJ hbe.size
      try rw [hbv]
      rw [hbv] at BVJ hvJ
      clear hbe hbv hbl
      generalize wr.alloc (.cells #[.int .i64 y.kind, .bool y.flag, .int .i64 y.num, .string y.text, .slice Ak3 y.keys.length ck3, .slice Ac3 y.kids.length cc3] 35) = wv at *
      have mk := BVJ.cell (i := 0) (u := .int .i64 y.kind) rfl
      have mf := BVJ.fz 0
      by_cases hk4 : y.kind = 4
      case' pos =>
        have d4 : (y.kind != 4) = false := by simp [hk4]
        have HFA := Lib.hid (show (if y.kind ≠ 4 then failR fj 11 pl else fj) = fj from if_neg (by omega))
        replace HFJ := Lib.hid (show kidsN (pathR p sVals) f3 kids (j + 1) = if valR y.text = false then failR fj 14 pl else fj from HFJ.out.trans (by rw [HFA.out]))
        clear hk4 HFA
        have tk := BVJ.cell (i := 3) (u := .string y.text) rfl
        go_wp2_with fail
        clear mk mf d4 tk
        generalize fj = fj2 at *
        generalize wv = wa at *
      case' neg =>
        have d4 : (y.kind != 4) = true := by simp [hk4]
        have HFA := Lib.hid (show (if y.kind ≠ 4 then failR fj 11 pl else fj) = failR fj 11 pl from if_pos hk4)
        replace HFJ := Lib.hid (show kidsN (pathR p sVals) f3 kids (j + 1) = if valR y.text = false then failR (failR fj 11 pl) 14 pl else failR fj 11 pl from HFJ.out.trans (by rw [HFA.out]))
        clear hk4 HFA
        go_wp2_with fail
        clear mk mf d4
        refine (fail_any (w.heap.size + 1 + 1 + 1) x Ak Ac ck cc F p fj 11 pl wv RJ (fl_ok (by omega) (by omega) HPL.out)).mono ?_
        clear RJ
        rintro e wa ⟨rfl, RJ, hU⟩
        replace BXJ := BXJ.keep (hU.block _ BXJ.lt (by simp; omega))
        replace ROWJ := row_upd ROWJ hU (by omega)
        replace BVJ := BVJ.keep (hU.block _ BVJ.lt (by simp; omega))
        replace KEJ : ∀ b, b < w5.heap.size → b ≠ (w.heap.size + 1 + 1 + 1) → b ≠ bx → wa.heap[b]? = w5.heap[b]? := fun b h1 h2 h3 => (hU.block b (by omega) (by simpa using h2)).trans (KEJ b h1 h2 h3)
        replace HBJ := HBJ.trans (hU.below (fun b hb => by simp at hb; omega) HBJ.size)
        replace hzJ := Nat.le_trans hzJ hU.size
        replace hvJ := Nat.lt_of_lt_of_le hvJ hU.size
        clear hU
        have mk := BVJ.cell (i := 3) (u := .string y.text) rfl
        go_wp2_with fail
        clear mk
        generalize failR fj 11 pl = fj2 at *
        clear fj
      all_goals
        have hL := LabelValueOk_impl y.text wa HTX.out
        cases hv : valR y.text
        case' true =>
          replace HFJ := Lib.hid (show kidsN (pathR p sVals) f3 kids (j + 1) = fj2 from HFJ.out.trans (by rw [hv]; simp))
          rw [hv] at hL
          refine hL.mono ?_
          clear hL hv
          rintro e wb ⟨rfl, hbe⟩
          replace RJ := RJ.ext hbe
          replace BXJ := BXJ.ext hbe
          replace ROWJ := row_upd ROWJ (Upd.of_ext [(w.heap.size + 1 + 1 + 1)] hbe) (by omega)
          replace BVJ := BVJ.ext hbe
          replace KEJ : ∀ b, b < w5.heap.size → b ≠ (w.heap.size + 1 + 1 + 1) → b ≠ bx → wb.heap[b]? = w5.heap[b]? := fun b h1 h2 h3 => (hbe.block b (by omega)).trans (KEJ b h1 h2 h3)
          replace HBJ := ext_trans HBJ hbe
          replace hzJ := Nat.le_trans hzJ hbe.size
          replace hvJ := Nat.lt_of_lt_of_le hvJ hbe.size
          clear hbe
          generalize fj2 = fj3 at *
          generalize wb = wc at *
        case' false =>
          replace HFJ := Lib.hid (show kidsN (pathR p sVals) f3 kids (j + 1) = failR fj2 14 pl from HFJ.out.trans (by rw [hv]; simp))
          rw [hv] at hL
          refine hL.mono ?_
          clear hL hv
          rintro e wb ⟨rfl, hbe⟩
          replace RJ := RJ.ext hbe
          replace BXJ := BXJ.ext hbe
          replace ROWJ := row_upd ROWJ (Upd.of_ext [(w.heap.size + 1 + 1 + 1)] hbe) (by omega)
          replace BVJ := BVJ.ext hbe
          replace KEJ : ∀ b, b < w5.heap.size → b ≠ (w.heap.size + 1 + 1 + 1) → b ≠ bx → wb.heap[b]? = w5.heap[b]? := fun b h1 h2 h3 => (hbe.block b (by omega)).trans (KEJ b h1 h2 h3)
          replace HBJ := ext_trans HBJ hbe
          replace hzJ := Nat.le_trans hzJ hbe.size
          replace hvJ := Nat.lt_of_lt_of_le hvJ hbe.size
          clear hbe
          go_wp2_with fail
          refine (fail_any (w.heap.size + 1 + 1 + 1) x Ak Ac ck cc F p fj2 14 pl wb RJ (fl_ok (by omega) (by omega) HPL.out)).mono ?_
          clear RJ
          rintro e wc ⟨rfl, RJ, hU⟩
          replace BXJ := BXJ.keep (hU.block _ BXJ.lt (by simp; omega))
          replace ROWJ := row_upd ROWJ hU (by omega)
          replace BVJ := BVJ.keep (hU.block _ BVJ.lt (by simp; omega))
          replace KEJ : ∀ b, b < w5.heap.size → b ≠ (w.heap.size + 1 + 1 + 1) → b ≠ bx → wc.heap[b]? = w5.heap[b]? := fun b h1 h2 h3 => (hU.block b (by omega) (by simpa using h2)).trans (KEJ b h1 h2 h3)
          replace HBJ := HBJ.trans (hU.below (fun b hb => by simp at hb; omega) HBJ.size)
          replace hzJ := Nat.le_trans hzJ hU.size
          replace hvJ := Nat.lt_of_lt_of_le hvJ hU.size
          clear hU
          generalize failR fj2 14 pl = fj3 at *
          clear fj2
        all_goals
          have m1 := BVJ.cell (i := 3) (u := .string y.text) rfl
          have m2 := BXJ.cell (i := 2) (u := .slice A' j c') rfl
          have m3 := BXJ.fz
          have m4 := BXJ.lt
          go_wp2_with (
            at_builtin
            go_must (refine wpList_append1 elString (by rfl) _ _ (by rfl) _ _ _ _ _ ROWJ (by rfl) [.string y.text] (by first | rfl | (simp; rfl)) (by rfl) (by simp [Value.oneCell']) (by omega) (by omega) hzJ ?_)
            intro v6 w6 hown6 hg6 hz6
            go_must (obtain ⟨A6, c6, hv6⟩ := row_sliceK hown6)
            go_must (subst hv6)
            go_must (have hb6 : Below w5.heap.size wc w6 := grown_ext ROWJ hg6 (Below.refl _ _) hzJ)
            have BX6 := BXJ.keep (hb6.block _ (by omega))
            have n2 := BX6.cell (i := 2) (u := .slice A' j c') rfl
            have n3 := BX6.fz
            have n4 := BX6.lt)
          rw [← HTS.out] at hown6
          refine ⟨⟨j + 1, A6, c6, (by go_num), by omega, Lib.hid ⟨?_, BX6.put 2 (.slice A6 (j + 1) c6), ownsRow_setCell_below hown6 (a := ⟨bx, 2, none⟩) (show bx < w5.heap.size by omega) _, ?_, ?_, ?_⟩⟩, by simp only [intOf]; omega⟩
          · rw [HFJ.out]
            exact RS.far (RJ.keepB (fun b hb => hb6.block b hb) hb6.size (by omega) (fun b hb => by have := HFL.out b hb; omega)) (c := bx) (by omega) (fun b hb => by have := HFL.out b hb; omega) 2 (.slice A6 (j + 1) c6)
          · intro b h1 h2 h3
            rw [Below.heap_setCell _ _ _ _ (by dsimp only; exact h3)]
            exact (hb6.block b h1).trans (KEJ b h1 h2 h3)
          · have h1 := hb6.size
            simp only [World.setCell, Array.size_modify]
            omega
          · exact ext_setCell (HBJ.trans (hb6.mono (by omega))) (by dsimp only; omega) _
    · have hje : j = kids.length := by omega
      have hki : ¬ (j : Int) < kids.length := by omega
      have x2 := BXJ.cell (i := 2) (u := .slice A' j c') rfl
      have xl := BXJ.lt
      clear hlt hje
      go_wp2_with fail
      clear x2 xl
      have hje : j = kids.length := by omega
      obtain ⟨f4, hf4⟩ : ∃ f4, kidsN (pathR p sVals) f3 kids j = f4 := ⟨_, rfl⟩
      rw [hf4] at RJ
      have HG := Lib.hid (show niG x p = f4 by unfold niG; rw [HLR.out]; rw [hje] at hf4; exact hf4)
      clear hf4
      replace B1 := B1.keep (KEJ (w.heap.size + 1) (by omega) (by omega) (by omega))
      replace B2 := B2.keep (KEJ (w.heap.size + 1 + 1) (by omega) (by omega) (by omega))
      clear KEJ hB R5 BX
      obtain ⟨vs, hvs⟩ : ∃ vs, kids.map Tree.text = vs := ⟨_, rfl⟩
      have hvl : vs.length = j := by rw [← hvs, List.length_map, hje]
      have hvm : ∀ s ∈ vs, s.size ≤ maxLen := by
        rw [← hvs]
        intro s hs
        obtain ⟨y, hy, rfl⟩ := List.mem_map.1 hs
        have := HKW.out y hy
        unfold maxLen; omega
      have hts : txts kids j = vs.map Value.string := by unfold txts; rw [hje, List.take_length, ← hvs, List.map_map]; rfl
      have HNV0 := Lib.hid (show niV x p = valsR vs by unfold niV; rw [HLR.out]; dsimp only; rw [hvs])
      rw [hts] at ROWJ
      have hO := Own.of_row (α := ByteArray) (xs := vs) (F := []) (w := wr) (B := w5.heap.size) (by rw [hvl]; exact ROWJ) ⟨str_rdCells hvm, List.nodup_nil, (fun b hb => by cases hb), (fun b hb => by cases hb)⟩ (fun g _ hm => by cases hm)
      obtain ⟨A6, c6, V, hv6, hO⟩ := hO
      have hv7 := hv6
      simp only [Value.slice.injEq] at hv7
      obtain ⟨rfl, hq7, rfl⟩ := hv7
      clear hq7
      clear hv6 ROWJ hts hvs hvm hje
      have hS := sortStr vs A' c' V wr w5.heap.size hO (by omega)
      rw [hvl] at hS
      refine hS.mono ?_
      clear hS
      rintro e w7 ⟨rfl, ys, hys, hO7, hU7⟩
      have hk7 : ∀ b, b < w5.heap.size → w7.heap[b]? = wr.heap[b]? := fun b hb => hU7.block b (by omega) (fun hm => by have := hO.base b hm; omega)
      have hs := hU7.size
      replace RJ := RJ.keepB hk7 hs (by omega) (fun b hb => by have := HFL.out b hb; omega)
      replace BXJ := BXJ.keep (hk7 bx (by omega))
      replace B1 := B1.keep (hk7 (w.heap.size + 1) (by omega))
      replace B2 := B2.keep (hk7 (w.heap.size + 1 + 1) (by omega))
      replace hzJ := Nat.le_trans hzJ hs
      replace HBJ := HBJ.trans (hU7.below (fun b hb => by have := hO.base b hb; omega) HBJ.size)
      have hyl : ys.length = vs.length := by have := congrArg List.length hys; simpa using this
      rw [hvl] at hyl
      rw [← hyl] at hO7
      have hC := compStr ys A' c' V w7 w5.heap.size hO7 (by omega)
      rw [hyl] at hC
      clear hs hk7 hU7 hO
      have x2 := BXJ.cell (i := 2) (u := .slice A' j c') rfl
      have x3 := BXJ.fz
      have xl := BXJ.lt
      go_wp2_with fail
      refine hC.mono ?_
      clear hC x2 x3 xl
      rintro e w8 ⟨zs, rfl, hzs, hO8, hU8⟩
      have HNV := Lib.hid (show niV x p = zs from HNV0.out.trans (vals_of hys hzs).symm)
      have hzl : zs.length ≤ 40 := by rw [vals_of hys hzs]; have := valsR_len vs; omega
      have hk8 : ∀ b, b < w5.heap.size → w8.heap[b]? = w7.heap[b]? := fun b hb => hU8.block b (by omega) (fun hm => by have := hO7.base b hm; omega)
      have hs := hU8.size
      replace RJ := RJ.keepB hk8 hs (by omega) (fun b hb => by have := HFL.out b hb; omega)
      replace BXJ := BXJ.keep (hk8 bx (by omega))
      replace B1 := B1.keep (hk8 (w.heap.size + 1) (by omega))
      replace B2 := B2.keep (hk8 (w.heap.size + 1 + 1) (by omega))
      replace hzJ := Nat.le_trans hzJ hs
      replace HBJ := HBJ.trans (hU8.below (fun b hb => by have := hO7.base b hb; omega) HBJ.size)
      clear hs hk8 hU8 hO7 hys hzs HNV0 hyl hvl
      have x1 := BXJ.cell (i := 1) (u := .int .i64 op) rfl
      have x2 := BXJ.cell (i := 2) (u := .slice A' j c') rfl
      have x3 := BXJ.fz
      have xl := BXJ.lt
      go_upto_region 18 with fail
      clear x1 x2 x3 xl
      replace RJ := RS.far RJ (c := bx) (by omega) (fun b hb => by have := HFL.out b hb; omega) 2 (.slice A' zs.length c')
      replace B1 := B1.far (c := bx) (by omega) 2 (.slice A' zs.length c')
      replace B2 := B2.far (c := bx) (by omega) 2 (.slice A' zs.length c')
      replace BXJ := BXJ.put 2 (.slice A' zs.length c')
      have hOJ := hO8.setCell (p := ⟨bx, 2, none⟩) (show bx < w5.heap.size by omega) (.slice A' zs.length c')
      replace HBJ := ext_setCell HBJ (p := ⟨bx, 2, none⟩) (by dsimp only; omega) (.slice A' zs.length c')
      replace hzJ : w5.heap.size ≤ (w8.setCell ⟨bx, 2, none⟩ (.slice A' zs.length c')).heap.size := by simpa [World.setCell] using hzJ
      clear hO8
      generalize w8.setCell ⟨bx, 2, none⟩ (.slice A' zs.length c') = w9 at *
      replace BXJ : Blk w9 bx [.string s1, .int .i64 op, .slice A' zs.length c'] := BXJ
      have x1 := BXJ.cell (i := 1) (u := .int .i64 op) rfl
      have x2 := BXJ.cell (i := 2) (u := .slice A' zs.length c') rfl
      have xl := BXJ.lt
      go_cut [72] from 60 to 71 (fun c wc => c = .bool (!fitB op zs.length) ∧ w9 = wc)
      case first =>
        have hzi : decide ((0 : Int) < zs.length) = decide (0 < zs.length) := by simp
        by_cases h1 : op = 1
        · have d1 : (op == 1) = true := by simp [h1]
          go_wp2_with fail
          go_meet
          exact ⟨by unfold fitB; simp [d1, hzi], rfl⟩
        · have d1 : (op == 1) = false := by simp [h1]
          by_cases h2 : op = 2
          · have d2 : (op == 2) = true := by simp [h2]
            clear h1
            go_wp2_with fail
            go_meet
            exact ⟨by unfold fitB; simp [d1, d2, hzi], rfl⟩
          · have d2 : (op == 2) = false := by simp [h2]
            clear h1 h2
            go_wp2_with fail
            go_meet
            exact ⟨by unfold fitB; simp [d1, d2, hzi], rfl⟩
      obtain ⟨rfl, hw⟩ := hcut
      subst hw
      clear x1 x2 xl
      have HPF := Lib.hid (show (pathR p sVals).size ≤ 4194304 by have := HPQ.out; omega)
      cases hf : fitB op zs.length
      case' true =>
        have HE := Lib.hid (show niH x p = if 4 < zs.length then failR f4 16 (pathR p sVals) else f4 by unfold niH endF; rw [HG.out, HWD.out, HNV.out]; dsimp only; rw [HOP.out, hf]; simp)
        clear hf
        rw [show (!true) = false from rfl]
        have x2 := BXJ.cell (i := 2) (u := .slice A' zs.length c') rfl
        have xl := BXJ.lt
        go_upto_region 20 with fail
        clear x2 xl HG
        generalize f4 = f5 at *
        generalize w9 = wA at *
      case' false =>
        have HE := Lib.hid (show niH x p = if 4 < zs.length then failR (failR f4 14 (pathR p sVals)) 16 (pathR p sVals) else failR f4 14 (pathR p sVals) by unfold niH endF; rw [HG.out, HWD.out, HNV.out]; dsimp only; rw [HOP.out, hf]; simp)
        clear hf
        rw [show (!false) = true from rfl]
        go_wp2_with fail
        refine (PathKey_impl p sVals _ hp (by decide)).mono ?_
        rintro e wk ⟨rfl, rfl⟩
        go_wp2_with fail
        refine (fail_any (w.heap.size + 1 + 1 + 1) x Ak Ac ck cc F p f4 14 (pathR p sVals) w9 RJ (fl_ok (by omega) (by omega) HPF.out)).mono ?_
        clear RJ
        rintro e wA ⟨rfl, RJ, hU⟩
        replace BXJ := BXJ.keep (hU.block _ BXJ.lt (by simp; omega))
        replace B1 := B1.keep (hU.block _ B1.lt (by simp))
        replace B2 := B2.keep (hU.block _ B2.lt (by simp))
        replace hOJ := hOJ.keep (fun b hb => hU.block b (hOJ.lt b hb) (by have := hOJ.base b hb; simp; omega)) hU.size
        replace HBJ := HBJ.trans (hU.below (fun b hb => by simp at hb; omega) HBJ.size)
        replace hzJ := Nat.le_trans hzJ hU.size
        clear hU
        have x2 := BXJ.cell (i := 2) (u := .slice A' zs.length c') rfl
        have xl := BXJ.lt
        go_upto_region 20 with fail
        clear x2 xl HG
        generalize failR f4 14 (pathR p sVals) = f5 at *
      all_goals
        have x2 := BXJ.cell (i := 2) (u := .slice A' zs.length c') rfl
        have xl := BXJ.lt
        by_cases h4 : 4 < zs.length
        case' pos =>
          have h4i : (4 : Int) < zs.length := by omega
          have HH := Lib.hid (show niH x p = failR f5 16 (pathR p sVals) from HE.out.trans (if_pos h4))
          clear h4
          go_wp2_with fail
          refine (PathKey_impl p sVals _ hp (by decide)).mono ?_
          rintro e wk ⟨rfl, rfl⟩
          go_wp2_with fail
          refine (fail_any (w.heap.size + 1 + 1 + 1) x Ak Ac ck cc F p f5 16 (pathR p sVals) wA RJ (fl_ok (by omega) (by omega) HPF.out)).mono ?_
          clear RJ x2 xl
          rintro e wB ⟨rfl, RJ, hU⟩
          replace BXJ := BXJ.keep (hU.block _ BXJ.lt (by simp; omega))
          replace B1 := B1.keep (hU.block _ B1.lt (by simp))
          replace B2 := B2.keep (hU.block _ B2.lt (by simp))
          replace hOJ := hOJ.keep (fun b hb => hU.block b (hOJ.lt b hb) (by have := hOJ.base b hb; simp; omega)) hU.size
          replace HBJ := HBJ.trans (hU.below (fun b hb => by simp at hb; omega) HBJ.size)
          replace hzJ := Nat.le_trans hzJ hU.size
          clear hU
          go_upto_region 22 with fail
          clear HE
          generalize failR f5 16 (pathR p sVals) = f6 at *
        case' neg =>
          have h4i : ¬ (4 : Int) < zs.length := by omega
          have HH := Lib.hid (show niH x p = f5 from HE.out.trans (if_neg h4))
          clear h4
          go_upto_region 22 with fail
          clear x2 xl HE
          generalize f5 = f6 at *
          generalize wA = wB at *
        all_goals
          by_cases h6 : f6.code = 0
          · have d6 : (f6.code != 0) = false := by simp [h6]
            have HR := Lib.hid (show needInR x p = (⟨s1, op, zs⟩, noF) by unfold needInR; rw [HH.out, if_pos h6, HK.out, HWD.out]; dsimp only; rw [HOP.out, HNV.out])
            clear h6
            have m0 := B1.cell (i := 0) (u := .string ⟨#[]⟩) rfl
            have m1 := B1.cell (i := 1) (u := .int .i64 0) rfl
            have m2 := B1.cell (i := 2) (u := .slice none 0 0) rfl
            have n0 := B2.cell (i := 0) (u := .int .i64 0) rfl
            have n1 := B2.cell (i := 1) (u := .int .i64 0) rfl
            have n2 := B2.cell (i := 2) (u := .string ⟨#[]⟩) rfl
            have l1 := B1.lt
            have l2 := B2.lt
            have z1 := B1.fz
            have z2 := B2.fz
            have g1 := RJ.blk.cell (i := 7) (u := .int .i64 f6.code) rfl
            have g2 := RJ.blk.cell (i := 8) (u := .int .i64 f6.at_) rfl
            have g3 := RJ.blk.cell (i := 9) (u := .string f6.path) rfl
            have gl := RJ.blk.lt
            have x0 := BXJ.cell (i := 0) (u := .string s1) rfl
            have x1 := BXJ.cell (i := 1) (u := .int .i64 op) rfl
            have x2 := BXJ.cell (i := 2) (u := .slice A' zs.length c') rfl
            have xl := BXJ.lt
            have HO := Lib.hid hOJ
            have HB := Lib.hid HBJ
            clear RJ BXJ B1 B2 hOJ HBJ
            go_upto_region 24 with fail
            clear g1 g2 g3 gl d6
            try dsimp only
            iterate 80 (first | go_step | skip)
            refine bodyPost_ret (v := .tuple #[.agg #[.string s1, .int .i64 op, .slice A' zs.length c'], .agg #[.int .i64 0, .int .i64 0, .string ⟨#[]⟩]]) (by simp [results, Tryz.results8, go_sem, *]) rfl ⟨A', c', V, ?_, ?_, ?_⟩
            · rw [HR.out]; try rfl
            · rw [HR.out]
              have hO := HO.out
              exact ((((((hO.setCell (p := ⟨w.heap.size + 1, 0, none⟩) (show w.heap.size + 1 < w5.heap.size by omega) _).setCell (p := ⟨w.heap.size + 1, 1, none⟩) (show w.heap.size + 1 < w5.heap.size by omega) _).setCell (p := ⟨w.heap.size + 1, 2, none⟩) (show w.heap.size + 1 < w5.heap.size by omega) _).setCell (p := ⟨w.heap.size + 1 + 1, 0, none⟩) (show w.heap.size + 1 + 1 < w5.heap.size by omega) _).setCell (p := ⟨w.heap.size + 1 + 1, 1, none⟩) (show w.heap.size + 1 + 1 < w5.heap.size by omega) _).setCell (p := ⟨w.heap.size + 1 + 1, 2, none⟩) (show w.heap.size + 1 + 1 < w5.heap.size by omega) _).mono (by omega)
            · have hB := HB.out
              repeat (first | with_reducible exact hB | with_reducible refine ext_setCell ?_ (by dsimp only; omega) _)
          · have d6 : (f6.code != 0) = true := by simp [h6]
            have HR := Lib.hid (show needInR x p = (zNeed, f6) by unfold needInR; rw [HH.out, if_neg h6])
            clear h6
            have m0 := B1.cell (i := 0) (u := .string ⟨#[]⟩) rfl
            have m1 := B1.cell (i := 1) (u := .int .i64 0) rfl
            have m2 := B1.cell (i := 2) (u := .slice none 0 0) rfl
            have n0 := B2.cell (i := 0) (u := .int .i64 0) rfl
            have n1 := B2.cell (i := 1) (u := .int .i64 0) rfl
            have n2 := B2.cell (i := 2) (u := .string ⟨#[]⟩) rfl
            have l1 := B1.lt
            have l2 := B2.lt
            have z1 := B1.fz
            have z2 := B2.fz
            have g1 := RJ.blk.cell (i := 7) (u := .int .i64 f6.code) rfl
            have g2 := RJ.blk.cell (i := 8) (u := .int .i64 f6.at_) rfl
            have g3 := RJ.blk.cell (i := 9) (u := .string f6.path) rfl
            have gl := RJ.blk.lt
            have x0 := BXJ.cell (i := 0) (u := .string s1) rfl
            have x1 := BXJ.cell (i := 1) (u := .int .i64 op) rfl
            have x2 := BXJ.cell (i := 2) (u := .slice A' zs.length c') rfl
            have xl := BXJ.lt
            have HB := Lib.hid HBJ
            clear RJ BXJ B1 B2 hOJ HBJ
            go_upto_region 23 with fail
            clear d6 x0 x1 x2 xl
            go_region
            all_goals
              try dsimp only
              iterate 80 (first | go_step | skip)
              refine bodyPost_ret (v := .tuple #[.agg #[.string ⟨#[]⟩, .int .i64 0, .slice none 0 0], .agg #[.int .i64 f6.code, .int .i64 f6.at_, .string f6.path]]) (by simp [results, Tryz.results8, go_sem, *]) rfl ⟨none, 0, [], ?_, ?_, ?_⟩
              · rw [HR.out]; try rfl
              · rw [HR.out]; exact Own.flat (Sl.nil (α := ByteArray) _ none 0 (Nat.zero_le _))
              · have hB := HB.out
                repeat (first | with_reducible exact hB | with_reducible refine ext_setCell ?_ (by dsimp only; omega) _ | with_reducible refine ext_drew ?_)

end Go.Proofs.YtegekccoincicaaGreatDoor
