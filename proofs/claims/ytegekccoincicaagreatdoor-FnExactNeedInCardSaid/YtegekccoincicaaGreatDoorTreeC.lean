/- copyTree, of the program. No condition. -/
import Derived.Test.YtegekccoincicaaGreatDoorCloneS
import Derived.Test.YtegekccoincicaaGreatDoorToTree
namespace Go.Proofs.YtegekccoincicaaGreatDoor
open Dat (rd)
open Go.ChangeShapes Go.WideShapes Go.ChangeAt Go.RowKit
set_option linter.unusedVariables false
set_option linter.unusedSimpArgs false

/-- what copyTree answers -/
def CpTree (x : Tree) : Prop := ∀ (cs : List Value) (F : List Nat) (w : World), rd w x cs F → (x.wt : Int) ≤ 1048576 → Calls Tryz.prog 142 #[.agg cs.toArray] w fun e w' => ∃ cs F, e = .returned (.agg cs.toArray) ∧ Own w' w.heap.size x cs F ∧ Below w.heap.size w w'
set_option maxRecDepth 100000 in
set_option maxHeartbeats 2000000 in
theorem copyTrees_step (xs : List Tree) (ih : ∀ x ∈ xs, CpTree x) (A : Option Addr) (c : Nat) (F : List Nat) (w : World) (h : Sl w xs A c F) (hl : (wtL Tree.wt xs : Int) ≤ 1048576) :
    Calls Tryz.prog 163 #[.slice A xs.length c] w fun e w' => ∃ A' c' F', e = .returned (.slice A' xs.length c') ∧ Own w' w.heap.size xs [.slice A' xs.length c'] F' ∧ Below w.heap.size w w' := by
  have hlen : (xs.length : Int) ≤ 1048576 := by have := wtL_len Tree.wt xs; omega
  have HW := Lib.hid (fun k (hk : k < xs.length) => (show (Tree.wt xs[k] : Int) ≤ 1048576 by have := wtL_get (f := Tree.wt) hk; omega))
  have IH := Lib.hid ih
  clear ih hl
  go_enter Tryz.func163, Tryz.ntmps163
  go_wp2_with fail
  go_loopw [3, 8] (fun v i wr => ∃ (k : Nat) (ds : List Value) (F' : List Nat), k ≤ xs.length ∧ i = .int .i64 k ∧ wr.ownsRow w.heap.size 35 6 v k ds ∧ OwnCells wr w.heap.size (xs.take k) ds F' ∧ (∀ g, v.ownBlock = some g → g ∉ F') ∧ Below w.heap.size w wr) (fun _ i _ => xs.length - (intOf i).toNat)
  case atStart => exact ⟨0, [], [], Nat.zero_le _, rfl, World.ownsRow_nil w _ _ _, OwnCells.nil _ _, (fun g _ hm => by cases hm), ext_refl _⟩
  case round =>
    obtain ⟨k, ds, F', hk, rfl, hown, hO, hne, hbl⟩ := hrel
    by_cases hlt : k < xs.length
    · obtain ⟨b, o, ck, Fk, rfl, hbF, hbs, hr, hsub, hc⟩ := (h.ext hbl).get hlt
      have hr0 := hr
      obtain ⟨Ak1, ck1, Fk1, Ac1, cc1, Fc1, hck, hF, hkind1, hnum1, htext1, hkeys1, hkids1⟩ := rd_Tree hr
      subst hck
      clear hF hr
      have q0 : wr.cell? ⟨b, o + k * 6, none⟩ = some (.int .i64 xs[k].kind) := by exact hc 0 _ rfl
      have q1 : wr.cell? ⟨b, o + k * 6 + 1, none⟩ = some (.bool xs[k].flag) := by rw [Nat.add_assoc]; exact hc 1 _ rfl
      have q2 : wr.cell? ⟨b, o + k * 6 + 2, none⟩ = some (.int .i64 xs[k].num) := by rw [Nat.add_assoc]; exact hc 2 _ rfl
      have q3 : wr.cell? ⟨b, o + k * 6 + 3, none⟩ = some (.string xs[k].text) := by rw [Nat.add_assoc]; exact hc 3 _ rfl
      have q4 : wr.cell? ⟨b, o + k * 6 + 4, none⟩ = some (.slice Ak1 xs[k].keys.length ck1) := by rw [Nat.add_assoc]; exact hc 4 _ rfl
      have q5 : wr.cell? ⟨b, o + k * 6 + 5, none⟩ = some (.slice Ac1 xs[k].kids.length cc1) := by rw [Nat.add_assoc]; exact hc 5 _ rfl
      clear hc
      have hwk := HW.out k hlt
      obtain ⟨Av, cv, hv0⟩ := row_sliceK hown
      subst hv0
      have hbox := Blk.new wr [.int .i64 xs[k].kind, .bool xs[k].flag, .int .i64 xs[k].num, .string xs[k].text, .slice Ak1 xs[k].keys.length ck1, .slice Ac1 xs[k].kids.length cc1] 35
      go_wp2_with (first
        | (go_at_call 142
           refine (IH.out xs[k] (List.getElem_mem ..) _ _ _ (rd_extK hr0 (by repeat (first | with_reducible exact ext_refl _ | with_reducible assumption | with_reducible refine ext_alloc ?_ _ | with_reducible refine ext_trans ?_ (by assumption)))) hwk).mono ?_
           rintro e w2 ⟨cs2, G2, rfl, hO2, hb2⟩
           go_must (have hR2 := hO2.rd)
           go_must (obtain ⟨Ak2, ck2, Fk2, Ac2, cc2, Fc2, hck, hF2, hkind2, hnum2, htext2, hkeys2, hkids2⟩ := rd_Tree hR2)
           go_must (subst hck)
           go_must (have hb12 : Below wr.heap.size wr w2 := ext_trans (ext_alloc (ext_refl _) _) hb2)
           go_must (have hrow := row_ext hown hb12)
           go_must (clear hF2 hR2))
        | (at_builtin
           refine wpList_append2 (o := ⟨some 16, _, _, _, _, _⟩) elTree (by rfl) _ _ (by rfl) _ _ _ _ _ hrow (by rfl) [.int .i64 xs[k].kind, .bool xs[k].flag, .int .i64 xs[k].num, .string xs[k].text, .slice Ak2 xs[k].keys.length ck2, .slice Ac2 xs[k].kids.length cc2] (by first | rfl | (simp; rfl)) (by rfl) (by simp [Value.oneCell']) (by omega) (by omega) (by have := hbl.size; have := hb12.size; omega) ?_
           intro v4 w4 hown4 hg4 hz4 hat4))
      have hx2 : Own w2 wr.heap.size xs[k] [.int .i64 xs[k].kind, .bool xs[k].flag, .int .i64 xs[k].num, .string xs[k].text, .slice Ak2 xs[k].keys.length ck2, .slice Ac2 xs[k].kids.length cc2] G2 := hO2.mono (by simp)
      obtain ⟨hcs4, hne4⟩ := OwnCells.pushK (v' := v4) hrow (hO.ext hb12) hne hx2 hbl.size (fun g hg => (hown.lt g hg).2) (fun y hy => hO.lt y hy) hg4 hat4
      rw [← List.take_succ_eq_append_getElem hlt] at hcs4
      exact ⟨⟨k + 1, _, _, by omega, by go_num, hown4, hcs4, hne4, grown_ext (row_mono hrow (Nat.le_refl _)) hg4 (ext_trans hbl hb12) (by have := hbl.size; have := hb12.size; omega)⟩, by simp [intOf]; omega⟩
    · have hkl : k = xs.length := by omega
      subst hkl
      rw [List.take_length] at hO
      obtain ⟨Ah, ch, Gh, rfl, hOh⟩ := Own.of_row hown hO hne
      go_wp2
      go_ret
      exact ⟨_, _, _, rfl, hOh, hbl⟩
set_option maxRecDepth 100000 in
set_option maxHeartbeats 2000000 in
theorem copyTree_step (x : Tree) (ih : ∀ k ∈ x.kids, CpTree k) : CpTree x := by
  intro cs F w h hw
  have hwt := Tree.wt_eq x
  have hkl : (x.keys.length : Int) ≤ 1048576 := by have := wtL_len ByteArray.size x.keys; omega
  have hll : (wtL Tree.wt x.kids : Int) ≤ 1048576 := by omega
  clear hwt hw
  have IH := Lib.hid ih
  clear ih
  obtain ⟨Ak, ck, Fk, Ac, cc, Fc, hck, hF, hkind, hnum, htext, hkeys, hkids⟩ := rd_Tree h
  subst hck
  clear hF h
  replace htext := sz63 (s := x.text) htext
  have S0 := Cp.new w [.int .i64 x.kind, .bool x.flag, .int .i64 x.num, .string x.text, .slice Ak x.keys.length ck, .slice Ac x.kids.length cc] [.int .i64 0, .bool false, .int .i64 0, .string ⟨#[]⟩, .slice none 0 0, .slice none 0 0] 35 35
  go_enter Tryz.func142, Tryz.ntmps142
  go_wp2_with fail
  refine (cloneString_any x.keys _ _ _ _ (hkeys.ext (by repeat (first | with_reducible exact ext_refl _ | with_reducible assumption | with_reducible refine ext_alloc ?_ _ | with_reducible refine ext_trans ?_ (by assumption)))) hkl).mono ?_
  rintro e w1 ⟨A1, c1, F1, rfl, hO1, hb1⟩
  have S1 := (S0.ext hb1).put 4 (.slice A1 x.keys.length c1)
  have f1 := (S0.ext hb1).box.fz 4
  have u1 := (S0.ext hb1).box.cell (i := 4) (u := .slice Ak x.keys.length ck) rfl
  have l1 := (S0.ext hb1).box.lt
  have k1 := S1.box.cell (i := 5) (u := .slice Ac x.kids.length cc) rfl
  have HS1 := Lib.hid S1
  go_wp2_with fail
  refine (copyTrees_step x.kids IH.out _ _ _ _ (hkids.ext S1.below) hll).mono ?_
  rintro e w2 ⟨A2, c2, F2, rfl, hO2, hb2⟩
  have S2 := (S1.ext hb2).put 5 (.slice A2 x.kids.length c2)
  have f2 := (S1.ext hb2).box.fz 5
  have l2 := (S1.ext hb2).box.lt
  have u2 := (S1.ext hb2).box.cell (i := 5) (u := .slice Ac x.kids.length cc) rfl
  have m0 := S2.box.cell (i := 0) (u := .int .i64 x.kind) rfl
  have m1 := S2.box.cell (i := 1) (u := .bool x.flag) rfl
  have m2 := S2.box.cell (i := 2) (u := .int .i64 x.num) rfl
  have m3 := S2.box.cell (i := 3) (u := .string x.text) rfl
  have m4 := S2.box.cell (i := 4) (u := .slice A1 x.keys.length c1) rfl
  have m5 := S2.box.cell (i := 5) (u := .slice A2 x.kids.length c2) rfl
  have r0 := S2.rb.cell (i := 0) (u := .int .i64 0) rfl
  have r1 := S2.rb.cell (i := 1) (u := .bool false) rfl
  have r2 := S2.rb.cell (i := 2) (u := .int .i64 0) rfl
  have r3 := S2.rb.cell (i := 3) (u := .string ⟨#[]⟩) rfl
  have r4 := S2.rb.cell (i := 4) (u := .slice none 0 0) rfl
  have r5 := S2.rb.cell (i := 5) (u := .slice none 0 0) rfl
  have rl := S2.rb.lt
  have rf := S2.rb.fz
  have hO1' := ((hO1.setCell (p := ⟨w.heap.size, 4, none⟩) (by simp; omega) (.slice A1 x.keys.length c1)).ext hb2).setCell (p := ⟨w.heap.size, 5, none⟩) (by simp; omega) (.slice A2 x.kids.length c2)
  have hO2' := hO2.setCell (p := ⟨w.heap.size, 5, none⟩) (by have := S1.lt; dsimp only; omega) (.slice A2 x.kids.length c2)
  have hlt1 : ∀ y ∈ F1, y < (w1.setCell ⟨w.heap.size, 4, none⟩ (.slice A1 x.keys.length c1)).heap.size := fun y hy => by have := hO1.lt y hy; simpa [World.setCell] using this
  have HO := Lib.hid (show Own ((w2.setCell ⟨w.heap.size, 5, none⟩ (.slice A2 x.kids.length c2))) (w.heap.size + 1 + 1) x [.int .i64 x.kind, .bool x.flag, .int .i64 x.num, .string x.text, .slice A1 x.keys.length c1, .slice A2 x.kids.length c2] (F1 ++ F2) from by
    refine Own.tree (B' := w.heap.size + 1 + 1) ?_ (by omega)
    refine Own.cons (c1 := [.int .i64 x.kind]) (rdInt _ x.kind hkind) ?_
    refine Own.cons (c1 := [.bool x.flag]) (rdBool _ x.flag) ?_
    refine Own.cons (c1 := [.int .i64 x.num]) (rdInt _ x.num hnum) ?_
    refine Own.cons (c1 := [.string x.text]) (rdStr _ x.text htext) ?_
    exact Own.pair (c1 := [.slice A1 x.keys.length c1]) (hO1'.mono (by simp)) hO2' (by have := S1.lt; omega) hlt1)
  have HS := Lib.hid S2
  clear S0 S1 S2 hO1 hO2 hO1' hO2' hkeys hkids HS1
  go_wp2_with fail
  try dsimp only
  iterate 60 (first | go_step | skip)
  refine bodyPost_ret (v := .agg #[.int .i64 x.kind, .bool x.flag, .int .i64 x.num, .string x.text, .slice A1 x.keys.length c1, .slice A2 x.kids.length c2]) (by simp [results, Tryz.results142, go_sem, *]) rfl ⟨[.int .i64 x.kind, .bool x.flag, .int .i64 x.num, .string x.text, .slice A1 x.keys.length c1, .slice A2 x.kids.length c2], F1 ++ F2, rfl, ?_, ?_⟩
  · refine Own.mono (B := w.heap.size + 1 + 1) ?_ (by omega)
    repeat (first | with_reducible exact HO.out | with_reducible refine Own.setCell ?_ (by dsimp only; omega) _)
  · repeat (first | with_reducible exact HS.out.below | with_reducible refine ext_setCell ?_ (by first | exact Nat.le_refl _ | (dsimp only; omega)) _)
theorem copyTree_all (n : Nat) : ∀ x : Tree, SizeOf.sizeOf x ≤ n → CpTree x := by
  induction n with
  | zero => intro x hx; exact copyTree_step x fun k hk => by have := Tree.kid_lt x k hk; omega
  | succ n ih => intro x hx; exact copyTree_step x fun k hk => ih k (by have := Tree.kid_lt x k hk; omega)
theorem copyTree_any (x : Tree) (cs : List Value) (F : List Nat) (w : World) (h : rd w x cs F) (hw : (x.wt : Int) ≤ 1048576) :
    Calls Tryz.prog 142 #[.agg cs.toArray] w fun e w' => ∃ cs F, e = .returned (.agg cs.toArray) ∧ Own w' w.heap.size x cs F ∧ Below w.heap.size w w' := copyTree_all _ x (Nat.le_refl _) cs F w h hw
end Go.Proofs.YtegekccoincicaaGreatDoor
