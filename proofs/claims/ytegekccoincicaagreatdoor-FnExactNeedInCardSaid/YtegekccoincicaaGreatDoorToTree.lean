/- laws' copies of Tree. -/
import Derived.Test.YtegekccoincicaaGreatDoorToBase
import Derived.Test.YtegekccoincicaaGreatDoorTreeSz
namespace Go.Proofs.YtegekccoincicaaGreatDoor
open Dat (rd)
open Go.ChangeShapes Go.WideShapes Go.ChangeAt Go.RowKit
set_option linter.unusedVariables false
set_option linter.unusedSimpArgs false

theorem infoTree : (Tryz.prog.info? 35).map (fun i => (i.zero, i.size, i.bytes)) = some (some (.agg #[.int .i64 0, .bool false, .int .i64 0, .string ⟨#[]⟩, .slice none 0 0, .slice none 0 0]), 6, 88) := by kernel_rfl
theorem elTree : ElOk Tryz.prog 33 35 (.agg #[.int .i64 0, .bool false, .int .i64 0, .string ⟨#[]⟩, .slice none 0 0, .slice none 0 0]) 6 88 := ⟨Tryz.underlying33, infoTree, rfl, by omega⟩
/-- what toTree answers -/
def ToTree (x : Tree) : Prop := ∀ (cs : List Value) (F : List Nat) (w : World), rd w x cs F → (x.wt : Int) ≤ 1048576 → Calls Tryz.prog 7 #[.agg cs.toArray] w fun e w' => ∃ cs F, e = .returned (.agg cs.toArray) ∧ Own w' w.heap.size x cs F ∧ Below w.heap.size w w'
theorem Own.tree {w : World} {B B' : Nat} {x : Tree} {cs : List Value} {F : List Nat} (h : Own w B' (x.kind, x.flag, x.num, x.text, x.keys, x.kids) cs F) (hB : B ≤ B') : Own w B x cs F :=
  ⟨rd_tree_mk h.rd, h.nodup, fun b hb => Nat.le_trans hB (h.base b hb), h.plain⟩
set_option maxHeartbeats 1000000 in
theorem toTreeS_step (xs : List Tree) (ih : ∀ x ∈ xs, ToTree x) (A : Option Addr) (c : Nat) (F : List Nat) (w : World) (h : Sl w xs A c F) (hl : (wtL Tree.wt xs : Int) ≤ 1048576) :
    Calls Tryz.prog 47 #[.slice A xs.length c] w fun e w' => ∃ A c F, e = .returned (.slice A xs.length c) ∧ Own w' w.heap.size xs [.slice A xs.length c] F ∧ Below w.heap.size w w' := by
  have hlen : (xs.length : Int) ≤ 1048576 := by have := wtL_len Tree.wt xs; omega
  have HL := Lib.hid hl
  have IH := Lib.hid ih
  clear ih
  clear hl
  have hmk := run_make_full elTree (by omega) xs.length (by omega)
  go_enter Tryz.func47, Tryz.ntmps47
  go_wp2_with fail
  go_loopw [4] (fun i wr => ∃ (k : Nat) (ds : List Value) (G : List Nat), k ≤ xs.length ∧ i = .int .i64 k ∧ Fill wr w.heap.size 35 (xs.length * 6) ds ∧ Hid (ds.length = k * 6) ∧ OwnCells wr (w.heap.size + 1) (xs.take k) ds G ∧ Below w.heap.size w wr) (fun i _ => xs.length - (intOf i).toNat)
  case atStart => exact ⟨0, [], [], Nat.zero_le _, rfl, Fill.made w _ _ _ (by simp [madeCells]), by show _ = _; simp, .nil _ _, ext_alloc (ext_refl _) _⟩
  case round =>
    obtain ⟨k, ds, G, hk, rfl, hf, hd, hO, hbl⟩ := hrel
    by_cases hlt : k < xs.length
    · obtain ⟨b, o, ck, Fk, rfl, hbF, hbs, hr, hsub, hc⟩ := (h.ext hbl).get hlt
      obtain ⟨Akeys1, ckeys1, Fkeys1, Akids1, ckids1, Fkids1, hck, rfl, hkind1, hnum1, htext1, hkeys1, hkids1⟩ := rd_Tree hr
      subst hck
      have q0 : wr.cell? ⟨b, o + k * 6, none⟩ = some (.int .i64 xs[k].kind) := by exact hc 0 _ rfl
      have q1 : wr.cell? ⟨b, o + k * 6 + 1, none⟩ = some (.bool xs[k].flag) := by rw [Nat.add_assoc]; exact hc 1 _ rfl
      have q2 : wr.cell? ⟨b, o + k * 6 + 2, none⟩ = some (.int .i64 xs[k].num) := by rw [Nat.add_assoc]; exact hc 2 _ rfl
      have q3 : wr.cell? ⟨b, o + k * 6 + 3, none⟩ = some (.string xs[k].text) := by rw [Nat.add_assoc]; exact hc 3 _ rfl
      have q4 : wr.cell? ⟨b, o + k * 6 + 4, none⟩ = some (.slice Akeys1 xs[k].keys.length ckeys1) := by rw [Nat.add_assoc]; exact hc 4 _ rfl
      have q5 : wr.cell? ⟨b, o + k * 6 + 5, none⟩ = some (.slice Akids1 xs[k].kids.length ckids1) := by rw [Nat.add_assoc]; exact hc 5 _ rfl
      clear hc
      have hwk := wtL_get (f := Tree.wt) hlt
      have hwk2 : (Tree.wt xs[k] : Int) ≤ 1048576 := by have := HL.out; omega
      clear hwk
      go_wp2_with (go_at_call 7; refine (IH.out xs[k] (List.getElem_mem ..) _ _ _ hr hwk2).mono ?_; rintro e w2 ⟨cs2, G2, rfl, hO2, hb2⟩
                   have hR2 := hO2.rd
                   obtain ⟨Akeys2, ckeys2, Fkeys2, Akids2, ckids2, Fkids2, hck, hG2, hkind2, hnum2, htext2, hkeys2, hkids2⟩ := rd_Tree hR2
                   subst hck
                   have hf2 := hf.keep (hb2.block _ hf.lt)
                   obtain ⟨u0, hu0⟩ := hf2.cell (i := k * 6) (by omega); have hfz0 := hf2.frozen (k * 6)
                   obtain ⟨u1, hu1⟩ := hf2.cell (i := k * 6 + 1) (by omega); have hfz1 := hf2.frozen (k * 6 + 1)
                   obtain ⟨u2, hu2⟩ := hf2.cell (i := k * 6 + 2) (by omega); have hfz2 := hf2.frozen (k * 6 + 2)
                   obtain ⟨u3, hu3⟩ := hf2.cell (i := k * 6 + 3) (by omega); have hfz3 := hf2.frozen (k * 6 + 3)
                   obtain ⟨u4, hu4⟩ := hf2.cell (i := k * 6 + 4) (by omega); have hfz4 := hf2.frozen (k * 6 + 4)
                   obtain ⟨u5, hu5⟩ := hf2.cell (i := k * 6 + 5) (by omega); have hfz5 := hf2.frozen (k * 6 + 5))
      have hF := ((((((hf2.store_at (o := k * 6) (by have := hd.out; omega) (by omega) (.int .i64 xs[k].kind)).store_at (o := k * 6 + 1) (by simp [hd.out]) (by omega) (.bool xs[k].flag)).store_at (o := k * 6 + 2) (by simp [hd.out]) (by omega) (.int .i64 xs[k].num)).store_at (o := k * 6 + 3) (by simp [hd.out]) (by omega) (.string xs[k].text)).store_at (o := k * 6 + 4) (by simp [hd.out]) (by omega) (.slice Akeys2 xs[k].keys.length ckeys2)).store_at (o := k * 6 + 5) (by simp [hd.out]) (by omega) (.slice Akids2 xs[k].kids.length ckids2))
      have hO3 := hO.ext hb2
      replace hO3 := hO3.setCell (p := ⟨w.heap.size, k * 6, none⟩) (Nat.lt_succ_self _) (.int .i64 xs[k].kind)
      replace hO2 := hO2.setCell (p := ⟨w.heap.size, k * 6, none⟩) hf.lt (.int .i64 xs[k].kind)
      replace hO3 := hO3.setCell (p := ⟨w.heap.size, k * 6 + 1, none⟩) (Nat.lt_succ_self _) (.bool xs[k].flag)
      replace hO2 := hO2.setCell (p := ⟨w.heap.size, k * 6 + 1, none⟩) hf.lt (.bool xs[k].flag)
      replace hO3 := hO3.setCell (p := ⟨w.heap.size, k * 6 + 2, none⟩) (Nat.lt_succ_self _) (.int .i64 xs[k].num)
      replace hO2 := hO2.setCell (p := ⟨w.heap.size, k * 6 + 2, none⟩) hf.lt (.int .i64 xs[k].num)
      replace hO3 := hO3.setCell (p := ⟨w.heap.size, k * 6 + 3, none⟩) (Nat.lt_succ_self _) (.string xs[k].text)
      replace hO2 := hO2.setCell (p := ⟨w.heap.size, k * 6 + 3, none⟩) hf.lt (.string xs[k].text)
      replace hO3 := hO3.setCell (p := ⟨w.heap.size, k * 6 + 4, none⟩) (Nat.lt_succ_self _) (.slice Akeys2 xs[k].keys.length ckeys2)
      replace hO2 := hO2.setCell (p := ⟨w.heap.size, k * 6 + 4, none⟩) hf.lt (.slice Akeys2 xs[k].keys.length ckeys2)
      replace hO3 := hO3.setCell (p := ⟨w.heap.size, k * 6 + 5, none⟩) (Nat.lt_succ_self _) (.slice Akids2 xs[k].kids.length ckids2)
      replace hO2 := hO2.setCell (p := ⟨w.heap.size, k * 6 + 5, none⟩) hf.lt (.slice Akids2 xs[k].kids.length ckids2)
      have hP := hO3.push (B' := wr.heap.size) (x := xs[k]) hO2 hf.lt hO.lt
      rw [← List.take_succ_eq_append_getElem hlt] at hP
      (try simp only [List.append_assoc, List.cons_append, List.nil_append] at hF)
      exact ⟨⟨k + 1, _, _, by omega, by go_num, hF, by show _ = _; (simp [hd.out]) <;> omega, hP, ext_setCell (ext_setCell (ext_setCell (ext_setCell (ext_setCell (ext_setCell (ext_trans hbl hb2) (Nat.le_refl _) _) (Nat.le_refl _) _) (Nat.le_refl _) _) (Nat.le_refl _) _) (Nat.le_refl _) _) (Nat.le_refl _) _⟩, by simp [intOf]; omega⟩
    · have hkl : k = xs.length := by omega
      subst hkl
      go_wp2
      go_ret
      rw [List.take_length] at hO
      exact ⟨_, _, _, rfl, Own.of_fill hf hO (Nat.le_refl _) (by unfold maxLen; omega), hbl⟩
set_option maxRecDepth 100000 in
set_option maxHeartbeats 2000000 in
theorem toTree_step (x : Tree) (ih : ∀ k ∈ x.kids, ToTree k) : ToTree x := by
  intro cs F w h hw
  have IH := Lib.hid ih
  clear ih
  replace h : rd w (x.kind, x.flag, x.num, x.text, x.keys, x.kids) cs F := rd_tree h
  have HW := Lib.hid hw
  clear hw
  obtain ⟨_, _, _, _, rfl, rfl, ⟨rfl, rfl, hkind⟩, _, _, _, _, rfl, rfl, ⟨rfl, rfl⟩, _, _, _, _, rfl, rfl, ⟨rfl, rfl, hnum⟩, _, _, _, _, rfl, rfl, ⟨rfl, rfl, htext⟩, _, _, _, _, rfl, rfl, hkeys, hkids⟩ := h
  obtain ⟨Akeys, ckeys, rfl, hkeys⟩ := rd_list hkeys
  obtain ⟨Akids, ckids, rfl, hkids⟩ := rd_list hkids
  replace hkind : I64 x.kind := hkind
  replace hnum : I64 x.num := hnum
  replace htext := sz63 (s := x.text) htext
  replace hkeys : Sl _ x.keys Akeys ckeys _ := hkeys
  replace hkids : Sl _ x.kids Akids ckids _ := hkids
  simp only [List.cons_append, List.nil_append]
  go_enter Tryz.func7, Tryz.ntmps7
  go_wp2_with (first | (go_at_call 46; refine (toStringS_any x.keys _ _ _ _ (hkeys.ext (by repeat (first | with_reducible exact ext_refl _ | with_reducible assumption | with_reducible refine ext_alloc ?_ _ | with_reducible refine ext_setCell ?_ (by first | exact Nat.le_refl _ | (simp; done) | omega | (simp; omega)) _ | with_reducible refine ext_trans ?_ (by assumption)))) (by have := HW.out; rw [Tree.wt_eq] at this; omega)).mono ?_; rintro e w4 ⟨B4, d4, G4, rfl, hO4, hb4⟩; obtain ⟨hc4, hf4⟩ := bcell hb4; have hz40 : w.heap.size < w4.heap.size := (by have := hb4.size; (try simp at this); omega); have hz41 : w.heap.size + 1 < w4.heap.size := (by have := hb4.size; (try simp at this); omega); have hz42 : w.heap.size + 1 + 1 < w4.heap.size := (by have := hb4.size; (try simp at this); omega); replace hO4 := hO4.mono (B' := w.heap.size + 1 + 1 + 1) (by first | (simp; done) | omega | (simp; omega))) | (go_at_call 47; refine (toTreeS_step x.kids IH.out _ _ _ _ (hkids.ext (by repeat (first | with_reducible exact ext_refl _ | with_reducible assumption | with_reducible refine ext_alloc ?_ _ | with_reducible refine ext_setCell ?_ (by first | exact Nat.le_refl _ | (simp; done) | omega | (simp; omega)) _ | with_reducible refine ext_trans ?_ (by assumption)))) (by have := HW.out; rw [Tree.wt_eq] at this; omega)).mono ?_; rintro e w5 ⟨B5, d5, G5, rfl, hO5, hb5⟩; obtain ⟨hc5, hf5⟩ := bcell hb5; have hz50 : w.heap.size < w5.heap.size := (by have := hb5.size; (try simp at this); omega); have hz51 : w.heap.size + 1 < w5.heap.size := (by have := hb5.size; (try simp at this); omega); have hz52 : w.heap.size + 1 + 1 < w5.heap.size := (by have := hb5.size; (try simp at this); omega); have hy5 : w4.heap.size ≤ w5.heap.size := (by have := hb5.size; (try simp at this); omega); replace hO5 := hO5.mono (B' := w4.heap.size) (by first | (simp; done) | omega | (simp; omega))))
  refine bodyPost_ret (v := .agg #[.int .i64 x.kind, .bool x.flag, .int .i64 x.num, .string x.text, .slice B4 x.keys.length d4, .slice B5 x.kids.length d5]) (by simp [results, Tryz.results7, go_sem, *]) rfl ⟨[.int .i64 x.kind, .bool x.flag, .int .i64 x.num, .string x.text, .slice B4 x.keys.length d4, .slice B5 x.kids.length d5], G4 ++ (G5), rfl, ?_, by repeat (first | with_reducible exact ext_refl _ | with_reducible assumption | with_reducible refine ext_alloc ?_ _ | with_reducible refine ext_setCell ?_ (by first | exact Nat.le_refl _ | (simp; done) | omega | (simp; omega)) _ | with_reducible refine ext_trans ?_ (by assumption))⟩
  refine Own.tree (B' := w.heap.size + 1 + 1 + 1) ?_ (by omega)
  refine Own.cons (c1 := [.int .i64 x.kind]) (rdInt _ x.kind hkind) ?_
  refine Own.cons (c1 := [.bool x.flag]) (rdBool _ x.flag) ?_
  refine Own.cons (c1 := [.int .i64 x.num]) (rdInt _ x.num hnum) ?_
  refine Own.cons (c1 := [.string x.text]) (rdStr _ x.text htext) ?_
  refine Own.pair (B2 := w4.heap.size) (c1 := [.slice B4 x.keys.length d4]) (F1 := G4) ?_ ?_ (by omega) hO4.lt
  · repeat (first | with_reducible exact hO4 | with_reducible refine Own.setCell ?_ (by first | omega | (show _ < _; omega) | (simp; done) | (simp; omega)) _ | with_reducible refine Own.ext ?_ (by assumption) | with_reducible refine Own.alloc ?_ _)
  repeat (first | with_reducible exact hO5 | with_reducible refine Own.setCell ?_ (by first | omega | (show _ < _; omega) | (simp; done) | (simp; omega)) _ | with_reducible refine Own.ext ?_ (by assumption) | with_reducible refine Own.alloc ?_ _)
theorem toTree_all (n : Nat) : ∀ x : Tree, SizeOf.sizeOf x ≤ n → ToTree x := by
  induction n with
  | zero => intro x hx; exact toTree_step x fun k hk => by have := Tree.kid_lt x k hk; omega
  | succ n ih => intro x hx; exact toTree_step x fun k hk => ih k (by have := Tree.kid_lt x k hk; omega)
theorem toTree_any (x : Tree) (cs : List Value) (F : List Nat) (w : World) (h : rd w x cs F) (hw : (x.wt : Int) ≤ 1048576) :
    Calls Tryz.prog 7 #[.agg cs.toArray] w fun e w' => ∃ cs F, e = .returned (.agg cs.toArray) ∧ Own w' w.heap.size x cs F ∧ Below w.heap.size w w' := toTree_all _ x (Nat.le_refl _) cs F w h hw
end Go.Proofs.YtegekccoincicaaGreatDoor
