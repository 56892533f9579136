/- Marks on trees. No condition. -/
import Derived.Test.YtegekccoincicaaGreatDoorMiStr
import Derived.Test.YtegekccoincicaaGreatDoorTreeSz
namespace Go.Proofs.YtegekccoincicaaGreatDoor
open Dat (rd)
open Go.ChangeShapes Go.WideShapes Go.ChangeAt Go.RowKit
set_option linter.unusedVariables false
set_option linter.unusedSimpArgs false

mutual
def cntTree : Tree → Nat
  | .mk _ _ _ _ ks kids => 1 + 1 + 1 + 1 + cntL cntStr ks + cntTrees kids
def cntTrees : List Tree → Nat
  | [] => 0
  | x :: xs => cntTree x + cntTrees xs
end
theorem cntTrees_eq : ∀ xs : List Tree, cntTrees xs = cntL cntTree xs
  | [] => by simp [cntTrees, cntL]
  | x :: xs => by rw [cntTrees, cntTrees_eq xs]; rfl
theorem cntTree_eq (x : Tree) : cntTree x = 1 + 1 + 1 + 1 + cntL cntStr x.keys + cntL cntTree x.kids := by
  cases x with
  | mk a b c d e f => rw [cntTree, cntTrees_eq]; rfl
mutual
def mkTree : Tree → Int → Tree
  | .mk _ _ _ _ ks kids, k => .mk k (decide ((k + 1) % 3 = 0)) (k + 1 + 1) (mtext (k + 1 + 1 + 1)) (mkL mkStr cntStr ks (k + 1 + 1 + 1 + 1)) (mkTrees kids (k + 1 + 1 + 1 + 1 + (cntL cntStr ks : Int)))
def mkTrees : List Tree → Int → List Tree
  | [], _ => []
  | x :: xs, k => mkTree x k :: mkTrees xs (k + cntTree x)
end
theorem mkTrees_eq : ∀ (xs : List Tree) (k : Int), mkTrees xs k = mkL mkTree cntTree xs k
  | [], _ => by simp [mkTrees, mkL]
  | x :: xs, k => by rw [mkTrees, mkTrees_eq xs]; rfl
theorem mkTree_eq (x : Tree) (k : Int) : mkTree x k = .mk (k) (decide ((k + 1) % 3 = 0)) (k + 1 + 1) (mtext (k + 1 + 1 + 1)) (mkL mkStr cntStr x.keys (k + 1 + 1 + 1 + 1)) (mkL mkTree cntTree x.kids (k + 1 + 1 + 1 + 1 + (cntL cntStr x.keys : Int))) := by
  cases x with
  | mk a b c d e f => rw [mkTree, mkTrees_eq]; rfl
def MarkTrees (xs : List Tree) : Prop := ∀ (A : Option Addr) (n c : Nat) (F : List Nat) (B : Nat) (k : Int) (w : World), Own w B xs [.slice A n c] F → n = xs.length → 0 ≤ k → k + cntL cntTree xs ≤ 1073741823 →
    Calls Tryz.prog 63 #[.slice A n c, .int .i64 k] w fun e w' => e = .returned (.int .i64 (k + cntL cntTree xs)) ∧ Own w' B (mkL mkTree cntTree xs k) [.slice A n c] F ∧ Upd F w w'
set_option maxRecDepth 100000 in
set_option maxHeartbeats 2000000 in
theorem markTreeS_step (xs : List Tree) (ih : ∀ x ∈ xs, MarkTrees x.kids) : MarkTrees xs := by
  intro A n c F B k w h hn hk0 hk
  have IH := Lib.hid ih
  clear ih
  subst hn
  have hlen := own_len h
  go_enter Tryz.func63, Tryz.ntmps63
  go_wp2_with fail
  go_loopw [1, 5] (fun x y wr => ∃ (i : Nat), i ≤ xs.length ∧ y = .int .i64 i ∧ x = .int .i64 (k + cntL cntTree (xs.take i)) ∧ Own wr B (mkUp mkTree cntTree xs k i) [.slice A xs.length c] F ∧ Upd F w wr) (fun _ y _ => xs.length - (intOf y).toNat)
  case atStart => exact ⟨0, Nat.zero_le _, rfl, by simp [cntL], by rw [mkUp_zero]; exact h, .refl _ _⟩
  case round =>
    obtain ⟨i, hi, rfl, rfl, hO, hu⟩ := hrel
    by_cases hlt : i < xs.length
    · have hle : (cntL cntTree (xs.take i) : Int) + cntTree xs[i] ≤ cntL cntTree xs := by have := cntL_succ (cnt := cntTree) hlt; have := cntL_le (cnt := cntTree) xs (i + 1); omega
      have hsuc := cntL_succ (cnt := cntTree) hlt
      obtain ⟨b, o, ck, Fk, rfl, hbF, hsub, hbk, hOe, hE, hcl⟩ := hO.elt (k := i) (by rw [mkUp_len hi]; exact hlt)
      rw [mkUp_get hlt] at hOe
      have hRe := hOe.rd
      obtain ⟨Akeys, ckeys, Fkeys, Akids, ckids, Fkids, hck, hFk, hkind, hnum, htext, hkeys, hkids⟩ := rd_Tree hRe
      clear hRe
      subst hck hFk
      have hnd := hOe.nodup
      simp only [List.nodup_append, List.mem_append] at hnd
      have hdkeys_kids : ∀ y ∈ Fkeys, y ∉ Fkids := fun y ha hb => hnd.2.2 y ha y hb rfl
      have hdkids_keys : ∀ y ∈ Fkids, y ∉ Fkeys := fun y hb ha => hnd.2.2 y ha y hb rfl
      have hOkeys : Own wr B xs[i].keys [.slice Akeys xs[i].keys.length ckeys] Fkeys := ⟨hkeys, hnd.1, fun y hy => hOe.base y (by simp [hy]), fun y hy => hOe.plain y (by simp [hy])⟩
      have hbkeys : b ∉ Fkeys := fun hb => hbk (by simp [hb])
      have hOkids : Own wr B xs[i].kids [.slice Akids xs[i].kids.length ckids] Fkids := ⟨hkids, hnd.2.1, fun y hy => hOe.base y (by simp [hy]), fun y hy => hOe.plain y (by simp [hy])⟩
      have hbkids : b ∉ Fkids := fun hb => hbk (by simp [hb])
      generalize hkk : k + (cntL cntTree (xs.take i) : Int) = kk
      have hkk0 : 0 ≤ kk := by omega
      have hkk1 : kk + cntTree xs[i] ≤ 1073741823 := by omega
      rw [cntTree_eq] at hkk1
      push_cast at hkk1
      clear hO
      have q0 := hE.at_ (q := o + i * 6) (j := 0) (by show _ = o + i * 6 + 0; omega) rfl
      have z0 := hE.plain.frozen (o + i * 6)
      have q1 := hE.at_ (q := o + i * 6 + 1) (j := 1) (by show _ = o + i * 6 + 1; omega) rfl
      have z1 := hE.plain.frozen (o + i * 6 + 1)
      have q2 := hE.at_ (q := o + i * 6 + 2) (j := 2) (by show _ = o + i * 6 + 2; omega) rfl
      have z2 := hE.plain.frozen (o + i * 6 + 2)
      have q3 := hE.at_ (q := o + i * 6 + 3) (j := 3) (by show _ = o + i * 6 + 3; omega) rfl
      have z3 := hE.plain.frozen (o + i * 6 + 3)
      have q4 := hE.at_ (q := o + i * 6 + 4) (j := 4) (by show _ = o + i * 6 + 4; omega) rfl
      have z4 := hE.plain.frozen (o + i * 6 + 4)
      have q5 := hE.at_ (q := o + i * 6 + 5) (j := 5) (by show _ = o + i * 6 + 5; omega) rfl
      have z5 := hE.plain.frozen (o + i * 6 + 5)
      go_wp2_with fail
      clear q0 z0 q1 z1 q2 z2 q3 z3 q4 z4 q5 z5
      replace hE := hE.set (j := 0) (q := o + i * 6) (by simp) (by show _ = o + i * 6 + 0; omega) (.int .i64 (kk))
      simp only [List.set_cons_zero, List.set_cons_succ] at hE
      replace hOkeys := hOkeys.setC (p := ⟨b, o + i * 6, none⟩) hbkeys (.int .i64 (kk))
      replace hOkids := hOkids.setC (p := ⟨b, o + i * 6, none⟩) hbkids (.int .i64 (kk))
      replace hE := hE.set (j := 1) (q := o + i * 6 + 1) (by simp) (by show _ = o + i * 6 + 1; omega) (.bool (decide ((kk + 1) % 3 = 0)))
      simp only [List.set_cons_zero, List.set_cons_succ] at hE
      replace hOkeys := hOkeys.setC (p := ⟨b, o + i * 6 + 1, none⟩) hbkeys (.bool (decide ((kk + 1) % 3 = 0)))
      replace hOkids := hOkids.setC (p := ⟨b, o + i * 6 + 1, none⟩) hbkids (.bool (decide ((kk + 1) % 3 = 0)))
      replace hE := hE.set (j := 2) (q := o + i * 6 + 2) (by simp) (by show _ = o + i * 6 + 2; omega) (.int .i64 (kk + 1 + 1))
      simp only [List.set_cons_zero, List.set_cons_succ] at hE
      replace hOkeys := hOkeys.setC (p := ⟨b, o + i * 6 + 2, none⟩) hbkeys (.int .i64 (kk + 1 + 1))
      replace hOkids := hOkids.setC (p := ⟨b, o + i * 6 + 2, none⟩) hbkids (.int .i64 (kk + 1 + 1))
      refine (markText_any (kk + 1 + 1 + 1) _ (by omega) (by omega)).mono ?_
      rintro e w1 ⟨rfl, hb1⟩
      replace hE := hE.ext hb1
      replace hOkeys := hOkeys.ext hb1
      replace hOkids := hOkids.ext hb1
      have q0 := hE.at_ (q := o + i * 6) (j := 0) (by show _ = o + i * 6 + 0; omega) rfl
      have z0 := hE.plain.frozen (o + i * 6)
      have q1 := hE.at_ (q := o + i * 6 + 1) (j := 1) (by show _ = o + i * 6 + 1; omega) rfl
      have z1 := hE.plain.frozen (o + i * 6 + 1)
      have q2 := hE.at_ (q := o + i * 6 + 2) (j := 2) (by show _ = o + i * 6 + 2; omega) rfl
      have z2 := hE.plain.frozen (o + i * 6 + 2)
      have q3 := hE.at_ (q := o + i * 6 + 3) (j := 3) (by show _ = o + i * 6 + 3; omega) rfl
      have z3 := hE.plain.frozen (o + i * 6 + 3)
      have q4 := hE.at_ (q := o + i * 6 + 4) (j := 4) (by show _ = o + i * 6 + 4; omega) rfl
      have z4 := hE.plain.frozen (o + i * 6 + 4)
      have q5 := hE.at_ (q := o + i * 6 + 5) (j := 5) (by show _ = o + i * 6 + 5; omega) rfl
      have z5 := hE.plain.frozen (o + i * 6 + 5)
      go_wp2_with fail
      clear q0 z0 q1 z1 q2 z2 q3 z3 q4 z4 q5 z5
      replace hE := hE.set (j := 3) (q := o + i * 6 + 3) (by simp) (by show _ = o + i * 6 + 3; omega) (.string (mtext (kk + 1 + 1 + 1)))
      simp only [List.set_cons_zero, List.set_cons_succ] at hE
      replace hOkeys := hOkeys.setC (p := ⟨b, o + i * 6 + 3, none⟩) hbkeys (.string (mtext (kk + 1 + 1 + 1)))
      replace hOkids := hOkids.setC (p := ⟨b, o + i * 6 + 3, none⟩) hbkids (.string (mtext (kk + 1 + 1 + 1)))
      refine (markStringS_any xs[i].keys _ _ _ _ _ (kk + 1 + 1 + 1 + 1) _ hOkeys rfl (by omega) (by omega)).mono ?_
      rintro e w2 ⟨rfl, hNkeys, hUkeys⟩
      replace hE := hE.step hUkeys (fun y hy => by simp [hy]) hbkeys
      replace hOkids := hUkeys.own hOkids hdkids_keys
      replace hOkeys := hNkeys
      have q0 := hE.at_ (q := o + i * 6) (j := 0) (by show _ = o + i * 6 + 0; omega) rfl
      have z0 := hE.plain.frozen (o + i * 6)
      have q1 := hE.at_ (q := o + i * 6 + 1) (j := 1) (by show _ = o + i * 6 + 1; omega) rfl
      have z1 := hE.plain.frozen (o + i * 6 + 1)
      have q2 := hE.at_ (q := o + i * 6 + 2) (j := 2) (by show _ = o + i * 6 + 2; omega) rfl
      have z2 := hE.plain.frozen (o + i * 6 + 2)
      have q3 := hE.at_ (q := o + i * 6 + 3) (j := 3) (by show _ = o + i * 6 + 3; omega) rfl
      have z3 := hE.plain.frozen (o + i * 6 + 3)
      have q4 := hE.at_ (q := o + i * 6 + 4) (j := 4) (by show _ = o + i * 6 + 4; omega) rfl
      have z4 := hE.plain.frozen (o + i * 6 + 4)
      have q5 := hE.at_ (q := o + i * 6 + 5) (j := 5) (by show _ = o + i * 6 + 5; omega) rfl
      have z5 := hE.plain.frozen (o + i * 6 + 5)
      go_wp2_with fail
      clear q0 z0 q1 z1 q2 z2 q3 z3 q4 z4 q5 z5
      refine (IH.out xs[i] (List.getElem_mem hlt) _ _ _ _ _ (kk + 1 + 1 + 1 + 1 + (cntL cntStr xs[i].keys : Int)) _ hOkids rfl (by omega) (by omega)).mono ?_
      rintro e w3 ⟨rfl, hNkids, hUkids⟩
      replace hE := hE.step hUkids (fun y hy => by simp [hy]) hbkids
      replace hOkeys := hUkids.own hOkeys hdkeys_kids
      replace hOkids := hNkids
      have q0 := hE.at_ (q := o + i * 6) (j := 0) (by show _ = o + i * 6 + 0; omega) rfl
      have z0 := hE.plain.frozen (o + i * 6)
      have q1 := hE.at_ (q := o + i * 6 + 1) (j := 1) (by show _ = o + i * 6 + 1; omega) rfl
      have z1 := hE.plain.frozen (o + i * 6 + 1)
      have q2 := hE.at_ (q := o + i * 6 + 2) (j := 2) (by show _ = o + i * 6 + 2; omega) rfl
      have z2 := hE.plain.frozen (o + i * 6 + 2)
      have q3 := hE.at_ (q := o + i * 6 + 3) (j := 3) (by show _ = o + i * 6 + 3; omega) rfl
      have z3 := hE.plain.frozen (o + i * 6 + 3)
      have q4 := hE.at_ (q := o + i * 6 + 4) (j := 4) (by show _ = o + i * 6 + 4; omega) rfl
      have z4 := hE.plain.frozen (o + i * 6 + 4)
      have q5 := hE.at_ (q := o + i * 6 + 5) (j := 5) (by show _ = o + i * 6 + 5; omega) rfl
      have z5 := hE.plain.frozen (o + i * 6 + 5)
      go_wp2_with fail
      clear q0 z0 q1 z1 q2 z2 q3 z3 q4 z4 q5 z5
      have hP := hcl _ (mkTree xs[i] kk) _ ⟨(by rw [mkTree_eq]; refine rd_tree_mk ?_; have := (rd_pair (rdInt w3 ((kk)) (by unfold I64; omega)) (rd_pair (rdBool w3 (decide ((kk + 1) % 3 = 0))) (rd_pair (rdInt w3 ((kk + 1 + 1)) (by unfold I64; omega)) (rd_pair (rdStr w3 (mtext (kk + 1 + 1 + 1)) (mtext63 (by omega))) (rd_pair (hOkeys.rd) (hOkids.rd)))))); simp only [List.nil_append, List.append_nil, List.append_assoc, List.cons_append] at this; exact this), hOe.nodup, hOe.base, (by intro y hy; (try simp only [List.mem_append] at hy); rcases hy with hy | hy <;> first | exact hOkeys.plain y hy | exact hOkids.plain y hy)⟩ hE
      have hU := hu.trans (hE.upd.mono (G := F) (fun y hy => by rcases List.mem_cons.1 hy with rfl | hy; exact hbF; exact hsub y hy))
      have hset : (mkUp mkTree cntTree xs k i).set i (mkTree xs[i] kk) = mkUp mkTree cntTree xs k (i + 1) := by rw [← hkk]; exact mkUp_set hlt
      rw [hset] at hP
      refine ⟨⟨i + 1, by omega, by go_num, ?_, hP, hU⟩, by simp [intOf]; omega⟩
      rw [hsuc, cntTree_eq]; congr 1; push_cast; omega
    · have hkl : i = xs.length := by omega
      subst hkl
      go_wp2
      go_ret
      rw [mkUp_full] at hO
      simp only [List.take_length]
      exact ⟨rfl, hO, hu⟩
theorem markTreeS_all (n : Nat) : ∀ xs : List Tree, SizeOf.sizeOf xs ≤ n → MarkTrees xs := by
  induction n with
  | zero => intro xs hx; exact markTreeS_step xs fun x hm => by have h1 := List.sizeOf_lt_of_mem hm; omega
  | succ n ih => intro xs hx; exact markTreeS_step xs fun x hm => ih _ (by have h1 := List.sizeOf_lt_of_mem hm; have h2 : SizeOf.sizeOf x.kids < SizeOf.sizeOf x := (by cases x; simp only [Tree.kids, Tree.mk.sizeOf_spec]; omega); omega)
theorem markTreeS_any (xs : List Tree) : MarkTrees xs := markTreeS_all _ xs (Nat.le_refl _)


def mkTopTree (x : Tree) (k : Int) : Tree := .mk x.kind x.flag x.num x.text (mkL mkStr cntStr x.keys (k)) (mkL mkTree cntTree x.kids (k + (cntL cntStr x.keys : Int)))
def cntTopTree (x : Tree) : Nat := cntL cntStr x.keys + cntL cntTree x.kids
set_option maxRecDepth 100000 in
set_option maxHeartbeats 2000000 in
theorem markTree_any (x : Tree) (cs : List Value) (F : List Nat) (B : Nat) (k : Int) (w : World) (h : Own w B x cs F) (hk0 : 0 ≤ k) (hk : k + cntTopTree x ≤ 1073741823) :
    Calls Tryz.prog 12 #[.agg cs.toArray, .int .i64 k] w fun e w' => e = .returned (.int .i64 (k + cntTopTree x)) ∧ Own w' B (mkTopTree x k) cs F ∧ Upd F w w' := by
  have hr := h.rd
  obtain ⟨Akeys, ckeys, Fkeys, Akids, ckids, Fkids, hck, hFk, hkind, hnum, htext, hkeys, hkids⟩ := rd_Tree hr
  clear hr
  subst hck hFk
  simp only [cntTopTree] at hk ⊢
  push_cast at hk ⊢
  have hnd := h.nodup
  simp only [List.nodup_append, List.mem_append] at hnd
  have hdkeys_kids : ∀ y ∈ Fkeys, y ∉ Fkids := fun y ha hb => hnd.2.2 y ha y hb rfl
  have hdkids_keys : ∀ y ∈ Fkids, y ∉ Fkeys := fun y hb ha => hnd.2.2 y ha y hb rfl
  have hOkeys : Own w B x.keys [.slice Akeys x.keys.length ckeys] Fkeys := ⟨hkeys, hnd.1, fun y hy => h.base y (by simp [hy]), fun y hy => h.plain y (by simp [hy])⟩
  have hOkids : Own w B x.kids [.slice Akids x.kids.length ckids] Fkids := ⟨hkids, hnd.2.1, fun y hy => h.base y (by simp [hy]), fun y hy => h.plain y (by simp [hy])⟩
  go_enter Tryz.func12, Tryz.ntmps12
  go_wp2_with fail
  generalize hwa : World.alloc w _ = wa
  have hUa : Upd (Fkeys ++ (Fkids)) w wa := hwa ▸ Upd.of_ext _ (ext_alloc (ext_refl w) _)
  have hz : w.heap.size < wa.heap.size := by rw [← hwa]; simp
  replace hOkeys : Own wa B x.keys [.slice Akeys x.keys.length ckeys] Fkeys := hwa ▸ hOkeys.alloc _
  have hgkeys : w.heap.size ∉ Fkeys := fun hy => Nat.lt_irrefl _ (h.lt _ (by simp [hy]))
  have qkeys : wa.cell? ⟨w.heap.size, 4, none⟩ = some (.slice Akeys x.keys.length ckeys) := by rw [← hwa, cell_of_row _ _ _ _ _ _ (heap_alloc_new w _)]; rfl
  replace hOkids : Own wa B x.kids [.slice Akids x.kids.length ckids] Fkids := hwa ▸ hOkids.alloc _
  have hgkids : w.heap.size ∉ Fkids := fun hy => Nat.lt_irrefl _ (h.lt _ (by simp [hy]))
  have qkids : wa.cell? ⟨w.heap.size, 5, none⟩ = some (.slice Akids x.kids.length ckids) := by rw [← hwa, cell_of_row _ _ _ _ _ _ (heap_alloc_new w _)]; rfl
  clear hwa
  refine (markStringS_any x.keys _ _ _ _ _ (k) _ hOkeys rfl (by omega) (by omega)).mono ?_
  rintro e w1 ⟨rfl, hNkeys, hUkeys⟩
  replace qkeys := (World.cell?_of_block (a := ⟨w.heap.size, 4, none⟩) (hUkeys.block _ hz hgkeys)).trans qkeys
  replace hOkids := hUkeys.own hOkids hdkids_keys
  replace qkids := (World.cell?_of_block (a := ⟨w.heap.size, 5, none⟩) (hUkeys.block _ hz hgkeys)).trans qkids
  replace hz := Nat.lt_of_lt_of_le hz hUkeys.size
  replace hOkeys := hNkeys
  go_wp2_with fail
  refine (markTreeS_any x.kids _ _ _ _ _ (k + (cntL cntStr x.keys : Int)) _ hOkids rfl (by omega) (by omega)).mono ?_
  rintro e w2 ⟨rfl, hNkids, hUkids⟩
  replace hOkeys := hUkids.own hOkeys hdkeys_kids
  replace qkeys := (World.cell?_of_block (a := ⟨w.heap.size, 4, none⟩) (hUkids.block _ hz hgkids)).trans qkeys
  replace qkids := (World.cell?_of_block (a := ⟨w.heap.size, 5, none⟩) (hUkids.block _ hz hgkids)).trans qkids
  replace hz := Nat.lt_of_lt_of_le hz hUkids.size
  replace hOkids := hNkids
  go_wp2_with fail
  go_ret
  refine ⟨by first | rfl | (simp only [Int.add_assoc, Int.natCast_add]; rfl), ?_, ((hUa.trans (hUkeys.mono (G := Fkeys ++ (Fkids)) (fun y hy => by simp [hy]))).trans (hUkids.mono (G := Fkeys ++ (Fkids)) (fun y hy => by simp [hy])))⟩
  exact ⟨(by refine rd_tree_mk ?_; have := (rd_pair (rdInt w2 (x.kind) hkind) (rd_pair (rdBool w2 (x.flag)) (rd_pair (rdInt w2 (x.num) hnum) (rd_pair (rdStr w2 (x.text) (sz63 htext)) (rd_pair (hOkeys.rd) (hOkids.rd)))))); simp only [List.nil_append, List.append_nil, List.append_assoc, List.cons_append, mkL_len] at this; exact this), h.nodup, h.base, (by intro y hy; (try simp only [List.mem_append] at hy); rcases hy with hy | hy <;> first | exact hOkeys.plain y hy | exact hOkids.plain y hy)⟩
theorem cntL_sum {α : Type} (cnt f : α → Nat) (a : Nat) : ∀ xs : List α, (∀ x ∈ xs, cnt x ≤ a * (f x + 1)) → cntL cnt xs ≤ a * wtL f xs
  | [], _ => by simp [cntL]
  | x :: xs, h => by
    have h1 := cntL_sum cnt f a xs fun z hz => h z (List.mem_cons_of_mem _ hz)
    have h2 := h x List.mem_cons_self
    unfold wtL at h1 ⊢
    simp only [cntL, List.length_cons, List.map_cons, List.sum_cons]
    have e : a * (xs.length + 1 + (f x + (xs.map f).sum)) = a * (f x + 1) + a * (xs.length + (xs.map f).sum) := by rw [← Nat.mul_add]; congr 1; omega
    omega
theorem cntTree_le : ∀ (n : Nat) (x : Tree), SizeOf.sizeOf x ≤ n → cntTree x ≤ 4 * (x.wt + 1)
  | 0, x, h => by cases x; simp only [Tree.mk.sizeOf_spec] at h; omega
  | n + 1, x, h => by
    have h1 := cntL_sum cntTree Tree.wt 4 x.kids fun y hy => cntTree_le n y (by have := Tree.kid_lt x y hy; omega)
    have h2 := cntL_sum cntStr ByteArray.size 4 x.keys fun y _ => by unfold cntStr; omega
    rw [cntTree_eq, Tree.wt_eq]
    omega
theorem cntTopTree_le (x : Tree) : cntTopTree x ≤ 4 * x.wt := by
  have h1 := cntL_sum cntTree Tree.wt 4 x.kids fun y hy => cntTree_le _ y (Nat.le_refl _)
  have h2 := cntL_sum cntStr ByteArray.size 4 x.keys fun y _ => by unfold cntStr; omega
  unfold cntTopTree
  rw [Tree.wt_eq]
  omega
end Go.Proofs.YtegekccoincicaaGreatDoor
