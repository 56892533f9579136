/- slices.Sort and slices.Compact at texts of the call's own. No condition. -/
import Derived.Test.YtegekccoincicaaGreatDoorLayItoa
import Derived.Test.YtegekccoincicaaGreatDoorByteLt
import Derived.Test.YtegekccoincicaaGreatDoorMark
namespace Go.Proofs.YtegekccoincicaaGreatDoor
open Dat (rd)
open Go.ChangeShapes Go.WideShapes Go.ChangeAt Go.RowKit
set_option linter.unusedVariables false
set_option linter.unusedSimpArgs false

theorem rdCells_str {w : World} : ∀ {xs : List ByteArray} {ds : List Value} {G : List Nat}, rdCells w xs ds G → ds = xs.map Value.string ∧ G = [] ∧ ∀ x ∈ xs, x.size ≤ maxLen
  | [], _, _, ⟨rfl, rfl⟩ => ⟨rfl, rfl, fun x hx => by cases hx⟩
  | x :: xs, _, _, ⟨c1, c2, F1, F2, rfl, rfl, h0, h2⟩ => by
    obtain ⟨rfl, rfl, h1⟩ := h0
    obtain ⟨rfl, rfl, h3⟩ := rdCells_str h2
    refine ⟨rfl, rfl, fun y hy => ?_⟩
    rcases List.mem_cons.1 hy with rfl | hy
    · exact h1
    · exact h3 y hy
theorem str_rdCells {w : World} : ∀ {xs : List ByteArray}, (∀ x ∈ xs, x.size ≤ maxLen) → rdCells w xs (xs.map Value.string) []
  | [], _ => ⟨rfl, rfl⟩
  | x :: xs, h => ⟨[.string x], _, [], [], rfl, rfl, ⟨rfl, rfl, h x (List.mem_cons_self ..)⟩, str_rdCells fun y hy => h y (List.mem_cons_of_mem _ hy)⟩
section
variable {w w' : World} {B c : Nat} {xs ys : List ByteArray} {A : Option Addr} {F : List Nat}
/-- texts in one block of the call's own -/
structure StrB (w : World) (B b o c : Nat) (xs : List ByteArray) : Prop where
  base : B ≤ b
  plain : Plain w b
  cap : xs.length ≤ c
  max : c ≤ maxLen
  size : ∀ x ∈ xs, x.size ≤ maxLen
  cells : ∀ j u, (xs.map Value.string)[j]? = some u → w.cell? ⟨b, o + j, none⟩ = some u
theorem Own.strB (h : Own w B xs [.slice A xs.length c] F) (hne : xs ≠ []) : ∃ b o, A = some ⟨b, o, none⟩ ∧ F = [b] ∧ StrB w B b o c xs := by
  obtain ⟨⟨A', c', G, ds, e0, hc1, hc2, hc, h0⟩, hn, hb, hp⟩ := h
  simp only [List.cons.injEq, Value.slice.injEq, and_true, true_and] at e0
  obtain ⟨rfl, rfl⟩ := e0
  rcases h0 with ⟨h1, _⟩ | ⟨b, o, rfl, rfl, hlt, hcell⟩
  · exact absurd h1 hne
  · obtain ⟨rfl, rfl, hs⟩ := rdCells_str hc
    exact ⟨b, o, rfl, rfl, hb b (List.mem_cons_self ..), hp b (List.mem_cons_self ..), hc1, hc2, hs, fun j u hj => hcell j u hj⟩
theorem StrB.own {b o : Nat} (h : StrB w B b o c xs) : Own w B xs [.slice (some ⟨b, o, none⟩) xs.length c] [b] :=
  ⟨⟨_, c, _, _, rfl, h.cap, h.max, str_rdCells h.size, .inr ⟨b, o, rfl, rfl, h.plain.lt, h.cells⟩⟩, by simp, (fun y hy => by rw [List.mem_singleton.1 hy]; exact h.base), (fun y hy => by rw [List.mem_singleton.1 hy]; exact h.plain)⟩
theorem str_enc (x : ByteArray) : encStr x.toList = .string x := by rw [ByteArray.toList_eq]
theorem str_dec (l : List UInt8) : (⟨l.toArray⟩ : ByteArray).toList = l := by rw [ByteArray.toList_eq]
theorem StrB.holds {b o : Nat} (h : StrB w B b o c xs) : Go.Sort.Holds encStr w b o (xs.map fun x => x.toList).toArray := by
  intro j hj
  have hj2 : j < xs.length := by simpa using hj
  refine ⟨?_, h.plain.frozen _⟩
  rw [h.cells j (.string xs[j]) (by rw [List.getElem?_map, List.getElem?_eq_getElem hj2]; rfl)]
  rw [getElem!_pos _ j hj, List.getElem_toArray, List.getElem_map, str_enc]
theorem putRow_upd (enc : List UInt8 → Value) (w : World) (b o n : Nat) (d : Array (List UInt8)) (os : Array Obj) : Upd [b] w (Go.Sort.grow (Go.Sort.putRow enc (Go.Sort.ahead w n) b o d) os) := by
  have hs : (Go.Sort.putRow enc (Go.Sort.ahead w n) b o d).heap.size = w.heap.size := by simp [Go.Sort.putRow, Go.Sort.mapBlock, Go.Sort.ahead]
  refine ⟨rfl, rfl, rfl, ?_, fun x hx hn => ?_⟩
  · show w.heap.size ≤ ((Go.Sort.putRow enc (Go.Sort.ahead w n) b o d).heap ++ os).size
    rw [Array.size_append, hs]; exact Nat.le_add_right _ _
  have hne : x ≠ b := by simpa using hn
  show ((Go.Sort.putRow enc (Go.Sort.ahead w n) b o d).heap ++ os)[x]? = _
  rw [Array.getElem?_append_left (by rw [hs]; exact hx)]
  simp [Go.Sort.putRow, Go.Sort.mapBlock, Array.getElem?_modify, Ne.symm hne, Go.Sort.ahead]
theorem putRow_plain (enc : List UInt8 → Value) (w : World) (b o n : Nat) (d : Array (List UInt8)) (os : Array Obj) (h : Plain w b) : Plain (Go.Sort.grow (Go.Sort.putRow enc (Go.Sort.ahead w n) b o d) os) b := by
  have hlt := h.lt
  obtain ⟨ds, t, h⟩ := h
  have hs : (Go.Sort.putRow enc (Go.Sort.ahead w n) b o d).heap.size = w.heap.size := by simp [Go.Sort.putRow, Go.Sort.mapBlock, Go.Sort.ahead]
  refine ⟨Go.Sort.putCells enc o d ds, t, ?_⟩
  show ((Go.Sort.putRow enc (Go.Sort.ahead w n) b o d).heap ++ os)[b]? = _
  rw [Array.getElem?_append_left (by rw [hs]; exact hlt)]
  simp [Go.Sort.putRow, Go.Sort.mapBlock, Array.getElem?_modify, h, Go.Sort.onCells, Go.Sort.ahead]
/-- the row written anew; what stands behind the first n' may be anything -/
theorem StrB.put {b o : Nat} (h : StrB w B b o c xs) (zs rest : List (List UInt8)) (hl : zs.length + rest.length = xs.length) (hm : ∀ z ∈ zs, z ∈ xs.map fun x => x.toList) (n : Nat) (os : Array Obj) :
    StrB (Go.Sort.grow (Go.Sort.putRow encStr (Go.Sort.ahead w n) b o (zs ++ rest).toArray) os) B b o c (zs.map fun l => ⟨l.toArray⟩) := by
  refine ⟨h.base, putRow_plain _ _ _ _ _ _ _ h.plain, by rw [List.length_map]; have := h.cap; omega, h.max, fun x hx => ?_, fun j u hj => ?_⟩
  · obtain ⟨l, hl2, rfl⟩ := List.mem_map.1 hx
    obtain ⟨y, hy, rfl⟩ := List.mem_map.1 (hm l hl2)
    have := h.size y hy
    rwa [show (⟨y.toList.toArray⟩ : ByteArray) = y by rw [ByteArray.toList_eq]]
  · have hjz : j < zs.length := by have := (List.getElem?_eq_some_iff.1 hj).1; simpa using this
    have hlt := h.plain.lt
    have hH := Go.Sort.holds_grow encStr _ os b o _ (by simp [Go.Sort.putRow, Go.Sort.mapBlock, Go.Sort.ahead]; exact hlt) (Go.Sort.holds_putRow encStr (Go.Sort.ahead w n) b o _ (zs ++ rest).toArray (Go.Sort.holds_ahead encStr w n b o _ h.holds) (by simp; omega))
    have := (hH j (by simp; omega)).1
    rw [this, getElem!_pos _ j (by simp; omega), List.getElem_toArray, List.getElem_append_left hjz]
    rw [List.map_map, List.getElem?_map, List.getElem?_eq_getElem hjz] at hj
    exact hj
end
theorem dec_map (zs : List (List UInt8)) : (zs.map fun l => (⟨l.toArray⟩ : ByteArray)).map (fun x => x.toList) = zs := by
  rw [List.map_map]
  conv => rhs; rw [← List.map_id zs]
  exact List.map_congr_left fun l _ => str_dec l
set_option maxRecDepth 100000 in
/-- slices.Sort of texts of the call's own -/
theorem sortStr (xs : List ByteArray) (A : Option Addr) (c : Nat) (F : List Nat) (w : World) (B : Nat) (h : Own w B xs [.slice A xs.length c] F) (hl : (xs.length : Int) ≤ 1048576) :
    Calls Tryz.prog 58 #[.slice A xs.length c] w fun e w' => e = .returned (.tuple #[]) ∧ ∃ ys : List ByteArray, ys.map (fun x => x.toList) = (xs.map fun x => x.toList).mergeSort (fun x y => decide (x ≤ y)) ∧ Own w' B ys [.slice A xs.length c] F ∧ Upd F w w' := by
  by_cases hne : xs = []
  · subst hne
    refine (calls_of_every_depth fun D => AnyS.slices_Sort_string_none_alone laySort D A c w).mono ?_
    rintro e w' ⟨rfl, rfl⟩
    exact ⟨rfl, [], by simp, h, Upd.refl _ _⟩
  · obtain ⟨b, o, rfl, rfl, S⟩ := h.strB hne
    have h62 : (xs.map fun x => x.toList).length < 4611686018427387904 := by rw [List.length_map]; omega
    have h0 := fun D => AnyS.slices_Sort_string_alone laySort D b o c (xs.map fun x => x.toList) w S.holds S.plain.lt h62
    have := calls_of_every_depth h0
    rw [List.length_map] at this
    refine this.mono ?_
    rintro e w' ⟨rfl, n, os, rfl⟩
    have hL : ((xs.map fun x => x.toList).mergeSort fun x y => decide (x ≤ y)).length = xs.length := by rw [List.length_mergeSort, List.length_map]
    have S2 := S.put ((xs.map fun x => x.toList).mergeSort fun x y => decide (x ≤ y)) [] (by simp) (fun z hz => List.mem_mergeSort.1 hz) n os
    rw [List.append_nil] at S2
    refine ⟨rfl, _, dec_map _, ?_, putRow_upd _ _ _ _ _ _ _⟩
    have h9 := S2.own
    rwa [List.length_map, hL] at h9
set_option maxRecDepth 100000 in
/-- slices.Compact of texts of the call's own -/
theorem compStr (xs : List ByteArray) (A : Option Addr) (c : Nat) (F : List Nat) (w : World) (B : Nat) (h : Own w B xs [.slice A xs.length c] F) (hl : (xs.length : Int) ≤ 1048576) :
    Calls Tryz.prog 59 #[.slice A xs.length c] w fun e w' => ∃ ys : List ByteArray, e = .returned (.slice A ys.length c) ∧ ys.map (fun x => x.toList) = Lib.compact (xs.map fun x => x.toList) ∧ Own w' B ys [.slice A ys.length c] F ∧ Upd F w w' := by
  by_cases hne : xs = []
  · subst hne
    refine (calls_of_every_depth fun D => AnyS.slices_Compact_string_empty_in layCompact D A c w).mono ?_
    rintro e w' ⟨rfl, rfl⟩
    exact ⟨[], rfl, rfl, h, Upd.refl _ _⟩
  · obtain ⟨b, o, rfl, rfl, S⟩ := h.strB hne
    have h63 : (xs.map fun x => x.toList).length ≤ 9223372036854775807 := by rw [List.length_map]; omega
    have hcp : (xs.map fun x => x.toList).length ≤ c := by rw [List.length_map]; exact S.cap
    have h0 := fun D => AnyS.slices_Compact_string_in layCompact D b o c (xs.map fun x => x.toList) w S.holds h63 hcp
    have := calls_of_every_depth h0
    rw [List.length_map] at this
    refine this.mono ?_
    rintro e w' ⟨rfl, n, rfl⟩
    have hle : (Lib.compact (xs.map fun x => x.toList)).length ≤ xs.length := by
      have h9 : (Lib.compact (xs.map fun x => x.toList)).length ≤ (xs.map fun x => x.toList).length := by
        unfold Lib.compact Lib.compactUpTo
        rw [List.length_map]
        exact Nat.le_trans (List.length_filter_le ..) (by simp)
      rwa [List.length_map] at h9
    have S2 := S.put (Lib.compact (xs.map fun x => x.toList)) (List.replicate (xs.length - (Lib.compact (xs.map fun x => x.toList)).length) []) (by simp; omega) (fun z hz => (mem_compact_iff _ z).1 hz) n #[]
    rw [show ∀ W : World, Go.Sort.grow W #[] = W from fun W => by simp [Go.Sort.grow]] at S2
    refine ⟨(Lib.compact (xs.map fun x => x.toList)).map fun l => ⟨l.toArray⟩, by rw [List.length_map], dec_map _, S2.own, ?_⟩
    have hu := putRow_upd encStr w b o n (Lib.compact (xs.map fun (x : ByteArray) => x.toList) ++ List.replicate (xs.length - (Lib.compact (xs.map fun (x : ByteArray) => x.toList)).length) []).toArray #[]
    rwa [show ∀ W : World, Go.Sort.grow W #[] = W from fun W => by simp [Go.Sort.grow]] at hu
theorem bl_lt : ∀ a b : List UInt8, Op.bytesLess a b = true ↔ a < b
  | [], [] => by simp [Op.bytesLess]
  | [], _ :: _ => by simp [Op.bytesLess]
  | _ :: _, [] => by simp [Op.bytesLess]
  | x :: a, y :: b => by rw [bl_cons, List.cons_lt_cons_iff, bl_lt a b]
/-- sorted, then without doubles: the texts in order, each once -/
theorem insUS_cons (x y : S8) (r : List S8) : insUS x (y :: r) = if y < x then y :: insUS x r else if y = x then y :: r else x :: y :: r := rfl
theorem insUB_cons (x y : ByteArray) (r : List ByteArray) : Go.Proofs.YtegekccoincicaaGreatDoor.insU blt x (y :: r) = if blt y x then y :: Go.Proofs.YtegekccoincicaaGreatDoor.insU blt x r else if blt x y then x :: y :: r else y :: r := rfl
theorem insU_map (x : ByteArray) : ∀ r : List ByteArray, (Go.Proofs.YtegekccoincicaaGreatDoor.insU blt x r).map (fun x => x.toList) = insUS x.toList (r.map fun x => x.toList)
  | [] => rfl
  | y :: r => by
    have hlt : ∀ a b : ByteArray, blt a b = true ↔ a.toList < b.toList := fun a b => bl_lt _ _
    have ih := insU_map x r
    rw [insUB_cons, List.map_cons, insUS_cons]
    by_cases h1 : blt y x = true
    · rw [if_pos h1, if_pos ((hlt _ _).1 h1), List.map_cons, ih]
    · rw [if_neg h1, if_neg (fun h => h1 ((hlt _ _).2 h))]
      by_cases h2 : blt x y = true
      · rw [if_pos h2, if_neg (fun e => by have h3 := (hlt _ _).1 h2; rw [e] at h3; exact absurd h3 (List.lt_irrefl _))]; rfl
      · have e := totB.tri x y (by simpa using h2) (by simpa using h1)
        rw [if_neg h2, if_pos (by rw [e])]; rfl
theorem uniqL_map : ∀ (xs acc : List ByteArray), (uniqL blt acc xs).map (fun x => x.toList) = (xs.map fun x => x.toList).foldl (fun r x => insUS x r) (acc.map fun x => x.toList)
  | [], _ => rfl
  | x :: xs, acc => by rw [List.map_cons, List.foldl_cons, ← insU_map, ← uniqL_map xs]; rfl
theorem toList_inj : ∀ {a b : List ByteArray}, a.map (fun x => x.toList) = b.map (fun x => x.toList) → a = b
  | [], [], _ => rfl
  | [], _ :: _, h => by simp at h
  | _ :: _, [], h => by simp at h
  | x :: a, y :: b, h => by
    rw [List.map_cons, List.map_cons, List.cons.injEq] at h
    have e : x = y := bytes_ext (by rw [beq_iff_eq]; exact h.1)
    rw [e, toList_inj h.2]
theorem vals_of {xs ys zs : List ByteArray} (h1 : ys.map (fun x => x.toList) = (xs.map fun x => x.toList).mergeSort (fun x y => decide (x ≤ y))) (h2 : zs.map (fun x => x.toList) = Lib.compact (ys.map fun x => x.toList)) : zs = valsR xs := by
  refine toList_inj ?_
  rw [h2, h1, sortU]
  exact (uniqL_map xs []).symm
end Go.Proofs.YtegekccoincicaaGreatDoor
