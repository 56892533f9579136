/- The bytes of a number, seven bits a byte. No condition. -/
import Derived.Test.YtjoclfenghenjaaGreatAppend
import Derived.Test.YtjoclfenghenjaaGreatRegion
import Derived.Test.YtjoclfenghenjaaGreatToFlat
import Derived.Test.YtjoclfenghenjaaGreatSz
namespace Go.Proofs.YtjoclfenghenjaaGreat
open Go.ChangeShapes Go.WideShapes Go.ChangeAt Go.RowKit
set_option linter.unusedVariables false
set_option linter.unusedSimpArgs false
/-- seven bits a byte, the least first -/
def varB (n : Nat) : List UInt8 := if n < 128 then [n.toUInt8] else (n % 128 + 128).toUInt8 :: varB (n / 128)
termination_by n
theorem varB_small {n : Nat} (h : n < 128) : varB n = [n.toUInt8] := by rw [varB, if_pos h]
theorem varB_big {n : Nat} (h : 128 ≤ n) : varB n = (n % 128 + 128).toUInt8 :: varB (n / 128) := by rw [varB, if_neg (by omega)]
def varText (n : Int) : ByteArray := if n < 0 then ⟨#[]⟩ else ⟨(varB n.toNat).toArray⟩
theorem varB_len : ∀ (k n : Nat), n < 128 ^ (k + 1) → (varB n).length ≤ k + 1
  | 0, n, h => by rw [varB_small (by simpa using h)]; simp
  | k + 1, n, h => by
    by_cases hn : n < 128
    · rw [varB_small hn]; simp
    · rw [varB_big (by omega), List.length_cons]
      have := varB_len k (n / 128) (by rw [Nat.pow_succ] at h; exact Nat.div_lt_of_lt_mul (by omega))
      omega
theorem pow128 : (128 : Nat) ^ (9 + 1) = 1180591620717411303424 := by decide +kernel
theorem varB_len10 {n : Nat} (h : (n : Int) ≤ 9223372036854775807) : (varB n).length ≤ 10 := by
  have h1 : n < 128 ^ (9 + 1) := by rw [pow128]; omega
  have h2 := varB_len 9 n h1
  omega
theorem infoU8 : (Tryz.prog.info? 5).map (fun i => (i.zero, i.size, i.bytes)) = some (some (.int .u8 0), 1, 1) := by kernel_rfl
theorem elU8 : ElOk Tryz.prog 148 5 (.int .u8 0) 1 1 := ⟨Tryz.underlying148, infoU8, rfl, by omega⟩
theorem or128 (j : Nat) : bits .or .u8 ((j : Int) % 256) 128 = ((j % 128 + 128 : Nat) : Int) := by
  have e : ((j : Int) % 256) = ((j % 256 : Nat) : Int) := by omega
  rw [e, show (128 : Int) = ((128 : Nat) : Int) from rfl, u8_or_nat _ _ (by omega) (by omega)]
  congr 1
  have h : ∀ x : Fin 256, (x.val ||| 128) = x.val % 128 + 128 := by decide +kernel
  have := h ⟨j % 256, by omega⟩
  simp only at this
  rw [this]; omega
theorem B8_mk (n : Nat) (h : n < 256) : B8 n.toUInt8 = .int .u8 (n : Int) := by
  unfold B8
  congr 1
  have : n.toUInt8.toNat = n := by simp [Nat.toUInt8, UInt8.toNat_ofNat']; omega
  rw [this]
/-- the last byte, and the string -/
theorem var_last {p : List UInt8} {j m : Nat} (hp : p ++ varB j = varB m) (hj : j < 128) : p ++ [j.toUInt8] = varB m := by rw [← hp, varB_small hj]
theorem var_next {p : List UInt8} {j m : Nat} (hp : p ++ varB j = varB m) (hj : 128 ≤ j) : (p ++ [(j % 128 + 128).toUInt8]) ++ varB (j / 128) = varB m := by rw [← hp, varB_big hj]; simp
theorem var_len {p : List UInt8} {j m : Nat} (hp : p ++ varB j = varB m) (hm : (varB m).length ≤ 10) : p.length ≤ 9 := by
  have h := congrArg List.length hp
  rw [List.length_append] at h
  have : 1 ≤ (varB j).length := by unfold varB; split <;> simp
  omega
end Go.Proofs.YtjoclfenghenjaaGreat

namespace Go.Proofs.YtjoclfenghenjaaGreat
open Go.ChangeShapes Go.WideShapes Go.ChangeAt Go.RowKit
set_option linter.unusedVariables false
set_option linter.unusedSimpArgs false
def dig (k : Nat) : ByteArray := ⟨#[(k % 10 + 48).toUInt8]⟩
theorem dig_size (k : Nat) : (dig k).size = 1 := rfl
/-- the digits of k ahead of out -/
def mtl (k : Nat) (out : ByteArray) : ByteArray := if h : k = 0 then out else mtl (k / 10) (dig k ++ out)
termination_by k
decreasing_by omega
theorem mtl_zero (out : ByteArray) : mtl 0 out = out := by rw [mtl, dif_pos rfl]
theorem mtl_pos {k : Nat} (h : 0 < k) (out : ByteArray) : mtl k out = mtl (k / 10) (dig k ++ out) := by rw [mtl, dif_neg (by omega)]
theorem mtl_size : ∀ (n k : Nat) (out : ByteArray), k ≤ n → (mtl k out).size ≤ out.size + k
  | 0, k, out, h => by
    obtain rfl : k = 0 := by omega
    rw [mtl_zero]; omega
  | n + 1, k, out, h => by
    by_cases hk : k = 0
    · subst hk; rw [mtl_zero]; omega
    · rw [mtl_pos (by omega)]
      have := mtl_size n (k / 10) (dig k ++ out) (by omega)
      rw [ByteArray.size_append] at this
      have e := dig_size k
      omega
def mtext (k : Int) : ByteArray := if k ≤ 0 then ⟨#[109, 48]⟩ else ⟨#[109]⟩ ++ mtl k.toNat ⟨#[]⟩
theorem mtext_size (k : Int) (hk : k ≤ 1073741824) : (mtext k).size ≤ 1073741828 := by
  unfold mtext
  split
  · decide
  · rw [ByteArray.size_append]
    have := mtl_size k.toNat k.toNat ⟨#[]⟩ (Nat.le_refl _)
    have e1 : (⟨#[109]⟩ : ByteArray).size = 1 := rfl
    have e2 : (⟨#[]⟩ : ByteArray).size = 0 := rfl
    omega
set_option maxRecDepth 100000 in
set_option maxHeartbeats 1000000 in
theorem markText_any (k : Int) (w : World) (hk : k ≤ 1073741824) (hk0 : -9223372036854775808 ≤ k) : Calls Tryz.prog 75 #[.int .i64 k] w fun e w' => e = .returned (.string (mtext k)) ∧ Below w.heap.size w w' := by
  by_cases hneg : k ≤ 0
  · go_enter Tryz.func75, Tryz.ntmps75
    go_wp2
    go_ret
    exact ⟨by unfold mtext; rw [if_pos hneg]; rfl, ext_refl _⟩
  · obtain ⟨m, rfl⟩ := Int.eq_ofNat_of_zero_le (show 0 ≤ k by omega)
    have hfin : mtext (m : Int) = ⟨#[109]⟩ ++ mtl m ⟨#[]⟩ := by unfold mtext; rw [if_neg hneg]; rfl
    have HF := Lib.hid hfin
    have HM := Lib.hid hk
    clear hfin hk hk0 
    go_enter Tryz.func75, Tryz.ntmps75
    go_wp2_with fail
    go_loopw [0, 3] (fun x v wr => ∃ (j : Nat) (out : ByteArray), x = .int .i64 j ∧ v = .string out ∧ Hid (mtl j out = mtl m ⟨#[]⟩) ∧ (out.size : Int) + j ≤ m ∧ Below w.heap.size w wr) (fun x _ _ => (intOf x).toNat)
    case atStart => exact ⟨m, ⟨#[]⟩, rfl, rfl, rfl, by show ((0 : Nat) : Int) + m ≤ m; omega, ext_refl _⟩
    case round =>
      obtain ⟨j, out, rfl, rfl, hm, hs, hbl⟩ := hrel
      by_cases hj : (0 : Int) < (j : Int)
      · have hM := HM.out
        have hout : (out.size : Int) ≤ 1073741824 := by omega
        clear hM
        have hd : B8 (j % 10 + 48).toUInt8 = .int .u8 (48 + (j : Int) % 10) := by rw [B8_mk _ (by omega)]; congr 1; omega
        have hconv : (convert 148 9 (.slice (some ⟨wr.heap.size, 0, none⟩) 1 1)).run Tryz.prog (wr.alloc (.cells #[.int .u8 (48 + (j : Int) % 10)] 5)) = .ok (.string (dig j)) (wr.alloc (.cells #[.int .u8 (48 + (j : Int) % 10)] 5)) :=
          run_convert_bytes_back _ 148 9 5 ⟨wr.heap.size, 0, none⟩ 1 [(j % 10 + 48).toUInt8] Tryz.underlying148 Tryz.underlying5 Tryz.underlying9 (fun i hi => by
            obtain rfl : i = 0 := by simpa using hi
            refine (cell_of_row _ wr.heap.size 0 #[.int .u8 (48 + (j : Int) % 10)] 5 (0, 0) (heap_alloc_new wr _)).trans ?_
            rw [← hd]
            rfl)
        clear hd
        have hds := dig_size j
        have hwr : wrap64 ((j : Int) / 10) = ((j / 10 : Nat) : Int) := by have := HM.out; unfold wrap64; omega
        go_wp2_with fail
        refine ⟨⟨j / 10, _, by rw [hwr], rfl, ?_, ?_, ext_alloc hbl _⟩, ?_⟩
        · show _ = _
          rw [← mtl_pos (by omega)]; exact hm.out
        · rw [ByteArray.size_append, hds]; omega
        · rw [hwr]
          simp only [intOf]; omega
      · have hj0 : j = 0 := by omega
        subst hj0
        have hm2 := hm.out
        rw [mtl_zero] at hm2
        subst hm2
        have hM := HM.out
        have hout : ((mtl m ⟨#[]⟩).size : Int) ≤ 1073741824 := by omega
        clear hM
        go_wp2_with fail
        go_ret
        exact ⟨by rw [HF.out]; rfl, hbl⟩
end Go.Proofs.YtjoclfenghenjaaGreat

namespace Go.Proofs.YtjoclfenghenjaaGreat
open Go.ChangeShapes Go.WideShapes Go.ChangeAt Go.RowKit
set_option linter.unusedVariables false
set_option linter.unusedSimpArgs false
/-- w' is w but for the blocks F, and grown -/
structure Upd (F : List Nat) (w w' : World) : Prop where
  os : w'.os = w.os
  tape : w'.tape = w.tape
  output : w'.output = w.output
  size : w.heap.size ≤ w'.heap.size
  block : ∀ k, k < w.heap.size → k ∉ F → w'.heap[k]? = w.heap[k]?
section
variable {F G : List Nat} {w w1 w2 : World}
theorem Upd.refl (F : List Nat) (w : World) : Upd F w w := ⟨rfl, rfl, rfl, Nat.le_refl _, fun _ _ _ => rfl⟩
theorem Upd.trans (h : Upd F w w1) (k : Upd F w1 w2) : Upd F w w2 :=
  ⟨k.os.trans h.os, k.tape.trans h.tape, k.output.trans h.output, Nat.le_trans h.size k.size, fun i hi hn => (k.block i (Nat.lt_of_lt_of_le hi h.size) hn).trans (h.block i hi hn)⟩
theorem Upd.mono (h : Upd F w w1) (hs : ∀ b ∈ F, b ∈ G) : Upd G w w1 := ⟨h.os, h.tape, h.output, h.size, fun i hi hn => h.block i hi fun hb => hn (hs i hb)⟩
theorem Upd.of_ext (F : List Nat) (h : Below w.heap.size w w1) : Upd F w w1 := ⟨h.os, h.tape, h.output, h.size, fun i hi _ => h.block i hi⟩
theorem Upd.drew (h : Upd F w w1) : Upd F w w1.drew := ⟨h.os, h.tape, h.output, h.size, h.block⟩
theorem Upd.setCell (h : Upd F w w1) {p : Addr} (hp : p.block ∈ F) (u : Value) : Upd F w (w1.setCell p u) :=
  ⟨h.os, h.tape, h.output, by simpa [World.setCell] using h.size, fun i hi hn => (Below.heap_setCell _ _ _ _ (by rintro rfl; exact hn hp)).trans (h.block i hi hn)⟩
/-- blocks that are all made later: nothing below changes -/
theorem Upd.below {B : Nat} (h : Upd F w w1) (hF : ∀ b ∈ F, B ≤ b) (hB : B ≤ w.heap.size) : Below B w w1 :=
  ⟨h.os, h.tape, h.output, h.size, fun i hi => h.block i (by omega) fun hb => by have := hF i hb; omega⟩
theorem Upd.rd {α : Type} [Dat α] (h : Upd F w w1) {x : α} {cs : List Value} (hr : rd w x cs G) (hd : ∀ b ∈ G, b ∉ F) : rd w1 x cs G :=
  Dat.frame hr (fun b hb => h.block b (Dat.lt hr b hb) (hd b hb)) h.size
theorem Upd.own {α : Type} [Dat α] (h : Upd F w w1) {x : α} {cs : List Value} {B : Nat} (hr : Own w B x cs G) (hd : ∀ b ∈ G, b ∉ F) : Own w1 B x cs G :=
  hr.keep (fun b hb => h.block b (hr.lt b hb) (hd b hb)) h.size
end

/-- the cells ds stand in block b from o on -/
def Cells (w : World) (b o : Nat) (ds : List Value) : Prop := ∀ j u, ds[j]? = some u → w.cell? ⟨b, o + j, none⟩ = some u
def Plain (w : World) (b : Nat) : Prop := ∃ ds t, w.heap[b]? = some (.cells ds t (0, 0))
theorem Plain.lt {w : World} {b : Nat} (h : Plain w b) : b < w.heap.size := by
  obtain ⟨ds, t, h⟩ := h
  rcases Nat.lt_or_ge b w.heap.size with hlt | hge
  · exact hlt
  · rw [Array.getElem?_eq_none hge] at h; cases h
theorem Plain.frozen {w : World} {b : Nat} (h : Plain w b) (i : Nat) : w.frozen? ⟨b, i, none⟩ = false := by
  obtain ⟨ds, t, h⟩ := h
  simp [World.frozen?, h]
theorem Plain.setCell {w : World} {b : Nat} (h : Plain w b) (b' q : Nat) (u : Value) : Plain (w.setCell ⟨b', q, none⟩ u) b := by
  obtain ⟨ds, t, h⟩ := h
  by_cases hp : b' = b
  · subst hp
    exact ⟨ds.setIfInBounds q u, t, by simp [World.setCell, Array.getElem?_modify, h]⟩
  · exact ⟨ds, t, (Below.heap_setCell _ _ _ _ (by dsimp only; omega)).trans h⟩
theorem cell_setCell_same {w : World} {b i : Nat} (h : Plain w b) {v : Value} (hc : w.cell? ⟨b, i, none⟩ = some v) (u : Value) : (w.setCell ⟨b, i, none⟩ u).cell? ⟨b, i, none⟩ = some u := by
  obtain ⟨ds, t, h⟩ := h
  rw [cell_of_row w b i ds t (0, 0) h] at hc
  have hi := (Array.getElem?_eq_some_iff.1 hc).1
  rw [cell_of_row _ b i (ds.setIfInBounds i u) t (0, 0) (by simp [World.setCell, Array.getElem?_modify, h])]
  simp [hi]
theorem cell_setCell_other {w : World} {b i j : Nat} (h : Plain w b) (hij : i ≠ j) (u : Value) : (w.setCell ⟨b, i, none⟩ u).cell? ⟨b, j, none⟩ = w.cell? ⟨b, j, none⟩ := by
  obtain ⟨ds, t, h⟩ := h
  rw [cell_of_row w b j ds t (0, 0) h, cell_of_row _ b j (ds.setIfInBounds i u) t (0, 0) (by simp [World.setCell, Array.getElem?_modify, h])]
  rw [Array.getElem?_setIfInBounds_ne hij]

/-- an element that is being marked: its cells are ck by now; the rest of its block is as in w0 -/
structure Elt (w0 w : World) (b o : Nat) (ck : List Value) (Fk : List Nat) : Prop where
  upd : Upd (b :: Fk) w0 w
  cells : Cells w b o ck
  rest : ∀ q, (q < o ∨ o + ck.length ≤ q) → w.cell? ⟨b, q, none⟩ = w0.cell? ⟨b, q, none⟩
  plain : Plain w b
section
variable {w0 w w1 : World} {b o : Nat} {ck : List Value} {Fk G : List Nat}
theorem Elt.set (h : Elt w0 w b o ck Fk) {j q : Nat} (hj : j < ck.length) (hq : q = o + j) (u : Value) : Elt w0 (w.setCell ⟨b, q, none⟩ u) b o (ck.set j u) Fk := by
  subst hq
  refine ⟨h.upd.setCell (List.mem_cons_self ..) u, fun i v hi => ?_, fun q hq => ?_, h.plain.setCell _ _ _⟩
  · by_cases hij : j = i
    · subst hij
      rw [List.getElem?_set_self hj] at hi
      cases hi
      exact cell_setCell_same h.plain (h.cells j _ (List.getElem?_eq_getElem hj)) u
    · rw [List.getElem?_set_ne hij] at hi
      rw [cell_setCell_other h.plain (by omega)]
      exact h.cells i v hi
  · rw [List.length_set] at hq
    rw [cell_setCell_other h.plain (by omega)]
    exact h.rest q hq
theorem Elt.at_ (h : Elt w0 w b o ck Fk) {j q : Nat} (hq : q = o + j) {u : Value} (hj : ck[j]? = some u) : w.cell? ⟨b, q, none⟩ = some u := by
  subst hq; exact h.cells j u hj
theorem Elt.step (h : Elt w0 w b o ck Fk) (hu : Upd G w w1) (hs : ∀ x ∈ G, x ∈ Fk) (hb : b ∉ G) : Elt w0 w1 b o ck Fk := by
  have e := hu.block b h.plain.lt hb
  refine ⟨h.upd.trans (hu.mono fun x hx => List.mem_cons_of_mem _ (hs x hx)), fun j u hj => ?_, fun q hq => ?_, ?_⟩
  · rw [World.cell?_of_block e]; exact h.cells j u hj
  · rw [World.cell?_of_block e]; exact h.rest q hq
  · obtain ⟨ds, t, hp⟩ := h.plain
    exact ⟨ds, t, e.trans hp⟩
theorem Elt.ext (h : Elt w0 w b o ck Fk) (hb : Below w.heap.size w w1) : Elt w0 w1 b o ck Fk := h.step (.of_ext [] hb) (fun _ hx => by cases hx) (by simp)
end

theorem rdCells.split {α : Type} [Dat α] {w : World} {xs : List α} {ds : List Value} {G : List Nat} (h : rdCells w xs ds G) {k : Nat} (hk : k < xs.length) :
    ∃ d1 ck d2 G1 Fk G2, ds = d1 ++ (ck ++ d2) ∧ G = G1 ++ (Fk ++ G2) ∧ rdCells w (xs.take k) d1 G1 ∧ rd w xs[k] ck Fk ∧ rdCells w (xs.drop (k + 1)) d2 G2 ∧ d1.length = k * Dat.size α := by
  have e : xs = xs.take k ++ (xs[k] :: xs.drop (k + 1)) := by rw [List.getElem_cons_drop, List.take_append_drop]
  rw [e] at h
  obtain ⟨c1, c2, F1, F2, rfl, rfl, h1, ck, c3, Fk, F3, rfl, rfl, h2, h3⟩ := rdCells.of_append h
  refine ⟨c1, ck, c3, F1, Fk, F3, rfl, rfl, h1, h2, h3, ?_⟩
  rw [h1.len, List.length_take, Nat.min_eq_left (by omega)]
/-- element k of a list of the call's own: it may be marked in place -/
theorem Own.elt {α : Type} [Dat α] {w : World} {B n c : Nat} {xs : List α} {A : Option Addr} {F : List Nat} (h : Own w B xs [.slice A n c] F) {k : Nat} (hk : k < xs.length) :
    ∃ b o ck Fk, A = some ⟨b, o, none⟩ ∧ b ∈ F ∧ (∀ x ∈ Fk, x ∈ F) ∧ b ∉ Fk ∧ Own w B xs[k] ck Fk ∧ Elt w w b (o + k * Dat.size α) ck Fk ∧
      ∀ w' x' ck', Own w' B x' ck' Fk → Elt w w' b (o + k * Dat.size α) ck' Fk → Own w' B (xs.set k x') [.slice A n c] F := by
  obtain ⟨⟨A', c', G, ds, e, hc1, hc2, hc, h0⟩, hnd, hbase, hplain⟩ := h
  simp at e
  obtain ⟨rfl, rfl, rfl⟩ := e
  rcases h0 with h0 | ⟨b, o, rfl, rfl, hb, hcell⟩
  · rw [h0.1] at hk; cases hk
  obtain ⟨d1, ck, d2, G1, Fk, G2, rfl, rfl, r1, r2, r3, hd1⟩ := hc.split hk
  have hckl := Dat.len r2
  simp only [List.nodup_cons, List.nodup_append, List.mem_append, not_or] at hnd
  have hplainb : Plain w b := hplain b (List.mem_cons_self ..)
  refine ⟨b, o, ck, Fk, rfl, List.mem_cons_self .., fun x hx => List.mem_cons_of_mem _ (by simp [hx]), hnd.1.2.1, ⟨r2, hnd.2.2.1.1, fun x hx => hbase x (by simp [hx]), fun x hx => hplain x (by simp [hx])⟩, ⟨.refl _ _, fun j u hj => ?_, fun _ _ => rfl, hplainb⟩, ?_⟩
  · have := hcell (k * Dat.size α + j) u (by
      rw [List.getElem?_append_right (by omega), List.getElem?_append_left (by have := (List.getElem?_eq_some_iff.1 hj).1; omega)]
      rw [← hj]; congr 1; omega)
    rwa [Nat.add_assoc]
  · intro w' x' ck' hx hE
    have hkeep : ∀ y ∈ G1 ++ G2, w'.heap[y]? = w.heap[y]? := fun y hy => by
      refine hE.upd.block y ?_ ?_
      · rcases List.mem_append.1 hy with hy | hy
        · exact r1.lt y hy
        · exact r3.lt y hy
      · intro hm
        rcases List.mem_cons.1 hm with rfl | hm
        · rcases List.mem_append.1 hy with hy | hy
          · exact hnd.1.1 hy
          · exact hnd.1.2.2 hy
        · rcases List.mem_append.1 hy with hy | hy
          · exact hnd.2.2.2 y hy y (Or.inl hm) rfl
          · exact hnd.2.2.1.2.2 y hm y hy rfl
    have hx2 := Dat.len hx.rd
    refine ⟨⟨_, c, G1 ++ (Fk ++ G2), d1 ++ (ck' ++ d2), by simp, by simpa using hc1, hc2, ?_, .inr ⟨b, o, rfl, rfl, Nat.lt_of_lt_of_le hb hE.upd.size, ?_⟩⟩, ?_, ?_, ?_⟩
    · have es : xs.set k x' = xs.take k ++ (x' :: xs.drop (k + 1)) := List.set_eq_take_append_cons_drop.trans (if_pos hk)
      rw [es]
      exact (r1.frame (fun y hy => hkeep y (List.mem_append_left _ hy)) hE.upd.size).append ⟨ck', d2, Fk, G2, rfl, rfl, hx.rd, r3.frame (fun y hy => hkeep y (List.mem_append_right _ hy)) hE.upd.size⟩
    · intro j u hj
      by_cases hj1 : j < d1.length
      · rw [List.getElem?_append_left hj1] at hj
        rw [hE.rest (o + j) (by omega)]
        exact hcell j u (by rw [List.getElem?_append_left hj1]; exact hj)
      · rw [List.getElem?_append_right (by omega)] at hj
        by_cases hj2 : j - d1.length < ck'.length
        · rw [List.getElem?_append_left hj2] at hj
          have := hE.cells _ u hj
          rw [← this]; congr 2; omega
        · rw [List.getElem?_append_right (by omega)] at hj
          rw [hE.rest (o + j) (by omega)]
          refine hcell j u ?_
          rw [List.getElem?_append_right (by omega), List.getElem?_append_right (by omega)]
          rw [← hj]; congr 1; omega
    · simp only [List.nodup_cons, List.nodup_append, List.mem_append, not_or]
      exact hnd
    · exact hbase
    · intro y hy
      rcases List.mem_cons.1 hy with rfl | hy
      · exact hE.plain
      · rcases List.mem_append.1 hy with hy | hy
        · rw [hkeep y (List.mem_append_left _ hy)]; exact hplain y (by simp [hy])
        · rcases List.mem_append.1 hy with hy | hy
          · exact hx.plain y hy
          · rw [hkeep y (List.mem_append_right _ hy)]; exact hplain y (by simp [hy])

theorem mtext63 {k : Int} (hk : k ≤ 1073741824) : ((mtext k).size : Int) ≤ 9223372036854775807 := by have := mtext_size k hk; omega
theorem own_len {α : Type} [Dat α] {w : World} {B n c : Nat} {xs : List α} {A : Option Addr} {F : List Nat} (h : Own w B xs [.slice A n c] F) : (xs.length : Int) ≤ 9223372036854775807 := by
  obtain ⟨_, _, _, _, e, h1, h2, _⟩ := h.rd
  unfold maxLen at h2
  omega
theorem rd_len {α : Type} [Dat α] {w : World} {n c : Nat} {xs : List α} {A : Option Addr} {F : List Nat} (h : rd w xs [.slice A n c] F) : (xs.length : Int) ≤ 9223372036854775807 := by
  obtain ⟨_, _, _, _, e, h1, h2, _⟩ := h
  unfold maxLen at h2
  omega
theorem rd_pair {α β : Type} [Dat α] [Dat β] {w : World} {a : α} {b : β} {c1 c2 : List Value} {F1 F2 : List Nat} (h1 : rd w a c1 F1) (h2 : rd w b c2 F2) : rd w (a, b) (c1 ++ c2) (F1 ++ F2) := ⟨_, _, _, _, rfl, rfl, h1, h2⟩
theorem Own.setC {α : Type} [Dat α] {w : World} {B : Nat} {x : α} {cs : List Value} {F : List Nat} (h : Own w B x cs F) {p : Addr} (hp : p.block ∉ F) (u : Value) : Own (w.setCell p u) B x cs F :=
  h.keep (fun b hb => Below.heap_setCell _ _ _ _ (by rintro rfl; exact hp hb)) (by simp [World.setCell])
/-! what marking makes of a list -/
section
variable {α : Type} (mk : α → Int → α) (cnt : α → Nat)
def cntL : List α → Nat
  | [] => 0
  | x :: xs => cnt x + cntL xs
def mkL : List α → Int → List α
  | [], _ => []
  | x :: xs, k => mk x k :: mkL xs (k + cnt x)
theorem mkL_len : ∀ (xs : List α) (k : Int), (mkL mk cnt xs k).length = xs.length
  | [], _ => rfl
  | x :: xs, k => by simp [mkL, mkL_len xs]
theorem mkL_append : ∀ (xs ys : List α) (k : Int), mkL mk cnt (xs ++ ys) k = mkL mk cnt xs k ++ mkL mk cnt ys (k + cntL cnt xs)
  | [], ys, k => by simp [mkL, cntL]
  | x :: xs, ys, k => by simp [mkL, cntL, mkL_append xs, Int.add_assoc]
theorem cntL_append : ∀ (xs ys : List α), cntL cnt (xs ++ ys) = cntL cnt xs + cntL cnt ys
  | [], ys => by simp [cntL]
  | x :: xs, ys => by simp [cntL, cntL_append xs, Nat.add_assoc]
def mkUp (xs : List α) (k : Int) (i : Nat) : List α := mkL mk cnt (xs.take i) k ++ xs.drop i
variable {mk cnt} {xs : List α} {k : Int} {i : Nat}
theorem cntL_succ (hi : i < xs.length) : cntL cnt (xs.take (i + 1)) = cntL cnt (xs.take i) + cnt xs[i] := by
  rw [List.take_succ_eq_append_getElem hi, cntL_append]; simp [cntL]
theorem cntL_le (xs : List α) (i : Nat) : cntL cnt (xs.take i) ≤ cntL cnt xs := by
  have := cntL_append cnt (xs.take i) (xs.drop i)
  rw [List.take_append_drop] at this; omega
theorem mkUp_zero (xs : List α) (k : Int) : mkUp mk cnt xs k 0 = xs := by simp [mkUp, mkL]
theorem mkUp_full (xs : List α) (k : Int) : mkUp mk cnt xs k xs.length = mkL mk cnt xs k := by simp [mkUp]
theorem mkUp_len (hi : i ≤ xs.length) : (mkUp mk cnt xs k i).length = xs.length := by simp [mkUp, mkL_len]; omega
theorem mkUp_get (hi : i < xs.length) (h : i < (mkUp mk cnt xs k i).length) : (mkUp mk cnt xs k i)[i] = xs[i] := by
  have hl : (mkL mk cnt (xs.take i) k).length = i := by rw [mkL_len, List.length_take, Nat.min_eq_left (by omega)]
  have e : (mkUp mk cnt xs k i)[i]? = some xs[i] := by
    unfold mkUp
    rw [List.getElem?_append_right (by omega), hl, Nat.sub_self, List.getElem?_drop]
    exact List.getElem?_eq_getElem hi
  exact (List.getElem?_eq_some_iff.1 e).2
theorem mkUp_set (hi : i < xs.length) : (mkUp mk cnt xs k i).set i (mk xs[i] (k + cntL cnt (xs.take i))) = mkUp mk cnt xs k (i + 1) := by
  have hl : (mkL mk cnt (xs.take i) k).length = i := by rw [mkL_len, List.length_take, Nat.min_eq_left (by omega)]
  unfold mkUp
  rw [List.set_append_right _ _ (by omega), hl, Nat.sub_self, List.take_succ_eq_append_getElem hi, mkL_append]
  rw [show xs.drop i = xs[i] :: xs.drop (i + 1) from (List.getElem_cons_drop hi).symm]
  simp only [mkL, List.set_cons_zero, List.append_assoc, List.cons_append, List.nil_append]
theorem mkL_fix : ∀ {xs : List α} {k : Int}, mkL mk cnt xs k = xs → ∀ {i : Nat} (hi : i < xs.length), mk xs[i] (k + cntL cnt (xs.take i)) = xs[i]
  | [], _, _, i, hi => by cases hi
  | x :: xs, k, h, 0, _ => by simpa [mkL, cntL] using (List.cons.inj h).1
  | x :: xs, k, h, i + 1, hi => by
    have := mkL_fix (List.cons.inj h).2 (i := i) (by simpa using hi)
    simpa [mkL, cntL, Int.add_assoc] using this
theorem cntL_mkL (hc : ∀ x k, cnt (mk x k) = cnt x) : ∀ (xs : List α) (k : Int), cntL cnt (mkL mk cnt xs k) = cntL cnt xs
  | [], _ => rfl
  | x :: xs, k => by simp [mkL, cntL, hc, cntL_mkL hc xs]
theorem mkL_idem (hc : ∀ x k, cnt (mk x k) = cnt x) (hm : ∀ x k, mk (mk x k) k = mk x k) : ∀ (xs : List α) (k : Int), mkL mk cnt (mkL mk cnt xs k) k = mkL mk cnt xs k
  | [], _ => rfl
  | x :: xs, k => by simp [mkL, hm, hc, mkL_idem hc hm xs]
end
end Go.Proofs.YtjoclfenghenjaaGreat

namespace Go.Proofs.YtjoclfenghenjaaGreat
open Go.ChangeShapes Go.WideShapes Go.ChangeAt Go.RowKit
set_option linter.unusedVariables false
set_option linter.unusedSimpArgs false
def mkStr (_ : ByteArray) (k : Int) : ByteArray := mtext k
def cntStr (_ : ByteArray) : Nat := 1
set_option maxRecDepth 100000 in
set_option maxHeartbeats 1000000 in
theorem markStringS_any (xs : List ByteArray) (A : Option Addr) (n c : Nat) (F : List Nat) (B : Nat) (k : Int) (w : World) (h : Own w B xs [.slice A n c] F) (hn : n = xs.length) (hk0 : 0 ≤ k) (hk : k + cntL cntStr xs ≤ 1073741823) :
    Calls Tryz.prog 27 #[.slice A n c, .int .i64 k] w fun e w' => e = .returned (.int .i64 (k + cntL cntStr xs)) ∧ Own w' B (mkL mkStr cntStr xs k) [.slice A n c] F ∧ Upd F w w' := by
  subst hn
  have hlen : (xs.length : Int) ≤ 9223372036854775807 := by
    have := h.rd
    obtain ⟨_, _, _, _, e, h1, h2, _⟩ := this
    unfold maxLen at h2
    simp at e
    omega
  go_enter Tryz.func27, Tryz.ntmps27
  go_wp2_with fail
  go_loopw [1, 5] (fun x y wr => ∃ (i : Nat), i ≤ xs.length ∧ y = .int .i64 i ∧ x = .int .i64 (k + cntL cntStr (xs.take i)) ∧ Own wr B (mkUp mkStr cntStr xs k i) [.slice A xs.length c] F ∧ Upd F w wr) (fun _ y _ => xs.length - (intOf y).toNat)
  case atStart => exact ⟨0, Nat.zero_le _, rfl, by simp [cntL], by rw [mkUp_zero]; exact h, .refl _ _⟩
  case round =>
    obtain ⟨i, hi, rfl, rfl, hO, hu⟩ := hrel
    by_cases hlt : i < xs.length
    · have hle : (cntL cntStr (xs.take i) : Int) + cntStr xs[i] ≤ cntL cntStr xs := by have := cntL_succ (cnt := cntStr) hlt; have := cntL_le (cnt := cntStr) xs (i + 1); omega
      have hsuc := cntL_succ (cnt := cntStr) hlt
      obtain ⟨b, o, ck, Fk, rfl, hbF, hsub, hbk, hOe, hE, hcl⟩ := hO.elt (k := i) (by rw [mkUp_len hi]; exact hlt)
      rw [mkUp_get hlt] at hOe
      have hRe := hOe.rd
      obtain ⟨hck, hFk, hsz⟩ := hRe
      subst hck hFk
      generalize hkk : k + (cntL cntStr (xs.take i) : Int) = kk
      have hkk0 : 0 ≤ kk := by omega
      have hkk1 : kk + cntStr xs[i] ≤ 1073741823 := by omega
      simp only [cntStr] at hkk1 
      go_wp2_with (refine (markText_any kk _ (by omega) (by omega)).mono ?_; rintro e w2 ⟨rfl, hb2⟩; replace hE := hE.ext hb2; have hq := hE.at_ (q := o + i) (j := 0) (by show _ = o + i * 1 + 0; omega) rfl; have hfz := hE.plain.frozen (o + i))
      have hE2 := hE.set (q := o + i) (j := 0) (by simp) (by show _ = o + i * 1 + 0; omega) (.string (mtext kk))
      have hP := hcl _ (mkStr xs[i] kk) _ (Own.flat (rdStr _ _ (by have := mtext_size kk (by omega); show ((mtext kk).size : Int) ≤ _; omega))) hE2
      rw [← hkk, mkUp_set hlt] at hP
      have hU := hu.trans (hE2.upd.mono (G := F) (fun y hy => by rcases List.mem_cons.1 hy with rfl | hy; exact hbF; exact hsub y hy))
      rw [← hkk] at hU
      refine ⟨⟨i + 1, by omega, by go_num, ?_, ?_, ?_⟩, by simp [intOf]; omega⟩
      · rw [hsuc, ← hkk]; simp only [cntStr]; congr 1; push_cast; omega
      · rw [← hkk]; exact hP
      · rw [← hkk]; exact hU
    · have hkl : i = xs.length := by omega
      subst hkl
      go_wp2
      go_ret
      rw [mkUp_full] at hO
      simp only [List.take_length]
      exact ⟨rfl, hO, hu⟩
set_option maxRecDepth 100000 in
set_option maxHeartbeats 1000000 in
theorem heldStringS_any (xs : List ByteArray) (A : Option Addr) (n c : Nat) (F : List Nat) (k : Int) (w : World) (h : rd w xs [.slice A n c] F) (hn : n = xs.length) (hm : mkL mkStr cntStr xs k = xs) (hk0 : 0 ≤ k) (hk : k + cntL cntStr xs ≤ 1073741823) :
    Calls Tryz.prog 28 #[.slice A n c, .int .i64 k] w fun e w' => e = .returned (.int .i64 (k + cntL cntStr xs)) ∧ Below w.heap.size w w' := by
  subst hn
  have hlen : (xs.length : Int) ≤ 9223372036854775807 := by
    have := h
    obtain ⟨_, _, _, _, e, h1, h2, _⟩ := this
    unfold maxLen at h2
    simp at e
    omega
  have HM := Lib.hid hm
  clear hm
  go_enter Tryz.func28, Tryz.ntmps28
  go_wp2_with fail
  go_loopw [1, 5] (fun x y wr => ∃ (i : Nat), i ≤ xs.length ∧ y = .int .i64 i ∧ x = .int .i64 (k + cntL cntStr (xs.take i)) ∧ Below w.heap.size w wr) (fun _ y _ => xs.length - (intOf y).toNat)
  case atStart => exact ⟨0, Nat.zero_le _, rfl, by simp [cntL], ext_refl _⟩
  case round =>
    obtain ⟨i, hi, rfl, rfl, hbl⟩ := hrel
    by_cases hlt : i < xs.length
    · have hle : (cntL cntStr (xs.take i) : Int) + cntStr xs[i] ≤ cntL cntStr xs := by have := cntL_succ (cnt := cntStr) hlt; have := cntL_le (cnt := cntStr) xs (i + 1); omega
      have hsuc := cntL_succ (cnt := cntStr) hlt
      have hfix := mkL_fix HM.out hlt
      obtain ⟨b, o, ck, Fk, rfl, hbF, hbs, hr, hsub, hc⟩ := (Sl.ext (w' := wr) (A := A) (c := c) h hbl).get hlt
      obtain ⟨hck, hFk, hsz⟩ := hr
      subst hck hFk
      generalize hkk : k + (cntL cntStr (xs.take i) : Int) = kk at hfix ⊢
      have hkk0 : 0 ≤ kk := by omega
      have hkk1 : kk + cntStr xs[i] ≤ 1073741823 := by omega
      simp only [cntStr] at hkk1 
      have q0 : wr.cell? ⟨b, o + i, none⟩ = some (.string xs[i]) := by have := hc 0 _ rfl; rwa [show o + (i * Dat.size ByteArray + 0) = o + i from by show o + (i * 1 + 0) = _; omega] at this
      rw [← hfix] at q0
      simp only [mkStr] at q0
      go_wp2_with fail
      refine wp_region_grow wr (by kernel_rfl) (by kernel_rfl) (ext_refl _) ?_
      repeat (first
        | (apply inText_skip
           case hw => rfl
           simp only [Act.put, List.setIfInBounds_toArray, List.set_cons_zero, List.set_cons_succ])
        | (apply inText_step
           case hw => rfl
           case h =>
             intro wq hq
             have hcq := (cls_cell hq).1
             have hfq := (cls_cell hq).2
             go_simp
             first
               | exact ⟨hq, rfl⟩
               | exact ⟨cls_alloc hq _, rfl⟩
               | (refine (markText_any kk _ (by omega) (by omega)).mono ?_; rintro e w2 ⟨rfl, hb2⟩; exact ⟨rfl, cls_trans hq hb2⟩)
               | (simp only [↓IntWalk.iteOmega]; exact ⟨hq, rfl⟩)
           simp only [Act.put, List.setIfInBounds_toArray, List.set_cons_zero, List.set_cons_succ]))
      refine inText_nil ?_
      intro wn hn
      replace hn := hn.out
      go_wp2
      exact ⟨⟨i + 1, by omega, by go_num, (by rw [hsuc, ← hkk]; simp only [cntStr]; congr 1; push_cast; omega), ext_trans hbl hn⟩, by simp [intOf]; omega⟩
    · have hkl : i = xs.length := by omega
      subst hkl
      go_wp2
      go_ret
      simp only [List.take_length]
      exact ⟨rfl, hbl⟩
end Go.Proofs.YtjoclfenghenjaaGreat

namespace Go.Proofs.YtjoclfenghenjaaGreat
open Go.ChangeShapes Go.WideShapes Go.ChangeAt Go.RowKit
set_option linter.unusedVariables false
set_option linter.unusedSimpArgs false

theorem cntStr_mk (x : ByteArray) (k : Int) : cntStr (mkStr x k) = cntStr x := rfl
theorem mkStr_idem (x : ByteArray) (k : Int) : mkStr (mkStr x k) k = mkStr x k := rfl
end Go.Proofs.YtjoclfenghenjaaGreat

namespace Go.Proofs.YtjoclfenghenjaaGreat
open Go.ChangeShapes Go.WideShapes Go.ChangeAt Go.RowKit
set_option linter.unusedVariables false
set_option linter.unusedSimpArgs false

theorem cntL_wt {α : Type} {cnt f : α → Nat} {a : Nat} (h : ∀ x, cnt x ≤ a * (f x + 1)) : ∀ xs : List α, cntL cnt xs ≤ a * wtL f xs
  | [] => by simp [cntL]
  | x :: xs => by
    have h1 := cntL_wt h xs
    have h2 := h x
    unfold wtL at h1 ⊢
    simp only [cntL, List.length_cons, List.map_cons, List.sum_cons]
    have e : a * (xs.length + 1 + (f x + (xs.map f).sum)) = a * (f x + 1) + a * (xs.length + (xs.map f).sum) := by rw [← Nat.mul_add]; congr 1; omega
    omega
theorem cntStr_le (x : ByteArray) : cntStr x ≤ 1 * (x.size + 1) := by unfold cntStr; omega
theorem cntL_str (xs : List ByteArray) : cntL cntStr xs = xs.length := by
  induction xs with
  | nil => rfl
  | cons x xs ih => simp [cntL, ih, cntStr]; omega
end Go.Proofs.YtjoclfenghenjaaGreat
