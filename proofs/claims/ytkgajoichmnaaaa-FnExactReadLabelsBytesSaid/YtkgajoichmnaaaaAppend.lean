/- append of one element to a row of the call's own; make with a length; a row that is filled place by place. No condition. -/
import Derived.Test.YtkgajoichmnaaaaKit
import Derived.Laws.MakeOwn
import Derived.Laws.IdiomStrings
namespace Go.Proofs.Ytkgajoichmnaaaa
open Dat (rd)
open Go.ChangeShapes Go.WideShapes Go.ChangeAt Go.RowKit
set_option linter.unusedVariables false
set_option linter.unusedSimpArgs false

/-- t is a slice of e; e's zero, its cells, its bytes -/
structure ElOk (P : Program) (t e : TypeId) (z : Value) (size bytes : Nat) : Prop where
  ht : P.underlying t = some (.slice e)
  info : (P.info? e).map (fun i => (i.zero, i.size, i.bytes)) = some (some z, size, bytes)
  hzs : z.cells.size = size
  hsz : 0 < size

theorem grown_ext {B size : Nat} {w0 w w' : World} {v : Value} {e : TypeId} {n : Nat} {xs : List Value} (hown : w.ownsRow B e size v n xs) (hg : w.grownBy w' v.ownBlock) (hb : Below B w0 w) (hB : B ≤ w.heap.size) : Below B w0 w' :=
  hb.grown hg hB fun k hk => (hown.lt k hk).1
def B8 (u : UInt8) : Value := .int .u8 (u.toNat : Int)
/-- 'string(b)' of a row of the call's own -/
theorem run_string_own {P : Program} {w : World} {src dst e : TypeId} {B : Nat} {v : Value} {n : Nat} {l : List UInt8} (hs : P.underlying src = some (.slice e)) (he : P.underlying e = some (.int .u8)) (hd : P.underlying dst = some .string)
    (hown : w.ownsRow B e 1 v n (l.map B8)) : (convert src dst v).run P w = .ok (.string ⟨l.toArray⟩) w := by
  rcases hown with ⟨hl, ⟨rfl, hn⟩ | ⟨g, cap, cur, rfl, _, hh, hle, _, hcs, ht⟩⟩
  · have : l = [] := by simpa [hn] using hl
    subst this
    rw [run_convert_bytes_string w src dst e none 0 0 hs he hd]
    simp [Conv.bytesToString]
    rfl
  · have hn : n = l.length := by simpa using hl.symm
    subst hn
    have h0 : w.ownsRow B e 1 (.slice (some ⟨g, 0, none⟩) l.length cap) l.length (l.map B8) := ⟨hl, .inr ⟨g, cap, cur, rfl, by assumption, hh, hle, by assumption, hcs, ht⟩⟩
    exact run_convert_bytes_back w src dst e ⟨g, 0, none⟩ cap l hs he hd fun j hj => h0.cells (g := g) rfl j _ (by rw [List.getElem?_map, List.getElem?_eq_getElem hj]; rfl)
section
variable {P : Program} {t e : TypeId} {z : Value} {size bytes : Nat}
theorem wpList_append1 (hE : ElOk P t e z size bytes) {ops : Array Oper} {rest : List Oper} {o : Oper} {a : Act} {Q : Exit → Act → World → Prop} (hgd : o.guard = none) (s x : Operand)
    (ho : o.op = .call { callee := .builtin .append, args := #[s, x], argTypes := #[t, t] })
    (w : World) (base : Nat) (v : Value) (n : Nat) (xs : List Value) (hown : w.ownsRow base e size v n xs) (hs : a.eval s = v)
    (cs : List Value) (hx : a.eval x = .slice (some ⟨w.heap.size, 0, none⟩) 1 1) (hl : cs.length = size) (h1 : ∀ u ∈ cs, u.oneCell' = true)
    (hn : n ≤ 2097152) (hby : bytes ≤ 4096) (hbase : base ≤ w.heap.size)
    (h : ∀ v' w', w'.ownsRow base e size v' (n + 1) (xs ++ cs) → w.grownBy w' v.ownBlock → w.heap.size + 1 ≤ w'.heap.size → wpList P ops Q rest (a.put o.dst v') w') : wpList P ops Q (o :: rest) a (w.alloc (.cells cs.toArray e)) := by
  obtain ⟨ht, hi0, hzs, hsz⟩ := hE
  obtain ⟨i, hi, hz, hsize, hb⟩ := info_parts hi0
  have hbb : (n + 1) * bytes ≤ 2097153 * 4096 := Nat.mul_le_mul (by omega) hby
  refine wpList_append_own (w.alloc (.cells cs.toArray e)) hgd s x t ho base e i z size bytes ht hi hz hsize hb hzs hsz v n xs hs (hown.alloc _) ⟨w.heap.size, 0, none⟩ 1 1 cs hx (by omega) ?_ h1 (by unfold maxLen; omega) (by omega) (by simp; omega) ?_
  · intro j u hu
    rw [Addr.add]
    have hc := cell_of_row (w.alloc (.cells cs.toArray e)) w.heap.size j cs.toArray e (0, 0) (heap_alloc_new w _)
    split
    · rename_i hj; subst hj; rw [hc]; simpa using hu
    · simp only [Nat.zero_add]; rw [hc]; simpa using hu
  · intro v' w' hown' hg _
    refine h v' w' hown' ⟨hg.os, hg.tape, hg.output, Nat.le_trans (by simp) hg.size, fun k hk hne => ?_⟩ (by have := hg.size; simpa using this)
    rw [hg.block k (by simp; omega) hne]
    exact Below.heap_alloc _ _ _ hk

/-- 'make([]T, n)' -/
theorem run_make_full (hE : ElOk P t e z size bytes) (hby : bytes ≤ 4096) (n : Nat) (hn : n ≤ 2097152) (w : World) :
    (Instr.makeSlice t (.int .i64 (n : Int)) (.int .i64 (n : Int))).run P w = .ok (.slice (some ⟨w.heap.size, 0, none⟩) n n) (w.alloc (.cells (madeCells z.cells (n * size)) e)) := by
  obtain ⟨ht, hi0, hzs, hsz⟩ := hE
  obtain ⟨i, hi, hz, hsize, hb⟩ := info_parts hi0
  have hbb : bytes * n ≤ 4096 * 2097152 := Nat.mul_le_mul hby hn
  have h : ((i.bytes * n : Nat) : Int) ≤ 281474976710656 := by rw [hb]; omega
  have hr := run_make (P := P) w t e i z ht hi hz .i64 .i64 n n (by omega) (by omega) (by rwa [Int.natCast_mul] at h) (by omega)
  simp only [Int.toNat_natCast] at hr
  rw [hsize] at hr
  exact hr
end

/-- block g holds n elements of type t; the first cells are ds, none is frozen -/
def Fill (w : World) (g : Nat) (t : TypeId) (N : Nat) (ds : List Value) : Prop := ∃ cs : Array Value, w.heap[g]? = some (.cells cs t (0, 0)) ∧ cs.size = N ∧ ds.length ≤ N ∧ ∀ (j : Nat) (u : Value), ds[j]? = some u → cs[j]? = some u
section
variable {w w' : World} {g : Nat} {t : TypeId} {N : Nat} {ds : List Value}
theorem Fill.lt (h : Fill w g t N ds) : g < w.heap.size := by
  obtain ⟨cs, h, _⟩ := h
  rcases Nat.lt_or_ge g w.heap.size with hlt | hge
  · exact hlt
  · rw [Array.getElem?_eq_none hge] at h; cases h
theorem Fill.cell (h : Fill w g t N ds) {i : Nat} (hi : i < N) : ∃ u, w.cell? ⟨g, i, none⟩ = some u := by
  obtain ⟨cs, h, rfl, _⟩ := h
  exact ⟨cs[i], by rw [cell_of_row w g i cs t (0, 0) h]; exact Array.getElem?_eq_getElem hi⟩
theorem Fill.frozen (h : Fill w g t N ds) (i : Nat) : w.frozen? ⟨g, i, none⟩ = false := by
  obtain ⟨cs, h, _⟩ := h
  simp [World.frozen?, h]
theorem Fill.keep (h : Fill w g t N ds) (hk : w'.heap[g]? = w.heap[g]?) : Fill w' g t N ds := by
  obtain ⟨cs, h, r⟩ := h
  exact ⟨cs, by rw [hk]; exact h, r⟩
theorem Fill.made (w : World) (t : TypeId) (z : Array Value) (N : Nat) (hN : (madeCells z N).size = N) : Fill (w.alloc (.cells (madeCells z N) t)) w.heap.size t N [] :=
  ⟨_, heap_alloc_new w _, hN, Nat.zero_le _, fun j u hu => by simp at hu⟩
theorem Fill.store (h : Fill w g t N ds) (u : Value) (hi : ds.length < N) : Fill (w.setCell ⟨g, ds.length, none⟩ u) g t N (ds ++ [u]) := by
  obtain ⟨cs, h, rfl, hl, hc⟩ := h
  refine ⟨cs.setIfInBounds ds.length u, ?_, by simp, by simp; omega, fun j v hv => ?_⟩
  · simp [World.setCell, Array.getElem?_modify, h]
  · by_cases hj : j < ds.length
    · rw [Array.getElem?_setIfInBounds_ne (by omega)]
      exact hc j v (by rwa [List.getElem?_append_left hj] at hv)
    · have hjl : j = ds.length := by
        have := (List.getElem?_eq_some_iff.1 hv).1
        simp at this; omega
      subst hjl
      simp at hv
      subst hv
      rw [Array.getElem?_setIfInBounds_self_of_lt hi]
theorem Fill.store_at (h : Fill w g t N ds) {o : Nat} (hd : ds.length = o) (hi : o < N) (u : Value) : Fill (w.setCell ⟨g, o, none⟩ u) g t N (ds ++ [u]) := by
  subst hd; exact h.store u hi
theorem Fill.cells (h : Fill w g t N ds) : ∀ j u, ds[j]? = some u → w.cell? ⟨g, 0 + j, none⟩ = some u := by
  obtain ⟨cs, h, _, _, hc⟩ := h
  intro j u hu
  rw [Nat.zero_add, cell_of_row w g j cs t (0, 0) h]
  exact hc j u hu
end

/-- cells that read as x, in blocks of their own: none below B, none twice, none frozen -/
structure Own {α : Type} [Dat α] (w : World) (B : Nat) (x : α) (cs : List Value) (F : List Nat) : Prop where
  rd : rd w x cs F
  nodup : F.Nodup
  base : ∀ b ∈ F, B ≤ b
  plain : ∀ b ∈ F, ∃ ds t, w.heap[b]? = some (.cells ds t (0, 0))
section
variable {α : Type} [Dat α] {w w' : World} {B : Nat} {x : α} {cs : List Value} {F : List Nat}
theorem Own.lt (h : Own w B x cs F) : ∀ b ∈ F, b < w.heap.size := Dat.lt h.rd
theorem Own.keep (h : Own w B x cs F) (hk : ∀ b ∈ F, w'.heap[b]? = w.heap[b]?) (hz : w.heap.size ≤ w'.heap.size) : Own w' B x cs F :=
  ⟨Dat.frame h.rd hk hz, h.nodup, h.base, fun b hb => by rw [hk b hb]; exact h.plain b hb⟩
theorem Own.ext (h : Own w B x cs F) (hb : Below w.heap.size w w') : Own w' B x cs F := h.keep (fun b hb' => hb.block b (h.lt b hb')) hb.size
theorem Own.alloc (h : Own w B x cs F) (o : Obj) : Own (w.alloc o) B x cs F := h.ext (ext_alloc (ext_refl _) o)
theorem Own.setCell (h : Own w B x cs F) {p : Addr} (hp : p.block < B) (u : Value) : Own (w.setCell p u) B x cs F :=
  h.keep (fun b hb => Below.heap_setCell _ _ _ _ (by have := h.base b hb; omega)) (by simp [World.setCell])
theorem Own.flat (h : Go.Proofs.Ytkgajoichmnaaaa.Dat.rd w x cs []) : Own w B x cs [] := ⟨h, List.nodup_nil, (fun b hb => by cases hb), (fun b hb => by cases hb)⟩
theorem Own.mono (h : Own w B x cs F) {B' : Nat} (hB : B' ≤ B) : Own w B' x cs F := ⟨h.rd, h.nodup, fun b hb => Nat.le_trans hB (h.base b hb), h.plain⟩
end
/-- elements that stand one behind the other, each in blocks of its own -/
structure OwnCells {α : Type} [Dat α] (w : World) (B : Nat) (xs : List α) (ds : List Value) (F : List Nat) : Prop where
  rd : rdCells w xs ds F
  nodup : F.Nodup
  base : ∀ b ∈ F, B ≤ b
  plain : ∀ b ∈ F, ∃ ds t, w.heap[b]? = some (.cells ds t (0, 0))
section
variable {α : Type} [Dat α] {w w' : World} {B : Nat} {xs : List α} {ds : List Value} {F : List Nat}
theorem OwnCells.lt (h : OwnCells w B xs ds F) : ∀ b ∈ F, b < w.heap.size := h.rd.lt
theorem OwnCells.nil (w : World) (B : Nat) : OwnCells w B ([] : List α) [] [] := ⟨⟨rfl, rfl⟩, List.nodup_nil, (fun b hb => by cases hb), (fun b hb => by cases hb)⟩
theorem OwnCells.keep (h : OwnCells w B xs ds F) (hk : ∀ b ∈ F, w'.heap[b]? = w.heap[b]?) (hz : w.heap.size ≤ w'.heap.size) : OwnCells w' B xs ds F :=
  ⟨h.rd.frame hk hz, h.nodup, h.base, fun b hb => by rw [hk b hb]; exact h.plain b hb⟩
theorem OwnCells.ext (h : OwnCells w B xs ds F) (hb : Below w.heap.size w w') : OwnCells w' B xs ds F := h.keep (fun b hb' => hb.block b (h.lt b hb')) hb.size
theorem OwnCells.setCell (h : OwnCells w B xs ds F) {p : Addr} (hp : p.block < B) (u : Value) : OwnCells (w.setCell p u) B xs ds F :=
  h.keep (fun b hb => Below.heap_setCell _ _ _ _ (by have := h.base b hb; omega)) (by simp [World.setCell])
/-- one element more, made later -/
theorem OwnCells.push (h : OwnCells w B xs ds F) {x : α} {cs : List Value} {G : List Nat} {B' : Nat} (hx : Own w B' x cs G) (hB : B ≤ B') (hF : ∀ b ∈ F, b < B') : OwnCells w B (xs ++ [x]) (ds ++ cs) (F ++ G) := by
  refine ⟨h.rd.append (.single hx.rd), ?_, ?_, ?_⟩
  · rw [List.nodup_append]
    exact ⟨h.nodup, hx.nodup, fun a ha b hb => by have := hF a ha; have := hx.base b hb; omega⟩
  · intro b hb
    rcases List.mem_append.1 hb with hb | hb
    · exact h.base b hb
    · exact Nat.le_trans hB (hx.base b hb)
  · intro b hb
    rcases List.mem_append.1 hb with hb | hb
    · exact h.plain b hb
    · exact hx.plain b hb
/-- a row that is full of such elements is a slice of the call's own -/
theorem Own.of_fill {t : TypeId} {g N c : Nat} (hf : Fill w g t N ds) (h : OwnCells w (g + 1) xs ds F) (hc : xs.length ≤ c) (hm : c ≤ maxLen) : Own w g xs [.slice (some ⟨g, 0, none⟩) xs.length c] (g :: F) := by
  refine ⟨⟨_, c, F, ds, rfl, hc, hm, h.rd, .inr ⟨g, 0, rfl, rfl, hf.lt, hf.cells⟩⟩, ?_, ?_, ?_⟩
  · rw [List.nodup_cons]
    exact ⟨fun hb => by have := h.base g hb; omega, h.nodup⟩
  · intro b hb
    rcases List.mem_cons.1 hb with rfl | hb
    · exact Nat.le_refl _
    · have := h.base b hb; omega
  · intro b hb
    rcases List.mem_cons.1 hb with rfl | hb
    · obtain ⟨cs, hcs, _⟩ := hf
      exact ⟨cs, t, hcs⟩
    · exact h.plain b hb
/-- a row that was appended to, likewise -/
theorem Own.of_row {e : TypeId} {v : Value} (h0 : w.ownsRow B e (Dat.size α) v xs.length ds) (h : OwnCells w B xs ds F) (hne : ∀ g, v.ownBlock = some g → g ∉ F) : ∃ A c G, v = .slice A xs.length c ∧ Own w B xs [.slice A xs.length c] G := by
  rcases h0 with ⟨hl, ⟨rfl, hn⟩ | ⟨g, cap, cur, rfl, hb, hh, hle, hm, hcs, ht⟩⟩
  · obtain rfl : xs = [] := List.eq_nil_of_length_eq_zero hn
    exact ⟨none, 0, [], rfl, Sl.nil w none 0 (Nat.zero_le _), List.nodup_nil, (fun b hb => by cases hb), (fun b hb => by cases hb)⟩
  · have hg : g < w.heap.size := by
      rcases Nat.lt_or_ge g w.heap.size with hlt | hge
      · exact hlt
      · rw [Array.getElem?_eq_none hge] at hh; cases hh
    refine ⟨_, cap, g :: F, rfl, ⟨_, cap, F, ds, rfl, hle, hm, h.rd, .inr ⟨g, 0, rfl, rfl, hg, fun j u hu => ?_⟩⟩, ?_, ?_, ?_⟩
    · rw [Nat.zero_add, cell_of_row w g j cur e (0, 0) hh]
      have hj := (List.getElem?_eq_some_iff.1 hu).1
      rw [← ht, List.getElem?_take] at hu
      split at hu
      · simpa using hu
      · cases hu
    · rw [List.nodup_cons]
      exact ⟨hne g rfl, h.nodup⟩
    · intro b hb'
      rcases List.mem_cons.1 hb' with rfl | hb'
      · exact hb
      · exact h.base b hb'
    · intro b hb'
      rcases List.mem_cons.1 hb' with rfl | hb'
      · exact ⟨cur, e, hh⟩
      · exact h.plain b hb'
end
end Go.Proofs.Ytkgajoichmnaaaa
