/- append of one element, and where the new row lies; several rows of the call's own side by side; a row read as a slice. No condition. -/
import Derived.Test.YtkgajoichmnaaaaAppend
import Derived.Maps.AppendAt
namespace Go.Proofs.Ytkgajoichmnaaaa
open Dat (rd)
open Go.ChangeShapes Go.WideShapes Go.ChangeAt Go.RowKit
set_option linter.unusedVariables false
set_option linter.unusedSimpArgs false

theorem row_ext {w w' : World} {B e size n : Nat} {v : Value} {xs : List Value} (h : w.ownsRow B e size v n xs) (hb : Below w.heap.size w w') : w'.ownsRow B e size v n xs :=
  h.kept (row := none) ⟨hb.os, hb.tape, hb.output, hb.size, fun k hk _ => hb.block k hk⟩ (by cases hv : v.ownBlock <;> simp)
theorem row_mono {w : World} {B B' e size n : Nat} {v : Value} {xs : List Value} (h : w.ownsRow B e size v n xs) (hB : B' ≤ B) : w.ownsRow B' e size v n xs := by
  refine ⟨h.1, ?_⟩
  rcases h.2 with h | ⟨g, cap, cur, h1, h2, h3⟩
  · exact .inl h
  · exact .inr ⟨g, cap, cur, h1, Nat.le_trans hB h2, h3⟩
/-- two rows that do not share a block -/
def RowsApart (u v : Value) : Prop := u.ownBlock = none ∨ u.ownBlock ≠ v.ownBlock
theorem RowsApart.symm {u v : Value} (h : RowsApart u v) : RowsApart v u := by
  unfold RowsApart at *
  rcases h with h | h
  · cases hv : v.ownBlock with
    | none => exact .inl rfl
    | some k => right; rw [h]; simp
  · exact .inr (Ne.symm h)
/-- u grew: it lies where it lay, or in a new block -/
theorem RowsApart.grow {u u' v : Value} {w : World} {B e size n : Nat} {xs : List Value} (h : RowsApart u v) (hv : w.ownsRow B e size v n xs) {N : Nat} (hN : w.heap.size ≤ N) (hat : u'.ownBlock = u.ownBlock ∨ u'.ownBlock = some N) : RowsApart u' v := by
  rcases hat with hat | hat
  · unfold RowsApart at *; rw [hat]; exact h
  · right
    rw [hat]
    intro e
    have := hv.lt N e.symm
    omega
section
variable {P : Program} {t e : TypeId} {z : Value} {size bytes : Nat}
theorem wpList_append2 (hE : ElOk P t e z size bytes) {ops : Array Oper} {rest : List Oper} {o : Oper} {a : Act} {Q : Exit → Act → World → Prop} (hgd : o.guard = none) (s x : Operand)
    (ho : o.op = .call { callee := .builtin .append, args := #[s, x], argTypes := #[t, t] })
    (w : World) (base : Nat) (v : Value) (n : Nat) (xs : List Value) (hown : w.ownsRow base e size v n xs) (hs : a.eval s = v)
    (cs : List Value) (hx : a.eval x = .slice (some ⟨w.heap.size, 0, none⟩) 1 1) (hl : cs.length = size) (h1 : ∀ u ∈ cs, u.oneCell' = true)
    (hn : n ≤ 2097152) (hby : bytes ≤ 4096) (hbase : base ≤ w.heap.size)
    (h : ∀ v' w', w'.ownsRow base e size v' (n + 1) (xs ++ cs) → w.grownBy w' v.ownBlock → w.heap.size + 1 ≤ w'.heap.size → (v'.ownBlock = v.ownBlock ∨ v'.ownBlock = some (w.heap.size + 1)) → wpList P ops Q rest (a.put o.dst v') w') : wpList P ops Q (o :: rest) a (w.alloc (.cells cs.toArray e)) := by
  obtain ⟨ht, hi0, hzs, hsz⟩ := hE
  obtain ⟨i, hi, hz, hsize, hb⟩ := info_parts hi0
  have hbb : (n + 1) * bytes ≤ 2097153 * 4096 := Nat.mul_le_mul (by omega) hby
  refine wpList_append_own_at (w.alloc (.cells cs.toArray e)) hgd s x t ho base e i z size bytes ht hi hz hsize hb hzs hsz v n xs hs (hown.alloc _) ⟨w.heap.size, 0, none⟩ 1 1 cs hx (by omega) ?_ h1 (by unfold maxLen; omega) (by omega) (by simp; omega) ?_
  · intro j u hu
    rw [Addr.add]
    have hc := cell_of_row (w.alloc (.cells cs.toArray e)) w.heap.size j cs.toArray e (0, 0) (heap_alloc_new w _)
    split
    · rename_i hj; subst hj; rw [hc]; simpa using hu
    · simp only [Nat.zero_add]; rw [hc]; simpa using hu
  · intro v' w' hown' hg _ hat
    refine h v' w' hown' ⟨hg.os, hg.tape, hg.output, Nat.le_trans (by simp) hg.size, fun k hk hne => ?_⟩ (by have := hg.size; simpa using this) (by simpa using hat)
    rw [hg.block k (by simp; omega) hne]
    exact Below.heap_alloc _ _ _ hk
end
/-- a row of the call's own, whose cells read as xs, is a slice that reads as xs -/
theorem Sl.of_row {α : Type} [Dat α] {w : World} {B : Nat} {e : TypeId} {v : Value} {xs : List α} {ds : List Value} {F : List Nat} (h0 : w.ownsRow B e (Dat.size α) v xs.length ds) (h : rdCells w xs ds F) : ∃ A c G, v = .slice A xs.length c ∧ Sl w xs A c G := by
  rcases h0 with ⟨hl, ⟨rfl, hn⟩ | ⟨g, cap, cur, rfl, hb, hh, hle, hm, hcs, ht⟩⟩
  · obtain rfl : xs = [] := List.eq_nil_of_length_eq_zero hn
    exact ⟨none, 0, [], rfl, Sl.nil w none 0 (Nat.zero_le _)⟩
  · have hg : g < w.heap.size := by
      rcases Nat.lt_or_ge g w.heap.size with hlt | hge
      · exact hlt
      · rw [Array.getElem?_eq_none hge] at hh; cases hh
    refine ⟨_, cap, g :: F, rfl, ⟨_, cap, F, ds, rfl, hle, hm, h, .inr ⟨g, 0, rfl, rfl, hg, fun j u hu => ?_⟩⟩⟩
    rw [Nat.zero_add, cell_of_row w g j cur e (0, 0) hh]
    have hj := (List.getElem?_eq_some_iff.1 hu).1
    rw [← ht, List.getElem?_take] at hu
    split at hu
    · simpa using hu
    · cases hu
/-- ints that stand side by side -/
theorem rdCells_ints (w : World) : ∀ (xs : List Int), (∀ x ∈ xs, I64 x) → rdCells w xs (xs.map fun n => .int .i64 n) []
  | [], _ => ⟨rfl, rfl⟩
  | x :: xs, h => ⟨[.int .i64 x], _, [], [], rfl, rfl, rdInt w x (h x (List.mem_cons_self ..)), rdCells_ints w xs fun y hy => h y (List.mem_cons_of_mem _ hy)⟩
theorem infoInt : (Try.prog.info? 3).map (fun i => (i.zero, i.size, i.bytes)) = some (some (.int .i64 0), 1, 8) := by kernel_rfl
end Go.Proofs.Ytkgajoichmnaaaa
