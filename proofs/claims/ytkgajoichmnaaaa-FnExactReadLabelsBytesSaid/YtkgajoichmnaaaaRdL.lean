/- What the readers of labels need. No condition. -/
import Derived.Test.YtkgajoichmnaaaaRdP
import Derived.Test.YtkgajoichmnaaaaMark
import Derived.Test.YtkgajoichmnaaaaAppendAt
namespace Go.Proofs.Ytkgajoichmnaaaa
open Dat (rd)
open Go.ChangeShapes Go.WideShapes Go.ChangeAt Go.RowKit
set_option linter.unusedVariables false
set_option linter.unusedSimpArgs false

theorem loopS_len {α : Type} (r : Int × Bool → α × (Int × Bool)) : ∀ (k : Nat) (xs : List α) (st : Int × Bool), (loopS r k xs st).1.length ≤ xs.length + k
  | 0, _, _ => Nat.le_refl _
  | k + 1, xs, st => by
    rw [loopS]
    split
    · exact Nat.le_add_right _ _
    · have := loopS_len r k (xs ++ [(r st).1]) (r st).2
      simp at this; omega
theorem loopS_all {α : Type} {r : Int × Bool → α × (Int × Bool)} {p : α → Prop} (hr : ∀ st, p (r st).1) : ∀ (k : Nat) (xs : List α) (st : Int × Bool), (∀ x ∈ xs, p x) → ∀ x ∈ (loopS r k xs st).1, p x
  | 0, _, _, h => h
  | k + 1, xs, st, h => by
    rw [loopS]
    split
    · exact h
    · refine loopS_all hr k _ _ (fun x hx => ?_)
      rcases List.mem_append.1 hx with hx | hx
      · exact h x hx
      · simp only [List.mem_singleton] at hx; rw [hx]; exact hr st
theorem row_upd {w w' : World} {B e size n b : Nat} {v : Value} {xs : List Value} (h : w.ownsRow B e size v n xs) (hu : Upd [b] w w') (hb : b < B) : w'.ownsRow B e size v n xs :=
  h.kept (row := some b) ⟨hu.os, hu.tape, hu.output, hu.size, fun k hk hne => hu.block k hk (by simpa using fun e => hne (by rw [e]))⟩ (by
    by_cases hv : v.ownBlock = some b
    · have := (h.lt b hv).1
      omega
    · exact .inr hv)
theorem row_set {w : World} {B e size n c i : Nat} {v u : Value} {xs : List Value} (h : w.ownsRow B e size v n xs) (hc : ∀ g, v.ownBlock = some g → g ≠ c) : (w.setCell ⟨c, i, none⟩ u).ownsRow B e size v n xs :=
  h.kept (row := some c) ⟨rfl, rfl, rfl, by simp [World.setCell], fun k hk hne => Below.heap_setCell _ _ _ _ (by intro e; apply hne; rw [e])⟩ (by
    by_cases hv : v.ownBlock = some c
    · exact absurd rfl (hc c hv)
    · exact .inr hv)
theorem Upd.setNew {F : List Nat} {w w1 : World} (h : Upd F w w1) {p : Addr} (hp : w.heap.size ≤ p.block) (u : Value) : Upd F w (w1.setCell p u) :=
  ⟨h.os, h.tape, h.output, by simpa [World.setCell] using h.size, fun i hi hn => (Below.heap_setCell _ _ _ _ (by omega)).trans (h.block i hi hn)⟩
theorem Upd.alloc {F : List Nat} {w w1 : World} (h : Upd F w w1) (o : Obj) : Upd F w (w1.alloc o) := h.trans (Upd.of_ext F (ext_alloc (ext_refl _) o))
theorem Upd.grown {F : List Nat} {w w1 w2 : World} {row : Option Nat} (h : Upd F w w1) (hg : w1.grownBy w2 row) (hr : ∀ g, row = some g → w.heap.size ≤ g) : Upd F w w2 :=
  ⟨hg.os.trans h.os, hg.tape.trans h.tape, hg.output.trans h.output, Nat.le_trans h.size hg.size, fun i hi hn => (hg.block i (Nat.lt_of_lt_of_le hi h.size) (by intro e; have := hr i e.symm; omega)).trans (h.block i hi hn)⟩
theorem infoLabel : (Try.prog.info? 52).map (fun i => (i.zero, i.size, i.bytes)) = some (some (.agg #[.string ⟨#[]⟩, .string ⟨#[]⟩]), 2, 32) := by kernel_rfl
theorem elLabel : ElOk Try.prog 36 52 (.agg #[.string ⟨#[]⟩, .string ⟨#[]⟩]) 2 32 := ⟨Try.underlying36, infoLabel, rfl, by omega⟩
theorem OwnCells.lab {w w' : World} {B : Nat} {xs : List Label} {ds : List Value} (h : OwnCells w B xs ds []) (hs : w.heap.size ≤ w'.heap.size) {l : Label} (h1 : (l.key.size : Int) ≤ 1048576) (h2 : (l.value.size : Int) ≤ 1048576) : OwnCells w' B (xs ++ [l]) (ds ++ [.string l.key, .string l.value]) [] :=
  ⟨(h.rd.frame (fun b hb => by cases hb) hs).append (.single (rd_Label_mk w' l (by unfold maxLen; omega) (by unfold maxLen; omega))), List.nodup_nil, (fun b hb => by cases hb), (fun b hb => by cases hb)⟩
theorem textI_size (s : ByteArray) (a : Int) (hs : (s.size : Int) ≤ 1048576) : ((textI s a).1.size : Int) ≤ 1048576 := by
  unfold textI
  split
  · show (0 : Int) ≤ _; omega
  · exact (shortI_spec s a hs).1
theorem labelsS_len (s : ByteArray) (st : Int × Bool) : (labelsS s st).1.length ≤ 6 := by
  have h := loopS_len (labS s) (manyS s 6 st).1.toNat [] (manyS s 6 st).2
  have := manyS_ways s 6 st (by decide)
  unfold labelsS
  simp only [List.length_nil] at h
  omega
theorem textS_size (s : ByteArray) (st : Int × Bool) (hs : (s.size : Int) ≤ 1048576) : ((textS s st).1.size : Int) ≤ 1048576 := by
  unfold textS
  split
  · show (0 : Int) ≤ _; omega
  · exact (shortI_spec s st.1 hs).1
theorem readLabelsI_len (s : ByteArray) (a : Int) : (readLabelsI s a).1.length ≤ 6 := by
  rw [readLabels_same]
  unfold readLabelsS
  split
  · exact Nat.zero_le _
  · exact labelsS_len s (a, false)
theorem labelsS_small (s : ByteArray) (st : Int × Bool) (hs : (s.size : Int) ≤ 1048576) : ∀ l ∈ (labelsS s st).1, (l.key.size : Int) ≤ 1048576 ∧ (l.value.size : Int) ≤ 1048576 :=
  loopS_all (fun st => ⟨textS_size s _ hs, textS_size s _ hs⟩) _ _ _ (fun l hl => by cases hl)

end Go.Proofs.Ytkgajoichmnaaaa
