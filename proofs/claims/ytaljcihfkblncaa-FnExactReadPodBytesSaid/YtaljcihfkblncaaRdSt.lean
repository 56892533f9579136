/- What the readers of hosts and of pods share: the call's state. No condition. -/
import Derived.Test.YtaljcihfkblncaaRdLI
import Derived.Test.YtaljcihfkblncaaRdLS
import Derived.Test.YtaljcihfkblncaaBlk
namespace Go.Proofs.Ytaljcihfkblncaa
open Go.ChangeShapes Go.WideShapes Go.ChangeAt Go.RowKit
set_option linter.unusedVariables false
set_option linter.unusedSimpArgs false

theorem row_slice {w : World} {B e size n : Nat} {v : Value} {xs : List Value} (h : w.ownsRow B e size v n xs) : ∃ A c, v = .slice A n c := by
  rcases h.2 with ⟨rfl, hn⟩ | ⟨g, cap, cur, rfl, _⟩
  · subst hn; exact ⟨none, 0, rfl⟩
  · exact ⟨_, _, rfl⟩
theorem varI_I64a (s : ByteArray) (a : Int) (hs : (s.size : Int) ≤ 1048576) : I64 (varI s a).1 := (varI_I64 s a hs).1
theorem numS_I64 (s : ByteArray) (st : Int × Bool) (hs : (s.size : Int) ≤ 1048576) : I64 (numS s st).1 := by
  unfold numS
  split
  · exact ⟨by show _ ≤ (0 : Int); omega, by show (0 : Int) ≤ _; omega⟩
  · exact varI_I64a s _ hs

theorem ICur.far {w : World} {b c : Nat} {s : ByteArray} {a : Int} (h : ICur w b s a) (hc : c ≠ b) (i : Nat) (u : Value) : ICur (w.setCell ⟨c, i, none⟩ u) b s a := h.keep (Below.heap_setCell _ _ _ _ (by dsimp only; omega))
/-- the call's state: the reader's place, what has changed, the box of what is read, and the result's box -/
structure St (z : List Value) (w wk : World) (b g : Nat) (s : ByteArray) (a : Int) (cs : List Value) : Prop where
  cur : ICur wk b s a
  upd : Upd [b] w wk
  box : Blk wk g cs
  rb : Blk wk w.heap.size z
  hb : b < w.heap.size
  hg : w.heap.size < g
section
variable {z : List Value} {w wk w' : World} {b g : Nat} {s : ByteArray} {a a' : Int} {cs : List Value}
theorem St.call (h : St z w wk b g s a cs) (hc : ICur w' b s a') (hu : Upd [b] wk w') : St z w w' b g s a' cs :=
  ⟨hc, h.upd.trans hu, h.box.upd hu (by have := h.hb; have := h.hg; omega), h.rb.upd hu (by have := h.hb; omega), h.hb, h.hg⟩
theorem St.put (h : St z w wk b g s a cs) (i : Nat) (u : Value) : St z w (wk.setCell ⟨g, i, none⟩ u) b g s a (cs.set i u) :=
  ⟨h.cur.far (by have := h.hb; have := h.hg; omega) i u, h.upd.setNew (p := ⟨g, i, none⟩) (by have := h.hg; dsimp only; omega) u, h.box.put i u, h.rb.far (by have := h.hg; omega) i u, h.hb, h.hg⟩
theorem St.ext (h : St z w wk b g s a cs) (hb : Below wk.heap.size wk w') : St z w w' b g s a cs := ⟨h.cur.ext hb, h.upd.trans (Upd.of_ext [b] hb), h.box.ext hb, h.rb.ext hb, h.hb, h.hg⟩
theorem St.alloc (h : St z w wk b g s a cs) (o : Obj) : St z w (wk.alloc o) b g s a cs := h.ext (ext_alloc (ext_refl _) o)
theorem St.far (h : St z w wk b g s a cs) {c : Nat} (hc : g < c) (i : Nat) (u : Value) : St z w (wk.setCell ⟨c, i, none⟩ u) b g s a cs :=
  ⟨h.cur.far (by have := h.hb; have := h.hg; omega) i u, h.upd.setNew (p := ⟨c, i, none⟩) (by have := h.hg; dsimp only; omega) u, h.box.far (by omega) i u, h.rb.far (by have := h.hg; omega) i u, h.hb, h.hg⟩
theorem St.grown {row : Option Nat} (h : St z w wk b g s a cs) (hg : wk.grownBy w' row) (hr : ∀ q, row = some q → g < q) : St z w w' b g s a cs :=
  ⟨h.cur.keep (hg.block b h.cur.lt (by intro e; have := hr b e.symm; have := h.hb; have := h.hg; omega)), h.upd.grown hg (fun q hq => by have := hr q hq; have := h.hg; omega), h.box.keep (hg.block g h.box.lt (by intro e; have := hr g e.symm; omega)), h.rb.keep (hg.block _ h.rb.lt (by intro e; have := hr _ e.symm; have := h.hg; omega)), h.hb, h.hg⟩
end
theorem loopI_all {α : Type} {r : Int → α × Int} {p : α → Prop} (hr : ∀ a, p (r a).1) : ∀ (k : Nat) (xs : List α) (a : Int), (∀ x ∈ xs, p x) → ∀ x ∈ (loopI r k xs a).1, p x
  | 0, _, _, h => h
  | k + 1, xs, a, h => by
    rw [loopI]
    refine loopI_all hr k _ _ (fun x hx => ?_)
    rcases List.mem_append.1 hx with hx | hx
    · exact h x hx
    · simp only [List.mem_singleton] at hx; rw [hx]; exact hr a
theorem labelsI_len (s : ByteArray) (a : Int) : (labelsI s a).1.length ≤ 6 := by
  have h := loopI_len (labI s) (countI s 6 a).1.toNat [] (countI s 6 a).2
  have := countI_ways s 6 a (by decide)
  show (labelsRaw s a).1.length ≤ 6
  unfold labelsRaw
  rw [h, List.length_nil]
  omega
theorem labelsI_small (s : ByteArray) (a : Int) (hs : (s.size : Int) ≤ 1048576) : ∀ l ∈ (labelsI s a).1, (l.key.size : Int) ≤ 1048576 ∧ (l.value.size : Int) ≤ 1048576 :=
  loopI_all (fun a => ⟨textI_size s _ hs, textI_size s _ hs⟩) _ _ _ (fun l hl => by cases hl)

theorem SCur.far {w : World} {b c : Nat} {s : ByteArray} {a : Int × Bool} (h : SCur w b s a) (hc : c ≠ b) (i : Nat) (u : Value) : SCur (w.setCell ⟨c, i, none⟩ u) b s a := h.keep (Below.heap_setCell _ _ _ _ (by dsimp only; omega))
/-- the call's state: the reader's place, what has changed, the box of what is read, and the result's box -/
structure SSt (z : List Value) (w wk : World) (b g : Nat) (s : ByteArray) (a : Int × Bool) (cs : List Value) : Prop where
  cur : SCur wk b s a
  upd : Upd [b] w wk
  box : Blk wk g cs
  rb : Blk wk w.heap.size z
  hb : b < w.heap.size
  hg : w.heap.size < g
section
variable {z : List Value} {w wk w' : World} {b g : Nat} {s : ByteArray} {a a' : Int × Bool} {cs : List Value}
theorem SSt.call (h : SSt z w wk b g s a cs) (hc : SCur w' b s a') (hu : Upd [b] wk w') : SSt z w w' b g s a' cs :=
  ⟨hc, h.upd.trans hu, h.box.upd hu (by have := h.hb; have := h.hg; omega), h.rb.upd hu (by have := h.hb; omega), h.hb, h.hg⟩
theorem SSt.put (h : SSt z w wk b g s a cs) (i : Nat) (u : Value) : SSt z w (wk.setCell ⟨g, i, none⟩ u) b g s a (cs.set i u) :=
  ⟨h.cur.far (by have := h.hb; have := h.hg; omega) i u, h.upd.setNew (p := ⟨g, i, none⟩) (by have := h.hg; dsimp only; omega) u, h.box.put i u, h.rb.far (by have := h.hg; omega) i u, h.hb, h.hg⟩
theorem SSt.ext (h : SSt z w wk b g s a cs) (hb : Below wk.heap.size wk w') : SSt z w w' b g s a cs := ⟨h.cur.ext hb, h.upd.trans (Upd.of_ext [b] hb), h.box.ext hb, h.rb.ext hb, h.hb, h.hg⟩
theorem SSt.alloc (h : SSt z w wk b g s a cs) (o : Obj) : SSt z w (wk.alloc o) b g s a cs := h.ext (ext_alloc (ext_refl _) o)
theorem SSt.far (h : SSt z w wk b g s a cs) {c : Nat} (hc : g < c) (i : Nat) (u : Value) : SSt z w (wk.setCell ⟨c, i, none⟩ u) b g s a cs :=
  ⟨h.cur.far (by have := h.hb; have := h.hg; omega) i u, h.upd.setNew (p := ⟨c, i, none⟩) (by have := h.hg; dsimp only; omega) u, h.box.far (by omega) i u, h.rb.far (by have := h.hg; omega) i u, h.hb, h.hg⟩
theorem SSt.grown {row : Option Nat} (h : SSt z w wk b g s a cs) (hg : wk.grownBy w' row) (hr : ∀ q, row = some q → g < q) : SSt z w w' b g s a cs :=
  ⟨h.cur.keep (hg.block b h.cur.lt (by intro e; have := hr b e.symm; have := h.hb; have := h.hg; omega)), h.upd.grown hg (fun q hq => by have := hr q hq; have := h.hg; omega), h.box.keep (hg.block g h.box.lt (by intro e; have := hr g e.symm; omega)), h.rb.keep (hg.block _ h.rb.lt (by intro e; have := hr _ e.symm; have := h.hg; omega)), h.hb, h.hg⟩
end

end Go.Proofs.Ytaljcihfkblncaa
