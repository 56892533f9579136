/- Blocks with given cells. No condition. -/
import Derived.Test.YtffjbbamcflmbaaMark
namespace Go.Proofs.Ytffjbbamcflmbaa
open Go.ChangeShapes Go.WideShapes Go.ChangeAt Go.RowKit
set_option linter.unusedVariables false
set_option linter.unusedSimpArgs false

/-- block g holds these cells -/
def Blk (w : World) (g : Nat) (cs : List Value) : Prop := ∃ t, w.heap[g]? = some (.cells cs.toArray t (0, 0))
section
variable {w w' : World} {g : Nat} {cs : List Value}
theorem Blk.lt (h : Blk w g cs) : g < w.heap.size := by
  obtain ⟨t, h⟩ := h
  rcases Nat.lt_or_ge g w.heap.size with hlt | hge
  · exact hlt
  · rw [Array.getElem?_eq_none hge] at h; cases h
theorem Blk.cell (h : Blk w g cs) {i : Nat} {u : Value} (hi : cs[i]? = some u) : w.cell? ⟨g, i, none⟩ = some u := by
  obtain ⟨t, h⟩ := h
  rw [cell_of_row w g i _ t (0, 0) h]
  simpa using hi
theorem Blk.fz (h : Blk w g cs) (i : Nat) : w.frozen? ⟨g, i, none⟩ = false := by obtain ⟨t, h⟩ := h; simp [World.frozen?, h]
theorem Blk.keep (h : Blk w g cs) (hk : w'.heap[g]? = w.heap[g]?) : Blk w' g cs := by obtain ⟨t, h⟩ := h; exact ⟨t, hk.trans h⟩
theorem Blk.put (h : Blk w g cs) (i : Nat) (u : Value) : Blk (w.setCell ⟨g, i, none⟩ u) g (cs.set i u) := by
  obtain ⟨t, h⟩ := h
  exact ⟨t, by simp [World.setCell, Array.getElem?_modify, h]⟩
theorem Blk.far (h : Blk w g cs) {c : Nat} (hc : c ≠ g) (i : Nat) (u : Value) : Blk (w.setCell ⟨c, i, none⟩ u) g cs := h.keep (Below.heap_setCell _ _ _ _ (by dsimp only; omega))
theorem Blk.new (w : World) (cs : List Value) (t : TypeId) : Blk (w.alloc (.cells cs.toArray t)) w.heap.size cs := ⟨t, heap_alloc_new w _⟩
theorem Blk.ext (h : Blk w g cs) (hb : Below w.heap.size w w') : Blk w' g cs := h.keep (hb.block g h.lt)
theorem Blk.upd {b : Nat} (h : Blk w g cs) (hu : Upd [b] w w') (hg : g ≠ b) : Blk w' g cs := h.keep (hu.block g h.lt (by simpa using hg))
end

end Go.Proofs.Ytffjbbamcflmbaa
