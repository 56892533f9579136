/- Blocks with given cells. No condition. -/
import Derived.Test.YtegekccoincicaaGreatDoorMark
namespace Go.Proofs.YtegekccoincicaaGreatDoor
open Dat (rd)
open Go.ChangeShapes Go.WideShapes Go.ChangeAt Go.RowKit
set_option linter.unusedVariables false
set_option linter.unusedSimpArgs false

/-- block g holds these cells -/
def Blk (w : World) (g : Nat) (cs : List Value) : Prop := ∃ t, w.heap[g]? = some (.cells cs.toArray t (0, 0))
section
variable {w w' : World} {g : Nat} {cs : List Value}
theorem Blk.lt (h : Blk w g cs) : g < w.heap.size := by
  obtain ⟨t, h⟩ := h
  rcases Nat.lt_or_ge g w.heap.size with hlt | hge
  · exact hlt
  · rw [Array.getElem?_eq_none hge] at h; cases h
theorem Blk.cell (h : Blk w g cs) {i : Nat} {u : Value} (hi : cs[i]? = some u) : w.cell? ⟨g, i, none⟩ = some u := by
  obtain ⟨t, h⟩ := h
  rw [cell_of_row w g i _ t (0, 0) h]
  simpa using hi
theorem Blk.fz (h : Blk w g cs) (i : Nat) : w.frozen? ⟨g, i, none⟩ = false := by obtain ⟨t, h⟩ := h; simp [World.frozen?, h]
theorem Blk.keep (h : Blk w g cs) (hk : w'.heap[g]? = w.heap[g]?) : Blk w' g cs := by obtain ⟨t, h⟩ := h; exact ⟨t, hk.trans h⟩
theorem Blk.put (h : Blk w g cs) (i : Nat) (u : Value) : Blk (w.setCell ⟨g, i, none⟩ u) g (cs.set i u) := by
  obtain ⟨t, h⟩ := h
  exact ⟨t, by simp [World.setCell, Array.getElem?_modify, h]⟩
theorem Blk.far (h : Blk w g cs) {c : Nat} (hc : c ≠ g) (i : Nat) (u : Value) : Blk (w.setCell ⟨c, i, none⟩ u) g cs := h.keep (Below.heap_setCell _ _ _ _ (by dsimp only; omega))
theorem Blk.new (w : World) (cs : List Value) (t : TypeId) : Blk (w.alloc (.cells cs.toArray t)) w.heap.size cs := ⟨t, heap_alloc_new w _⟩
theorem Blk.ext (h : Blk w g cs) (hb : Below w.heap.size w w') : Blk w' g cs := h.keep (hb.block g h.lt)
theorem Blk.upd {b : Nat} (h : Blk w g cs) (hu : Upd [b] w w') (hg : g ≠ b) : Blk w' g cs := h.keep (hu.block g h.lt (by simpa using hg))
end

end Go.Proofs.YtegekccoincicaaGreatDoor
namespace Go.Proofs.YtegekccoincicaaGreatDoor
open Dat (rd)
open Go.ChangeShapes Go.WideShapes Go.ChangeAt Go.RowKit
set_option linter.unusedVariables false
set_option linter.unusedSimpArgs false
def mkStr (_ : ByteArray) (k : Int) : ByteArray := mtext k
def cntStr (_ : ByteArray) : Nat := 1
set_option maxRecDepth 100000 in
set_option maxHeartbeats 1000000 in
theorem markStringS_any (xs : List ByteArray) (A : Option Addr) (n c : Nat) (F : List Nat) (B : Nat) (k : Int) (w : World) (h : Own w B xs [.slice A n c] F) (hn : n = xs.length) (hk0 : 0 ≤ k) (hk : k + cntL cntStr xs ≤ 1073741823) :
    Calls Tryz.prog 62 #[.slice A n c, .int .i64 k] w fun e w' => e = .returned (.int .i64 (k + cntL cntStr xs)) ∧ Own w' B (mkL mkStr cntStr xs k) [.slice A n c] F ∧ Upd F w w' := by
  subst hn
  have hlen : (xs.length : Int) ≤ 9223372036854775807 := by
    have := h.rd
    obtain ⟨_, _, _, _, e, h1, h2, _⟩ := this
    unfold maxLen at h2
    simp at e
    omega
  go_enter Tryz.func62, Tryz.ntmps62
  go_wp2_with fail
  go_loopw [1, 5] (fun x y wr => ∃ (i : Nat), i ≤ xs.length ∧ y = .int .i64 i ∧ x = .int .i64 (k + cntL cntStr (xs.take i)) ∧ Own wr B (mkUp mkStr cntStr xs k i) [.slice A xs.length c] F ∧ Upd F w wr) (fun _ y _ => xs.length - (intOf y).toNat)
  case atStart => exact ⟨0, Nat.zero_le _, rfl, by simp [cntL], by rw [mkUp_zero]; exact h, .refl _ _⟩
  case round =>
    obtain ⟨i, hi, rfl, rfl, hO, hu⟩ := hrel
    by_cases hlt : i < xs.length
    · have hle : (cntL cntStr (xs.take i) : Int) + cntStr xs[i] ≤ cntL cntStr xs := by have := cntL_succ (cnt := cntStr) hlt; have := cntL_le (cnt := cntStr) xs (i + 1); omega
      have hsuc := cntL_succ (cnt := cntStr) hlt
      obtain ⟨b, o, ck, Fk, rfl, hbF, hsub, hbk, hOe, hE, hcl⟩ := hO.elt (k := i) (by rw [mkUp_len hi]; exact hlt)
      rw [mkUp_get hlt] at hOe
      have hRe := hOe.rd
      obtain ⟨hck, hFk, hsz⟩ := hRe
      subst hck hFk
      generalize hkk : k + (cntL cntStr (xs.take i) : Int) = kk
      have hkk0 : 0 ≤ kk := by omega
      have hkk1 : kk + cntStr xs[i] ≤ 1073741823 := by omega
      simp only [cntStr] at hkk1 
      go_wp2_with (refine (markText_any kk _ (by omega) (by omega)).mono ?_; rintro e w2 ⟨rfl, hb2⟩; replace hE := hE.ext hb2; have hq := hE.at_ (q := o + i) (j := 0) (by show _ = o + i * 1 + 0; omega) rfl; have hfz := hE.plain.frozen (o + i))
      have hE2 := hE.set (q := o + i) (j := 0) (by simp) (by show _ = o + i * 1 + 0; omega) (.string (mtext kk))
      have hP := hcl _ (mkStr xs[i] kk) _ (Own.flat (rdStr _ _ (by have := mtext_size kk (by omega); show ((mtext kk).size : Int) ≤ _; omega))) hE2
      rw [← hkk, mkUp_set hlt] at hP
      have hU := hu.trans (hE2.upd.mono (G := F) (fun y hy => by rcases List.mem_cons.1 hy with rfl | hy; exact hbF; exact hsub y hy))
      rw [← hkk] at hU
      refine ⟨⟨i + 1, by omega, by go_num, ?_, ?_, ?_⟩, by simp [intOf]; omega⟩
      · rw [hsuc, ← hkk]; simp only [cntStr]; congr 1; push_cast; omega
      · rw [← hkk]; exact hP
      · rw [← hkk]; exact hU
    · have hkl : i = xs.length := by omega
      subst hkl
      go_wp2
      go_ret
      rw [mkUp_full] at hO
      simp only [List.take_length]
      exact ⟨rfl, hO, hu⟩
set_option maxRecDepth 100000 in
set_option maxHeartbeats 1000000 in
theorem heldStringS_any (xs : List ByteArray) (A : Option Addr) (n c : Nat) (F : List Nat) (k : Int) (w : World) (h : rd w xs [.slice A n c] F) (hn : n = xs.length) (hm : mkL mkStr cntStr xs k = xs) (hk0 : 0 ≤ k) (hk : k + cntL cntStr xs ≤ 1073741823) :
    Calls Tryz.prog 64 #[.slice A n c, .int .i64 k] w fun e w' => e = .returned (.int .i64 (k + cntL cntStr xs)) ∧ Below w.heap.size w w' := by
  subst hn
  have hlen : (xs.length : Int) ≤ 9223372036854775807 := by
    have := h
    obtain ⟨_, _, _, _, e, h1, h2, _⟩ := this
    unfold maxLen at h2
    simp at e
    omega
  have HM := Lib.hid hm
  clear hm
  go_enter Tryz.func64, Tryz.ntmps64
  go_wp2_with fail
  go_loopw [1, 5] (fun x y wr => ∃ (i : Nat), i ≤ xs.length ∧ y = .int .i64 i ∧ x = .int .i64 (k + cntL cntStr (xs.take i)) ∧ Below w.heap.size w wr) (fun _ y _ => xs.length - (intOf y).toNat)
  case atStart => exact ⟨0, Nat.zero_le _, rfl, by simp [cntL], ext_refl _⟩
  case round =>
    obtain ⟨i, hi, rfl, rfl, hbl⟩ := hrel
    by_cases hlt : i < xs.length
    · have hle : (cntL cntStr (xs.take i) : Int) + cntStr xs[i] ≤ cntL cntStr xs := by have := cntL_succ (cnt := cntStr) hlt; have := cntL_le (cnt := cntStr) xs (i + 1); omega
      have hsuc := cntL_succ (cnt := cntStr) hlt
      have hfix := mkL_fix HM.out hlt
      obtain ⟨b, o, ck, Fk, rfl, hbF, hbs, hr, hsub, hc⟩ := (Sl.ext (w' := wr) (A := A) (c := c) h hbl).get hlt
      obtain ⟨hck, hFk, hsz⟩ := hr
      subst hck hFk
      generalize hkk : k + (cntL cntStr (xs.take i) : Int) = kk at hfix ⊢
      have hkk0 : 0 ≤ kk := by omega
      have hkk1 : kk + cntStr xs[i] ≤ 1073741823 := by omega
      simp only [cntStr] at hkk1 
      have q0 : wr.cell? ⟨b, o + i, none⟩ = some (.string xs[i]) := by have := hc 0 _ rfl; rwa [show o + (i * Dat.size ByteArray + 0) = o + i from by show o + (i * 1 + 0) = _; omega] at this
      rw [← hfix] at q0
      simp only [mkStr] at q0
      go_wp2_with fail
      refine wp_region_grow wr (by kernel_rfl) (by kernel_rfl) (ext_refl _) ?_
      repeat (first
        | (apply inText_skip
           case hw => rfl
           simp only [Act.put, List.setIfInBounds_toArray, List.set_cons_zero, List.set_cons_succ])
        | (apply inText_step
           case hw => rfl
           case h =>
             intro wq hq
             have hcq := (cls_cell hq).1
             have hfq := (cls_cell hq).2
             go_simp
             first
               | exact ⟨hq, rfl⟩
               | exact ⟨cls_alloc hq _, rfl⟩
               | (refine (markText_any kk _ (by omega) (by omega)).mono ?_; rintro e w2 ⟨rfl, hb2⟩; exact ⟨rfl, cls_trans hq hb2⟩)
               | (simp only [↓IntWalk.iteOmega]; exact ⟨hq, rfl⟩)
           simp only [Act.put, List.setIfInBounds_toArray, List.set_cons_zero, List.set_cons_succ]))
      refine inText_nil ?_
      intro wn hn
      replace hn := hn.out
      go_wp2
      exact ⟨⟨i + 1, by omega, by go_num, (by rw [hsuc, ← hkk]; simp only [cntStr]; congr 1; push_cast; omega), ext_trans hbl hn⟩, by simp [intOf]; omega⟩
    · have hkl : i = xs.length := by omega
      subst hkl
      go_wp2
      go_ret
      simp only [List.take_length]
      exact ⟨rfl, hbl⟩
end Go.Proofs.YtegekccoincicaaGreatDoor
