/- slices.Clone at strings. No condition. -/
import Derived.Test.YtegekccoincicaaGreatDoorRowK
namespace Go.Proofs.YtegekccoincicaaGreatDoor
open Dat (rd)
open Go.ChangeShapes Go.WideShapes Go.ChangeAt Go.RowKit
set_option linter.unusedVariables false
set_option linter.unusedSimpArgs false
theorem rd_extK {α : Type} [Dat α] {w w' : World} {x : α} {cs : List Value} {F : List Nat} (h : rd w x cs F) (hb : Below w.heap.size w w') : rd w' x cs F := Dat.frame h (fun b hb' => hb.block b (Dat.lt h b hb')) hb.size

theorem row_new (W : World) (e : TypeId) (size N : Nat) (hN : W.heap.size = N) : (W.alloc (.cells #[] e)).ownsRow N e size (.slice (some ⟨N, 0, none⟩) 0 0) 0 [] := by
  subst hN
  exact World.ownsRow_made W #[] 0 (Nat.le_refl _) (Nat.zero_le _) (by simp)
/-- a copying call's state: the argument's box, the result's box behind it; all else is new -/
structure Cp (w wk : World) (cs zs : List Value) : Prop where
  box : Blk wk w.heap.size cs
  rb : Blk wk (w.heap.size + 1) zs
  below : Below w.heap.size w wk
section
variable {w wk w' : World} {cs zs : List Value}
theorem Cp.new (w : World) (cs zs : List Value) (t t2 : TypeId) : Cp w ((w.alloc (.cells cs.toArray t)).alloc (.cells zs.toArray t2)) cs zs :=
  ⟨(Blk.new w cs t).ext (ext_alloc (ext_refl _) _), (by have := Blk.new (w.alloc (.cells cs.toArray t)) zs t2; rw [World.size_alloc] at this; exact this), ext_alloc (ext_alloc (ext_refl _) _) _⟩
theorem Cp.ext (h : Cp w wk cs zs) (hb : Below wk.heap.size wk w') : Cp w w' cs zs := ⟨h.box.ext hb, h.rb.ext hb, ext_trans h.below hb⟩
theorem Cp.put (h : Cp w wk cs zs) (i : Nat) (u : Value) : Cp w (wk.setCell ⟨w.heap.size, i, none⟩ u) (cs.set i u) zs := ⟨h.box.put i u, h.rb.far (by omega) i u, ext_setCell h.below (Nat.le_refl _) u⟩
theorem Cp.lt (h : Cp w wk cs zs) : w.heap.size + 1 < wk.heap.size := h.rb.lt
end
theorem infoCString : (Tryz.prog.info? 9).map (fun i => (i.zero, i.size, i.bytes)) = some (some (.string ⟨#[]⟩), 1, 16) := by kernel_rfl
theorem elCString : ElOk Tryz.prog 22 9 (.string ⟨#[]⟩) 1 16 := ⟨Tryz.underlying22, infoCString, rfl, by omega⟩
set_option maxRecDepth 100000 in
set_option maxHeartbeats 1000000 in
theorem cloneString_rows (xs : List ByteArray) (A : Option Addr) (c : Nat) (F : List Nat) (w : World) (h : Sl w xs A c F) (hl : (xs.length : Int) ≤ 1048576) :
    Calls Tryz.prog 145 #[.slice A xs.length c] w fun e w' => ∃ A' c' ds G, e = .returned (.slice A' xs.length c') ∧ w'.ownsRow w.heap.size 9 1 (.slice A' xs.length c') xs.length ds ∧ rdCells w' xs ds G ∧ (∀ b ∈ G, b ∈ F) ∧ Below w.heap.size w w' := by
  cases A with
  | none =>
    obtain rfl : xs = [] := by
      obtain ⟨A', c', G, ds, e0, _, _, _, h0⟩ := h
      simp only [List.cons.injEq, Value.slice.injEq, and_true, true_and] at e0
      rcases h0 with h0 | ⟨b, o, hA, _⟩
      · exact h0.1
      · rw [← e0.1] at hA; cases hA
    have q22 : ∀ (w : World) (a : Option Addr) (n c n' c' : Nat), (binOp .eql 22 (.slice a n c) (.slice none n' c')).run Tryz.prog w = .ok (.bool a.isNone) w := fun w a n c n' c' => Lib.run_eql_slice_nil w _ _ a n c n' c' Tryz.underlying22
    go_enter Tryz.func145, Tryz.ntmps145
    go_wp2
    go_ret
    exact ⟨none, 0, [], [], rfl, World.ownsRow_nil w _ _ _, ⟨rfl, rfl⟩, (fun b hb => by cases hb), ext_refl _⟩
  | some ad =>
    have H := Lib.hid h
    clear h
    have q22 : ∀ (w : World) (a : Option Addr) (n c n' c' : Nat), (binOp .eql 22 (.slice a n c) (.slice none n' c')).run Tryz.prog w = .ok (.bool a.isNone) w := fun w a n c n' c' => Lib.run_eql_slice_nil w _ _ a n c n' c' Tryz.underlying22
    go_enter Tryz.func145, Tryz.ntmps145
    go_wp2_with (
      at_builtin
      go_must (refine wpList_appendN elCString (by rfl) (by rfl) _ _ (by rfl) _ w.heap.size _ 0 [] (World.ownsRow_made (size := 1) w #[] 0 (Nat.le_refl _) (Nat.zero_le _) (by simp)) (by rfl) xs (some ad) c F (H.out.ext (ext_alloc (ext_refl _) _)) (by rfl) (by omega) (by omega) (by simp) ?_)
      intro v2 w2 ds G hrc hsub hown hg hat
      go_must (obtain ⟨A2, c2, hv2⟩ := row_sliceK hown)
      go_must (subst hv2))
    simp only [Nat.zero_add, List.nil_append] at hown
    go_ret
    refine ⟨A2, c2, ds, G, by simp, hown, hrc.frame (fun b hb => hg.block b (hrc.lt b hb) (fun e => ?_)) hg.size, hsub, grown_ext (World.ownsRow_made (e := 9) (size := 1) w #[] 0 (Nat.le_refl _) (Nat.zero_le _) (by simp)) hg (ext_alloc (ext_refl _) _) (by simp)⟩
    have h1 := H.out.lt b (hsub b hb)
    simp [Value.ownBlock] at e
    omega
theorem flatString {w : World} {x : ByteArray} {cs : List Value} {F : List Nat} (h : rd w x cs F) : F = [] := h.2.1
theorem cloneString_any (xs : List ByteArray) (A : Option Addr) (c : Nat) (F : List Nat) (w : World) (h : Sl w xs A c F) (hl : (xs.length : Int) ≤ 1048576) :
    Calls Tryz.prog 145 #[.slice A xs.length c] w fun e w' => ∃ A' c' F', e = .returned (.slice A' xs.length c') ∧ Own w' w.heap.size xs [.slice A' xs.length c'] F' ∧ Below w.heap.size w w' := by
  refine (cloneString_rows xs A c F w h hl).mono ?_
  rintro e w' ⟨A', c', ds, G, rfl, hown, hrc, _, hb⟩
  obtain ⟨A2, c2, G2, hv, hO⟩ := Own.of_flat flatString hown hrc
  simp only [Value.slice.injEq, true_and] at hv
  obtain ⟨rfl, rfl⟩ := hv
  exact ⟨A', c', G2, rfl, hO, hb⟩
end Go.Proofs.YtegekccoincicaaGreatDoor
