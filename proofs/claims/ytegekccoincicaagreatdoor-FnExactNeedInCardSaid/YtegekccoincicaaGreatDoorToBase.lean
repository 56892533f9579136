/- laws' copies. -/
import Derived.Test.YtegekccoincicaaGreatDoorAppend
import Derived.Test.YtegekccoincicaaGreatDoorSz
namespace Go.Proofs.YtegekccoincicaaGreatDoor
open Dat (rd)
open Go.ChangeShapes Go.WideShapes Go.ChangeAt Go.RowKit
set_option linter.unusedVariables false
set_option linter.unusedSimpArgs false

section
variable {α β : Type} [Dat α] [Dat β] {w : World} {B B2 : Nat} {x : α} {y : β} {c1 c2 : List Value} {F1 F2 : List Nat}
theorem Own.pair (h1 : Own w B x c1 F1) (h2 : Own w B2 y c2 F2) (hB : B ≤ B2) (hF : ∀ b ∈ F1, b < B2) : Own w B (x, y) (c1 ++ c2) (F1 ++ F2) := by
  refine ⟨⟨c1, c2, F1, F2, rfl, rfl, h1.rd, h2.rd⟩, ?_, ?_, ?_⟩
  · rw [List.nodup_append]
    exact ⟨h1.nodup, h2.nodup, fun a ha b hb => by have := hF a ha; have := h2.base b hb; omega⟩
  · intro b hb
    rcases List.mem_append.1 hb with hb | hb
    · exact h1.base b hb
    · exact Nat.le_trans hB (h2.base b hb)
  · intro b hb
    rcases List.mem_append.1 hb with hb | hb
    · exact h1.plain b hb
    · exact h2.plain b hb
theorem Own.up {γ : Type} {z : γ} {cs : List Value} {F : List Nat} {B' : Nat} (g : γ → β) (h : Own w B' (g z) cs F) (hB : B ≤ B') : @Own γ (Dat.iso g) w B z cs F :=
  @Own.mk γ (Dat.iso g) w B z cs F h.rd h.nodup (fun b hb => Nat.le_trans hB (h.base b hb)) h.plain
theorem Own.cons (h1 : Go.Proofs.YtegekccoincicaaGreatDoor.Dat.rd w x c1 []) (h2 : Own w B y c2 F2) : Own w B (x, y) (c1 ++ c2) F2 := by
  have := (Own.flat (B := B) h1).pair h2 (Nat.le_refl _) (fun b hb => by cases hb)
  simpa using this
end
theorem infoString : (Tryz.prog.info? 9).map (fun i => (i.zero, i.size, i.bytes)) = some (some (.string ⟨#[]⟩), 1, 16) := by kernel_rfl
theorem elString : ElOk Tryz.prog 22 9 (.string ⟨#[]⟩) 1 16 := ⟨Tryz.underlying22, infoString, rfl, by omega⟩
set_option maxHeartbeats 1000000 in
theorem toStringS_any (xs : List ByteArray) (A : Option Addr) (c : Nat) (F : List Nat) (w : World) (h : Sl w xs A c F) (hl : (wtL ByteArray.size xs : Int) ≤ 1048576) :
    Calls Tryz.prog 46 #[.slice A xs.length c] w fun e w' => ∃ A c F, e = .returned (.slice A xs.length c) ∧ Own w' w.heap.size xs [.slice A xs.length c] F ∧ Below w.heap.size w w' := by
  have hlen : (xs.length : Int) ≤ 1048576 := by have := wtL_len ByteArray.size xs; omega
  have HL := Lib.hid hl
  clear hl
  have hmk := run_make_full elString (by omega) xs.length (by omega)
  go_enter Tryz.func46, Tryz.ntmps46
  go_wp2_with fail
  go_loopw [4] (fun i wr => ∃ (k : Nat) (ds : List Value) (G : List Nat), k ≤ xs.length ∧ i = .int .i64 k ∧ Fill wr w.heap.size 9 xs.length ds ∧ Hid (ds.length = k * 1) ∧ OwnCells wr (w.heap.size + 1) (xs.take k) ds G ∧ Below w.heap.size w wr) (fun i _ => xs.length - (intOf i).toNat)
  case atStart => exact ⟨0, [], [], Nat.zero_le _, rfl, by have := Fill.made w 9 #[.string ⟨#[]⟩] (xs.length * 1) (by simp [madeCells]); simpa using this, by show _ = _; simp, .nil _ _, ext_alloc (ext_refl _) _⟩
  case round =>
    obtain ⟨k, ds, G, hk, rfl, hf, hd, hO, hbl⟩ := hrel
    by_cases hlt : k < xs.length
    · obtain ⟨b, o, ck, Fk, rfl, hbF, hbs, hr, hsub, hc⟩ := (h.ext hbl).get hlt
      obtain ⟨rfl, rfl, hs0⟩ := hr
      have q0 : wr.cell? ⟨b, o + k, none⟩ = some (.string xs[k]) := by have := hc 0 _ rfl; simpa [Dat.size] using this
      clear hc
      have hwk := wtL_get (f := ByteArray.size) hlt
      have hwk2 : (ByteArray.size xs[k] : Int) ≤ 1048576 := by have := HL.out; omega
      clear hwk
      have hf2 := hf
      obtain ⟨u0, hu0⟩ := hf2.cell (i := k) (by omega); have hfz0 := hf2.frozen (k)
      go_wp2_with fail
      have hF := (hf2.store_at (o := k) (by have := hd.out; omega) (by omega) (.string xs[k]))
      have hO3 := hO
      replace hO3 := hO3.setCell (p := ⟨w.heap.size, k, none⟩) (Nat.lt_succ_self _) (.string xs[k])
      have hP := hO3.push (B' := wr.heap.size) (x := xs[k]) (.flat ⟨rfl, rfl, hs0⟩) hf.lt hO.lt
      rw [← List.take_succ_eq_append_getElem hlt] at hP
      (try simp only [List.append_assoc, List.cons_append, List.nil_append] at hF)
      exact ⟨⟨k + 1, _, _, by omega, by go_num, hF, by show _ = _; (simp [hd.out]) <;> omega, hP, ext_setCell (hbl) (Nat.le_refl _) _⟩, by simp [intOf]; omega⟩
    · have hkl : k = xs.length := by omega
      subst hkl
      go_wp2
      go_ret
      rw [List.take_length] at hO
      exact ⟨_, _, _, rfl, Own.of_fill hf hO (Nat.le_refl _) (by unfold maxLen; omega), hbl⟩
end Go.Proofs.YtegekccoincicaaGreatDoor
