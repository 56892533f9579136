/- laws' copies. -/
import Derived.Test.YtjoclfenghenjaaGreatAppend
import Derived.Test.YtjoclfenghenjaaGreatSz
namespace Go.Proofs.YtjoclfenghenjaaGreat
open Go.ChangeShapes Go.WideShapes Go.ChangeAt Go.RowKit
set_option linter.unusedVariables false
set_option linter.unusedSimpArgs false

section
variable {α β : Type} [Dat α] [Dat β] {w : World} {B B2 : Nat} {x : α} {y : β} {c1 c2 : List Value} {F1 F2 : List Nat}
theorem Own.pair (h1 : Own w B x c1 F1) (h2 : Own w B2 y c2 F2) (hB : B ≤ B2) (hF : ∀ b ∈ F1, b < B2) : Own w B (x, y) (c1 ++ c2) (F1 ++ F2) := by
  refine ⟨⟨c1, c2, F1, F2, rfl, rfl, h1.rd, h2.rd⟩, ?_, ?_, ?_⟩
  · rw [List.nodup_append]
    exact ⟨h1.nodup, h2.nodup, fun a ha b hb => by have := hF a ha; have := h2.base b hb; omega⟩
  · intro b hb
    rcases List.mem_append.1 hb with hb | hb
    · exact h1.base b hb
    · exact Nat.le_trans hB (h2.base b hb)
  · intro b hb
    rcases List.mem_append.1 hb with hb | hb
    · exact h1.plain b hb
    · exact h2.plain b hb
theorem Own.up {γ : Type} {z : γ} {cs : List Value} {F : List Nat} {B' : Nat} (g : γ → β) (h : Own w B' (g z) cs F) (hB : B ≤ B') : @Own γ (Dat.iso g) w B z cs F :=
  @Own.mk γ (Dat.iso g) w B z cs F h.rd h.nodup (fun b hb => Nat.le_trans hB (h.base b hb)) h.plain
theorem calls_gen3 {P : Program} {fn : FuncId} {args : Array Value} {w : World} {o0 o1 o2 : Obj} {R : Ending → World → Prop}
    (h : ∀ W : World, W.heap[w.heap.size]? = some o0 → W.heap[w.heap.size + 1]? = some o1 → W.heap[w.heap.size + 1 + 1]? = some o2 → W.heap.size = w.heap.size + 1 + 1 + 1 → Below w.heap.size w W → Calls P fn args W R) :
    Calls P fn args (((w.alloc o0).alloc o1).alloc o2) R := by
  have e0 := heap_alloc_new w o0
  have e1 := heap_alloc_new (w.alloc o0) o1
  have e2 := heap_alloc_new ((w.alloc o0).alloc o1) o2
  have s0 : (w.alloc o0).heap.size = w.heap.size + 1 := by simp
  have s1 : ((w.alloc o0).alloc o1).heap.size = w.heap.size + 1 + 1 := by simp
  refine h _ ?_ ?_ ?_ (by simp) (ext_alloc (ext_alloc (ext_alloc (ext_refl _) _) _) _)
  · rw [Below.heap_alloc _ _ _ (by omega), Below.heap_alloc _ _ _ (by omega), e0]
  · rw [Below.heap_alloc _ _ _ (by omega)]
    rw [s0] at e1
    exact e1
  · rw [s1] at e2
    exact e2
theorem frozen_row {w : World} {g : Nat} {c : Array Value} {t : TypeId} (h : w.heap[g]? = some (.cells c t)) : ∀ j, w.frozen? ⟨g, j, none⟩ = false := fun j => by simp [World.frozen?, h]
theorem cells_row {w : World} {g : Nat} {c : Array Value} {t : TypeId} (h : w.heap[g]? = some (.cells c t)) : ∀ j, w.cell? ⟨g, j, none⟩ = c[j]? := fun j => cell_of_row w g j c t (0, 0) h
theorem Own.cons (h1 : Go.Proofs.YtjoclfenghenjaaGreat.Dat.rd w x c1 []) (h2 : Own w B y c2 F2) : Own w B (x, y) (c1 ++ c2) F2 := by
  have := (Own.flat (B := B) h1).pair h2 (Nat.le_refl _) (fun b hb => by cases hb)
  simpa using this
end
theorem infoString : (Tryz.prog.info? 9).map (fun i => (i.zero, i.size, i.bytes)) = some (some (.string ⟨#[]⟩), 1, 16) := by kernel_rfl
theorem elString : ElOk Tryz.prog 49 9 (.string ⟨#[]⟩) 1 16 := ⟨Tryz.underlying49, infoString, rfl, by omega⟩
set_option maxHeartbeats 1000000 in
theorem toStringS_any (xs : List ByteArray) (A : Option Addr) (c : Nat) (F : List Nat) (w : World) (h : Sl w xs A c F) (hl : (wtL ByteArray.size xs : Int) ≤ 1048576) :
    Calls Tryz.prog 149 #[.slice A xs.length c] w fun e w' => ∃ A c F, e = .returned (.slice A xs.length c) ∧ Own w' w.heap.size xs [.slice A xs.length c] F ∧ Below w.heap.size w w' := by
  have hlen : (xs.length : Int) ≤ 1048576 := by have := wtL_len ByteArray.size xs; omega
  have HL := Lib.hid hl
  clear hl
  have hmk := run_make_full elString (by omega) xs.length (by omega)
  go_enter Tryz.func149, Tryz.ntmps149
  go_wp2_with fail
  go_loopw [4] (fun i wr => ∃ (k : Nat) (ds : List Value) (G : List Nat), k ≤ xs.length ∧ i = .int .i64 k ∧ Fill wr w.heap.size 9 xs.length ds ∧ Hid (ds.length = k * 1) ∧ OwnCells wr (w.heap.size + 1) (xs.take k) ds G ∧ Below w.heap.size w wr) (fun i _ => xs.length - (intOf i).toNat)
  case atStart => exact ⟨0, [], [], Nat.zero_le _, rfl, by have := Fill.made w 9 #[.string ⟨#[]⟩] (xs.length * 1) (by simp [madeCells]); simpa using this, by show _ = _; simp, .nil _ _, ext_alloc (ext_refl _) _⟩
  case round =>
    obtain ⟨k, ds, G, hk, rfl, hf, hd, hO, hbl⟩ := hrel
    by_cases hlt : k < xs.length
    · obtain ⟨b, o, ck, Fk, rfl, hbF, hbs, hr, hsub, hc⟩ := (h.ext hbl).get hlt
      obtain ⟨rfl, rfl, hs0⟩ := hr
      have q0 : wr.cell? ⟨b, o + k, none⟩ = some (.string xs[k]) := by have := hc 0 _ rfl; simpa [Dat.size] using this
      clear hc
      have hwk := wtL_get (f := ByteArray.size) hlt
      have hwk2 : (ByteArray.size xs[k] : Int) ≤ 1048576 := by have := HL.out; omega
      clear hwk
      have hf2 := hf
      obtain ⟨u0, hu0⟩ := hf2.cell (i := k) (by omega); have hfz0 := hf2.frozen (k)
      go_wp2_with fail
      have hF := (hf2.store_at (o := k) (by have := hd.out; omega) (by omega) (.string xs[k]))
      have hO3 := hO
      replace hO3 := hO3.setCell (p := ⟨w.heap.size, k, none⟩) (Nat.lt_succ_self _) (.string xs[k])
      have hP := hO3.push (B' := wr.heap.size) (x := xs[k]) (.flat ⟨rfl, rfl, hs0⟩) hf.lt hO.lt
      rw [← List.take_succ_eq_append_getElem hlt] at hP
      (try simp only [List.append_assoc, List.cons_append, List.nil_append] at hF)
      exact ⟨⟨k + 1, _, _, by omega, by go_num, hF, by show _ = _; (simp [hd.out]) <;> omega, hP, ext_setCell (hbl) (Nat.le_refl _) _⟩, by simp [intOf]; omega⟩
    · have hkl : k = xs.length := by omega
      subst hkl
      go_wp2
      go_ret
      rw [List.take_length] at hO
      exact ⟨_, _, _, rfl, Own.of_fill hf hO (Nat.le_refl _) (by unfold maxLen; omega), hbl⟩
end Go.Proofs.YtjoclfenghenjaaGreat

namespace Go.Proofs.YtjoclfenghenjaaGreat
open Go.ChangeShapes Go.WideShapes Go.ChangeAt Go.RowKit
set_option linter.unusedVariables false
set_option linter.unusedSimpArgs false

theorem infoLabel : (Tryz.prog.info? 135).map (fun i => (i.zero, i.size, i.bytes)) = some (some (.agg #[.string ⟨#[]⟩, .string ⟨#[]⟩]), 2, 32) := by kernel_rfl
theorem elLabel : ElOk Tryz.prog 51 135 (.agg #[.string ⟨#[]⟩, .string ⟨#[]⟩]) 2 32 := ⟨Tryz.underlying51, infoLabel, rfl, by omega⟩
set_option maxRecDepth 100000 in
set_option maxHeartbeats 2000000 in
theorem toLabel_any (x : Label) (cs : List Value) (F : List Nat) (w : World) (h : rd w x cs F) (hw : (x.wt : Int) ≤ 1048576) :
    Calls Tryz.prog 110 #[.agg cs.toArray] w fun e w' => ∃ cs F, e = .returned (.agg cs.toArray) ∧ Own w' w.heap.size x cs F ∧ Below w.heap.size w w' := by
  have HW := Lib.hid hw
  clear hw
  obtain ⟨_, _, _, _, rfl, rfl, ⟨rfl, rfl, hkey⟩, ⟨rfl, rfl, hvalue⟩⟩ := h
  replace hkey := sz63 (s := x.key) hkey
  replace hvalue := sz63 (s := x.value) hvalue
  simp only [List.cons_append, List.nil_append]
  go_enter Tryz.func110, Tryz.ntmps110
  go_wp2
  refine bodyPost_ret (v := .agg #[.string x.key, .string x.value]) (by simp [results, Tryz.results110, go_sem, *]) rfl ⟨[.string x.key, .string x.value], [], rfl, ?_, by repeat (first | with_reducible exact ext_refl _ | with_reducible assumption | with_reducible refine ext_alloc ?_ _ | with_reducible refine ext_setCell ?_ (by first | exact Nat.le_refl _ | (simp; done) | omega | (simp; omega)) _ | with_reducible refine ext_trans ?_ (by assumption))⟩
  refine Own.up (B' := w.heap.size) (fun x : Label => (x.key, x.value)) ?_ (by omega)
  refine Own.cons (c1 := [.string x.key]) (rdStr _ x.key hkey) ?_
  exact Own.flat (rdStr _ x.value hvalue)
set_option maxHeartbeats 1000000 in
theorem toLabelS_any (xs : List Label) (A : Option Addr) (c : Nat) (F : List Nat) (w : World) (h : Sl w xs A c F) (hl : (wtL Label.wt xs : Int) ≤ 1048576) :
    Calls Tryz.prog 59 #[.slice A xs.length c] w fun e w' => ∃ A c F, e = .returned (.slice A xs.length c) ∧ Own w' w.heap.size xs [.slice A xs.length c] F ∧ Below w.heap.size w w' := by
  have hlen : (xs.length : Int) ≤ 1048576 := by have := wtL_len Label.wt xs; omega
  have HL := Lib.hid hl
  clear hl
  have hmk := run_make_full elLabel (by omega) xs.length (by omega)
  go_enter Tryz.func59, Tryz.ntmps59
  go_wp2_with fail
  go_loopw [4] (fun i wr => ∃ (k : Nat) (ds : List Value) (G : List Nat), k ≤ xs.length ∧ i = .int .i64 k ∧ Fill wr w.heap.size 135 (xs.length * 2) ds ∧ Hid (ds.length = k * 2) ∧ OwnCells wr (w.heap.size + 1) (xs.take k) ds G ∧ Below w.heap.size w wr) (fun i _ => xs.length - (intOf i).toNat)
  case atStart => exact ⟨0, [], [], Nat.zero_le _, rfl, Fill.made w _ _ _ (by simp [madeCells]), by show _ = _; simp, .nil _ _, ext_alloc (ext_refl _) _⟩
  case round =>
    obtain ⟨k, ds, G, hk, rfl, hf, hd, hO, hbl⟩ := hrel
    by_cases hlt : k < xs.length
    · obtain ⟨b, o, ck, Fk, rfl, hbF, hbs, hr, hsub, hc⟩ := (h.ext hbl).get hlt
      obtain ⟨hck, rfl, hkey1, hvalue1⟩ := rd_Label hr
      subst hck
      have q0 : wr.cell? ⟨b, o + k * 2, none⟩ = some (.string xs[k].key) := by exact hc 0 _ rfl
      have q1 : wr.cell? ⟨b, o + k * 2 + 1, none⟩ = some (.string xs[k].value) := by rw [Nat.add_assoc]; exact hc 1 _ rfl
      clear hc
      have hwk := wtL_get (f := Label.wt) hlt
      have hwk2 : (Label.wt xs[k] : Int) ≤ 1048576 := by have := HL.out; omega
      clear hwk
      go_wp2_with (go_at_call 110; refine (toLabel_any xs[k] _ _ _ hr hwk2).mono ?_; rintro e w2 ⟨cs2, G2, rfl, hO2, hb2⟩
                   have hR2 := hO2.rd
                   obtain ⟨hck, hG2, hkey2, hvalue2⟩ := rd_Label hR2
                   subst hck
                   have hf2 := hf.keep (hb2.block _ hf.lt)
                   obtain ⟨u0, hu0⟩ := hf2.cell (i := k * 2) (by omega); have hfz0 := hf2.frozen (k * 2)
                   obtain ⟨u1, hu1⟩ := hf2.cell (i := k * 2 + 1) (by omega); have hfz1 := hf2.frozen (k * 2 + 1))
      have hF := ((hf2.store_at (o := k * 2) (by have := hd.out; omega) (by omega) (.string xs[k].key)).store_at (o := k * 2 + 1) (by simp [hd.out]) (by omega) (.string xs[k].value))
      have hO3 := hO.ext hb2
      replace hO3 := hO3.setCell (p := ⟨w.heap.size, k * 2, none⟩) (Nat.lt_succ_self _) (.string xs[k].key)
      replace hO2 := hO2.setCell (p := ⟨w.heap.size, k * 2, none⟩) hf.lt (.string xs[k].key)
      replace hO3 := hO3.setCell (p := ⟨w.heap.size, k * 2 + 1, none⟩) (Nat.lt_succ_self _) (.string xs[k].value)
      replace hO2 := hO2.setCell (p := ⟨w.heap.size, k * 2 + 1, none⟩) hf.lt (.string xs[k].value)
      have hP := hO3.push (B' := wr.heap.size) (x := xs[k]) hO2 hf.lt hO.lt
      rw [← List.take_succ_eq_append_getElem hlt] at hP
      (try simp only [List.append_assoc, List.cons_append, List.nil_append] at hF)
      exact ⟨⟨k + 1, _, _, by omega, by go_num, hF, by show _ = _; (simp [hd.out]) <;> omega, hP, ext_setCell (ext_setCell (ext_trans hbl hb2) (Nat.le_refl _) _) (Nat.le_refl _) _⟩, by simp [intOf]; omega⟩
    · have hkl : k = xs.length := by omega
      subst hkl
      go_wp2
      go_ret
      rw [List.take_length] at hO
      exact ⟨_, _, _, rfl, Own.of_fill hf hO (Nat.le_refl _) (by unfold maxLen; omega), hbl⟩
end Go.Proofs.YtjoclfenghenjaaGreat

namespace Go.Proofs.YtjoclfenghenjaaGreat
open Go.ChangeShapes Go.WideShapes Go.ChangeAt Go.RowKit
set_option linter.unusedVariables false
set_option linter.unusedSimpArgs false

theorem infoTaint : (Tryz.prog.info? 162).map (fun i => (i.zero, i.size, i.bytes)) = some (some (.agg #[.string ⟨#[]⟩, .string ⟨#[]⟩, .int .i64 0]), 3, 40) := by kernel_rfl
theorem elTaint : ElOk Tryz.prog 80 162 (.agg #[.string ⟨#[]⟩, .string ⟨#[]⟩, .int .i64 0]) 3 40 := ⟨Tryz.underlying80, infoTaint, rfl, by omega⟩
set_option maxRecDepth 100000 in
set_option maxHeartbeats 2000000 in
theorem toTaint_any (x : Taint) (cs : List Value) (F : List Nat) (w : World) (h : rd w x cs F) (hw : (x.wt : Int) ≤ 1048576) :
    Calls Tryz.prog 167 #[.agg cs.toArray] w fun e w' => ∃ cs F, e = .returned (.agg cs.toArray) ∧ Own w' w.heap.size x cs F ∧ Below w.heap.size w w' := by
  have HW := Lib.hid hw
  clear hw
  obtain ⟨_, _, _, _, rfl, rfl, ⟨rfl, rfl, hkey⟩, _, _, _, _, rfl, rfl, ⟨rfl, rfl, hvalue⟩, ⟨rfl, rfl, heffect⟩⟩ := h
  replace hkey := sz63 (s := x.key) hkey
  replace hvalue := sz63 (s := x.value) hvalue
  replace heffect : I64 x.effect := heffect
  simp only [List.cons_append, List.nil_append]
  go_enter Tryz.func167, Tryz.ntmps167
  go_wp2
  refine bodyPost_ret (v := .agg #[.string x.key, .string x.value, .int .i64 x.effect]) (by simp [results, Tryz.results167, go_sem, *]) rfl ⟨[.string x.key, .string x.value, .int .i64 x.effect], [], rfl, ?_, by repeat (first | with_reducible exact ext_refl _ | with_reducible assumption | with_reducible refine ext_alloc ?_ _ | with_reducible refine ext_setCell ?_ (by first | exact Nat.le_refl _ | (simp; done) | omega | (simp; omega)) _ | with_reducible refine ext_trans ?_ (by assumption))⟩
  refine Own.up (B' := w.heap.size) (fun x : Taint => (x.key, x.value, x.effect)) ?_ (by omega)
  refine Own.cons (c1 := [.string x.key]) (rdStr _ x.key hkey) ?_
  refine Own.cons (c1 := [.string x.value]) (rdStr _ x.value hvalue) ?_
  exact Own.flat (rdInt _ x.effect heffect)
set_option maxHeartbeats 1000000 in
theorem toTaintS_any (xs : List Taint) (A : Option Addr) (c : Nat) (F : List Nat) (w : World) (h : Sl w xs A c F) (hl : (wtL Taint.wt xs : Int) ≤ 1048576) :
    Calls Tryz.prog 131 #[.slice A xs.length c] w fun e w' => ∃ A c F, e = .returned (.slice A xs.length c) ∧ Own w' w.heap.size xs [.slice A xs.length c] F ∧ Below w.heap.size w w' := by
  have hlen : (xs.length : Int) ≤ 1048576 := by have := wtL_len Taint.wt xs; omega
  have HL := Lib.hid hl
  clear hl
  have hmk := run_make_full elTaint (by omega) xs.length (by omega)
  go_enter Tryz.func131, Tryz.ntmps131
  go_wp2_with fail
  go_loopw [4] (fun i wr => ∃ (k : Nat) (ds : List Value) (G : List Nat), k ≤ xs.length ∧ i = .int .i64 k ∧ Fill wr w.heap.size 162 (xs.length * 3) ds ∧ Hid (ds.length = k * 3) ∧ OwnCells wr (w.heap.size + 1) (xs.take k) ds G ∧ Below w.heap.size w wr) (fun i _ => xs.length - (intOf i).toNat)
  case atStart => exact ⟨0, [], [], Nat.zero_le _, rfl, Fill.made w _ _ _ (by simp [madeCells]), by show _ = _; simp, .nil _ _, ext_alloc (ext_refl _) _⟩
  case round =>
    obtain ⟨k, ds, G, hk, rfl, hf, hd, hO, hbl⟩ := hrel
    by_cases hlt : k < xs.length
    · obtain ⟨b, o, ck, Fk, rfl, hbF, hbs, hr, hsub, hc⟩ := (h.ext hbl).get hlt
      obtain ⟨hck, rfl, hkey1, hvalue1, heffect1⟩ := rd_Taint hr
      subst hck
      have q0 : wr.cell? ⟨b, o + k * 3, none⟩ = some (.string xs[k].key) := by exact hc 0 _ rfl
      have q1 : wr.cell? ⟨b, o + k * 3 + 1, none⟩ = some (.string xs[k].value) := by rw [Nat.add_assoc]; exact hc 1 _ rfl
      have q2 : wr.cell? ⟨b, o + k * 3 + 2, none⟩ = some (.int .i64 xs[k].effect) := by rw [Nat.add_assoc]; exact hc 2 _ rfl
      clear hc
      have hwk := wtL_get (f := Taint.wt) hlt
      have hwk2 : (Taint.wt xs[k] : Int) ≤ 1048576 := by have := HL.out; omega
      clear hwk
      go_wp2_with (go_at_call 167; refine (toTaint_any xs[k] _ _ _ hr hwk2).mono ?_; rintro e w2 ⟨cs2, G2, rfl, hO2, hb2⟩
                   have hR2 := hO2.rd
                   obtain ⟨hck, hG2, hkey2, hvalue2, heffect2⟩ := rd_Taint hR2
                   subst hck
                   have hf2 := hf.keep (hb2.block _ hf.lt)
                   obtain ⟨u0, hu0⟩ := hf2.cell (i := k * 3) (by omega); have hfz0 := hf2.frozen (k * 3)
                   obtain ⟨u1, hu1⟩ := hf2.cell (i := k * 3 + 1) (by omega); have hfz1 := hf2.frozen (k * 3 + 1)
                   obtain ⟨u2, hu2⟩ := hf2.cell (i := k * 3 + 2) (by omega); have hfz2 := hf2.frozen (k * 3 + 2))
      have hF := (((hf2.store_at (o := k * 3) (by have := hd.out; omega) (by omega) (.string xs[k].key)).store_at (o := k * 3 + 1) (by simp [hd.out]) (by omega) (.string xs[k].value)).store_at (o := k * 3 + 2) (by simp [hd.out]) (by omega) (.int .i64 xs[k].effect))
      have hO3 := hO.ext hb2
      replace hO3 := hO3.setCell (p := ⟨w.heap.size, k * 3, none⟩) (Nat.lt_succ_self _) (.string xs[k].key)
      replace hO2 := hO2.setCell (p := ⟨w.heap.size, k * 3, none⟩) hf.lt (.string xs[k].key)
      replace hO3 := hO3.setCell (p := ⟨w.heap.size, k * 3 + 1, none⟩) (Nat.lt_succ_self _) (.string xs[k].value)
      replace hO2 := hO2.setCell (p := ⟨w.heap.size, k * 3 + 1, none⟩) hf.lt (.string xs[k].value)
      replace hO3 := hO3.setCell (p := ⟨w.heap.size, k * 3 + 2, none⟩) (Nat.lt_succ_self _) (.int .i64 xs[k].effect)
      replace hO2 := hO2.setCell (p := ⟨w.heap.size, k * 3 + 2, none⟩) hf.lt (.int .i64 xs[k].effect)
      have hP := hO3.push (B' := wr.heap.size) (x := xs[k]) hO2 hf.lt hO.lt
      rw [← List.take_succ_eq_append_getElem hlt] at hP
      (try simp only [List.append_assoc, List.cons_append, List.nil_append] at hF)
      exact ⟨⟨k + 1, _, _, by omega, by go_num, hF, by show _ = _; (simp [hd.out]) <;> omega, hP, ext_setCell (ext_setCell (ext_setCell (ext_trans hbl hb2) (Nat.le_refl _) _) (Nat.le_refl _) _) (Nat.le_refl _) _⟩, by simp [intOf]; omega⟩
    · have hkl : k = xs.length := by omega
      subst hkl
      go_wp2
      go_ret
      rw [List.take_length] at hO
      exact ⟨_, _, _, rfl, Own.of_fill hf hO (Nat.le_refl _) (by unfold maxLen; omega), hbl⟩
end Go.Proofs.YtjoclfenghenjaaGreat

namespace Go.Proofs.YtjoclfenghenjaaGreat
open Go.ChangeShapes Go.WideShapes Go.ChangeAt Go.RowKit
set_option linter.unusedVariables false
set_option linter.unusedSimpArgs false

theorem infoTolerance : (Tryz.prog.info? 139).map (fun i => (i.zero, i.size, i.bytes)) = some (some (.agg #[.string ⟨#[]⟩, .bool false, .string ⟨#[]⟩, .int .i64 0]), 4, 48) := by kernel_rfl
theorem elTolerance : ElOk Tryz.prog 53 139 (.agg #[.string ⟨#[]⟩, .bool false, .string ⟨#[]⟩, .int .i64 0]) 4 48 := ⟨Tryz.underlying53, infoTolerance, rfl, by omega⟩
set_option maxRecDepth 100000 in
set_option maxHeartbeats 2000000 in
theorem toTolerance_any (x : Tolerance) (cs : List Value) (F : List Nat) (w : World) (h : rd w x cs F) (hw : (x.wt : Int) ≤ 1048576) :
    Calls Tryz.prog 112 #[.agg cs.toArray] w fun e w' => ∃ cs F, e = .returned (.agg cs.toArray) ∧ Own w' w.heap.size x cs F ∧ Below w.heap.size w w' := by
  have HW := Lib.hid hw
  clear hw
  obtain ⟨_, _, _, _, rfl, rfl, ⟨rfl, rfl, hkey⟩, _, _, _, _, rfl, rfl, ⟨rfl, rfl⟩, _, _, _, _, rfl, rfl, ⟨rfl, rfl, hvalue⟩, ⟨rfl, rfl, heffect⟩⟩ := h
  replace hkey := sz63 (s := x.key) hkey
  replace hvalue := sz63 (s := x.value) hvalue
  replace heffect : I64 x.effect := heffect
  simp only [List.cons_append, List.nil_append]
  go_enter Tryz.func112, Tryz.ntmps112
  go_wp2
  refine bodyPost_ret (v := .agg #[.string x.key, .bool x.equal, .string x.value, .int .i64 x.effect]) (by simp [results, Tryz.results112, go_sem, *]) rfl ⟨[.string x.key, .bool x.equal, .string x.value, .int .i64 x.effect], [], rfl, ?_, by repeat (first | with_reducible exact ext_refl _ | with_reducible assumption | with_reducible refine ext_alloc ?_ _ | with_reducible refine ext_setCell ?_ (by first | exact Nat.le_refl _ | (simp; done) | omega | (simp; omega)) _ | with_reducible refine ext_trans ?_ (by assumption))⟩
  refine Own.up (B' := w.heap.size) (fun x : Tolerance => (x.key, x.equal, x.value, x.effect)) ?_ (by omega)
  refine Own.cons (c1 := [.string x.key]) (rdStr _ x.key hkey) ?_
  refine Own.cons (c1 := [.bool x.equal]) (rdBool _ x.equal) ?_
  refine Own.cons (c1 := [.string x.value]) (rdStr _ x.value hvalue) ?_
  exact Own.flat (rdInt _ x.effect heffect)
set_option maxHeartbeats 1000000 in
theorem toToleranceS_any (xs : List Tolerance) (A : Option Addr) (c : Nat) (F : List Nat) (w : World) (h : Sl w xs A c F) (hl : (wtL Tolerance.wt xs : Int) ≤ 1048576) :
    Calls Tryz.prog 61 #[.slice A xs.length c] w fun e w' => ∃ A c F, e = .returned (.slice A xs.length c) ∧ Own w' w.heap.size xs [.slice A xs.length c] F ∧ Below w.heap.size w w' := by
  have hlen : (xs.length : Int) ≤ 1048576 := by have := wtL_len Tolerance.wt xs; omega
  have HL := Lib.hid hl
  clear hl
  have hmk := run_make_full elTolerance (by omega) xs.length (by omega)
  go_enter Tryz.func61, Tryz.ntmps61
  go_wp2_with fail
  go_loopw [4] (fun i wr => ∃ (k : Nat) (ds : List Value) (G : List Nat), k ≤ xs.length ∧ i = .int .i64 k ∧ Fill wr w.heap.size 139 (xs.length * 4) ds ∧ Hid (ds.length = k * 4) ∧ OwnCells wr (w.heap.size + 1) (xs.take k) ds G ∧ Below w.heap.size w wr) (fun i _ => xs.length - (intOf i).toNat)
  case atStart => exact ⟨0, [], [], Nat.zero_le _, rfl, Fill.made w _ _ _ (by simp [madeCells]), by show _ = _; simp, .nil _ _, ext_alloc (ext_refl _) _⟩
  case round =>
    obtain ⟨k, ds, G, hk, rfl, hf, hd, hO, hbl⟩ := hrel
    by_cases hlt : k < xs.length
    · obtain ⟨b, o, ck, Fk, rfl, hbF, hbs, hr, hsub, hc⟩ := (h.ext hbl).get hlt
      obtain ⟨hck, rfl, hkey1, hvalue1, heffect1⟩ := rd_Tolerance hr
      subst hck
      have q0 : wr.cell? ⟨b, o + k * 4, none⟩ = some (.string xs[k].key) := by exact hc 0 _ rfl
      have q1 : wr.cell? ⟨b, o + k * 4 + 1, none⟩ = some (.bool xs[k].equal) := by rw [Nat.add_assoc]; exact hc 1 _ rfl
      have q2 : wr.cell? ⟨b, o + k * 4 + 2, none⟩ = some (.string xs[k].value) := by rw [Nat.add_assoc]; exact hc 2 _ rfl
      have q3 : wr.cell? ⟨b, o + k * 4 + 3, none⟩ = some (.int .i64 xs[k].effect) := by rw [Nat.add_assoc]; exact hc 3 _ rfl
      clear hc
      have hwk := wtL_get (f := Tolerance.wt) hlt
      have hwk2 : (Tolerance.wt xs[k] : Int) ≤ 1048576 := by have := HL.out; omega
      clear hwk
      go_wp2_with (go_at_call 112; refine (toTolerance_any xs[k] _ _ _ hr hwk2).mono ?_; rintro e w2 ⟨cs2, G2, rfl, hO2, hb2⟩
                   have hR2 := hO2.rd
                   obtain ⟨hck, hG2, hkey2, hvalue2, heffect2⟩ := rd_Tolerance hR2
                   subst hck
                   have hf2 := hf.keep (hb2.block _ hf.lt)
                   obtain ⟨u0, hu0⟩ := hf2.cell (i := k * 4) (by omega); have hfz0 := hf2.frozen (k * 4)
                   obtain ⟨u1, hu1⟩ := hf2.cell (i := k * 4 + 1) (by omega); have hfz1 := hf2.frozen (k * 4 + 1)
                   obtain ⟨u2, hu2⟩ := hf2.cell (i := k * 4 + 2) (by omega); have hfz2 := hf2.frozen (k * 4 + 2)
                   obtain ⟨u3, hu3⟩ := hf2.cell (i := k * 4 + 3) (by omega); have hfz3 := hf2.frozen (k * 4 + 3))
      have hF := ((((hf2.store_at (o := k * 4) (by have := hd.out; omega) (by omega) (.string xs[k].key)).store_at (o := k * 4 + 1) (by simp [hd.out]) (by omega) (.bool xs[k].equal)).store_at (o := k * 4 + 2) (by simp [hd.out]) (by omega) (.string xs[k].value)).store_at (o := k * 4 + 3) (by simp [hd.out]) (by omega) (.int .i64 xs[k].effect))
      have hO3 := hO.ext hb2
      replace hO3 := hO3.setCell (p := ⟨w.heap.size, k * 4, none⟩) (Nat.lt_succ_self _) (.string xs[k].key)
      replace hO2 := hO2.setCell (p := ⟨w.heap.size, k * 4, none⟩) hf.lt (.string xs[k].key)
      replace hO3 := hO3.setCell (p := ⟨w.heap.size, k * 4 + 1, none⟩) (Nat.lt_succ_self _) (.bool xs[k].equal)
      replace hO2 := hO2.setCell (p := ⟨w.heap.size, k * 4 + 1, none⟩) hf.lt (.bool xs[k].equal)
      replace hO3 := hO3.setCell (p := ⟨w.heap.size, k * 4 + 2, none⟩) (Nat.lt_succ_self _) (.string xs[k].value)
      replace hO2 := hO2.setCell (p := ⟨w.heap.size, k * 4 + 2, none⟩) hf.lt (.string xs[k].value)
      replace hO3 := hO3.setCell (p := ⟨w.heap.size, k * 4 + 3, none⟩) (Nat.lt_succ_self _) (.int .i64 xs[k].effect)
      replace hO2 := hO2.setCell (p := ⟨w.heap.size, k * 4 + 3, none⟩) hf.lt (.int .i64 xs[k].effect)
      have hP := hO3.push (B' := wr.heap.size) (x := xs[k]) hO2 hf.lt hO.lt
      rw [← List.take_succ_eq_append_getElem hlt] at hP
      (try simp only [List.append_assoc, List.cons_append, List.nil_append] at hF)
      exact ⟨⟨k + 1, _, _, by omega, by go_num, hF, by show _ = _; (simp [hd.out]) <;> omega, hP, ext_setCell (ext_setCell (ext_setCell (ext_setCell (ext_trans hbl hb2) (Nat.le_refl _) _) (Nat.le_refl _) _) (Nat.le_refl _) _) (Nat.le_refl _) _⟩, by simp [intOf]; omega⟩
    · have hkl : k = xs.length := by omega
      subst hkl
      go_wp2
      go_ret
      rw [List.take_length] at hO
      exact ⟨_, _, _, rfl, Own.of_fill hf hO (Nat.le_refl _) (by unfold maxLen; omega), hbl⟩
end Go.Proofs.YtjoclfenghenjaaGreat

namespace Go.Proofs.YtjoclfenghenjaaGreat
open Go.ChangeShapes Go.WideShapes Go.ChangeAt Go.RowKit
set_option linter.unusedVariables false
set_option linter.unusedSimpArgs false

theorem infoNeed : (Tryz.prog.info? 137).map (fun i => (i.zero, i.size, i.bytes)) = some (some (.agg #[.string ⟨#[]⟩, .int .i64 0, .slice none 0 0]), 3, 48) := by kernel_rfl
theorem elNeed : ElOk Tryz.prog 52 137 (.agg #[.string ⟨#[]⟩, .int .i64 0, .slice none 0 0]) 3 48 := ⟨Tryz.underlying52, infoNeed, rfl, by omega⟩
set_option maxRecDepth 100000 in
set_option maxHeartbeats 2000000 in
theorem toNeed_any (x : Need) (cs : List Value) (F : List Nat) (w : World) (h : rd w x cs F) (hw : (x.wt : Int) ≤ 1048576) :
    Calls Tryz.prog 111 #[.agg cs.toArray] w fun e w' => ∃ cs F, e = .returned (.agg cs.toArray) ∧ Own w' w.heap.size x cs F ∧ Below w.heap.size w w' := by
  have HW := Lib.hid hw
  clear hw
  obtain ⟨_, _, _, _, rfl, rfl, ⟨rfl, rfl, hkey⟩, _, _, _, _, rfl, rfl, ⟨rfl, rfl, hop⟩, hvalues⟩ := h
  obtain ⟨Avalues, cvalues, rfl, hvalues⟩ := rd_list hvalues
  replace hkey := sz63 (s := x.key) hkey
  replace hop : I64 x.op := hop
  replace hvalues : Sl _ x.values Avalues cvalues _ := hvalues
  simp only [List.cons_append, List.nil_append]
  go_enter Tryz.func111, Tryz.ntmps111
  go_wp2_with (first | (go_at_call 149; refine (toStringS_any x.values _ _ _ _ (hvalues.ext (by repeat (first | with_reducible exact ext_refl _ | with_reducible assumption | with_reducible refine ext_alloc ?_ _ | with_reducible refine ext_setCell ?_ (by first | exact Nat.le_refl _ | (simp; done) | omega | (simp; omega)) _ | with_reducible refine ext_trans ?_ (by assumption)))) (by have := HW.out; unfold Need.wt at this; unfold wtS at this; omega)).mono ?_; rintro e w2 ⟨B2, d2, G2, rfl, hO2, hb2⟩; obtain ⟨hc2, hf2⟩ := bcell hb2; have hz20 : w.heap.size < w2.heap.size := (by have := hb2.size; (try simp at this); omega); have hz21 : w.heap.size + 1 < w2.heap.size := (by have := hb2.size; (try simp at this); omega); have hz22 : w.heap.size + 1 + 1 < w2.heap.size := (by have := hb2.size; (try simp at this); omega); replace hO2 := hO2.mono (B' := w.heap.size + 1 + 1 + 1) (by first | (simp; done) | omega | (simp; omega))))
  refine bodyPost_ret (v := .agg #[.string x.key, .int .i64 x.op, .slice B2 x.values.length d2]) (by simp [results, Tryz.results111, go_sem, *]) rfl ⟨[.string x.key, .int .i64 x.op, .slice B2 x.values.length d2], G2, rfl, ?_, by repeat (first | with_reducible exact ext_refl _ | with_reducible assumption | with_reducible refine ext_alloc ?_ _ | with_reducible refine ext_setCell ?_ (by first | exact Nat.le_refl _ | (simp; done) | omega | (simp; omega)) _ | with_reducible refine ext_trans ?_ (by assumption))⟩
  refine Own.up (B' := w.heap.size + 1 + 1 + 1) (fun x : Need => (x.key, x.op, x.values)) ?_ (by omega)
  refine Own.cons (c1 := [.string x.key]) (rdStr _ x.key hkey) ?_
  refine Own.cons (c1 := [.int .i64 x.op]) (rdInt _ x.op hop) ?_
  repeat (first | with_reducible exact hO2 | with_reducible refine Own.setCell ?_ (by first | omega | (show _ < _; omega) | (simp; done) | (simp; omega)) _ | with_reducible refine Own.ext ?_ (by assumption) | with_reducible refine Own.alloc ?_ _)
set_option maxHeartbeats 1000000 in
theorem toNeedS_any (xs : List Need) (A : Option Addr) (c : Nat) (F : List Nat) (w : World) (h : Sl w xs A c F) (hl : (wtL Need.wt xs : Int) ≤ 1048576) :
    Calls Tryz.prog 60 #[.slice A xs.length c] w fun e w' => ∃ A c F, e = .returned (.slice A xs.length c) ∧ Own w' w.heap.size xs [.slice A xs.length c] F ∧ Below w.heap.size w w' := by
  have hlen : (xs.length : Int) ≤ 1048576 := by have := wtL_len Need.wt xs; omega
  have HL := Lib.hid hl
  clear hl
  have hmk := run_make_full elNeed (by omega) xs.length (by omega)
  go_enter Tryz.func60, Tryz.ntmps60
  go_wp2_with fail
  go_loopw [4] (fun i wr => ∃ (k : Nat) (ds : List Value) (G : List Nat), k ≤ xs.length ∧ i = .int .i64 k ∧ Fill wr w.heap.size 137 (xs.length * 3) ds ∧ Hid (ds.length = k * 3) ∧ OwnCells wr (w.heap.size + 1) (xs.take k) ds G ∧ Below w.heap.size w wr) (fun i _ => xs.length - (intOf i).toNat)
  case atStart => exact ⟨0, [], [], Nat.zero_le _, rfl, Fill.made w _ _ _ (by simp [madeCells]), by show _ = _; simp, .nil _ _, ext_alloc (ext_refl _) _⟩
  case round =>
    obtain ⟨k, ds, G, hk, rfl, hf, hd, hO, hbl⟩ := hrel
    by_cases hlt : k < xs.length
    · obtain ⟨b, o, ck, Fk, rfl, hbF, hbs, hr, hsub, hc⟩ := (h.ext hbl).get hlt
      obtain ⟨Avalues1, cvalues1, Fvalues1, hck, rfl, hkey1, hop1, hvalues1⟩ := rd_Need hr
      subst hck
      have q0 : wr.cell? ⟨b, o + k * 3, none⟩ = some (.string xs[k].key) := by exact hc 0 _ rfl
      have q1 : wr.cell? ⟨b, o + k * 3 + 1, none⟩ = some (.int .i64 xs[k].op) := by rw [Nat.add_assoc]; exact hc 1 _ rfl
      have q2 : wr.cell? ⟨b, o + k * 3 + 2, none⟩ = some (.slice Avalues1 xs[k].values.length cvalues1) := by rw [Nat.add_assoc]; exact hc 2 _ rfl
      clear hc
      have hwk := wtL_get (f := Need.wt) hlt
      have hwk2 : (Need.wt xs[k] : Int) ≤ 1048576 := by have := HL.out; omega
      clear hwk
      go_wp2_with (go_at_call 111; refine (toNeed_any xs[k] _ _ _ hr hwk2).mono ?_; rintro e w2 ⟨cs2, G2, rfl, hO2, hb2⟩
                   have hR2 := hO2.rd
                   obtain ⟨Avalues2, cvalues2, Fvalues2, hck, hG2, hkey2, hop2, hvalues2⟩ := rd_Need hR2
                   subst hck
                   have hf2 := hf.keep (hb2.block _ hf.lt)
                   obtain ⟨u0, hu0⟩ := hf2.cell (i := k * 3) (by omega); have hfz0 := hf2.frozen (k * 3)
                   obtain ⟨u1, hu1⟩ := hf2.cell (i := k * 3 + 1) (by omega); have hfz1 := hf2.frozen (k * 3 + 1)
                   obtain ⟨u2, hu2⟩ := hf2.cell (i := k * 3 + 2) (by omega); have hfz2 := hf2.frozen (k * 3 + 2))
      have hF := (((hf2.store_at (o := k * 3) (by have := hd.out; omega) (by omega) (.string xs[k].key)).store_at (o := k * 3 + 1) (by simp [hd.out]) (by omega) (.int .i64 xs[k].op)).store_at (o := k * 3 + 2) (by simp [hd.out]) (by omega) (.slice Avalues2 xs[k].values.length cvalues2))
      have hO3 := hO.ext hb2
      replace hO3 := hO3.setCell (p := ⟨w.heap.size, k * 3, none⟩) (Nat.lt_succ_self _) (.string xs[k].key)
      replace hO2 := hO2.setCell (p := ⟨w.heap.size, k * 3, none⟩) hf.lt (.string xs[k].key)
      replace hO3 := hO3.setCell (p := ⟨w.heap.size, k * 3 + 1, none⟩) (Nat.lt_succ_self _) (.int .i64 xs[k].op)
      replace hO2 := hO2.setCell (p := ⟨w.heap.size, k * 3 + 1, none⟩) hf.lt (.int .i64 xs[k].op)
      replace hO3 := hO3.setCell (p := ⟨w.heap.size, k * 3 + 2, none⟩) (Nat.lt_succ_self _) (.slice Avalues2 xs[k].values.length cvalues2)
      replace hO2 := hO2.setCell (p := ⟨w.heap.size, k * 3 + 2, none⟩) hf.lt (.slice Avalues2 xs[k].values.length cvalues2)
      have hP := hO3.push (B' := wr.heap.size) (x := xs[k]) hO2 hf.lt hO.lt
      rw [← List.take_succ_eq_append_getElem hlt] at hP
      (try simp only [List.append_assoc, List.cons_append, List.nil_append] at hF)
      exact ⟨⟨k + 1, _, _, by omega, by go_num, hF, by show _ = _; (simp [hd.out]) <;> omega, hP, ext_setCell (ext_setCell (ext_setCell (ext_trans hbl hb2) (Nat.le_refl _) _) (Nat.le_refl _) _) (Nat.le_refl _) _⟩, by simp [intOf]; omega⟩
    · have hkl : k = xs.length := by omega
      subst hkl
      go_wp2
      go_ret
      rw [List.take_length] at hO
      exact ⟨_, _, _, rfl, Own.of_fill hf hO (Nat.le_refl _) (by unfold maxLen; omega), hbl⟩
end Go.Proofs.YtjoclfenghenjaaGreat

namespace Go.Proofs.YtjoclfenghenjaaGreat
open Go.ChangeShapes Go.WideShapes Go.ChangeAt Go.RowKit
set_option linter.unusedVariables false
set_option linter.unusedSimpArgs false

set_option maxRecDepth 100000 in
set_option maxHeartbeats 2000000 in
theorem toWeights_any (x : Weights) (cs : List Value) (F : List Nat) (w : World) (h : rd w x cs F) :
    Calls Tryz.prog 11 #[.agg cs.toArray] w fun e w' => ∃ cs F, e = .returned (.agg cs.toArray) ∧ Own w' w.heap.size x cs F ∧ Below w.heap.size w w' := by
  obtain ⟨_, _, _, _, rfl, rfl, ⟨rfl, rfl, hpack⟩, _, _, _, _, rfl, rfl, ⟨rfl, rfl, hspread⟩, ⟨rfl, rfl, hsoft⟩⟩ := h
  replace hpack : I64 x.pack := hpack
  replace hspread : I64 x.spread := hspread
  replace hsoft : I64 x.soft := hsoft
  simp only [List.cons_append, List.nil_append]
  go_enter Tryz.func11, Tryz.ntmps11
  go_wp2
  refine bodyPost_ret (v := .agg #[.int .i64 x.pack, .int .i64 x.spread, .int .i64 x.soft]) (by simp [results, Tryz.results11, go_sem, *]) rfl ⟨[.int .i64 x.pack, .int .i64 x.spread, .int .i64 x.soft], [], rfl, ?_, by repeat (first | with_reducible exact ext_refl _ | with_reducible assumption | with_reducible refine ext_alloc ?_ _ | with_reducible refine ext_setCell ?_ (by first | exact Nat.le_refl _ | (simp; done) | omega | (simp; omega)) _ | with_reducible refine ext_trans ?_ (by assumption))⟩
  refine Own.up (B' := w.heap.size) (fun x : Weights => (x.pack, x.spread, x.soft)) ?_ (by omega)
  refine Own.cons (c1 := [.int .i64 x.pack]) (rdInt _ x.pack hpack) ?_
  refine Own.cons (c1 := [.int .i64 x.spread]) (rdInt _ x.spread hspread) ?_
  exact Own.flat (rdInt _ x.soft hsoft)
end Go.Proofs.YtjoclfenghenjaaGreat
