/- SumsOf, of the program and of the reference. No condition. -/
import Derived.Test.YtaljcihfkblncaaSums
namespace Go.Proofs.Ytaljcihfkblncaa
open Go.ChangeShapes Go.WideShapes Go.ChangeAt Go.RowKit
set_option linter.unusedVariables false
set_option linter.unusedSimpArgs false

/-- the sums of the pods' cpu and mem, where both are ints -/
def sumsR (xs : List Pod) : Option (Int × Int) :=
  match sumI (xs.map Pod.cpu) 0, sumI (xs.map Pod.mem) 0 with
  | some a, some b => some (a, b)
  | _, _ => none
def sumsV : Option (Int × Int) → Value
  | some (a, b) => .tuple #[.int .i64 a, .int .i64 b, .bool true]
  | none => .tuple #[.int .i64 0, .int .i64 0, .bool false]
def iv (xs : List Int) : List Value := xs.map fun n => .int .i64 n
theorem iv_take {α : Type} (f : α → Int) (xs : List α) (k : Nat) (h : k < xs.length) : iv ((xs.take (k + 1)).map f) = iv ((xs.take k).map f) ++ [.int .i64 (f xs[k])] := by
  unfold iv; rw [List.take_succ_eq_append_getElem h, List.map_append, List.map_append]; rfl
theorem map_take_len {α β : Type} (f : α → β) (xs : List α) (k : Nat) (h : k ≤ xs.length) : ((xs.take k).map f).length = k := by simp; omega
theorem Sl.pod_I64 {w : World} {xs : List Pod} {A : Option Addr} {c : Nat} {F : List Nat} (h : Sl w xs A c F) : ∀ p ∈ xs, I64 p.cpu ∧ I64 p.mem ∧ I64 p.rank := by
  intro p hp
  obtain ⟨k, hk, rfl⟩ := List.getElem_of_mem hp
  obtain ⟨b, o, ck, Fk, _, _, _, hr, _, _⟩ := h.get hk
  obtain ⟨Alabels, clabels, Flabels, Aneeds, cneeds, Fneeds, Atolerances, ctolerances, Ftolerances, rfl, rfl, hname, hlabels, hcpu, hmem, hrank, hneeds, htolerances⟩ := rd_Pod hr
  exact ⟨hcpu, hmem, hrank⟩
set_option maxRecDepth 100000 in
set_option maxHeartbeats 1000000 in
theorem SumsOf_impl (xs : List Pod) (A : Option Addr) (n c : Nat) (F : List Nat) (w : World) (h : Sl w xs A c F) (hn : n = xs.length) (hl : (xs.length : Int) ≤ 1048576) :
    Calls Try.prog 137 #[.slice A n c] w fun e w' => e = .returned (sumsV (sumsR xs)) ∧ Below w.heap.size w w' := by
  subst hn
  have hI := Lib.hid h.pod_I64
  go_enter Try.func137, Try.ntmps137
  go_wp2_with fail
  go_loopw [5, 6, 17] (fun u v i wr => ∃ (k : Nat), k ≤ xs.length ∧ i = .int .i64 k ∧ wr.ownsRow w.heap.size 3 1 u k (iv ((xs.take k).map Pod.cpu)) ∧ wr.ownsRow w.heap.size 3 1 v k (iv ((xs.take k).map Pod.mem)) ∧ RowsApart u v ∧ Below w.heap.size w wr) (fun _ _ i _ => xs.length - (intOf i).toNat)
  case atStart =>
    refine ⟨0, Nat.zero_le _, rfl, ?_, ?_, ?_, ext_alloc (ext_alloc (ext_refl _) _) _⟩
    · exact (World.ownsRow_made w #[] 0 (Nat.le_refl _) (by unfold maxLen; omega) rfl).alloc _
    · have := World.ownsRow_made (base := w.heap.size) (e := 3) (size := 1) (w.alloc (.cells #[] 3)) #[] 0 (by simp) (by unfold maxLen; omega) rfl
      simpa [iv] using this
    · right; simp [Value.ownBlock]
  case round =>
    obtain ⟨k, hk, rfl, hu, hv, hap, hbl⟩ := hrel
    have hlts := hu.lt
    by_cases hlt : k < xs.length
    · obtain ⟨b, o, ck, Fk, rfl, hbF, hbs, hr, hsub, hc⟩ := (Sl.ext (w' := wr) (A := A) (c := c) h hbl).get hlt
      have hbw := h.lt b hbF
      obtain ⟨Alabels, clabels, Flabels, Aneeds, cneeds, Fneeds, Atolerances, ctolerances, Ftolerances, hck, hFk, hname, hlabels, hcpu, hmem, hrank, hneeds, htolerances⟩ := rd_Pod hr
      subst hck
      have q0 : wr.cell? ⟨b, o + k * 7, none⟩ = some (.string xs[k].name) := by exact hc 0 _ rfl
      have q1 : wr.cell? ⟨b, o + k * 7 + 1, none⟩ = some (.slice Alabels xs[k].labels.length clabels) := by rw [Nat.add_assoc]; exact hc 1 _ rfl
      have q2 : wr.cell? ⟨b, o + k * 7 + 2, none⟩ = some (.int .i64 xs[k].cpu) := by rw [Nat.add_assoc]; exact hc 2 _ rfl
      have q3 : wr.cell? ⟨b, o + k * 7 + 3, none⟩ = some (.int .i64 xs[k].mem) := by rw [Nat.add_assoc]; exact hc 3 _ rfl
      have q4 : wr.cell? ⟨b, o + k * 7 + 4, none⟩ = some (.int .i64 xs[k].rank) := by rw [Nat.add_assoc]; exact hc 4 _ rfl
      have q5 : wr.cell? ⟨b, o + k * 7 + 5, none⟩ = some (.slice Aneeds xs[k].needs.length cneeds) := by rw [Nat.add_assoc]; exact hc 5 _ rfl
      have q6 : wr.cell? ⟨b, o + k * 7 + 6, none⟩ = some (.slice Atolerances xs[k].tolerances.length ctolerances) := by rw [Nat.add_assoc]; exact hc 6 _ rfl
      clear hc
      go_wp2_with (first
        | (at_builtin
           refine wpList_append2 elInt (by rfl) _ _ (by rfl) _ _ _ _ _ (hu.alloc _) (by rfl) [.int .i64 xs[k].cpu] (by first | rfl | (simp; rfl)) (by rfl) (by simp [Value.oneCell']) (by omega) (by omega) (by have := hbl.size; simp; omega) ?_
           intro u2 w2 hu2 hg2 hz2 hat2
           have hne : some wr.heap.size ≠ u5.ownBlock := by intro e; have := hu.lt _ e.symm; omega
           have p3 : w2.cell? ⟨wr.heap.size, 3, none⟩ = some (.int .i64 xs[k].mem) := hg2.cell (by rw [cell_of_row _ _ _ _ _ _ (heap_alloc_new wr _)]; rfl) hne
           have hb2 : Below w.heap.size w w2 := grown_ext (hu.alloc _) hg2 (ext_alloc hbl _) (by have := hbl.size; simp; omega)
           have hv2 := (hv.alloc _).kept hg2 hap.symm
           have hap2 := hap.grow (N := _) hv (by simp; omega) hat2)
        | (at_builtin
           refine wpList_append2 elInt (by rfl) _ _ (by rfl) _ _ _ _ _ hv2 (by rfl) [.int .i64 xs[k].mem] (by first | rfl | (simp; rfl)) (by rfl) (by simp [Value.oneCell']) (by omega) (by omega) (hb2.size) ?_
           intro v2 w3 hv3 hg3 hz3 hat3
           have hu3 := hu2.kept hg3 hap2
           have hap3 : RowsApart v2 u2 := hap2.symm.grow (N := _) hu2 (by omega) hat3
           have hb3 := grown_ext hv2 hg3 hb2 hb2.size))
      refine ⟨⟨k + 1, by omega, by go_num, by rw [iv_take _ _ _ hlt]; exact hu3, by rw [iv_take _ _ _ hlt]; exact hv3, hap3.symm, hb3⟩, by simp [intOf]; omega⟩
    · have hkl : k = xs.length := by omega
      subst hkl
      rw [List.take_length] at hu hv
      obtain ⟨Au, cu, Gu, rfl, hsu⟩ := Sl.of_row (xs := xs.map Pod.cpu) (by rw [List.length_map]; exact hu) (rdCells_ints wr _ (by intro y hy; obtain ⟨p, hp, rfl⟩ := List.mem_map.1 hy; exact (hI.out p hp).1))
      obtain ⟨Av, cv, Gv, rfl, hsv⟩ := Sl.of_row (xs := xs.map Pod.mem) (by rw [List.length_map]; exact hv) (rdCells_ints wr _ (by intro y hy; obtain ⟨p, hp, rfl⟩ := List.mem_map.1 hy; exact (hI.out p hp).2.1))
      clear hu hv hap
      rcases hr1 : sumI (xs.map Pod.cpu) 0 with _ | a <;> rcases hr2 : sumI (xs.map Pod.mem) 0 with _ | b
      all_goals
        have hfin : sumsR xs = _ := (by unfold sumsR; rw [hr1, hr2])
        have HF := Lib.hid hfin
        have R1 := Lib.hid hr1
        have R2 := Lib.hid hr2
        clear hr1 hr2 hfin
        go_wp2_with fail
        refine (SumInts_impl (xs.map Pod.cpu) Au _ cu Gu _ hsu (by simp) (by rw [List.length_map]; exact hl)).mono ?_
        rw [R1.out]
        rintro e w2 ⟨rfl, hb2⟩
        go_wp2_with fail
        refine (SumInts_impl (xs.map Pod.mem) Av _ cv Gv _ (hsv.ext hb2) (by simp) (by rw [List.length_map]; exact hl)).mono ?_
        rw [R2.out]
        rintro e w3 ⟨rfl, hb3⟩
        go_wp2
        go_returns
        exact ⟨by rw [HF.out]; rfl, ext_trans (ext_trans hbl hb2) hb3⟩
set_option maxRecDepth 100000 in
set_option maxHeartbeats 1000000 in
theorem SumsOf_spec (xs : List Pod) (A : Option Addr) (n c : Nat) (F : List Nat) (w : World) (h : Sl w xs A c F) (hn : n = xs.length) (hl : (xs.length : Int) ≤ 1048576) :
    Calls Try.prog 136 #[.slice A n c] w fun e w' => e = .returned (sumsV (sumsR xs)) ∧ Below w.heap.size w w' := by
  subst hn
  have hI := Lib.hid h.pod_I64
  go_enter Try.func136, Try.ntmps136
  go_wp2_with fail
  go_loopw [5, 6, 7] (fun u v i wr => ∃ (k : Nat), k ≤ xs.length ∧ i = .int .i64 k ∧ wr.ownsRow w.heap.size 3 1 u k (iv ((xs.take k).map Pod.cpu)) ∧ wr.ownsRow w.heap.size 3 1 v k (iv ((xs.take k).map Pod.mem)) ∧ RowsApart u v ∧ Below w.heap.size w wr) (fun _ _ i _ => xs.length - (intOf i).toNat)
  case atStart =>
    refine ⟨0, Nat.zero_le _, rfl, ?_, ?_, ?_, ext_alloc (ext_alloc (ext_refl _) _) _⟩
    · exact (World.ownsRow_made w #[] 0 (Nat.le_refl _) (by unfold maxLen; omega) rfl).alloc _
    · have := World.ownsRow_made (base := w.heap.size) (e := 3) (size := 1) (w.alloc (.cells #[] 3)) #[] 0 (by simp) (by unfold maxLen; omega) rfl
      simpa [iv] using this
    · right; simp [Value.ownBlock]
  case round =>
    obtain ⟨k, hk, rfl, hu, hv, hap, hbl⟩ := hrel
    have hlts := hu.lt
    by_cases hlt : k < xs.length
    · obtain ⟨b, o, ck, Fk, rfl, hbF, hbs, hr, hsub, hc⟩ := (Sl.ext (w' := wr) (A := A) (c := c) h hbl).get hlt
      have hbw := h.lt b hbF
      obtain ⟨Alabels, clabels, Flabels, Aneeds, cneeds, Fneeds, Atolerances, ctolerances, Ftolerances, hck, hFk, hname, hlabels, hcpu, hmem, hrank, hneeds, htolerances⟩ := rd_Pod hr
      subst hck
      have q0 : wr.cell? ⟨b, o + k * 7, none⟩ = some (.string xs[k].name) := by exact hc 0 _ rfl
      have q1 : wr.cell? ⟨b, o + k * 7 + 1, none⟩ = some (.slice Alabels xs[k].labels.length clabels) := by rw [Nat.add_assoc]; exact hc 1 _ rfl
      have q2 : wr.cell? ⟨b, o + k * 7 + 2, none⟩ = some (.int .i64 xs[k].cpu) := by rw [Nat.add_assoc]; exact hc 2 _ rfl
      have q3 : wr.cell? ⟨b, o + k * 7 + 3, none⟩ = some (.int .i64 xs[k].mem) := by rw [Nat.add_assoc]; exact hc 3 _ rfl
      have q4 : wr.cell? ⟨b, o + k * 7 + 4, none⟩ = some (.int .i64 xs[k].rank) := by rw [Nat.add_assoc]; exact hc 4 _ rfl
      have q5 : wr.cell? ⟨b, o + k * 7 + 5, none⟩ = some (.slice Aneeds xs[k].needs.length cneeds) := by rw [Nat.add_assoc]; exact hc 5 _ rfl
      have q6 : wr.cell? ⟨b, o + k * 7 + 6, none⟩ = some (.slice Atolerances xs[k].tolerances.length ctolerances) := by rw [Nat.add_assoc]; exact hc 6 _ rfl
      clear hc
      go_wp2_with (first
        | (at_builtin
           refine wpList_append2 elInt (by rfl) _ _ (by rfl) _ _ _ _ _ hu (by rfl) [.int .i64 xs[k].cpu] (by first | rfl | (simp; rfl)) (by rfl) (by simp [Value.oneCell']) (by omega) (by omega) (hbl.size) ?_
           intro u2 w2 hu2 hg2 hz2 hat2
           have hne : some b ≠ u5.ownBlock := by intro e; have := hu.lt _ e.symm; omega
           replace q3 := hg2.cell q3 hne
           have hb2 : Below w.heap.size w w2 := grown_ext hu hg2 hbl hbl.size
           have hv2 := hv.kept hg2 hap.symm
           have hap2 := hap.grow (N := _) hv (by omega) hat2)
        | (at_builtin
           refine wpList_append2 elInt (by rfl) _ _ (by rfl) _ _ _ _ _ hv2 (by rfl) [.int .i64 xs[k].mem] (by first | rfl | (simp; rfl)) (by rfl) (by simp [Value.oneCell']) (by omega) (by omega) (hb2.size) ?_
           intro v2 w3 hv3 hg3 hz3 hat3
           have hu3 := hu2.kept hg3 hap2
           have hap3 : RowsApart v2 u2 := hap2.symm.grow (N := _) hu2 (by omega) hat3
           have hb3 := grown_ext hv2 hg3 hb2 hb2.size))
      refine ⟨⟨k + 1, by omega, by go_num, by rw [iv_take _ _ _ hlt]; exact hu3, by rw [iv_take _ _ _ hlt]; exact hv3, hap3.symm, hb3⟩, by simp [intOf]; omega⟩
    · have hkl : k = xs.length := by omega
      subst hkl
      rw [List.take_length] at hu hv
      obtain ⟨Au, cu, Gu, rfl, hsu⟩ := Sl.of_row (xs := xs.map Pod.cpu) (by rw [List.length_map]; exact hu) (rdCells_ints wr _ (by intro y hy; obtain ⟨p, hp, rfl⟩ := List.mem_map.1 hy; exact (hI.out p hp).1))
      obtain ⟨Av, cv, Gv, rfl, hsv⟩ := Sl.of_row (xs := xs.map Pod.mem) (by rw [List.length_map]; exact hv) (rdCells_ints wr _ (by intro y hy; obtain ⟨p, hp, rfl⟩ := List.mem_map.1 hy; exact (hI.out p hp).2.1))
      clear hu hv hap
      rcases hr1 : sumI (xs.map Pod.cpu) 0 with _ | a <;> rcases hr2 : sumI (xs.map Pod.mem) 0 with _ | b
      all_goals
        have hfin : sumsR xs = _ := (by unfold sumsR; rw [hr1, hr2])
        have HF := Lib.hid hfin
        have R1 := Lib.hid hr1
        have R2 := Lib.hid hr2
        clear hr1 hr2 hfin
        go_wp2_with fail
        refine (SumInts_spec (xs.map Pod.cpu) Au _ cu Gu _ hsu (by simp) (by rw [List.length_map]; exact hl)).mono ?_
        rw [R1.out]
        rintro e w2 ⟨rfl, hb2⟩
        go_wp2_with fail
        refine (SumInts_spec (xs.map Pod.mem) Av _ cv Gv _ (hsv.ext hb2) (by simp) (by rw [List.length_map]; exact hl)).mono ?_
        rw [R2.out]
        rintro e w3 ⟨rfl, hb3⟩
        go_wp2
        go_returns
        exact ⟨by rw [HF.out]; rfl, ext_trans (ext_trans hbl hb2) hb3⟩

end Go.Proofs.Ytaljcihfkblncaa
