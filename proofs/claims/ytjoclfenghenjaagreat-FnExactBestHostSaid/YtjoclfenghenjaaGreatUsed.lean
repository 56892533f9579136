/- UsedOn, of the program and of the reference. No condition. -/
import Derived.Test.YtjoclfenghenjaaGreatSums0
namespace Go.Proofs.YtjoclfenghenjaaGreat
open Go.ChangeShapes Go.WideShapes Go.ChangeAt Go.RowKit
set_option linter.unusedVariables false
set_option linter.unusedSimpArgs false

/-- the pods that stand on the host nm -/
def onP (nm : ByteArray) (p : Placed) : Bool := !(nm.toList == []) && (p.on.toList == nm.toList)
def onL (nm : ByteArray) (xs : List Placed) : List Pod := (xs.filter (onP nm)).map Placed.pod
theorem onL_yes {nm : ByteArray} {xs : List Placed} {k : Nat} (h : k < xs.length) (hp : onP nm xs[k] = true) : onL nm (xs.take (k + 1)) = onL nm (xs.take k) ++ [xs[k].pod] := by
  unfold onL; rw [List.take_succ_eq_append_getElem h, List.filter_append, List.map_append]; simp [hp]
theorem onL_no {nm : ByteArray} {xs : List Placed} {k : Nat} (h : k < xs.length) (hp : onP nm xs[k] = false) : onL nm (xs.take (k + 1)) = onL nm (xs.take k) := by
  unfold onL; rw [List.take_succ_eq_append_getElem h, List.filter_append, List.map_append]; simp [hp]
theorem onL_len (nm : ByteArray) (xs : List Placed) : (onL nm xs).length ≤ xs.length := by unfold onL; rw [List.length_map]; exact List.length_filter_le _ _
theorem onL_len_take (nm : ByteArray) (xs : List Placed) (k : Nat) : (onL nm (xs.take k)).length ≤ k := Nat.le_trans (onL_len _ _) (by rw [List.length_take]; omega)
theorem onL_empty (nm : ByteArray) (xs : List Placed) (h : nm.toList = []) : onL nm xs = [] := by
  unfold onL onP; simp [h]
def usedV (nm : ByteArray) (xs : List Placed) : Value :=
  match sumsR (onL nm xs) with
  | some (a, b) => .tuple #[.int .i64 a, .int .i64 b, .int .i64 (onL nm xs).length, .bool true]
  | none => .tuple #[.int .i64 0, .int .i64 0, .int .i64 0, .bool false]
theorem infoPodU : (Tryz.prog.info? 55).map (fun i => (i.zero, i.size, i.bytes)) = some (some (.agg #[.string ⟨#[]⟩, .slice none 0 0, .int .i64 0, .int .i64 0, .int .i64 0, .slice none 0 0, .slice none 0 0]), 7, 112) := by kernel_rfl
theorem elPodU : ElOk Tryz.prog 155 55 (.agg #[.string ⟨#[]⟩, .slice none 0 0, .int .i64 0, .int .i64 0, .int .i64 0, .slice none 0 0, .slice none 0 0]) 7 112 := ⟨Tryz.underlying155, infoPodU, rfl, by omega⟩
set_option maxRecDepth 100000 in
set_option maxHeartbeats 1000000 in
theorem UsedOn_impl (x : Cluster) (cs : List Value) (F : List Nat) (nm : ByteArray) (w : World) (h : rd w x cs F) (hl : (x.pods.length : Int) ≤ 1048576) :
    Calls Tryz.prog 89 #[.agg cs.toArray, .string nm] w fun e w' => e = .returned (usedV nm x.pods) ∧ Below w.heap.size w w' := by
  obtain ⟨Ahosts, chosts, Fhosts, Apods, cpods, Fpods, hck, hF0, hhosts, hpods, hnext, hweightspack, hweightsspread, hweightssoft⟩ := rd_Cluster h
  subst hck
  clear hF0
  go_enter Tryz.func89, Tryz.ntmps89
  go_wp2_with fail
  go_loopw [8, 18] (fun v i wr => ∃ (k : Nat) (ds : List Value) (G : List Nat), k ≤ x.pods.length ∧ i = .int .i64 k ∧ wr.ownsRow (w.heap.size + 1) 55 7 v (onL nm (x.pods.take k)).length ds ∧ rdCells w (onL nm (x.pods.take k)) ds G ∧ wr.cell? ⟨w.heap.size, 1, none⟩ = some (.slice Apods x.pods.length cpods) ∧ Below w.heap.size w wr) (fun _ i _ => x.pods.length - (intOf i).toNat)
  case atStart =>
    refine ⟨0, [], [], Nat.zero_le _, rfl, ?_, ⟨rfl, rfl⟩, ?_, ext_alloc (ext_alloc (ext_refl _) _) _⟩
    · have := World.ownsRow_made (base := w.heap.size + 1) (e := 55) (size := 7) (w.alloc (.cells #[.slice Ahosts x.hosts.length chosts, .slice Apods x.pods.length cpods, .int .i64 x.next, .int .i64 x.weights.pack, .int .i64 x.weights.spread, .int .i64 x.weights.soft] 33)) #[] 0 (by simp) (by unfold maxLen; omega) rfl
      simpa [onL] using this
    · rw [World.cell?_of_block (heap_alloc_old _ _ (by simp)), cell_of_row _ _ _ _ _ _ (heap_alloc_new w _)]; rfl
  case round =>
    obtain ⟨k, ds, G, hk, rfl, hown, hcs, hqc, hbl⟩ := hrel
    have hqz : w.heap.size < wr.heap.size := World.block_lt_of_cell? wr _ hqc
    by_cases hlt : k < x.pods.length
    · have hol := onL_len_take nm x.pods k
      have hnq : some w.heap.size ≠ u8.ownBlock := by intro e; have := hown.lt _ e.symm; omega
      obtain ⟨b, o, ck, Fk, rfl, hbF, hbs, hr, hsub, hc⟩ := Sl.get (α := Placed) (A := Apods) (c := cpods) hpods hlt
      obtain ⟨c1, c2, F1, F2, rfl, rfl, hrp, _, _, _, _, rfl, rfl, ⟨rfl, rfl, hon⟩, ⟨rfl, rfl, hseq⟩⟩ := hr
      have hrp0 := hrp
      obtain ⟨Apodlabels, cpodlabels, Fpodlabels, Apodneeds, cpodneeds, Fpodneeds, Apodtolerances, cpodtolerances, Fpodtolerances, hck, hFk, hpodname, hpodlabels, hpodcpu, hpodmem, hpodrank, hpodneeds, hpodtolerances⟩ := rd_Pod hrp
      subst hck
      clear hFk hrp hpodlabels hpodneeds hpodtolerances
      have q0 : w.cell? ⟨b, o + k * 9, none⟩ = some (.string x.pods[k].pod.name) := by exact hc 0 _ rfl
      have q1 : w.cell? ⟨b, o + k * 9 + 1, none⟩ = some (.slice Apodlabels x.pods[k].pod.labels.length cpodlabels) := by rw [Nat.add_assoc]; exact hc 1 _ rfl
      have q2 : w.cell? ⟨b, o + k * 9 + 2, none⟩ = some (.int .i64 x.pods[k].pod.cpu) := by rw [Nat.add_assoc]; exact hc 2 _ rfl
      have q3 : w.cell? ⟨b, o + k * 9 + 3, none⟩ = some (.int .i64 x.pods[k].pod.mem) := by rw [Nat.add_assoc]; exact hc 3 _ rfl
      have q4 : w.cell? ⟨b, o + k * 9 + 4, none⟩ = some (.int .i64 x.pods[k].pod.rank) := by rw [Nat.add_assoc]; exact hc 4 _ rfl
      have q5 : w.cell? ⟨b, o + k * 9 + 5, none⟩ = some (.slice Apodneeds x.pods[k].pod.needs.length cpodneeds) := by rw [Nat.add_assoc]; exact hc 5 _ rfl
      have q6 : w.cell? ⟨b, o + k * 9 + 6, none⟩ = some (.slice Apodtolerances x.pods[k].pod.tolerances.length cpodtolerances) := by rw [Nat.add_assoc]; exact hc 6 _ rfl
      have q7 : w.cell? ⟨b, o + k * 9 + 7, none⟩ = some (.string x.pods[k].on) := by rw [Nat.add_assoc]; exact hc 7 _ rfl
      have q8 : w.cell? ⟨b, o + k * 9 + 8, none⟩ = some (.int .i64 x.pods[k].seq) := by rw [Nat.add_assoc]; exact hc 8 _ rfl
      clear hc
      replace q0 := ((bcell hbl).1 b _ hbs).trans q0
      replace q1 := ((bcell hbl).1 b _ hbs).trans q1
      replace q2 := ((bcell hbl).1 b _ hbs).trans q2
      replace q3 := ((bcell hbl).1 b _ hbs).trans q3
      replace q4 := ((bcell hbl).1 b _ hbs).trans q4
      replace q5 := ((bcell hbl).1 b _ hbs).trans q5
      replace q6 := ((bcell hbl).1 b _ hbs).trans q6
      replace q7 := ((bcell hbl).1 b _ hbs).trans q7
      replace q8 := ((bcell hbl).1 b _ hbs).trans q8
      cases hs1 : (nm.toList == []) <;> cases hs2 : (x.pods[k].on.toList == nm.toList)
      all_goals
        have hp : onP nm x.pods[k] = _ := (by unfold onP; rw [hs1, hs2])
        simp only [Bool.not_true, Bool.not_false, Bool.true_and, Bool.false_and] at hp
        have HP := Lib.hid hp
        clear hp
        go_wp2_with (
         at_builtin
         go_must (refine wpList_append1 elPodU (by rfl) _ _ (by rfl) _ _ _ _ _ (hown.alloc _) (by rfl) [.string x.pods[k].pod.name, .slice Apodlabels x.pods[k].pod.labels.length cpodlabels, .int .i64 x.pods[k].pod.cpu, .int .i64 x.pods[k].pod.mem, .int .i64 x.pods[k].pod.rank, .slice Apodneeds x.pods[k].pod.needs.length cpodneeds, .slice Apodtolerances x.pods[k].pod.tolerances.length cpodtolerances] (by first | rfl | (simp; rfl)) (by rfl) (by simp [Value.oneCell']) (by omega) (by omega) (by have := hbl.size; (try simp); omega) ?_)
         intro v2 w2 hown2 hg2 hz2
         go_must (have hb2 : Below w.heap.size w w2 := grown_ext (B := w.heap.size) ((row_mono hown (Nat.le_succ _)).alloc _) hg2 (ext_alloc hbl _) (by have := hbl.size; simp; omega))
         go_must (have hqc2 := hg2.cell ((World.cell?_of_block (heap_alloc_old wr _ (by omega))).trans hqc) hnq))
        first
          | exact ⟨⟨k + 1, _, _, by omega, by go_num, (by rw [onL_no hlt HP.out]; exact hown), (by rw [onL_no hlt HP.out]; exact hcs), hqc, hbl⟩, by simp [intOf]; omega⟩
          | exact ⟨⟨k + 1, _, _, by omega, by go_num, (by rw [onL_yes hlt HP.out, List.length_append]; exact hown2), (by rw [onL_yes hlt HP.out]; exact hcs.append (.single hrp0)), hqc2, hb2⟩, by simp [intOf]; omega⟩
          | exact ⟨⟨k + 1, _, _, by omega, by go_num, (by rw [onL_no hlt HP.out]; exact hown.alloc _), (by rw [onL_no hlt HP.out]; exact hcs), (World.cell?_of_block (heap_alloc_old wr _ (by omega))).trans hqc, ext_alloc hbl _⟩, by simp [intOf]; omega⟩
    · have hkl : k = x.pods.length := by omega
      subst hkl
      rw [List.take_length] at hown hcs
      obtain ⟨Al, cl, Gl, rfl, hsl⟩ := Sl.of_row hown (hcs.frame (fun b hb => hbl.block b (hcs.lt b hb)) hbl.size)
      have hol := onL_len nm x.pods
      clear hown hcs
      rcases hr1 : sumsR (onL nm x.pods) with _ | ⟨a, b⟩
      all_goals
        have hfin : usedV nm x.pods = _ := (by unfold usedV; rw [hr1])
        have HF := Lib.hid hfin
        have R1 := Lib.hid hr1
        clear hr1 hfin
        go_wp2_with fail
        refine (SumsOf_impl (onL nm x.pods) Al _ cl Gl _ hsl rfl (by omega)).mono ?_
        rw [R1.out]
        simp only [sumsV]
        rintro e w2 ⟨rfl, hb2⟩
        go_wp2
        go_returns
        exact ⟨by rw [HF.out], ext_trans hbl hb2⟩
set_option maxRecDepth 100000 in
set_option maxHeartbeats 1000000 in
theorem UsedOn_spec (x : Cluster) (cs : List Value) (F : List Nat) (nm : ByteArray) (w : World) (h : rd w x cs F) (hl : (x.pods.length : Int) ≤ 1048576) :
    Calls Tryz.prog 83 #[.agg cs.toArray, .string nm] w fun e w' => e = .returned (usedV nm x.pods) ∧ Below w.heap.size w w' := by
  obtain ⟨Ahosts, chosts, Fhosts, Apods, cpods, Fpods, hck, hF0, hhosts, hpods, hnext, hweightspack, hweightsspread, hweightssoft⟩ := rd_Cluster h
  subst hck
  clear hF0
  go_enter Tryz.func83, Tryz.ntmps83
  go_wp2_with fail
  go_loopw [8, 9] (fun v i wr => ∃ (k : Nat) (ds : List Value) (G : List Nat), k ≤ x.pods.length ∧ i = .int .i64 k ∧ wr.ownsRow (w.heap.size + 1) 55 7 v (onL nm (x.pods.take k)).length ds ∧ rdCells w (onL nm (x.pods.take k)) ds G ∧ wr.cell? ⟨w.heap.size, 1, none⟩ = some (.slice Apods x.pods.length cpods) ∧ Below w.heap.size w wr) (fun _ i _ => x.pods.length - (intOf i).toNat)
  case atStart =>
    refine ⟨0, [], [], Nat.zero_le _, rfl, ?_, ⟨rfl, rfl⟩, ?_, ext_alloc (ext_alloc (ext_refl _) _) _⟩
    · have := World.ownsRow_made (base := w.heap.size + 1) (e := 55) (size := 7) (w.alloc (.cells #[.slice Ahosts x.hosts.length chosts, .slice Apods x.pods.length cpods, .int .i64 x.next, .int .i64 x.weights.pack, .int .i64 x.weights.spread, .int .i64 x.weights.soft] 33)) #[] 0 (by simp) (by unfold maxLen; omega) rfl
      simpa [onL] using this
    · rw [World.cell?_of_block (heap_alloc_old _ _ (by simp)), cell_of_row _ _ _ _ _ _ (heap_alloc_new w _)]; rfl
  case round =>
    obtain ⟨k, ds, G, hk, rfl, hown, hcs, hqc, hbl⟩ := hrel
    have hqz : w.heap.size < wr.heap.size := World.block_lt_of_cell? wr _ hqc
    cases hs1 : (nm.toList == []) with
    | true =>
      have he : nm.toList = [] := by simpa using hs1
      rw [onL_empty nm _ he, ← onL_empty nm x.pods he] at hown hcs
      by_cases hlt : k < x.pods.length
      all_goals
        obtain ⟨Al, cl, Gl, rfl, hsl⟩ := Sl.of_row hown (hcs.frame (fun b hb => hbl.block b (hcs.lt b hb)) hbl.size)
        have hol := onL_len nm x.pods
        clear hown hcs
        rcases hr1 : sumsR (onL nm x.pods) with _ | ⟨a, b⟩
        all_goals
          have hfin : usedV nm x.pods = _ := (by unfold usedV; rw [hr1])
          have HF := Lib.hid hfin
          have R1 := Lib.hid hr1
          clear hr1 hfin
          go_wp2_with fail
          refine (SumsOf_spec (onL nm x.pods) Al _ cl Gl _ hsl rfl (by omega)).mono ?_
          rw [R1.out]
          simp only [sumsV]
          rintro e w2 ⟨rfl, hb2⟩
          go_wp2
          go_returns
          exact ⟨by rw [HF.out], ext_trans hbl hb2⟩
    | false =>
      by_cases hlt : k < x.pods.length
      · have hol := onL_len_take nm x.pods k
        have hnq : some w.heap.size ≠ u8.ownBlock := by intro e; have := hown.lt _ e.symm; omega
        obtain ⟨b, o, ck, Fk, rfl, hbF, hbs, hr, hsub, hc⟩ := Sl.get (α := Placed) (A := Apods) (c := cpods) hpods hlt
        obtain ⟨c1, c2, F1, F2, rfl, rfl, hrp, _, _, _, _, rfl, rfl, ⟨rfl, rfl, hon⟩, ⟨rfl, rfl, hseq⟩⟩ := hr
        have hrp0 := hrp
        obtain ⟨Apodlabels, cpodlabels, Fpodlabels, Apodneeds, cpodneeds, Fpodneeds, Apodtolerances, cpodtolerances, Fpodtolerances, hck, hFk, hpodname, hpodlabels, hpodcpu, hpodmem, hpodrank, hpodneeds, hpodtolerances⟩ := rd_Pod hrp
        subst hck
        clear hFk hrp hpodlabels hpodneeds hpodtolerances
        have q0 : w.cell? ⟨b, o + k * 9, none⟩ = some (.string x.pods[k].pod.name) := by exact hc 0 _ rfl
        have q1 : w.cell? ⟨b, o + k * 9 + 1, none⟩ = some (.slice Apodlabels x.pods[k].pod.labels.length cpodlabels) := by rw [Nat.add_assoc]; exact hc 1 _ rfl
        have q2 : w.cell? ⟨b, o + k * 9 + 2, none⟩ = some (.int .i64 x.pods[k].pod.cpu) := by rw [Nat.add_assoc]; exact hc 2 _ rfl
        have q3 : w.cell? ⟨b, o + k * 9 + 3, none⟩ = some (.int .i64 x.pods[k].pod.mem) := by rw [Nat.add_assoc]; exact hc 3 _ rfl
        have q4 : w.cell? ⟨b, o + k * 9 + 4, none⟩ = some (.int .i64 x.pods[k].pod.rank) := by rw [Nat.add_assoc]; exact hc 4 _ rfl
        have q5 : w.cell? ⟨b, o + k * 9 + 5, none⟩ = some (.slice Apodneeds x.pods[k].pod.needs.length cpodneeds) := by rw [Nat.add_assoc]; exact hc 5 _ rfl
        have q6 : w.cell? ⟨b, o + k * 9 + 6, none⟩ = some (.slice Apodtolerances x.pods[k].pod.tolerances.length cpodtolerances) := by rw [Nat.add_assoc]; exact hc 6 _ rfl
        have q7 : w.cell? ⟨b, o + k * 9 + 7, none⟩ = some (.string x.pods[k].on) := by rw [Nat.add_assoc]; exact hc 7 _ rfl
        have q8 : w.cell? ⟨b, o + k * 9 + 8, none⟩ = some (.int .i64 x.pods[k].seq) := by rw [Nat.add_assoc]; exact hc 8 _ rfl
        clear hc
        replace q0 := ((bcell hbl).1 b _ hbs).trans q0
        replace q1 := ((bcell hbl).1 b _ hbs).trans q1
        replace q2 := ((bcell hbl).1 b _ hbs).trans q2
        replace q3 := ((bcell hbl).1 b _ hbs).trans q3
        replace q4 := ((bcell hbl).1 b _ hbs).trans q4
        replace q5 := ((bcell hbl).1 b _ hbs).trans q5
        replace q6 := ((bcell hbl).1 b _ hbs).trans q6
        replace q7 := ((bcell hbl).1 b _ hbs).trans q7
        replace q8 := ((bcell hbl).1 b _ hbs).trans q8
        cases hs2 : (x.pods[k].on.toList == nm.toList)
        all_goals
          have hp : onP nm x.pods[k] = _ := (by unfold onP; rw [hs1, hs2])
          simp only [Bool.not_true, Bool.not_false, Bool.true_and, Bool.false_and] at hp
          have HP := Lib.hid hp
          clear hp
          go_wp2_with (
           at_builtin
           go_must (refine wpList_append1 elPodU (by rfl) _ _ (by rfl) _ _ _ _ _ hown (by rfl) [.string x.pods[k].pod.name, .slice Apodlabels x.pods[k].pod.labels.length cpodlabels, .int .i64 x.pods[k].pod.cpu, .int .i64 x.pods[k].pod.mem, .int .i64 x.pods[k].pod.rank, .slice Apodneeds x.pods[k].pod.needs.length cpodneeds, .slice Apodtolerances x.pods[k].pod.tolerances.length cpodtolerances] (by first | rfl | (simp; rfl)) (by rfl) (by simp [Value.oneCell']) (by omega) (by omega) (by have := hbl.size; (try simp); omega) ?_)
           intro v2 w2 hown2 hg2 hz2
           go_must (have hb2 : Below w.heap.size w w2 := grown_ext (row_mono hown (Nat.le_succ _)) hg2 hbl hbl.size)
           go_must (have hqc2 := hg2.cell hqc hnq))
          first
            | exact ⟨⟨k + 1, _, _, by omega, by go_num, (by rw [onL_no hlt HP.out]; exact hown), (by rw [onL_no hlt HP.out]; exact hcs), hqc, hbl⟩, by simp [intOf]; omega⟩
            | exact ⟨⟨k + 1, _, _, by omega, by go_num, (by rw [onL_yes hlt HP.out, List.length_append]; exact hown2), (by rw [onL_yes hlt HP.out]; exact hcs.append (.single hrp0)), hqc2, hb2⟩, by simp [intOf]; omega⟩
            | exact ⟨⟨k + 1, _, _, by omega, by go_num, (by rw [onL_no hlt HP.out]; exact hown.alloc _), (by rw [onL_no hlt HP.out]; exact hcs), (World.cell?_of_block (heap_alloc_old wr _ (by omega))).trans hqc, ext_alloc hbl _⟩, by simp [intOf]; omega⟩
      · have hkl : k = x.pods.length := by omega
        subst hkl
        rw [List.take_length] at hown hcs
        obtain ⟨Al, cl, Gl, rfl, hsl⟩ := Sl.of_row hown (hcs.frame (fun b hb => hbl.block b (hcs.lt b hb)) hbl.size)
        have hol := onL_len nm x.pods
        clear hown hcs
        rcases hr1 : sumsR (onL nm x.pods) with _ | ⟨a, b⟩
        all_goals
          have hfin : usedV nm x.pods = _ := (by unfold usedV; rw [hr1])
          have HF := Lib.hid hfin
          have R1 := Lib.hid hr1
          clear hr1 hfin
          go_wp2_with fail
          refine (SumsOf_spec (onL nm x.pods) Al _ cl Gl _ hsl rfl (by omega)).mono ?_
          rw [R1.out]
          simp only [sumsV]
          rintro e w2 ⟨rfl, hb2⟩
          go_wp2
          go_returns
          exact ⟨by rw [HF.out], ext_trans hbl hb2⟩

end Go.Proofs.YtjoclfenghenjaaGreat
