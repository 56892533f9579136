/- laws' size checks. -/
import Derived.Test.YtjoclfenghenjaaData
namespace Go.Proofs.Ytjoclfenghenjaa
open Go.ChangeShapes Go.WideShapes Go.ChangeAt Go.RowKit
set_option linter.unusedVariables false
set_option linter.unusedSimpArgs false

theorem ret_int {k : IntKind} {a b : Int} (h : a = b) : Ending.returned (.int k a) = .returned (.int k b) := by rw [h]
/-- what a size check leaves: -1 where it does not fit -/
def szR (a : Nat) (left : Int) : Int := if left < a then -1 else left - a
theorem szR_spec (a : Nat) (left : Int) : (left < a ∧ szR a left = -1) ∨ (a ≤ left ∧ szR a left = left - a) := by unfold szR; split <;> omega
theorem szR_le {a : Nat} {left : Int} (h0 : 0 ≤ left) : szR a left ≤ left := by have := szR_spec a left; omega
theorem szR_no {a : Nat} {left : Int} (h : left - a < 0) : szR a left = -1 := by have := szR_spec a left; omega
/-- the weight of a list: its length, and its elements' -/
def wtL {α : Type} (f : α → Nat) (xs : List α) : Nat := xs.length + (xs.map f).sum
abbrev wtS (xs : List ByteArray) : Nat := wtL ByteArray.size xs
def wtSum {α : Type} (f : α → Nat) (xs : List α) : Nat := (xs.map f).sum
theorem wtL_eq {α : Type} (f : α → Nat) (xs : List α) : wtL f xs = xs.length + wtSum f xs := rfl
theorem wtSum_take {α : Type} (f : α → Nat) (xs : List α) (k : Nat) (h : k < xs.length) : wtSum f (xs.take (k + 1)) = wtSum f (xs.take k) + f xs[k] := by
  unfold wtSum
  rw [List.take_succ_eq_append_getElem h, List.map_append, List.sum_append]
  simp [-List.map_take]
theorem wtSum_le {α : Type} (f : α → Nat) (xs : List α) (k : Nat) : wtSum f (xs.take k) ≤ wtSum f xs := by
  unfold wtSum
  conv => rhs; rw [← List.take_append_drop k xs]
  rw [List.map_append, List.sum_append]
  omega
theorem wtL_mem {α : Type} {f : α → Nat} {xs : List α} {x : α} (h : x ∈ xs) : f x ≤ wtL f xs := by
  unfold wtL
  induction xs with
  | nil => cases h
  | cons y ys ih =>
    rcases List.mem_cons.1 h with rfl | h
    · simp; omega
    · have := ih h; simp at this ⊢; omega
theorem wtL_get {α : Type} {f : α → Nat} {xs : List α} {k : Nat} (h : k < xs.length) : f xs[k] ≤ wtL f xs := wtL_mem (List.getElem_mem h)
theorem wtL_len {α : Type} (f : α → Nat) (xs : List α) : xs.length ≤ wtL f xs := by unfold wtL; omega
set_option maxHeartbeats 400000 in
theorem szStringS_any (xs : List ByteArray) (A : Option Addr) (c : Nat) (F : List Nat) (left : Int) (w : World) (h : Sl w xs A c F) (h0 : 0 ≤ left) (h1 : left ≤ 1048576) :
    Calls Try.prog 72 #[.slice A xs.length c, .int .i64 left] w fun e w' => e = .returned (.int .i64 (szR (wtL ByteArray.size xs) left)) ∧ Below w.heap.size w w' := by
  have hc := h.cap
  unfold maxLen at hc
  obtain ⟨hc1, hc2⟩ := hc
  have hwl := wtL_eq ByteArray.size xs
  have HWL := Lib.hid hwl
  by_cases hl : left - xs.length < 0
  · have hfin : szR (wtL ByteArray.size xs) left = -1 := szR_no (by omega)
    have HF := Lib.hid hfin
    clear hfin hwl
    go_enter Try.func72, Try.ntmps72
    go_wp2
    go_ret
    exact ⟨ret_int HF.out.symm, ext_refl _⟩
  · clear hwl
    go_enter Try.func72, Try.ntmps72
    go_wp2
    go_loopw [1, 5] (fun l i wr => ∃ k : Nat, k ≤ xs.length ∧ i = .int .i64 k ∧ (xs.length + wtSum ByteArray.size (xs.take k) : Int) ≤ left ∧ l = .int .i64 (left - xs.length - wtSum ByteArray.size (xs.take k)) ∧ Below w.heap.size w wr) (fun _ i _ => xs.length - (intOf i).toNat)
    case atStart => exact ⟨0, Nat.zero_le _, rfl, by simp [wtSum]; omega, by simp [wtSum], ext_refl _⟩
    case round =>
      obtain ⟨k, hk, rfl, hle, rfl, hbl⟩ := hrel
      by_cases hlt : k < xs.length
      · obtain ⟨b, o, ck, Fk, rfl, hbF, hbs, hr, hsub, hc⟩ := (h.ext hbl).get hlt
        obtain ⟨rfl, rfl, hs0⟩ := hr
        unfold maxLen at hs0
        have q0 : wr.cell? ⟨b, o + k, none⟩ = some (.string xs[k]) := by have := hc 0 _ rfl; simpa [Dat.size] using this
        clear hc
        have hst := wtSum_take ByteArray.size xs k hlt
        have hle2 := wtSum_le ByteArray.size xs (k + 1)
        have Hst := Lib.hid hst
        clear hst
        go_wp2
        · rename_i hneg
          go_ret
          have h4 := Hst.out
          have h5 := HWL.out
          skip
          exact ⟨ret_int (szR_no (by omega)).symm, hbl⟩
        · rename_i hpos
          have h4 := Hst.out
          skip
          exact ⟨⟨k + 1, by omega, by go_num, by omega, by congr 1; omega, hbl⟩, by simp [intOf]; omega⟩
      · go_wp2
        go_ret
        have : k = xs.length := by omega
        subst this
        rw [List.take_length] at hle ⊢
        have h3 := szR_spec (wtL ByteArray.size xs) left
        have h5 := HWL.out
        exact ⟨ret_int (by omega), hbl⟩
def Label.wt (x : Label) : Nat := x.key.size + x.value.size
set_option maxHeartbeats 1000000 in
theorem szLabel_any (x : Label) (cs : List Value) (F : List Nat) (left : Int) (w : World) (h : rd w x cs F) (h0 : 0 ≤ left) (h1 : left ≤ 1048576) :
    Calls Try.prog 52 #[.agg cs.toArray, .int .i64 left] w fun e w' => e = .returned (.int .i64 (szR x.wt left)) ∧ Below w.heap.size w w' := by
  obtain ⟨_, _, _, _, rfl, rfl, ⟨rfl, rfl, hkey⟩, ⟨rfl, rfl, hvalue⟩⟩ := h
  replace hkey := sz63 (s := x.key) hkey
  replace hvalue := sz63 (s := x.value) hvalue
  simp only [List.cons_append, List.nil_append]
  go_enter Try.func52, Try.ntmps52
  go_wp2
  all_goals go_ret
  all_goals refine ⟨ret_int ?_, by repeat (first | exact ext_refl _ | assumption | refine ext_alloc ?_ _ | refine ext_trans ?_ (by assumption))⟩
  all_goals have s99 := szR_spec x.wt left
  all_goals (unfold Label.wt at s99 ⊢; try unfold wtS at s99 ⊢)
  all_goals omega
set_option maxHeartbeats 400000 in
theorem szLabelS_any (xs : List Label) (A : Option Addr) (c : Nat) (F : List Nat) (left : Int) (w : World) (h : Sl w xs A c F) (h0 : 0 ≤ left) (h1 : left ≤ 1048576) :
    Calls Try.prog 41 #[.slice A xs.length c, .int .i64 left] w fun e w' => e = .returned (.int .i64 (szR (wtL Label.wt xs) left)) ∧ Below w.heap.size w w' := by
  have hc := h.cap
  unfold maxLen at hc
  obtain ⟨hc1, hc2⟩ := hc
  have hwl := wtL_eq Label.wt xs
  have HWL := Lib.hid hwl
  by_cases hl : left - xs.length < 0
  · have hfin : szR (wtL Label.wt xs) left = -1 := szR_no (by omega)
    have HF := Lib.hid hfin
    clear hfin hwl
    go_enter Try.func41, Try.ntmps41
    go_wp2
    go_ret
    exact ⟨ret_int HF.out.symm, ext_refl _⟩
  · clear hwl
    go_enter Try.func41, Try.ntmps41
    go_wp2
    go_loopw [1, 5] (fun l i wr => ∃ k : Nat, k ≤ xs.length ∧ i = .int .i64 k ∧ (xs.length + wtSum Label.wt (xs.take k) : Int) ≤ left ∧ l = .int .i64 (left - xs.length - wtSum Label.wt (xs.take k)) ∧ Below w.heap.size w wr) (fun _ i _ => xs.length - (intOf i).toNat)
    case atStart => exact ⟨0, Nat.zero_le _, rfl, by simp [wtSum]; omega, by simp [wtSum], ext_refl _⟩
    case round =>
      obtain ⟨k, hk, rfl, hle, rfl, hbl⟩ := hrel
      by_cases hlt : k < xs.length
      · obtain ⟨b, o, ck, Fk, rfl, hbF, hbs, hr, hsub, hc⟩ := (h.ext hbl).get hlt
        obtain ⟨hck, rfl, hkey, hvalue⟩ := rd_Label hr
        subst hck
        have q0 : wr.cell? ⟨b, o + k * 2, none⟩ = some (.string xs[k].key) := by exact hc 0 _ rfl
        have q1 : wr.cell? ⟨b, o + k * 2 + 1, none⟩ = some (.string xs[k].value) := by rw [Nat.add_assoc]; exact hc 1 _ rfl
        clear hc
        have hst := wtSum_take Label.wt xs k hlt
        have hle2 := wtSum_le Label.wt xs (k + 1)
        have Hst := Lib.hid hst
        clear hst
        go_wp2_with (go_at_call 52; refine (szLabel_any xs[k] _ _ _ _ hr (by omega) (by omega)).mono ?_; rintro e w2 ⟨rfl, hb2⟩)
        · rename_i hneg
          go_ret
          have h4 := Hst.out
          have h5 := HWL.out
          have h3 := szR_spec (Label.wt xs[k]) (left - xs.length - wtSum Label.wt (xs.take k))
          exact ⟨ret_int (szR_no (by omega)).symm, ext_trans hbl hb2⟩
        · rename_i hpos
          have h4 := Hst.out
          have h3 := szR_spec (Label.wt xs[k]) (left - xs.length - wtSum Label.wt (xs.take k))
          exact ⟨⟨k + 1, by omega, by go_num, by omega, by congr 1; omega, ext_trans hbl hb2⟩, by simp [intOf]; omega⟩
      · go_wp2
        go_ret
        have : k = xs.length := by omega
        subst this
        rw [List.take_length] at hle ⊢
        have h3 := szR_spec (wtL Label.wt xs) left
        have h5 := HWL.out
        exact ⟨ret_int (by omega), hbl⟩
def Need.wt (x : Need) : Nat := x.key.size + wtS x.values
set_option maxHeartbeats 1000000 in
theorem szNeed_any (x : Need) (cs : List Value) (F : List Nat) (left : Int) (w : World) (h : rd w x cs F) (h0 : 0 ≤ left) (h1 : left ≤ 1048576) :
    Calls Try.prog 65 #[.agg cs.toArray, .int .i64 left] w fun e w' => e = .returned (.int .i64 (szR x.wt left)) ∧ Below w.heap.size w w' := by
  obtain ⟨_, _, _, _, rfl, rfl, ⟨rfl, rfl, hkey⟩, _, _, _, _, rfl, rfl, ⟨rfl, rfl, hop⟩, hvalues⟩ := h
  obtain ⟨Avalues, cvalues, rfl, hvalues⟩ := rd_list hvalues
  replace hkey := sz63 (s := x.key) hkey
  replace hop : I64 x.op := hop
  replace hvalues : Sl _ x.values Avalues cvalues _ := hvalues
  simp only [List.cons_append, List.nil_append]
  go_enter Try.func65, Try.ntmps65
  go_wp2_with (first | (go_at_call 72; refine (szStringS_any x.values _ _ _ _ _ (hvalues.ext (by repeat (first | with_reducible exact ext_refl _ | with_reducible assumption | with_reducible refine ext_alloc ?_ _ | with_reducible refine ext_trans ?_ (by assumption)))) (by omega) (by omega)).mono ?_; rintro e w2 ⟨rfl, hb2⟩; obtain ⟨hc2, hf2⟩ := bcell hb2; have hz20 : w.heap.size < w2.heap.size := (by have := hb2.size; (try simp at this); omega); have hle2 := szR_le (a := wtL ByteArray.size x.values) (left := (left - x.key.size)) (by omega)))
  all_goals go_ret
  all_goals refine ⟨ret_int ?_, by repeat (first | exact ext_refl _ | assumption | refine ext_alloc ?_ _ | refine ext_trans ?_ (by assumption))⟩
  all_goals have s99 := szR_spec x.wt left
  all_goals have s2 := szR_spec (wtL ByteArray.size x.values) (left - x.key.size)
  all_goals (unfold Need.wt at s99 ⊢; try unfold wtS at s99 ⊢)
  all_goals omega
set_option maxHeartbeats 400000 in
theorem szNeedS_any (xs : List Need) (A : Option Addr) (c : Nat) (F : List Nat) (left : Int) (w : World) (h : Sl w xs A c F) (h0 : 0 ≤ left) (h1 : left ≤ 1048576) :
    Calls Try.prog 54 #[.slice A xs.length c, .int .i64 left] w fun e w' => e = .returned (.int .i64 (szR (wtL Need.wt xs) left)) ∧ Below w.heap.size w w' := by
  have hc := h.cap
  unfold maxLen at hc
  obtain ⟨hc1, hc2⟩ := hc
  have hwl := wtL_eq Need.wt xs
  have HWL := Lib.hid hwl
  by_cases hl : left - xs.length < 0
  · have hfin : szR (wtL Need.wt xs) left = -1 := szR_no (by omega)
    have HF := Lib.hid hfin
    clear hfin hwl
    go_enter Try.func54, Try.ntmps54
    go_wp2
    go_ret
    exact ⟨ret_int HF.out.symm, ext_refl _⟩
  · clear hwl
    go_enter Try.func54, Try.ntmps54
    go_wp2
    go_loopw [1, 5] (fun l i wr => ∃ k : Nat, k ≤ xs.length ∧ i = .int .i64 k ∧ (xs.length + wtSum Need.wt (xs.take k) : Int) ≤ left ∧ l = .int .i64 (left - xs.length - wtSum Need.wt (xs.take k)) ∧ Below w.heap.size w wr) (fun _ i _ => xs.length - (intOf i).toNat)
    case atStart => exact ⟨0, Nat.zero_le _, rfl, by simp [wtSum]; omega, by simp [wtSum], ext_refl _⟩
    case round =>
      obtain ⟨k, hk, rfl, hle, rfl, hbl⟩ := hrel
      by_cases hlt : k < xs.length
      · obtain ⟨b, o, ck, Fk, rfl, hbF, hbs, hr, hsub, hc⟩ := (h.ext hbl).get hlt
        obtain ⟨Avalues, cvalues, Fvalues, hck, rfl, hkey, hop, hvalues⟩ := rd_Need hr
        subst hck
        have q0 : wr.cell? ⟨b, o + k * 3, none⟩ = some (.string xs[k].key) := by exact hc 0 _ rfl
        have q1 : wr.cell? ⟨b, o + k * 3 + 1, none⟩ = some (.int .i64 xs[k].op) := by rw [Nat.add_assoc]; exact hc 1 _ rfl
        have q2 : wr.cell? ⟨b, o + k * 3 + 2, none⟩ = some (.slice Avalues xs[k].values.length cvalues) := by rw [Nat.add_assoc]; exact hc 2 _ rfl
        clear hc
        have hst := wtSum_take Need.wt xs k hlt
        have hle2 := wtSum_le Need.wt xs (k + 1)
        have Hst := Lib.hid hst
        clear hst
        go_wp2_with (go_at_call 65; refine (szNeed_any xs[k] _ _ _ _ hr (by omega) (by omega)).mono ?_; rintro e w2 ⟨rfl, hb2⟩)
        · rename_i hneg
          go_ret
          have h4 := Hst.out
          have h5 := HWL.out
          have h3 := szR_spec (Need.wt xs[k]) (left - xs.length - wtSum Need.wt (xs.take k))
          exact ⟨ret_int (szR_no (by omega)).symm, ext_trans hbl hb2⟩
        · rename_i hpos
          have h4 := Hst.out
          have h3 := szR_spec (Need.wt xs[k]) (left - xs.length - wtSum Need.wt (xs.take k))
          exact ⟨⟨k + 1, by omega, by go_num, by omega, by congr 1; omega, ext_trans hbl hb2⟩, by simp [intOf]; omega⟩
      · go_wp2
        go_ret
        have : k = xs.length := by omega
        subst this
        rw [List.take_length] at hle ⊢
        have h3 := szR_spec (wtL Need.wt xs) left
        have h5 := HWL.out
        exact ⟨ret_int (by omega), hbl⟩
def Taint.wt (x : Taint) : Nat := x.key.size + x.value.size
set_option maxHeartbeats 1000000 in
theorem szTaint_any (x : Taint) (cs : List Value) (F : List Nat) (left : Int) (w : World) (h : rd w x cs F) (h0 : 0 ≤ left) (h1 : left ≤ 1048576) :
    Calls Try.prog 53 #[.agg cs.toArray, .int .i64 left] w fun e w' => e = .returned (.int .i64 (szR x.wt left)) ∧ Below w.heap.size w w' := by
  obtain ⟨_, _, _, _, rfl, rfl, ⟨rfl, rfl, hkey⟩, _, _, _, _, rfl, rfl, ⟨rfl, rfl, hvalue⟩, ⟨rfl, rfl, heffect⟩⟩ := h
  replace hkey := sz63 (s := x.key) hkey
  replace hvalue := sz63 (s := x.value) hvalue
  replace heffect : I64 x.effect := heffect
  simp only [List.cons_append, List.nil_append]
  go_enter Try.func53, Try.ntmps53
  go_wp2
  all_goals go_ret
  all_goals refine ⟨ret_int ?_, by repeat (first | exact ext_refl _ | assumption | refine ext_alloc ?_ _ | refine ext_trans ?_ (by assumption))⟩
  all_goals have s99 := szR_spec x.wt left
  all_goals (unfold Taint.wt at s99 ⊢; try unfold wtS at s99 ⊢)
  all_goals omega
set_option maxHeartbeats 400000 in
theorem szTaintS_any (xs : List Taint) (A : Option Addr) (c : Nat) (F : List Nat) (left : Int) (w : World) (h : Sl w xs A c F) (h0 : 0 ≤ left) (h1 : left ≤ 1048576) :
    Calls Try.prog 42 #[.slice A xs.length c, .int .i64 left] w fun e w' => e = .returned (.int .i64 (szR (wtL Taint.wt xs) left)) ∧ Below w.heap.size w w' := by
  have hc := h.cap
  unfold maxLen at hc
  obtain ⟨hc1, hc2⟩ := hc
  have hwl := wtL_eq Taint.wt xs
  have HWL := Lib.hid hwl
  by_cases hl : left - xs.length < 0
  · have hfin : szR (wtL Taint.wt xs) left = -1 := szR_no (by omega)
    have HF := Lib.hid hfin
    clear hfin hwl
    go_enter Try.func42, Try.ntmps42
    go_wp2
    go_ret
    exact ⟨ret_int HF.out.symm, ext_refl _⟩
  · clear hwl
    go_enter Try.func42, Try.ntmps42
    go_wp2
    go_loopw [1, 5] (fun l i wr => ∃ k : Nat, k ≤ xs.length ∧ i = .int .i64 k ∧ (xs.length + wtSum Taint.wt (xs.take k) : Int) ≤ left ∧ l = .int .i64 (left - xs.length - wtSum Taint.wt (xs.take k)) ∧ Below w.heap.size w wr) (fun _ i _ => xs.length - (intOf i).toNat)
    case atStart => exact ⟨0, Nat.zero_le _, rfl, by simp [wtSum]; omega, by simp [wtSum], ext_refl _⟩
    case round =>
      obtain ⟨k, hk, rfl, hle, rfl, hbl⟩ := hrel
      by_cases hlt : k < xs.length
      · obtain ⟨b, o, ck, Fk, rfl, hbF, hbs, hr, hsub, hc⟩ := (h.ext hbl).get hlt
        obtain ⟨hck, rfl, hkey, hvalue, heffect⟩ := rd_Taint hr
        subst hck
        have q0 : wr.cell? ⟨b, o + k * 3, none⟩ = some (.string xs[k].key) := by exact hc 0 _ rfl
        have q1 : wr.cell? ⟨b, o + k * 3 + 1, none⟩ = some (.string xs[k].value) := by rw [Nat.add_assoc]; exact hc 1 _ rfl
        have q2 : wr.cell? ⟨b, o + k * 3 + 2, none⟩ = some (.int .i64 xs[k].effect) := by rw [Nat.add_assoc]; exact hc 2 _ rfl
        clear hc
        have hst := wtSum_take Taint.wt xs k hlt
        have hle2 := wtSum_le Taint.wt xs (k + 1)
        have Hst := Lib.hid hst
        clear hst
        go_wp2_with (go_at_call 53; refine (szTaint_any xs[k] _ _ _ _ hr (by omega) (by omega)).mono ?_; rintro e w2 ⟨rfl, hb2⟩)
        · rename_i hneg
          go_ret
          have h4 := Hst.out
          have h5 := HWL.out
          have h3 := szR_spec (Taint.wt xs[k]) (left - xs.length - wtSum Taint.wt (xs.take k))
          exact ⟨ret_int (szR_no (by omega)).symm, ext_trans hbl hb2⟩
        · rename_i hpos
          have h4 := Hst.out
          have h3 := szR_spec (Taint.wt xs[k]) (left - xs.length - wtSum Taint.wt (xs.take k))
          exact ⟨⟨k + 1, by omega, by go_num, by omega, by congr 1; omega, ext_trans hbl hb2⟩, by simp [intOf]; omega⟩
      · go_wp2
        go_ret
        have : k = xs.length := by omega
        subst this
        rw [List.take_length] at hle ⊢
        have h3 := szR_spec (wtL Taint.wt xs) left
        have h5 := HWL.out
        exact ⟨ret_int (by omega), hbl⟩
def Tolerance.wt (x : Tolerance) : Nat := x.key.size + x.value.size
set_option maxHeartbeats 1000000 in
theorem szTolerance_any (x : Tolerance) (cs : List Value) (F : List Nat) (left : Int) (w : World) (h : rd w x cs F) (h0 : 0 ≤ left) (h1 : left ≤ 1048576) :
    Calls Try.prog 66 #[.agg cs.toArray, .int .i64 left] w fun e w' => e = .returned (.int .i64 (szR x.wt left)) ∧ Below w.heap.size w w' := by
  obtain ⟨_, _, _, _, rfl, rfl, ⟨rfl, rfl, hkey⟩, _, _, _, _, rfl, rfl, ⟨rfl, rfl⟩, _, _, _, _, rfl, rfl, ⟨rfl, rfl, hvalue⟩, ⟨rfl, rfl, heffect⟩⟩ := h
  replace hkey := sz63 (s := x.key) hkey
  replace hvalue := sz63 (s := x.value) hvalue
  replace heffect : I64 x.effect := heffect
  simp only [List.cons_append, List.nil_append]
  go_enter Try.func66, Try.ntmps66
  go_wp2
  all_goals go_ret
  all_goals refine ⟨ret_int ?_, by repeat (first | exact ext_refl _ | assumption | refine ext_alloc ?_ _ | refine ext_trans ?_ (by assumption))⟩
  all_goals have s99 := szR_spec x.wt left
  all_goals (unfold Tolerance.wt at s99 ⊢; try unfold wtS at s99 ⊢)
  all_goals omega
set_option maxHeartbeats 400000 in
theorem szToleranceS_any (xs : List Tolerance) (A : Option Addr) (c : Nat) (F : List Nat) (left : Int) (w : World) (h : Sl w xs A c F) (h0 : 0 ≤ left) (h1 : left ≤ 1048576) :
    Calls Try.prog 55 #[.slice A xs.length c, .int .i64 left] w fun e w' => e = .returned (.int .i64 (szR (wtL Tolerance.wt xs) left)) ∧ Below w.heap.size w w' := by
  have hc := h.cap
  unfold maxLen at hc
  obtain ⟨hc1, hc2⟩ := hc
  have hwl := wtL_eq Tolerance.wt xs
  have HWL := Lib.hid hwl
  by_cases hl : left - xs.length < 0
  · have hfin : szR (wtL Tolerance.wt xs) left = -1 := szR_no (by omega)
    have HF := Lib.hid hfin
    clear hfin hwl
    go_enter Try.func55, Try.ntmps55
    go_wp2
    go_ret
    exact ⟨ret_int HF.out.symm, ext_refl _⟩
  · clear hwl
    go_enter Try.func55, Try.ntmps55
    go_wp2
    go_loopw [1, 5] (fun l i wr => ∃ k : Nat, k ≤ xs.length ∧ i = .int .i64 k ∧ (xs.length + wtSum Tolerance.wt (xs.take k) : Int) ≤ left ∧ l = .int .i64 (left - xs.length - wtSum Tolerance.wt (xs.take k)) ∧ Below w.heap.size w wr) (fun _ i _ => xs.length - (intOf i).toNat)
    case atStart => exact ⟨0, Nat.zero_le _, rfl, by simp [wtSum]; omega, by simp [wtSum], ext_refl _⟩
    case round =>
      obtain ⟨k, hk, rfl, hle, rfl, hbl⟩ := hrel
      by_cases hlt : k < xs.length
      · obtain ⟨b, o, ck, Fk, rfl, hbF, hbs, hr, hsub, hc⟩ := (h.ext hbl).get hlt
        obtain ⟨hck, rfl, hkey, hvalue, heffect⟩ := rd_Tolerance hr
        subst hck
        have q0 : wr.cell? ⟨b, o + k * 4, none⟩ = some (.string xs[k].key) := by exact hc 0 _ rfl
        have q1 : wr.cell? ⟨b, o + k * 4 + 1, none⟩ = some (.bool xs[k].equal) := by rw [Nat.add_assoc]; exact hc 1 _ rfl
        have q2 : wr.cell? ⟨b, o + k * 4 + 2, none⟩ = some (.string xs[k].value) := by rw [Nat.add_assoc]; exact hc 2 _ rfl
        have q3 : wr.cell? ⟨b, o + k * 4 + 3, none⟩ = some (.int .i64 xs[k].effect) := by rw [Nat.add_assoc]; exact hc 3 _ rfl
        clear hc
        have hst := wtSum_take Tolerance.wt xs k hlt
        have hle2 := wtSum_le Tolerance.wt xs (k + 1)
        have Hst := Lib.hid hst
        clear hst
        go_wp2_with (go_at_call 66; refine (szTolerance_any xs[k] _ _ _ _ hr (by omega) (by omega)).mono ?_; rintro e w2 ⟨rfl, hb2⟩)
        · rename_i hneg
          go_ret
          have h4 := Hst.out
          have h5 := HWL.out
          have h3 := szR_spec (Tolerance.wt xs[k]) (left - xs.length - wtSum Tolerance.wt (xs.take k))
          exact ⟨ret_int (szR_no (by omega)).symm, ext_trans hbl hb2⟩
        · rename_i hpos
          have h4 := Hst.out
          have h3 := szR_spec (Tolerance.wt xs[k]) (left - xs.length - wtSum Tolerance.wt (xs.take k))
          exact ⟨⟨k + 1, by omega, by go_num, by omega, by congr 1; omega, ext_trans hbl hb2⟩, by simp [intOf]; omega⟩
      · go_wp2
        go_ret
        have : k = xs.length := by omega
        subst this
        rw [List.take_length] at hle ⊢
        have h3 := szR_spec (wtL Tolerance.wt xs) left
        have h5 := HWL.out
        exact ⟨ret_int (by omega), hbl⟩
def Pod.wt (x : Pod) : Nat := x.name.size + wtL Label.wt x.labels + wtL Need.wt x.needs + wtL Tolerance.wt x.tolerances
set_option maxHeartbeats 1000000 in
theorem szPod_any (x : Pod) (cs : List Value) (F : List Nat) (left : Int) (w : World) (h : rd w x cs F) (h0 : 0 ≤ left) (h1 : left ≤ 1048576) :
    Calls Try.prog 43 #[.agg cs.toArray, .int .i64 left] w fun e w' => e = .returned (.int .i64 (szR x.wt left)) ∧ Below w.heap.size w w' := by
  obtain ⟨_, _, _, _, rfl, rfl, ⟨rfl, rfl, hname⟩, _, _, _, _, rfl, rfl, hlabels, _, _, _, _, rfl, rfl, ⟨rfl, rfl, hcpu⟩, _, _, _, _, rfl, rfl, ⟨rfl, rfl, hmem⟩, _, _, _, _, rfl, rfl, ⟨rfl, rfl, hrank⟩, _, _, _, _, rfl, rfl, hneeds, htolerances⟩ := h
  obtain ⟨Alabels, clabels, rfl, hlabels⟩ := rd_list hlabels
  obtain ⟨Aneeds, cneeds, rfl, hneeds⟩ := rd_list hneeds
  obtain ⟨Atolerances, ctolerances, rfl, htolerances⟩ := rd_list htolerances
  replace hname := sz63 (s := x.name) hname
  replace hlabels : Sl _ x.labels Alabels clabels _ := hlabels
  replace hcpu : I64 x.cpu := hcpu
  replace hmem : I64 x.mem := hmem
  replace hrank : I64 x.rank := hrank
  replace hneeds : Sl _ x.needs Aneeds cneeds _ := hneeds
  replace htolerances : Sl _ x.tolerances Atolerances ctolerances _ := htolerances
  simp only [List.cons_append, List.nil_append]
  go_enter Try.func43, Try.ntmps43
  go_wp2_with (first | (go_at_call 41; refine (szLabelS_any x.labels _ _ _ _ _ (hlabels.ext (by repeat (first | with_reducible exact ext_refl _ | with_reducible assumption | with_reducible refine ext_alloc ?_ _ | with_reducible refine ext_trans ?_ (by assumption)))) (by omega) (by omega)).mono ?_; rintro e w1 ⟨rfl, hb1⟩; obtain ⟨hc1, hf1⟩ := bcell hb1; have hz10 : w.heap.size < w1.heap.size := (by have := hb1.size; (try simp at this); omega); have hle1 := szR_le (a := wtL Label.wt x.labels) (left := (left - x.name.size)) (by omega)) | (go_at_call 54; refine (szNeedS_any x.needs _ _ _ _ _ (hneeds.ext (by repeat (first | with_reducible exact ext_refl _ | with_reducible assumption | with_reducible refine ext_alloc ?_ _ | with_reducible refine ext_trans ?_ (by assumption)))) (by omega) (by omega)).mono ?_; rintro e w5 ⟨rfl, hb5⟩; obtain ⟨hc5, hf5⟩ := bcell hb5; have hz50 : w.heap.size < w5.heap.size := (by have := hb5.size; (try simp at this); omega); have hle5 := szR_le (a := wtL Need.wt x.needs) (left := (szR (wtL Label.wt x.labels) (left - x.name.size))) (by omega)) | (go_at_call 55; refine (szToleranceS_any x.tolerances _ _ _ _ _ (htolerances.ext (by repeat (first | with_reducible exact ext_refl _ | with_reducible assumption | with_reducible refine ext_alloc ?_ _ | with_reducible refine ext_trans ?_ (by assumption)))) (by omega) (by omega)).mono ?_; rintro e w6 ⟨rfl, hb6⟩; obtain ⟨hc6, hf6⟩ := bcell hb6; have hz60 : w.heap.size < w6.heap.size := (by have := hb6.size; (try simp at this); omega); have hle6 := szR_le (a := wtL Tolerance.wt x.tolerances) (left := (szR (wtL Need.wt x.needs) (szR (wtL Label.wt x.labels) (left - x.name.size)))) (by omega)))
  all_goals go_ret
  all_goals refine ⟨ret_int ?_, by repeat (first | exact ext_refl _ | assumption | refine ext_alloc ?_ _ | refine ext_trans ?_ (by assumption))⟩
  all_goals have s99 := szR_spec x.wt left
  all_goals have s1 := szR_spec (wtL Label.wt x.labels) (left - x.name.size)
  all_goals have s5 := szR_spec (wtL Need.wt x.needs) (szR (wtL Label.wt x.labels) (left - x.name.size))
  all_goals have s6 := szR_spec (wtL Tolerance.wt x.tolerances) (szR (wtL Need.wt x.needs) (szR (wtL Label.wt x.labels) (left - x.name.size)))
  all_goals (unfold Pod.wt at s99 ⊢; try unfold wtS at s99 ⊢)
  all_goals omega
def Host.wt (x : Host) : Nat := x.name.size + wtL Label.wt x.labels + wtL Taint.wt x.taints
set_option maxHeartbeats 1000000 in
theorem szHost_any (x : Host) (cs : List Value) (F : List Nat) (left : Int) (w : World) (h : rd w x cs F) (h0 : 0 ≤ left) (h1 : left ≤ 1048576) :
    Calls Try.prog 29 #[.agg cs.toArray, .int .i64 left] w fun e w' => e = .returned (.int .i64 (szR x.wt left)) ∧ Below w.heap.size w w' := by
  obtain ⟨_, _, _, _, rfl, rfl, ⟨rfl, rfl, hname⟩, _, _, _, _, rfl, rfl, hlabels, _, _, _, _, rfl, rfl, ⟨rfl, rfl, hcpu⟩, _, _, _, _, rfl, rfl, ⟨rfl, rfl, hmem⟩, _, _, _, _, rfl, rfl, ⟨rfl, rfl, hslots⟩, htaints⟩ := h
  obtain ⟨Alabels, clabels, rfl, hlabels⟩ := rd_list hlabels
  obtain ⟨Ataints, ctaints, rfl, htaints⟩ := rd_list htaints
  replace hname := sz63 (s := x.name) hname
  replace hlabels : Sl _ x.labels Alabels clabels _ := hlabels
  replace hcpu : I64 x.cpu := hcpu
  replace hmem : I64 x.mem := hmem
  replace hslots : I64 x.slots := hslots
  replace htaints : Sl _ x.taints Ataints ctaints _ := htaints
  simp only [List.cons_append, List.nil_append]
  go_enter Try.func29, Try.ntmps29
  go_wp2_with (first | (go_at_call 41; refine (szLabelS_any x.labels _ _ _ _ _ (hlabels.ext (by repeat (first | with_reducible exact ext_refl _ | with_reducible assumption | with_reducible refine ext_alloc ?_ _ | with_reducible refine ext_trans ?_ (by assumption)))) (by omega) (by omega)).mono ?_; rintro e w1 ⟨rfl, hb1⟩; obtain ⟨hc1, hf1⟩ := bcell hb1; have hz10 : w.heap.size < w1.heap.size := (by have := hb1.size; (try simp at this); omega); have hle1 := szR_le (a := wtL Label.wt x.labels) (left := (left - x.name.size)) (by omega)) | (go_at_call 42; refine (szTaintS_any x.taints _ _ _ _ _ (htaints.ext (by repeat (first | with_reducible exact ext_refl _ | with_reducible assumption | with_reducible refine ext_alloc ?_ _ | with_reducible refine ext_trans ?_ (by assumption)))) (by omega) (by omega)).mono ?_; rintro e w5 ⟨rfl, hb5⟩; obtain ⟨hc5, hf5⟩ := bcell hb5; have hz50 : w.heap.size < w5.heap.size := (by have := hb5.size; (try simp at this); omega); have hle5 := szR_le (a := wtL Taint.wt x.taints) (left := (szR (wtL Label.wt x.labels) (left - x.name.size))) (by omega)))
  all_goals go_ret
  all_goals refine ⟨ret_int ?_, by repeat (first | exact ext_refl _ | assumption | refine ext_alloc ?_ _ | refine ext_trans ?_ (by assumption))⟩
  all_goals have s99 := szR_spec x.wt left
  all_goals have s1 := szR_spec (wtL Label.wt x.labels) (left - x.name.size)
  all_goals have s5 := szR_spec (wtL Taint.wt x.taints) (szR (wtL Label.wt x.labels) (left - x.name.size))
  all_goals (unfold Host.wt at s99 ⊢; try unfold wtS at s99 ⊢)
  all_goals omega
set_option maxHeartbeats 400000 in
theorem szHostS_any (xs : List Host) (A : Option Addr) (c : Nat) (F : List Nat) (left : Int) (w : World) (h : Sl w xs A c F) (h0 : 0 ≤ left) (h1 : left ≤ 1048576) :
    Calls Try.prog 13 #[.slice A xs.length c, .int .i64 left] w fun e w' => e = .returned (.int .i64 (szR (wtL Host.wt xs) left)) ∧ Below w.heap.size w w' := by
  have hc := h.cap
  unfold maxLen at hc
  obtain ⟨hc1, hc2⟩ := hc
  have hwl := wtL_eq Host.wt xs
  have HWL := Lib.hid hwl
  by_cases hl : left - xs.length < 0
  · have hfin : szR (wtL Host.wt xs) left = -1 := szR_no (by omega)
    have HF := Lib.hid hfin
    clear hfin hwl
    go_enter Try.func13, Try.ntmps13
    go_wp2
    go_ret
    exact ⟨ret_int HF.out.symm, ext_refl _⟩
  · clear hwl
    go_enter Try.func13, Try.ntmps13
    go_wp2
    go_loopw [1, 5] (fun l i wr => ∃ k : Nat, k ≤ xs.length ∧ i = .int .i64 k ∧ (xs.length + wtSum Host.wt (xs.take k) : Int) ≤ left ∧ l = .int .i64 (left - xs.length - wtSum Host.wt (xs.take k)) ∧ Below w.heap.size w wr) (fun _ i _ => xs.length - (intOf i).toNat)
    case atStart => exact ⟨0, Nat.zero_le _, rfl, by simp [wtSum]; omega, by simp [wtSum], ext_refl _⟩
    case round =>
      obtain ⟨k, hk, rfl, hle, rfl, hbl⟩ := hrel
      by_cases hlt : k < xs.length
      · obtain ⟨b, o, ck, Fk, rfl, hbF, hbs, hr, hsub, hc⟩ := (h.ext hbl).get hlt
        obtain ⟨Alabels, clabels, Flabels, Ataints, ctaints, Ftaints, hck, rfl, hname, hlabels, hcpu, hmem, hslots, htaints⟩ := rd_Host hr
        subst hck
        have q0 : wr.cell? ⟨b, o + k * 6, none⟩ = some (.string xs[k].name) := by exact hc 0 _ rfl
        have q1 : wr.cell? ⟨b, o + k * 6 + 1, none⟩ = some (.slice Alabels xs[k].labels.length clabels) := by rw [Nat.add_assoc]; exact hc 1 _ rfl
        have q2 : wr.cell? ⟨b, o + k * 6 + 2, none⟩ = some (.int .i64 xs[k].cpu) := by rw [Nat.add_assoc]; exact hc 2 _ rfl
        have q3 : wr.cell? ⟨b, o + k * 6 + 3, none⟩ = some (.int .i64 xs[k].mem) := by rw [Nat.add_assoc]; exact hc 3 _ rfl
        have q4 : wr.cell? ⟨b, o + k * 6 + 4, none⟩ = some (.int .i64 xs[k].slots) := by rw [Nat.add_assoc]; exact hc 4 _ rfl
        have q5 : wr.cell? ⟨b, o + k * 6 + 5, none⟩ = some (.slice Ataints xs[k].taints.length ctaints) := by rw [Nat.add_assoc]; exact hc 5 _ rfl
        clear hc
        have hst := wtSum_take Host.wt xs k hlt
        have hle2 := wtSum_le Host.wt xs (k + 1)
        have Hst := Lib.hid hst
        clear hst
        go_wp2_with (go_at_call 29; refine (szHost_any xs[k] _ _ _ _ hr (by omega) (by omega)).mono ?_; rintro e w2 ⟨rfl, hb2⟩)
        · rename_i hneg
          go_ret
          have h4 := Hst.out
          have h5 := HWL.out
          have h3 := szR_spec (Host.wt xs[k]) (left - xs.length - wtSum Host.wt (xs.take k))
          exact ⟨ret_int (szR_no (by omega)).symm, ext_trans hbl hb2⟩
        · rename_i hpos
          have h4 := Hst.out
          have h3 := szR_spec (Host.wt xs[k]) (left - xs.length - wtSum Host.wt (xs.take k))
          exact ⟨⟨k + 1, by omega, by go_num, by omega, by congr 1; omega, ext_trans hbl hb2⟩, by simp [intOf]; omega⟩
      · go_wp2
        go_ret
        have : k = xs.length := by omega
        subst this
        rw [List.take_length] at hle ⊢
        have h3 := szR_spec (wtL Host.wt xs) left
        have h5 := HWL.out
        exact ⟨ret_int (by omega), hbl⟩
def Placed.wt (x : Placed) : Nat := x.pod.wt + x.on.size
set_option maxHeartbeats 1000000 in
theorem szPlaced_any (x : Placed) (cs : List Value) (F : List Nat) (left : Int) (w : World) (h : rd w x cs F) (h0 : 0 ≤ left) (h1 : left ≤ 1048576) :
    Calls Try.prog 30 #[.agg cs.toArray, .int .i64 left] w fun e w' => e = .returned (.int .i64 (szR x.wt left)) ∧ Below w.heap.size w w' := by
  obtain ⟨_, _, _, _, rfl, rfl, hpod, _, _, _, _, rfl, rfl, ⟨rfl, rfl, hon⟩, ⟨rfl, rfl, hseq⟩⟩ := h
  have hrpod := hpod
  obtain ⟨Apodlabels, cpodlabels, Fpodlabels, Apodneeds, cpodneeds, Fpodneeds, Apodtolerances, cpodtolerances, Fpodtolerances, rfl, rfl, hpodname, hpodlabels, hpodcpu, hpodmem, hpodrank, hpodneeds, hpodtolerances⟩ := rd_Pod hpod
  replace hpodname := sz63 (s := x.pod.name) hpodname
  replace hpodlabels : Sl _ x.pod.labels Apodlabels cpodlabels _ := hpodlabels
  replace hpodcpu : I64 x.pod.cpu := hpodcpu
  replace hpodmem : I64 x.pod.mem := hpodmem
  replace hpodrank : I64 x.pod.rank := hpodrank
  replace hpodneeds : Sl _ x.pod.needs Apodneeds cpodneeds _ := hpodneeds
  replace hpodtolerances : Sl _ x.pod.tolerances Apodtolerances cpodtolerances _ := hpodtolerances
  replace hon := sz63 (s := x.on) hon
  replace hseq : I64 x.seq := hseq
  replace hrpod : rd _ x.pod [.string x.pod.name, .slice Apodlabels x.pod.labels.length cpodlabels, .int .i64 x.pod.cpu, .int .i64 x.pod.mem, .int .i64 x.pod.rank, .slice Apodneeds x.pod.needs.length cpodneeds, .slice Apodtolerances x.pod.tolerances.length cpodtolerances] _ := hrpod
  simp only [List.cons_append, List.nil_append]
  go_enter Try.func30, Try.ntmps30
  go_wp2_with (first | (go_at_call 43; refine (szPod_any x.pod _ _ _ _ (Dat.frame hrpod (fun b hb => (show Below w.heap.size w _ from (by repeat (first | with_reducible exact ext_refl _ | with_reducible assumption | with_reducible refine ext_alloc ?_ _ | with_reducible refine ext_trans ?_ (by assumption)))).block b (Dat.lt hrpod b hb)) (show Below w.heap.size w _ from (by repeat (first | with_reducible exact ext_refl _ | with_reducible assumption | with_reducible refine ext_alloc ?_ _ | with_reducible refine ext_trans ?_ (by assumption)))).size) (by omega) (by omega)).mono ?_; rintro e w0 ⟨rfl, hb0⟩; obtain ⟨hc0, hf0⟩ := bcell hb0; have hz00 : w.heap.size < w0.heap.size := (by have := hb0.size; (try simp at this); omega); have hle0 := szR_le (a := x.pod.wt) (left := left) (by omega)))
  all_goals go_ret
  all_goals refine ⟨ret_int ?_, by repeat (first | exact ext_refl _ | assumption | refine ext_alloc ?_ _ | refine ext_trans ?_ (by assumption))⟩
  all_goals have s99 := szR_spec x.wt left
  all_goals have s0 := szR_spec x.pod.wt left
  all_goals (unfold Placed.wt at s99 ⊢; try unfold wtS at s99 ⊢)
  all_goals omega
set_option maxHeartbeats 400000 in
theorem szPlacedS_any (xs : List Placed) (A : Option Addr) (c : Nat) (F : List Nat) (left : Int) (w : World) (h : Sl w xs A c F) (h0 : 0 ≤ left) (h1 : left ≤ 1048576) :
    Calls Try.prog 14 #[.slice A xs.length c, .int .i64 left] w fun e w' => e = .returned (.int .i64 (szR (wtL Placed.wt xs) left)) ∧ Below w.heap.size w w' := by
  have hc := h.cap
  unfold maxLen at hc
  obtain ⟨hc1, hc2⟩ := hc
  have hwl := wtL_eq Placed.wt xs
  have HWL := Lib.hid hwl
  by_cases hl : left - xs.length < 0
  · have hfin : szR (wtL Placed.wt xs) left = -1 := szR_no (by omega)
    have HF := Lib.hid hfin
    clear hfin hwl
    go_enter Try.func14, Try.ntmps14
    go_wp2
    go_ret
    exact ⟨ret_int HF.out.symm, ext_refl _⟩
  · clear hwl
    go_enter Try.func14, Try.ntmps14
    go_wp2
    go_loopw [1, 5] (fun l i wr => ∃ k : Nat, k ≤ xs.length ∧ i = .int .i64 k ∧ (xs.length + wtSum Placed.wt (xs.take k) : Int) ≤ left ∧ l = .int .i64 (left - xs.length - wtSum Placed.wt (xs.take k)) ∧ Below w.heap.size w wr) (fun _ i _ => xs.length - (intOf i).toNat)
    case atStart => exact ⟨0, Nat.zero_le _, rfl, by simp [wtSum]; omega, by simp [wtSum], ext_refl _⟩
    case round =>
      obtain ⟨k, hk, rfl, hle, rfl, hbl⟩ := hrel
      by_cases hlt : k < xs.length
      · obtain ⟨b, o, ck, Fk, rfl, hbF, hbs, hr, hsub, hc⟩ := (h.ext hbl).get hlt
        obtain ⟨Apodlabels, cpodlabels, Fpodlabels, Apodneeds, cpodneeds, Fpodneeds, Apodtolerances, cpodtolerances, Fpodtolerances, hck, rfl, hpodname, hpodlabels, hpodcpu, hpodmem, hpodrank, hpodneeds, hpodtolerances, hon, hseq⟩ := rd_Placed hr
        subst hck
        have q0 : wr.cell? ⟨b, o + k * 9, none⟩ = some (.string xs[k].pod.name) := by exact hc 0 _ rfl
        have q1 : wr.cell? ⟨b, o + k * 9 + 1, none⟩ = some (.slice Apodlabels xs[k].pod.labels.length cpodlabels) := by rw [Nat.add_assoc]; exact hc 1 _ rfl
        have q2 : wr.cell? ⟨b, o + k * 9 + 2, none⟩ = some (.int .i64 xs[k].pod.cpu) := by rw [Nat.add_assoc]; exact hc 2 _ rfl
        have q3 : wr.cell? ⟨b, o + k * 9 + 3, none⟩ = some (.int .i64 xs[k].pod.mem) := by rw [Nat.add_assoc]; exact hc 3 _ rfl
        have q4 : wr.cell? ⟨b, o + k * 9 + 4, none⟩ = some (.int .i64 xs[k].pod.rank) := by rw [Nat.add_assoc]; exact hc 4 _ rfl
        have q5 : wr.cell? ⟨b, o + k * 9 + 5, none⟩ = some (.slice Apodneeds xs[k].pod.needs.length cpodneeds) := by rw [Nat.add_assoc]; exact hc 5 _ rfl
        have q6 : wr.cell? ⟨b, o + k * 9 + 6, none⟩ = some (.slice Apodtolerances xs[k].pod.tolerances.length cpodtolerances) := by rw [Nat.add_assoc]; exact hc 6 _ rfl
        have q7 : wr.cell? ⟨b, o + k * 9 + 7, none⟩ = some (.string xs[k].on) := by rw [Nat.add_assoc]; exact hc 7 _ rfl
        have q8 : wr.cell? ⟨b, o + k * 9 + 8, none⟩ = some (.int .i64 xs[k].seq) := by rw [Nat.add_assoc]; exact hc 8 _ rfl
        clear hc
        have hst := wtSum_take Placed.wt xs k hlt
        have hle2 := wtSum_le Placed.wt xs (k + 1)
        have Hst := Lib.hid hst
        clear hst
        go_wp2_with (go_at_call 30; refine (szPlaced_any xs[k] _ _ _ _ hr (by omega) (by omega)).mono ?_; rintro e w2 ⟨rfl, hb2⟩)
        · rename_i hneg
          go_ret
          have h4 := Hst.out
          have h5 := HWL.out
          have h3 := szR_spec (Placed.wt xs[k]) (left - xs.length - wtSum Placed.wt (xs.take k))
          exact ⟨ret_int (szR_no (by omega)).symm, ext_trans hbl hb2⟩
        · rename_i hpos
          have h4 := Hst.out
          have h3 := szR_spec (Placed.wt xs[k]) (left - xs.length - wtSum Placed.wt (xs.take k))
          exact ⟨⟨k + 1, by omega, by go_num, by omega, by congr 1; omega, ext_trans hbl hb2⟩, by simp [intOf]; omega⟩
      · go_wp2
        go_ret
        have : k = xs.length := by omega
        subst this
        rw [List.take_length] at hle ⊢
        have h3 := szR_spec (wtL Placed.wt xs) left
        have h5 := HWL.out
        exact ⟨ret_int (by omega), hbl⟩
def Cluster.wt (x : Cluster) : Nat := wtL Host.wt x.hosts + wtL Placed.wt x.pods
set_option maxHeartbeats 1000000 in
theorem szCluster_any (x : Cluster) (cs : List Value) (F : List Nat) (left : Int) (w : World) (h : rd w x cs F) (h0 : 0 ≤ left) (h1 : left ≤ 1048576) :
    Calls Try.prog 4 #[.agg cs.toArray, .int .i64 left] w fun e w' => e = .returned (.int .i64 (szR x.wt left)) ∧ Below w.heap.size w w' := by
  obtain ⟨_, _, _, _, rfl, rfl, hhosts, _, _, _, _, rfl, rfl, hpods, _, _, _, _, rfl, rfl, ⟨rfl, rfl, hnext⟩, hweights⟩ := h
  obtain ⟨Ahosts, chosts, rfl, hhosts⟩ := rd_list hhosts
  obtain ⟨Apods, cpods, rfl, hpods⟩ := rd_list hpods
  have hrweights := hweights
  obtain ⟨rfl, rfl, hweightspack, hweightsspread, hweightssoft⟩ := rd_Weights hweights
  replace hhosts : Sl _ x.hosts Ahosts chosts _ := hhosts
  replace hpods : Sl _ x.pods Apods cpods _ := hpods
  replace hnext : I64 x.next := hnext
  replace hweightspack : I64 x.weights.pack := hweightspack
  replace hweightsspread : I64 x.weights.spread := hweightsspread
  replace hweightssoft : I64 x.weights.soft := hweightssoft
  replace hrweights : rd _ x.weights [.int .i64 x.weights.pack, .int .i64 x.weights.spread, .int .i64 x.weights.soft] _ := hrweights
  simp only [List.cons_append, List.nil_append]
  go_enter Try.func4, Try.ntmps4
  go_wp2_with (first | (go_at_call 13; refine (szHostS_any x.hosts _ _ _ _ _ (hhosts.ext (by repeat (first | with_reducible exact ext_refl _ | with_reducible assumption | with_reducible refine ext_alloc ?_ _ | with_reducible refine ext_trans ?_ (by assumption)))) (by omega) (by omega)).mono ?_; rintro e w0 ⟨rfl, hb0⟩; obtain ⟨hc0, hf0⟩ := bcell hb0; have hz00 : w.heap.size < w0.heap.size := (by have := hb0.size; (try simp at this); omega); have hle0 := szR_le (a := wtL Host.wt x.hosts) (left := left) (by omega)) | (go_at_call 14; refine (szPlacedS_any x.pods _ _ _ _ _ (hpods.ext (by repeat (first | with_reducible exact ext_refl _ | with_reducible assumption | with_reducible refine ext_alloc ?_ _ | with_reducible refine ext_trans ?_ (by assumption)))) (by omega) (by omega)).mono ?_; rintro e w1 ⟨rfl, hb1⟩; obtain ⟨hc1, hf1⟩ := bcell hb1; have hz10 : w.heap.size < w1.heap.size := (by have := hb1.size; (try simp at this); omega); have hle1 := szR_le (a := wtL Placed.wt x.pods) (left := (szR (wtL Host.wt x.hosts) left)) (by omega)))
  all_goals go_ret
  all_goals refine ⟨ret_int ?_, by repeat (first | exact ext_refl _ | assumption | refine ext_alloc ?_ _ | refine ext_trans ?_ (by assumption))⟩
  all_goals have s99 := szR_spec x.wt left
  all_goals have s0 := szR_spec (wtL Host.wt x.hosts) left
  all_goals have s1 := szR_spec (wtL Placed.wt x.pods) (szR (wtL Host.wt x.hosts) left)
  all_goals (unfold Cluster.wt at s99 ⊢; try unfold wtS at s99 ⊢)
  all_goals omega
def Manifest.wt (x : Manifest) : Nat := x.pod.wt + x.host.wt
def Fault.wt (x : Fault) : Nat := x.path.size
end Go.Proofs.Ytjoclfenghenjaa
