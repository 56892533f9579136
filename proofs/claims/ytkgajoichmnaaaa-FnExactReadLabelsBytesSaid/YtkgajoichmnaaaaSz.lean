/- laws' size checks. -/
import Derived.Test.YtkgajoichmnaaaaData
namespace Go.Proofs.Ytkgajoichmnaaaa
open Dat (rd)
open Go.ChangeShapes Go.WideShapes Go.ChangeAt Go.RowKit
set_option linter.unusedVariables false
set_option linter.unusedSimpArgs false

theorem ret_int {k : IntKind} {a b : Int} (h : a = b) : Ending.returned (.int k a) = .returned (.int k b) := by rw [h]
/-- what a size check leaves: -1 where it does not fit -/
def szR (a : Nat) (left : Int) : Int := if left < a then -1 else left - a
theorem szR_spec (a : Nat) (left : Int) : (left < a ∧ szR a left = -1) ∨ (a ≤ left ∧ szR a left = left - a) := by unfold szR; split <;> omega
theorem szR_le {a : Nat} {left : Int} (h0 : 0 ≤ left) : szR a left ≤ left := by have := szR_spec a left; omega
theorem szR_no {a : Nat} {left : Int} (h : left - a < 0) : szR a left = -1 := by have := szR_spec a left; omega
/-- the weight of a list: its length, and its elements' -/
def wtL {α : Type} (f : α → Nat) (xs : List α) : Nat := xs.length + (xs.map f).sum
abbrev wtS (xs : List ByteArray) : Nat := wtL ByteArray.size xs
def wtSum {α : Type} (f : α → Nat) (xs : List α) : Nat := (xs.map f).sum
theorem wtL_eq {α : Type} (f : α → Nat) (xs : List α) : wtL f xs = xs.length + wtSum f xs := rfl
theorem wtSum_take {α : Type} (f : α → Nat) (xs : List α) (k : Nat) (h : k < xs.length) : wtSum f (xs.take (k + 1)) = wtSum f (xs.take k) + f xs[k] := by
  unfold wtSum
  rw [List.take_succ_eq_append_getElem h, List.map_append, List.sum_append]
  simp [-List.map_take]
theorem wtSum_le {α : Type} (f : α → Nat) (xs : List α) (k : Nat) : wtSum f (xs.take k) ≤ wtSum f xs := by
  unfold wtSum
  conv => rhs; rw [← List.take_append_drop k xs]
  rw [List.map_append, List.sum_append]
  omega
theorem wtL_mem {α : Type} {f : α → Nat} {xs : List α} {x : α} (h : x ∈ xs) : f x ≤ wtL f xs := by
  unfold wtL
  induction xs with
  | nil => cases h
  | cons y ys ih =>
    rcases List.mem_cons.1 h with rfl | h
    · simp; omega
    · have := ih h; simp at this ⊢; omega
theorem wtL_get {α : Type} {f : α → Nat} {xs : List α} {k : Nat} (h : k < xs.length) : f xs[k] ≤ wtL f xs := wtL_mem (List.getElem_mem h)
theorem wtL_len {α : Type} (f : α → Nat) (xs : List α) : xs.length ≤ wtL f xs := by unfold wtL; omega
def Label.wt (x : Label) : Nat := x.key.size + x.value.size
set_option maxHeartbeats 1000000 in
theorem szLabel_any (x : Label) (cs : List Value) (F : List Nat) (left : Int) (w : World) (h : rd w x cs F) (h0 : 0 ≤ left) (h1 : left ≤ 1048576) :
    Calls Try.prog 30 #[.agg cs.toArray, .int .i64 left] w fun e w' => e = .returned (.int .i64 (szR x.wt left)) ∧ Below w.heap.size w w' := by
  obtain ⟨_, _, _, _, rfl, rfl, ⟨rfl, rfl, hkey⟩, ⟨rfl, rfl, hvalue⟩⟩ := h
  replace hkey := sz63 (s := x.key) hkey
  replace hvalue := sz63 (s := x.value) hvalue
  simp only [List.cons_append, List.nil_append]
  go_enter Try.func30, Try.ntmps30
  go_wp2
  all_goals go_ret
  all_goals refine ⟨ret_int ?_, by repeat (first | exact ext_refl _ | assumption | refine ext_alloc ?_ _ | refine ext_trans ?_ (by assumption))⟩
  all_goals have s99 := szR_spec x.wt left
  all_goals (unfold Label.wt at s99 ⊢; try unfold wtS at s99 ⊢)
  all_goals omega
set_option maxHeartbeats 400000 in
theorem szLabelS_any (xs : List Label) (A : Option Addr) (c : Nat) (F : List Nat) (left : Int) (w : World) (h : Sl w xs A c F) (h0 : 0 ≤ left) (h1 : left ≤ 1048576) :
    Calls Try.prog 17 #[.slice A xs.length c, .int .i64 left] w fun e w' => e = .returned (.int .i64 (szR (wtL Label.wt xs) left)) ∧ Below w.heap.size w w' := by
  have hc := h.cap
  unfold maxLen at hc
  obtain ⟨hc1, hc2⟩ := hc
  have hwl := wtL_eq Label.wt xs
  have HWL := Lib.hid hwl
  by_cases hl : left - xs.length < 0
  · have hfin : szR (wtL Label.wt xs) left = -1 := szR_no (by omega)
    have HF := Lib.hid hfin
    clear hfin hwl
    go_enter Try.func17, Try.ntmps17
    go_wp2
    go_ret
    exact ⟨ret_int HF.out.symm, ext_refl _⟩
  · clear hwl
    go_enter Try.func17, Try.ntmps17
    go_wp2
    go_loopw [1, 5] (fun l i wr => ∃ k : Nat, k ≤ xs.length ∧ i = .int .i64 k ∧ (xs.length + wtSum Label.wt (xs.take k) : Int) ≤ left ∧ l = .int .i64 (left - xs.length - wtSum Label.wt (xs.take k)) ∧ Below w.heap.size w wr) (fun _ i _ => xs.length - (intOf i).toNat)
    case atStart => exact ⟨0, Nat.zero_le _, rfl, by simp [wtSum]; omega, by simp [wtSum], ext_refl _⟩
    case round =>
      obtain ⟨k, hk, rfl, hle, rfl, hbl⟩ := hrel
      by_cases hlt : k < xs.length
      · obtain ⟨b, o, ck, Fk, rfl, hbF, hbs, hr, hsub, hc⟩ := (h.ext hbl).get hlt
        obtain ⟨hck, rfl, hkey, hvalue⟩ := rd_Label hr
        subst hck
        have q0 : wr.cell? ⟨b, o + k * 2, none⟩ = some (.string xs[k].key) := by exact hc 0 _ rfl
        have q1 : wr.cell? ⟨b, o + k * 2 + 1, none⟩ = some (.string xs[k].value) := by rw [Nat.add_assoc]; exact hc 1 _ rfl
        clear hc
        have hst := wtSum_take Label.wt xs k hlt
        have hle2 := wtSum_le Label.wt xs (k + 1)
        have Hst := Lib.hid hst
        clear hst
        go_wp2_with (go_at_call 30; refine (szLabel_any xs[k] _ _ _ _ hr (by omega) (by omega)).mono ?_; rintro e w2 ⟨rfl, hb2⟩)
        · rename_i hneg
          go_ret
          have h4 := Hst.out
          have h5 := HWL.out
          have h3 := szR_spec (Label.wt xs[k]) (left - xs.length - wtSum Label.wt (xs.take k))
          exact ⟨ret_int (szR_no (by omega)).symm, ext_trans hbl hb2⟩
        · rename_i hpos
          have h4 := Hst.out
          have h3 := szR_spec (Label.wt xs[k]) (left - xs.length - wtSum Label.wt (xs.take k))
          exact ⟨⟨k + 1, by omega, by go_num, by omega, by congr 1; omega, ext_trans hbl hb2⟩, by simp [intOf]; omega⟩
      · go_wp2
        go_ret
        have : k = xs.length := by omega
        subst this
        rw [List.take_length] at hle ⊢
        have h3 := szR_spec (wtL Label.wt xs) left
        have h5 := HWL.out
        exact ⟨ret_int (by omega), hbl⟩
def Need.wt (x : Need) : Nat := x.key.size + wtS x.values
def Taint.wt (x : Taint) : Nat := x.key.size + x.value.size
def Tolerance.wt (x : Tolerance) : Nat := x.key.size + x.value.size
def Pod.wt (x : Pod) : Nat := x.name.size + wtL Label.wt x.labels + wtL Need.wt x.needs + wtL Tolerance.wt x.tolerances
def Host.wt (x : Host) : Nat := x.name.size + wtL Label.wt x.labels + wtL Taint.wt x.taints
def Placed.wt (x : Placed) : Nat := x.pod.wt + x.on.size
def Cluster.wt (x : Cluster) : Nat := wtL Host.wt x.hosts + wtL Placed.wt x.pods
def Manifest.wt (x : Manifest) : Nat := x.pod.wt + x.host.wt
def Fault.wt (x : Fault) : Nat := x.path.size
end Go.Proofs.Ytkgajoichmnaaaa
