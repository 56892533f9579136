/- cmp.Compare, cmp.Or at int; short rows of ints. No condition. -/
import Derived.Test.YtjoclfenghenjaaData
import Derived.Test.YtjoclfenghenjaaAppendAt
import Derived.Lib.Small
namespace Go.Proofs.Ytjoclfenghenjaa
open Go.ChangeShapes Go.WideShapes Go.ChangeAt Go.RowKit
set_option linter.unusedVariables false
set_option linter.unusedSimpArgs false
theorem CompareInt_any (x y : Int) (w : World) : Calls Try.prog 22 #[.int .i64 x, .int .i64 y] w fun e w' => e = .returned (.int .i64 (Lib.compareInt x y)) ∧ w' = w := by
  go_enter Try.func22, Try.ntmps22
  go_wp2
  all_goals (go_ret; refine ⟨?_, rfl⟩; unfold Lib.compareInt; (repeat' split) <;> first | rfl | (exfalso; omega))
/-- the first number that is not 0 -/
def orI : List Int → Int
  | [] => 0
  | x :: xs => if x = 0 then orI xs else x
theorem orI_drop {xs : List Int} {k : Nat} (h : k < xs.length) : orI (xs.drop k) = if xs[k] = 0 then orI (xs.drop (k + 1)) else xs[k] := by
  rw [← List.getElem_cons_drop h]; rfl
set_option maxRecDepth 100000 in
set_option maxHeartbeats 400000 in
theorem Or_any (xs : List Int) (A : Option Addr) (n c : Nat) (F : List Nat) (w : World) (h : Sl w xs A c F) (hn : n = xs.length) (hl : (xs.length : Int) ≤ 1048576) :
    Calls Try.prog 21 #[.slice A n c] w fun e w' => e = .returned (.int .i64 (orI xs)) ∧ w' = w := by
  subst hn
  go_enter Try.func21, Try.ntmps21
  go_wp2_with fail
  go_slots
  go_loop [8] (fun i => ∃ k : Nat, k ≤ xs.length ∧ i = .int .i64 k ∧ Hid (orI xs = orI (xs.drop k))) (fun i => xs.length - (intOf i).toNat)
  case atStart => exact ⟨0, Nat.zero_le _, rfl, rfl⟩
  case round =>
    obtain ⟨k, hk, rfl, HO⟩ := hrel
    by_cases hlt : k < xs.length
    · obtain ⟨b, o, ck, Fk, rfl, hbF, hbs, hr, hsub, hc⟩ := h.get hlt
      obtain ⟨hck, hFk, hI⟩ := hr
      subst hck hFk
      have q0 : w.cell? ⟨b, o + k, none⟩ = some (.int .i64 xs[k]) := by have := hc 0 _ rfl; rwa [show o + (k * Dat.size Int + 0) = o + k from by show o + (k * 1 + 0) = _; omega] at this
      clear hc
      have hd := orI_drop hlt
      by_cases h0 : xs[k] = 0
      · rw [if_pos h0] at hd
        have HN := Lib.hid (HO.out.trans hd)
        clear hd
        have hb0 : (xs[k] == 0) = true := by simp [h0]
        go_wp2
        exact ⟨⟨k + 1, by omega, by go_num, HN.out⟩, by simp [intOf]; omega⟩
      · rw [if_neg h0] at hd
        have HN := Lib.hid (HO.out.trans hd)
        clear hd
        have hb0 : (xs[k] == 0) = false := by simp [h0]
        go_wp2
        go_ret
        exact ⟨by rw [HN.out]; rfl, rfl⟩
    · have hkl : k = xs.length := by omega
      subst hkl
      have ho := HO.out
      rw [List.drop_length] at ho
      have HN := Lib.hid ho
      clear ho
      go_wp2
      go_ret
      exact ⟨by rw [HN.out]; rfl, rfl⟩
theorem compareInt_range (a b : Int) : -1 ≤ Lib.compareInt a b ∧ Lib.compareInt a b ≤ 1 := by
  unfold Lib.compareInt
  repeat' split
  all_goals omega
theorem Sl.ints_alloc (W : World) (xs : List Int) (t : TypeId) (h : ∀ x ∈ xs, I64 x) (hl : xs.length ≤ maxLen) : Sl (W.alloc (.cells (xs.map fun n => Value.int .i64 n).toArray t)) xs (some ⟨W.heap.size, 0, none⟩) xs.length [W.heap.size] :=
  ⟨_, _, [], xs.map fun n => .int .i64 n, rfl, Nat.le_refl _, hl, rdCells_ints _ xs h, .inr ⟨W.heap.size, 0, rfl, rfl, by simp, fun j u hu => by
    rw [Nat.zero_add, cell_of_row _ _ _ _ _ _ (heap_alloc_new W _)]
    simpa using hu⟩⟩
theorem Sl.drewS {α : Type} [Dat α] {w : World} {xs : List α} {A : Option Addr} {c : Nat} {F : List Nat} (h : Sl w xs A c F) : Sl w.drew xs A c F := h.frame (fun _ _ => rfl) (Nat.le_refl _)
theorem I64.small {n : Int} (h : -1 ≤ n ∧ n ≤ 1) : I64 n := by unfold I64; omega
theorem Sl.ints3 (W : World) (a b c : Int) (t : TypeId) (ha : I64 a) (hb : I64 b) (hc : I64 c) (N : Nat) (hN : W.heap.size = N) : Sl (W.alloc (.cells #[.int .i64 a, .int .i64 b, .int .i64 c] t)) [a, b, c] (some ⟨N, 0, none⟩) 3 [N] := by
  subst hN
  exact Sl.ints_alloc W [a, b, c] t (by intro x hx; simp only [List.mem_cons, List.not_mem_nil, or_false] at hx; rcases hx with rfl | rfl | rfl <;> assumption) (by unfold maxLen; simp)

end Go.Proofs.Ytjoclfenghenjaa
