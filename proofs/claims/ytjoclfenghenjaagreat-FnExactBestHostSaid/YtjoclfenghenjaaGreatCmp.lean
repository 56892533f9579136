/- strings.Compare, cmp.Compare, cmp.Or at int. No condition. -/
import Derived.Test.YtjoclfenghenjaaGreatBase0
import Derived.Lib.Small
import Derived.Lib.Bytealg
namespace Go.Proofs.YtjoclfenghenjaaGreat
open Go.ChangeShapes Go.WideShapes Go.ChangeAt Go.RowKit
set_option linter.unusedVariables false
set_option linter.unusedSimpArgs false
set_option maxRecDepth 100000 in
theorem CompareString_any (a b : ByteArray) (w : World) : Calls Tryz.prog 206 #[.string a, .string b] w fun e w' => e = .returned (.int .i64 (Lib.compareBytes a.data.toList b.data.toList)) ∧ w' = w := by
  go_enter Tryz.func206, Tryz.ntmps206
  go_wp2
  rw [run_callFunc_extern Tryz.func214 (by kernel_rfl) (by kernel_rfl) (by kernel_rfl) (e := Extern.BytealgCompare.compare) (by kernel_rfl), Lib.run_compareString]
  simp only [Result.andThen]
  rw [Oper.upon_value]
  go_wp2
  go_ret
  exact ⟨rfl, rfl⟩
theorem Compare_any (a b : ByteArray) (w : World) : Calls Tryz.prog 195 #[.string a, .string b] w fun e w' => e = .returned (.int .i64 (Lib.compareBytes a.data.toList b.data.toList)) ∧ w' = w := by
  go_enter Tryz.func195, Tryz.ntmps195
  go_wp2_with fail
  refine (CompareString_any a b _).mono ?_
  rintro e w' ⟨rfl, rfl⟩
  go_wp2
  go_ret
  exact ⟨rfl, rfl⟩
theorem CompareInt_any (x y : Int) (w : World) : Calls Tryz.prog 66 #[.int .i64 x, .int .i64 y] w fun e w' => e = .returned (.int .i64 (Lib.compareInt x y)) ∧ w' = w := by
  go_enter Tryz.func66, Tryz.ntmps66
  go_wp2
  all_goals (go_ret; refine ⟨?_, rfl⟩; unfold Lib.compareInt; (repeat' split) <;> first | rfl | (exfalso; omega))
/-- the first number that is not 0 -/
def orI : List Int → Int
  | [] => 0
  | x :: xs => if x = 0 then orI xs else x
theorem orI_drop {xs : List Int} {k : Nat} (h : k < xs.length) : orI (xs.drop k) = if xs[k] = 0 then orI (xs.drop (k + 1)) else xs[k] := by
  rw [← List.getElem_cons_drop h]; rfl
set_option maxRecDepth 100000 in
set_option maxHeartbeats 400000 in
theorem Or_any (xs : List Int) (A : Option Addr) (n c : Nat) (F : List Nat) (w : World) (h : Sl w xs A c F) (hn : n = xs.length) (hl : (xs.length : Int) ≤ 1048576) :
    Calls Tryz.prog 65 #[.slice A n c] w fun e w' => e = .returned (.int .i64 (orI xs)) ∧ w' = w := by
  subst hn
  go_enter Tryz.func65, Tryz.ntmps65
  go_wp2_with fail
  go_slots
  go_loop [8] (fun i => ∃ k : Nat, k ≤ xs.length ∧ i = .int .i64 k ∧ Hid (orI xs = orI (xs.drop k))) (fun i => xs.length - (intOf i).toNat)
  case atStart => exact ⟨0, Nat.zero_le _, rfl, rfl⟩
  case round =>
    obtain ⟨k, hk, rfl, HO⟩ := hrel
    by_cases hlt : k < xs.length
    · obtain ⟨b, o, ck, Fk, rfl, hbF, hbs, hr, hsub, hc⟩ := h.get hlt
      obtain ⟨hck, hFk, hI⟩ := hr
      subst hck hFk
      have q0 : w.cell? ⟨b, o + k, none⟩ = some (.int .i64 xs[k]) := by have := hc 0 _ rfl; rwa [show o + (k * Dat.size Int + 0) = o + k from by show o + (k * 1 + 0) = _; omega] at this
      clear hc
      have hd := orI_drop hlt
      by_cases h0 : xs[k] = 0
      · rw [if_pos h0] at hd
        have HN := Lib.hid (HO.out.trans hd)
        clear hd
        have hb0 : (xs[k] == 0) = true := by simp [h0]
        go_wp2
        exact ⟨⟨k + 1, by omega, by go_num, HN.out⟩, by simp [intOf]; omega⟩
      · rw [if_neg h0] at hd
        have HN := Lib.hid (HO.out.trans hd)
        clear hd
        have hb0 : (xs[k] == 0) = false := by simp [h0]
        go_wp2
        go_ret
        exact ⟨by rw [HN.out]; rfl, rfl⟩
    · have hkl : k = xs.length := by omega
      subst hkl
      have ho := HO.out
      rw [List.drop_length] at ho
      have HN := Lib.hid ho
      clear ho
      go_wp2
      go_ret
      exact ⟨by rw [HN.out]; rfl, rfl⟩

end Go.Proofs.YtjoclfenghenjaaGreat
