/- ReadVar, of the reference. No condition. -/
import Derived.Test.YtkgajoichmnaaaaReadVarP
import Derived.Test.YtkgajoichmnaaaaRegion
namespace Go.Proofs.Ytkgajoichmnaaaa
open Dat (rd)
open Go.ChangeShapes Go.WideShapes Go.ChangeAt Go.RowKit
set_option linter.unusedVariables false
set_option linter.unusedSimpArgs false
theorem l01In_any (n a b : Int) (w : World) : Calls Try.prog 28 #[.int .i64 n, .int .i64 a, .int .i64 b] w fun e w' => e = .returned (.bool (decide (a ≤ n) && decide (n ≤ b))) ∧ w' = w := by
  by_cases h1 : a ≤ n <;> by_cases h2 : n ≤ b
  all_goals
    go_enter Try.func28, Try.ntmps28
    go_wp2
    go_ret
    exact ⟨by simp [h1, h2] <;> first | rfl | omega, rfl⟩
set_option maxRecDepth 100000 in
set_option maxHeartbeats 4000000 in
theorem ReadVar_spec (s : ByteArray) (at_ : Int) (w : World) (hs : (s.size : Int) ≤ 1048576) (hat : I64 at_) :
    Calls Try.prog 61 #[.string s, .int .i64 at_] w fun e w' => e = .returned (rvV (readVarR s at_)) ∧ Below w.heap.size w w' := by
  by_cases hneg : at_ < 0
  · have hfin : readVarR s at_ = none := by unfold readVarR; rw [if_pos hneg]
    rw [hfin]
    go_enter Try.func61, Try.ntmps61
    go_wp2
    go_returns
    exact ⟨rfl, ext_refl _⟩
  · obtain ⟨a, rfl⟩ := Int.eq_ofNat_of_zero_le (show 0 ≤ at_ by omega)
    have hfin : readVarR s (a : Int) = rvAt s a 0 0 := by unfold readVarR; rw [if_neg hneg]; rfl
    have HF := Lib.hid hfin
    have ha1 := hat.2
    clear hfin hneg
    by_cases hin : a < s.size
    · have hini : (a : Int) ≤ (s.size : Int) - 1 := by omega
      go_enter Try.func61, Try.ntmps61
      go_wp2_with fail
      refine (l01In_any (a : Int) 0 ((s.size : Int) - 1) _).mono ?_
      rw [show (decide ((0 : Int) ≤ (a : Int)) && decide ((a : Int) ≤ (s.size : Int) - 1)) = true by simp; omega]
      rintro e w3 ⟨rfl, hw⟩
      simp only [hw]
      clear hw w3
      go_wp2
      go_loop [6, 7] (fun y z => ∃ (k n : Nat), k ≤ 9 ∧ y = .int .i64 (n : Int) ∧ z = .int .i64 (k : Int) ∧ Hid (n < 2 ^ (7 * k)) ∧ Hid (0 < k → a + k ≤ s.size) ∧ Hid (rvAt s a 0 0 = rvAt s a k n)) (fun _ z => 9 - (intOf z).toNat)
      case atStart => exact ⟨0, 0, by omega, rfl, rfl, by show 0 < 2 ^ (7 * 0); decide, fun h => by omega, rfl⟩
      case round =>
        obtain ⟨k, n, hk, rfl, rfl, HN, HA, HO⟩ := hrel
        by_cases hk9 : k < 9
        · by_cases hlt : a + k < s.size
          · have hlti : ((a + k : Nat) : Int) < s.size := by omega
            obtain rfl | rfl | rfl | rfl | rfl | rfl | rfl | rfl | rfl : k = 0 ∨ k = 1 ∨ k = 2 ∨ k = 3 ∨ k = 4 ∨ k = 5 ∨ k = 6 ∨ k = 7 ∨ k = 8 := by omega
            · have hc256i : (s[a].toNat : Int) < 256 := by have : s[a].toNat < 256 := s[a].toNat_lt; omega
              have hc0i : 0 ≤ (s[a].toNat : Int) := by omega
              have hn0 : n < 1 := by have := HN.out; rw [(show (2:Nat) ^ (7 * 0) = 1 by rfl)] at this; exact this
              have hni : (n : Int) < 1 := by omega
              have hnn : n + s[a].toNat % 128 < 2 ^ (7 * (0 + 1)) := by rw [show (2:Nat) ^ (7 * (0 + 1)) = 128 by rfl]; omega
              have hw1 : IntKind.i64.wrap ((s[a].toNat : Int) % 128) = (s[a].toNat : Int) % 128 := IntWalk.i64_in _ (by omega)
              have hw2 : IntKind.i64.wrap ((n : Int) + (s[a].toNat : Int) % 128) = (n : Int) + (s[a].toNat : Int) % 128 := IntWalk.i64_in _ (by omega)
              clear hn0 hni
              have HNN := Lib.hid hnn
              clear hnn
              have HV := Lib.hid (show ((n + s[a].toNat % 128 : Nat) : Int) = (n : Int) + (s[a].toNat : Int) % 128 by omega)
              by_cases hc : s[a].toNat < 128
              · have hci : (s[a].toNat : Int) < 128 := by omega
                have HG0 := HO.out.trans (rvAt_end (n := n) hk9 hlt (by show s[a].toNat < 128; omega) (fun h => absurd h.2 (by decide)))
                rw [(show (2:Nat) ^ (7 * 0) = 1 by rfl), Nat.mul_one] at HG0
                have HG := Lib.hid HG0
                clear HG0
                cases hzb : ((s[a].toNat : Int) == 0)
                all_goals
                  go_wp2
                  all_goals
                    go_returns
                    exact ⟨by rw [HF.out, HG.out]; show _ = Ending.returned (Value.tuple #[.int .i64 ((n + s[a].toNat % 128 : Nat) : Int), .int .i64 ((a + 0 + 1 : Nat) : Int)]); rw [HV.out]; first | rfl | (push_cast; rfl) | simp, (by repeat (first | with_reducible exact ext_refl _ | with_reducible assumption | with_reducible refine ext_alloc ?_ _ | with_reducible refine ext_trans ?_ (by assumption)))⟩
              · have hci : ¬ (s[a].toNat : Int) < 128 := by omega
                have HG0 := HO.out.trans (rvAt_more (n := n) hk9 hlt (by show 128 ≤ s[a].toNat; omega))
                rw [(show (2:Nat) ^ (7 * 0) = 1 by rfl), Nat.mul_one] at HG0
                have HG := Lib.hid HG0
                clear HG0
                go_wp2
                exact ⟨⟨0 + 1, n + s[a].toNat % 128, by omega, (by rw [HV.out]), by go_num, HNN.out, (by show 0 < _ → _; intro _; omega), HG.out⟩, by simp [intOf]⟩
            · have hc256i : (s[a + 1].toNat : Int) < 256 := by have : s[a + 1].toNat < 256 := s[a + 1].toNat_lt; omega
              have hc0i : 0 ≤ (s[a + 1].toNat : Int) := by omega
              have hn0 : n < 128 := by have := HN.out; rw [(show (2:Nat) ^ (7 * 1) = 128 by rfl)] at this; exact this
              have hni : (n : Int) < 128 := by omega
              have hnn : n + s[a + 1].toNat % 128 * 128 < 2 ^ (7 * (1 + 1)) := by rw [show (2:Nat) ^ (7 * (1 + 1)) = 16384 by rfl]; omega
              have hw1 : IntKind.i64.wrap ((s[a + 1].toNat : Int) % 128 * 128) = (s[a + 1].toNat : Int) % 128 * 128 := IntWalk.i64_in _ (by omega)
              have hw2 : IntKind.i64.wrap ((n : Int) + (s[a + 1].toNat : Int) % 128 * 128) = (n : Int) + (s[a + 1].toNat : Int) % 128 * 128 := IntWalk.i64_in _ (by omega)
              clear hn0 hni
              have HNN := Lib.hid hnn
              clear hnn
              have HV := Lib.hid (show ((n + s[a + 1].toNat % 128 * 128 : Nat) : Int) = (n : Int) + (s[a + 1].toNat : Int) % 128 * 128 by omega)
              by_cases hc : s[a + 1].toNat < 128
              · have hci : (s[a + 1].toNat : Int) < 128 := by omega
                by_cases hz : s[a + 1].toNat = 0
                · have HG := Lib.hid (HO.out.trans (rvAt_zero (n := n) hk9 hlt hz (by decide)))
                  have hzi : ((s[a + 1].toNat : Int) == 0) = true := by simp [hz]
                  have hzj : (s[a + 1].toNat : Int) = 0 := by omega
                  clear hz
                  go_wp2
                  all_goals
                    go_returns
                    exact ⟨by rw [HF.out, HG.out]; rfl, (by repeat (first | with_reducible exact ext_refl _ | with_reducible assumption | with_reducible refine ext_alloc ?_ _ | with_reducible refine ext_trans ?_ (by assumption)))⟩
                · have HG0 := HO.out.trans (rvAt_end (n := n) hk9 hlt (by show s[a + 1].toNat < 128; omega) (fun h => hz h.1))
                  rw [(show (2:Nat) ^ (7 * 1) = 128 by rfl)] at HG0
                  have HG := Lib.hid HG0
                  clear HG0
                  have hzi : ((s[a + 1].toNat : Int) == 0) = false := by rw [beq_eq_false_iff_ne]; omega
                  clear hz
                  go_wp2
                  all_goals
                    go_returns
                    exact ⟨by rw [HF.out, HG.out]; show _ = Ending.returned (Value.tuple #[.int .i64 ((n + s[a + 1].toNat % 128 * 128 : Nat) : Int), .int .i64 ((a + 1 + 1 : Nat) : Int)]); rw [HV.out]; first | rfl | (push_cast; rfl) | simp, (by repeat (first | with_reducible exact ext_refl _ | with_reducible assumption | with_reducible refine ext_alloc ?_ _ | with_reducible refine ext_trans ?_ (by assumption)))⟩
              · have hci : ¬ (s[a + 1].toNat : Int) < 128 := by omega
                have HG0 := HO.out.trans (rvAt_more (n := n) hk9 hlt (by show 128 ≤ s[a + 1].toNat; omega))
                rw [(show (2:Nat) ^ (7 * 1) = 128 by rfl)] at HG0
                have HG := Lib.hid HG0
                clear HG0
                go_wp2
                exact ⟨⟨1 + 1, n + s[a + 1].toNat % 128 * 128, by omega, (by rw [HV.out]), by go_num, HNN.out, (by show 0 < _ → _; intro _; omega), HG.out⟩, by simp [intOf]⟩
            · have hc256i : (s[a + 2].toNat : Int) < 256 := by have : s[a + 2].toNat < 256 := s[a + 2].toNat_lt; omega
              have hc0i : 0 ≤ (s[a + 2].toNat : Int) := by omega
              have hn0 : n < 16384 := by have := HN.out; rw [(show (2:Nat) ^ (7 * 2) = 16384 by rfl)] at this; exact this
              have hni : (n : Int) < 16384 := by omega
              have hnn : n + s[a + 2].toNat % 128 * 16384 < 2 ^ (7 * (2 + 1)) := by rw [show (2:Nat) ^ (7 * (2 + 1)) = 2097152 by rfl]; omega
              have hw1 : IntKind.i64.wrap ((s[a + 2].toNat : Int) % 128 * 16384) = (s[a + 2].toNat : Int) % 128 * 16384 := IntWalk.i64_in _ (by omega)
              have hw2 : IntKind.i64.wrap ((n : Int) + (s[a + 2].toNat : Int) % 128 * 16384) = (n : Int) + (s[a + 2].toNat : Int) % 128 * 16384 := IntWalk.i64_in _ (by omega)
              clear hn0 hni
              have HNN := Lib.hid hnn
              clear hnn
              have HV := Lib.hid (show ((n + s[a + 2].toNat % 128 * 16384 : Nat) : Int) = (n : Int) + (s[a + 2].toNat : Int) % 128 * 16384 by omega)
              by_cases hc : s[a + 2].toNat < 128
              · have hci : (s[a + 2].toNat : Int) < 128 := by omega
                by_cases hz : s[a + 2].toNat = 0
                · have HG := Lib.hid (HO.out.trans (rvAt_zero (n := n) hk9 hlt hz (by decide)))
                  have hzi : ((s[a + 2].toNat : Int) == 0) = true := by simp [hz]
                  have hzj : (s[a + 2].toNat : Int) = 0 := by omega
                  clear hz
                  go_wp2
                  all_goals
                    go_returns
                    exact ⟨by rw [HF.out, HG.out]; rfl, (by repeat (first | with_reducible exact ext_refl _ | with_reducible assumption | with_reducible refine ext_alloc ?_ _ | with_reducible refine ext_trans ?_ (by assumption)))⟩
                · have HG0 := HO.out.trans (rvAt_end (n := n) hk9 hlt (by show s[a + 2].toNat < 128; omega) (fun h => hz h.1))
                  rw [(show (2:Nat) ^ (7 * 2) = 16384 by rfl)] at HG0
                  have HG := Lib.hid HG0
                  clear HG0
                  have hzi : ((s[a + 2].toNat : Int) == 0) = false := by rw [beq_eq_false_iff_ne]; omega
                  clear hz
                  go_wp2
                  all_goals
                    go_returns
                    exact ⟨by rw [HF.out, HG.out]; show _ = Ending.returned (Value.tuple #[.int .i64 ((n + s[a + 2].toNat % 128 * 16384 : Nat) : Int), .int .i64 ((a + 2 + 1 : Nat) : Int)]); rw [HV.out]; first | rfl | (push_cast; rfl) | simp, (by repeat (first | with_reducible exact ext_refl _ | with_reducible assumption | with_reducible refine ext_alloc ?_ _ | with_reducible refine ext_trans ?_ (by assumption)))⟩
              · have hci : ¬ (s[a + 2].toNat : Int) < 128 := by omega
                have HG0 := HO.out.trans (rvAt_more (n := n) hk9 hlt (by show 128 ≤ s[a + 2].toNat; omega))
                rw [(show (2:Nat) ^ (7 * 2) = 16384 by rfl)] at HG0
                have HG := Lib.hid HG0
                clear HG0
                go_wp2
                exact ⟨⟨2 + 1, n + s[a + 2].toNat % 128 * 16384, by omega, (by rw [HV.out]), by go_num, HNN.out, (by show 0 < _ → _; intro _; omega), HG.out⟩, by simp [intOf]⟩
            · have hc256i : (s[a + 3].toNat : Int) < 256 := by have : s[a + 3].toNat < 256 := s[a + 3].toNat_lt; omega
              have hc0i : 0 ≤ (s[a + 3].toNat : Int) := by omega
              have hn0 : n < 2097152 := by have := HN.out; rw [(show (2:Nat) ^ (7 * 3) = 2097152 by rfl)] at this; exact this
              have hni : (n : Int) < 2097152 := by omega
              have hnn : n + s[a + 3].toNat % 128 * 2097152 < 2 ^ (7 * (3 + 1)) := by rw [show (2:Nat) ^ (7 * (3 + 1)) = 268435456 by rfl]; omega
              have hw1 : IntKind.i64.wrap ((s[a + 3].toNat : Int) % 128 * 2097152) = (s[a + 3].toNat : Int) % 128 * 2097152 := IntWalk.i64_in _ (by omega)
              have hw2 : IntKind.i64.wrap ((n : Int) + (s[a + 3].toNat : Int) % 128 * 2097152) = (n : Int) + (s[a + 3].toNat : Int) % 128 * 2097152 := IntWalk.i64_in _ (by omega)
              clear hn0 hni
              have HNN := Lib.hid hnn
              clear hnn
              have HV := Lib.hid (show ((n + s[a + 3].toNat % 128 * 2097152 : Nat) : Int) = (n : Int) + (s[a + 3].toNat : Int) % 128 * 2097152 by omega)
              by_cases hc : s[a + 3].toNat < 128
              · have hci : (s[a + 3].toNat : Int) < 128 := by omega
                by_cases hz : s[a + 3].toNat = 0
                · have HG := Lib.hid (HO.out.trans (rvAt_zero (n := n) hk9 hlt hz (by decide)))
                  have hzi : ((s[a + 3].toNat : Int) == 0) = true := by simp [hz]
                  have hzj : (s[a + 3].toNat : Int) = 0 := by omega
                  clear hz
                  go_wp2
                  all_goals
                    go_returns
                    exact ⟨by rw [HF.out, HG.out]; rfl, (by repeat (first | with_reducible exact ext_refl _ | with_reducible assumption | with_reducible refine ext_alloc ?_ _ | with_reducible refine ext_trans ?_ (by assumption)))⟩
                · have HG0 := HO.out.trans (rvAt_end (n := n) hk9 hlt (by show s[a + 3].toNat < 128; omega) (fun h => hz h.1))
                  rw [(show (2:Nat) ^ (7 * 3) = 2097152 by rfl)] at HG0
                  have HG := Lib.hid HG0
                  clear HG0
                  have hzi : ((s[a + 3].toNat : Int) == 0) = false := by rw [beq_eq_false_iff_ne]; omega
                  clear hz
                  go_wp2
                  all_goals
                    go_returns
                    exact ⟨by rw [HF.out, HG.out]; show _ = Ending.returned (Value.tuple #[.int .i64 ((n + s[a + 3].toNat % 128 * 2097152 : Nat) : Int), .int .i64 ((a + 3 + 1 : Nat) : Int)]); rw [HV.out]; first | rfl | (push_cast; rfl) | simp, (by repeat (first | with_reducible exact ext_refl _ | with_reducible assumption | with_reducible refine ext_alloc ?_ _ | with_reducible refine ext_trans ?_ (by assumption)))⟩
              · have hci : ¬ (s[a + 3].toNat : Int) < 128 := by omega
                have HG0 := HO.out.trans (rvAt_more (n := n) hk9 hlt (by show 128 ≤ s[a + 3].toNat; omega))
                rw [(show (2:Nat) ^ (7 * 3) = 2097152 by rfl)] at HG0
                have HG := Lib.hid HG0
                clear HG0
                go_wp2
                exact ⟨⟨3 + 1, n + s[a + 3].toNat % 128 * 2097152, by omega, (by rw [HV.out]), by go_num, HNN.out, (by show 0 < _ → _; intro _; omega), HG.out⟩, by simp [intOf]⟩
            · have hc256i : (s[a + 4].toNat : Int) < 256 := by have : s[a + 4].toNat < 256 := s[a + 4].toNat_lt; omega
              have hc0i : 0 ≤ (s[a + 4].toNat : Int) := by omega
              have hn0 : n < 268435456 := by have := HN.out; rw [(show (2:Nat) ^ (7 * 4) = 268435456 by rfl)] at this; exact this
              have hni : (n : Int) < 268435456 := by omega
              have hnn : n + s[a + 4].toNat % 128 * 268435456 < 2 ^ (7 * (4 + 1)) := by rw [show (2:Nat) ^ (7 * (4 + 1)) = 34359738368 by rfl]; omega
              have hw1 : IntKind.i64.wrap ((s[a + 4].toNat : Int) % 128 * 268435456) = (s[a + 4].toNat : Int) % 128 * 268435456 := IntWalk.i64_in _ (by omega)
              have hw2 : IntKind.i64.wrap ((n : Int) + (s[a + 4].toNat : Int) % 128 * 268435456) = (n : Int) + (s[a + 4].toNat : Int) % 128 * 268435456 := IntWalk.i64_in _ (by omega)
              clear hn0 hni
              have HNN := Lib.hid hnn
              clear hnn
              have HV := Lib.hid (show ((n + s[a + 4].toNat % 128 * 268435456 : Nat) : Int) = (n : Int) + (s[a + 4].toNat : Int) % 128 * 268435456 by omega)
              by_cases hc : s[a + 4].toNat < 128
              · have hci : (s[a + 4].toNat : Int) < 128 := by omega
                by_cases hz : s[a + 4].toNat = 0
                · have HG := Lib.hid (HO.out.trans (rvAt_zero (n := n) hk9 hlt hz (by decide)))
                  have hzi : ((s[a + 4].toNat : Int) == 0) = true := by simp [hz]
                  have hzj : (s[a + 4].toNat : Int) = 0 := by omega
                  clear hz
                  go_wp2
                  all_goals
                    go_returns
                    exact ⟨by rw [HF.out, HG.out]; rfl, (by repeat (first | with_reducible exact ext_refl _ | with_reducible assumption | with_reducible refine ext_alloc ?_ _ | with_reducible refine ext_trans ?_ (by assumption)))⟩
                · have HG0 := HO.out.trans (rvAt_end (n := n) hk9 hlt (by show s[a + 4].toNat < 128; omega) (fun h => hz h.1))
                  rw [(show (2:Nat) ^ (7 * 4) = 268435456 by rfl)] at HG0
                  have HG := Lib.hid HG0
                  clear HG0
                  have hzi : ((s[a + 4].toNat : Int) == 0) = false := by rw [beq_eq_false_iff_ne]; omega
                  clear hz
                  go_wp2
                  all_goals
                    go_returns
                    exact ⟨by rw [HF.out, HG.out]; show _ = Ending.returned (Value.tuple #[.int .i64 ((n + s[a + 4].toNat % 128 * 268435456 : Nat) : Int), .int .i64 ((a + 4 + 1 : Nat) : Int)]); rw [HV.out]; first | rfl | (push_cast; rfl) | simp, (by repeat (first | with_reducible exact ext_refl _ | with_reducible assumption | with_reducible refine ext_alloc ?_ _ | with_reducible refine ext_trans ?_ (by assumption)))⟩
              · have hci : ¬ (s[a + 4].toNat : Int) < 128 := by omega
                have HG0 := HO.out.trans (rvAt_more (n := n) hk9 hlt (by show 128 ≤ s[a + 4].toNat; omega))
                rw [(show (2:Nat) ^ (7 * 4) = 268435456 by rfl)] at HG0
                have HG := Lib.hid HG0
                clear HG0
                go_wp2
                exact ⟨⟨4 + 1, n + s[a + 4].toNat % 128 * 268435456, by omega, (by rw [HV.out]), by go_num, HNN.out, (by show 0 < _ → _; intro _; omega), HG.out⟩, by simp [intOf]⟩
            · have hc256i : (s[a + 5].toNat : Int) < 256 := by have : s[a + 5].toNat < 256 := s[a + 5].toNat_lt; omega
              have hc0i : 0 ≤ (s[a + 5].toNat : Int) := by omega
              have hn0 : n < 34359738368 := by have := HN.out; rw [(show (2:Nat) ^ (7 * 5) = 34359738368 by rfl)] at this; exact this
              have hni : (n : Int) < 34359738368 := by omega
              have hnn : n + s[a + 5].toNat % 128 * 34359738368 < 2 ^ (7 * (5 + 1)) := by rw [show (2:Nat) ^ (7 * (5 + 1)) = 4398046511104 by rfl]; omega
              have hw1 : IntKind.i64.wrap ((s[a + 5].toNat : Int) % 128 * 34359738368) = (s[a + 5].toNat : Int) % 128 * 34359738368 := IntWalk.i64_in _ (by omega)
              have hw2 : IntKind.i64.wrap ((n : Int) + (s[a + 5].toNat : Int) % 128 * 34359738368) = (n : Int) + (s[a + 5].toNat : Int) % 128 * 34359738368 := IntWalk.i64_in _ (by omega)
              clear hn0 hni
              have HNN := Lib.hid hnn
              clear hnn
              have HV := Lib.hid (show ((n + s[a + 5].toNat % 128 * 34359738368 : Nat) : Int) = (n : Int) + (s[a + 5].toNat : Int) % 128 * 34359738368 by omega)
              by_cases hc : s[a + 5].toNat < 128
              · have hci : (s[a + 5].toNat : Int) < 128 := by omega
                by_cases hz : s[a + 5].toNat = 0
                · have HG := Lib.hid (HO.out.trans (rvAt_zero (n := n) hk9 hlt hz (by decide)))
                  have hzi : ((s[a + 5].toNat : Int) == 0) = true := by simp [hz]
                  have hzj : (s[a + 5].toNat : Int) = 0 := by omega
                  clear hz
                  go_wp2
                  all_goals
                    go_returns
                    exact ⟨by rw [HF.out, HG.out]; rfl, (by repeat (first | with_reducible exact ext_refl _ | with_reducible assumption | with_reducible refine ext_alloc ?_ _ | with_reducible refine ext_trans ?_ (by assumption)))⟩
                · have HG0 := HO.out.trans (rvAt_end (n := n) hk9 hlt (by show s[a + 5].toNat < 128; omega) (fun h => hz h.1))
                  rw [(show (2:Nat) ^ (7 * 5) = 34359738368 by rfl)] at HG0
                  have HG := Lib.hid HG0
                  clear HG0
                  have hzi : ((s[a + 5].toNat : Int) == 0) = false := by rw [beq_eq_false_iff_ne]; omega
                  clear hz
                  go_wp2
                  all_goals
                    go_returns
                    exact ⟨by rw [HF.out, HG.out]; show _ = Ending.returned (Value.tuple #[.int .i64 ((n + s[a + 5].toNat % 128 * 34359738368 : Nat) : Int), .int .i64 ((a + 5 + 1 : Nat) : Int)]); rw [HV.out]; first | rfl | (push_cast; rfl) | simp, (by repeat (first | with_reducible exact ext_refl _ | with_reducible assumption | with_reducible refine ext_alloc ?_ _ | with_reducible refine ext_trans ?_ (by assumption)))⟩
              · have hci : ¬ (s[a + 5].toNat : Int) < 128 := by omega
                have HG0 := HO.out.trans (rvAt_more (n := n) hk9 hlt (by show 128 ≤ s[a + 5].toNat; omega))
                rw [(show (2:Nat) ^ (7 * 5) = 34359738368 by rfl)] at HG0
                have HG := Lib.hid HG0
                clear HG0
                go_wp2
                exact ⟨⟨5 + 1, n + s[a + 5].toNat % 128 * 34359738368, by omega, (by rw [HV.out]), by go_num, HNN.out, (by show 0 < _ → _; intro _; omega), HG.out⟩, by simp [intOf]⟩
            · have hc256i : (s[a + 6].toNat : Int) < 256 := by have : s[a + 6].toNat < 256 := s[a + 6].toNat_lt; omega
              have hc0i : 0 ≤ (s[a + 6].toNat : Int) := by omega
              have hn0 : n < 4398046511104 := by have := HN.out; rw [(show (2:Nat) ^ (7 * 6) = 4398046511104 by rfl)] at this; exact this
              have hni : (n : Int) < 4398046511104 := by omega
              have hnn : n + s[a + 6].toNat % 128 * 4398046511104 < 2 ^ (7 * (6 + 1)) := by rw [show (2:Nat) ^ (7 * (6 + 1)) = 562949953421312 by rfl]; omega
              have hw1 : IntKind.i64.wrap ((s[a + 6].toNat : Int) % 128 * 4398046511104) = (s[a + 6].toNat : Int) % 128 * 4398046511104 := IntWalk.i64_in _ (by omega)
              have hw2 : IntKind.i64.wrap ((n : Int) + (s[a + 6].toNat : Int) % 128 * 4398046511104) = (n : Int) + (s[a + 6].toNat : Int) % 128 * 4398046511104 := IntWalk.i64_in _ (by omega)
              clear hn0 hni
              have HNN := Lib.hid hnn
              clear hnn
              have HV := Lib.hid (show ((n + s[a + 6].toNat % 128 * 4398046511104 : Nat) : Int) = (n : Int) + (s[a + 6].toNat : Int) % 128 * 4398046511104 by omega)
              by_cases hc : s[a + 6].toNat < 128
              · have hci : (s[a + 6].toNat : Int) < 128 := by omega
                by_cases hz : s[a + 6].toNat = 0
                · have HG := Lib.hid (HO.out.trans (rvAt_zero (n := n) hk9 hlt hz (by decide)))
                  have hzi : ((s[a + 6].toNat : Int) == 0) = true := by simp [hz]
                  have hzj : (s[a + 6].toNat : Int) = 0 := by omega
                  clear hz
                  go_wp2
                  all_goals
                    go_returns
                    exact ⟨by rw [HF.out, HG.out]; rfl, (by repeat (first | with_reducible exact ext_refl _ | with_reducible assumption | with_reducible refine ext_alloc ?_ _ | with_reducible refine ext_trans ?_ (by assumption)))⟩
                · have HG0 := HO.out.trans (rvAt_end (n := n) hk9 hlt (by show s[a + 6].toNat < 128; omega) (fun h => hz h.1))
                  rw [(show (2:Nat) ^ (7 * 6) = 4398046511104 by rfl)] at HG0
                  have HG := Lib.hid HG0
                  clear HG0
                  have hzi : ((s[a + 6].toNat : Int) == 0) = false := by rw [beq_eq_false_iff_ne]; omega
                  clear hz
                  go_wp2
                  all_goals
                    go_returns
                    exact ⟨by rw [HF.out, HG.out]; show _ = Ending.returned (Value.tuple #[.int .i64 ((n + s[a + 6].toNat % 128 * 4398046511104 : Nat) : Int), .int .i64 ((a + 6 + 1 : Nat) : Int)]); rw [HV.out]; first | rfl | (push_cast; rfl) | simp, (by repeat (first | with_reducible exact ext_refl _ | with_reducible assumption | with_reducible refine ext_alloc ?_ _ | with_reducible refine ext_trans ?_ (by assumption)))⟩
              · have hci : ¬ (s[a + 6].toNat : Int) < 128 := by omega
                have HG0 := HO.out.trans (rvAt_more (n := n) hk9 hlt (by show 128 ≤ s[a + 6].toNat; omega))
                rw [(show (2:Nat) ^ (7 * 6) = 4398046511104 by rfl)] at HG0
                have HG := Lib.hid HG0
                clear HG0
                go_wp2
                exact ⟨⟨6 + 1, n + s[a + 6].toNat % 128 * 4398046511104, by omega, (by rw [HV.out]), by go_num, HNN.out, (by show 0 < _ → _; intro _; omega), HG.out⟩, by simp [intOf]⟩
            · have hc256i : (s[a + 7].toNat : Int) < 256 := by have : s[a + 7].toNat < 256 := s[a + 7].toNat_lt; omega
              have hc0i : 0 ≤ (s[a + 7].toNat : Int) := by omega
              have hn0 : n < 562949953421312 := by have := HN.out; rw [(show (2:Nat) ^ (7 * 7) = 562949953421312 by rfl)] at this; exact this
              have hni : (n : Int) < 562949953421312 := by omega
              have hnn : n + s[a + 7].toNat % 128 * 562949953421312 < 2 ^ (7 * (7 + 1)) := by rw [show (2:Nat) ^ (7 * (7 + 1)) = 72057594037927936 by rfl]; omega
              have hw1 : IntKind.i64.wrap ((s[a + 7].toNat : Int) % 128 * 562949953421312) = (s[a + 7].toNat : Int) % 128 * 562949953421312 := IntWalk.i64_in _ (by omega)
              have hw2 : IntKind.i64.wrap ((n : Int) + (s[a + 7].toNat : Int) % 128 * 562949953421312) = (n : Int) + (s[a + 7].toNat : Int) % 128 * 562949953421312 := IntWalk.i64_in _ (by omega)
              clear hn0 hni
              have HNN := Lib.hid hnn
              clear hnn
              have HV := Lib.hid (show ((n + s[a + 7].toNat % 128 * 562949953421312 : Nat) : Int) = (n : Int) + (s[a + 7].toNat : Int) % 128 * 562949953421312 by omega)
              by_cases hc : s[a + 7].toNat < 128
              · have hci : (s[a + 7].toNat : Int) < 128 := by omega
                by_cases hz : s[a + 7].toNat = 0
                · have HG := Lib.hid (HO.out.trans (rvAt_zero (n := n) hk9 hlt hz (by decide)))
                  have hzi : ((s[a + 7].toNat : Int) == 0) = true := by simp [hz]
                  have hzj : (s[a + 7].toNat : Int) = 0 := by omega
                  clear hz
                  go_wp2
                  all_goals
                    go_returns
                    exact ⟨by rw [HF.out, HG.out]; rfl, (by repeat (first | with_reducible exact ext_refl _ | with_reducible assumption | with_reducible refine ext_alloc ?_ _ | with_reducible refine ext_trans ?_ (by assumption)))⟩
                · have HG0 := HO.out.trans (rvAt_end (n := n) hk9 hlt (by show s[a + 7].toNat < 128; omega) (fun h => hz h.1))
                  rw [(show (2:Nat) ^ (7 * 7) = 562949953421312 by rfl)] at HG0
                  have HG := Lib.hid HG0
                  clear HG0
                  have hzi : ((s[a + 7].toNat : Int) == 0) = false := by rw [beq_eq_false_iff_ne]; omega
                  clear hz
                  go_wp2
                  all_goals
                    go_returns
                    exact ⟨by rw [HF.out, HG.out]; show _ = Ending.returned (Value.tuple #[.int .i64 ((n + s[a + 7].toNat % 128 * 562949953421312 : Nat) : Int), .int .i64 ((a + 7 + 1 : Nat) : Int)]); rw [HV.out]; first | rfl | (push_cast; rfl) | simp, (by repeat (first | with_reducible exact ext_refl _ | with_reducible assumption | with_reducible refine ext_alloc ?_ _ | with_reducible refine ext_trans ?_ (by assumption)))⟩
              · have hci : ¬ (s[a + 7].toNat : Int) < 128 := by omega
                have HG0 := HO.out.trans (rvAt_more (n := n) hk9 hlt (by show 128 ≤ s[a + 7].toNat; omega))
                rw [(show (2:Nat) ^ (7 * 7) = 562949953421312 by rfl)] at HG0
                have HG := Lib.hid HG0
                clear HG0
                go_wp2
                exact ⟨⟨7 + 1, n + s[a + 7].toNat % 128 * 562949953421312, by omega, (by rw [HV.out]), by go_num, HNN.out, (by show 0 < _ → _; intro _; omega), HG.out⟩, by simp [intOf]⟩
            · have hc256i : (s[a + 8].toNat : Int) < 256 := by have : s[a + 8].toNat < 256 := s[a + 8].toNat_lt; omega
              have hc0i : 0 ≤ (s[a + 8].toNat : Int) := by omega
              have hn0 : n < 72057594037927936 := by have := HN.out; rw [(show (2:Nat) ^ (7 * 8) = 72057594037927936 by rfl)] at this; exact this
              have hni : (n : Int) < 72057594037927936 := by omega
              have hnn : n + s[a + 8].toNat % 128 * 72057594037927936 < 2 ^ (7 * (8 + 1)) := by rw [show (2:Nat) ^ (7 * (8 + 1)) = 9223372036854775808 by rfl]; omega
              have hw1 : IntKind.i64.wrap ((s[a + 8].toNat : Int) % 128 * 72057594037927936) = (s[a + 8].toNat : Int) % 128 * 72057594037927936 := IntWalk.i64_in _ (by omega)
              have hw2 : IntKind.i64.wrap ((n : Int) + (s[a + 8].toNat : Int) % 128 * 72057594037927936) = (n : Int) + (s[a + 8].toNat : Int) % 128 * 72057594037927936 := IntWalk.i64_in _ (by omega)
              clear hn0 hni
              have HNN := Lib.hid hnn
              clear hnn
              have HV := Lib.hid (show ((n + s[a + 8].toNat % 128 * 72057594037927936 : Nat) : Int) = (n : Int) + (s[a + 8].toNat : Int) % 128 * 72057594037927936 by omega)
              by_cases hc : s[a + 8].toNat < 128
              · have hci : (s[a + 8].toNat : Int) < 128 := by omega
                by_cases hz : s[a + 8].toNat = 0
                · have HG := Lib.hid (HO.out.trans (rvAt_zero (n := n) hk9 hlt hz (by decide)))
                  have hzi : ((s[a + 8].toNat : Int) == 0) = true := by simp [hz]
                  have hzj : (s[a + 8].toNat : Int) = 0 := by omega
                  clear hz
                  go_wp2
                  all_goals
                    go_returns
                    exact ⟨by rw [HF.out, HG.out]; rfl, (by repeat (first | with_reducible exact ext_refl _ | with_reducible assumption | with_reducible refine ext_alloc ?_ _ | with_reducible refine ext_trans ?_ (by assumption)))⟩
                · have HG0 := HO.out.trans (rvAt_end (n := n) hk9 hlt (by show s[a + 8].toNat < 128; omega) (fun h => hz h.1))
                  rw [(show (2:Nat) ^ (7 * 8) = 72057594037927936 by rfl)] at HG0
                  have HG := Lib.hid HG0
                  clear HG0
                  have hzi : ((s[a + 8].toNat : Int) == 0) = false := by rw [beq_eq_false_iff_ne]; omega
                  clear hz
                  go_wp2
                  all_goals
                    go_returns
                    exact ⟨by rw [HF.out, HG.out]; show _ = Ending.returned (Value.tuple #[.int .i64 ((n + s[a + 8].toNat % 128 * 72057594037927936 : Nat) : Int), .int .i64 ((a + 8 + 1 : Nat) : Int)]); rw [HV.out]; first | rfl | (push_cast; rfl) | simp, (by repeat (first | with_reducible exact ext_refl _ | with_reducible assumption | with_reducible refine ext_alloc ?_ _ | with_reducible refine ext_trans ?_ (by assumption)))⟩
              · have hci : ¬ (s[a + 8].toNat : Int) < 128 := by omega
                have HG0 := HO.out.trans (rvAt_more (n := n) hk9 hlt (by show 128 ≤ s[a + 8].toNat; omega))
                rw [(show (2:Nat) ^ (7 * 8) = 72057594037927936 by rfl)] at HG0
                have HG := Lib.hid HG0
                clear HG0
                go_wp2
                exact ⟨⟨8 + 1, n + s[a + 8].toNat % 128 * 72057594037927936, by omega, (by rw [HV.out]), by go_num, HNN.out, (by show 0 < _ → _; intro _; omega), HG.out⟩, by simp [intOf]⟩
          · have HG := Lib.hid (HO.out.trans (rvAt_out (fun h => hlt h.2)))
            have hlti : ¬ ((a : Int) + k) < s.size := by omega
            go_wp2
            go_returns
            exact ⟨by rw [HF.out, HG.out]; rfl, ext_refl _⟩
        · have HG := Lib.hid (HO.out.trans (rvAt_out (fun h => hk9 h.1)))
          have hk9i : ¬ (k : Int) < 9 := by omega
          go_wp2
          go_returns
          exact ⟨by rw [HF.out, HG.out]; rfl, ext_refl _⟩
    · have HG := Lib.hid (rvAt_out (s := s) (a := a) (k := 0) (n := 0) (fun h => hin h.2))
      have hini : ¬ (a : Int) ≤ (s.size : Int) - 1 := by omega
      have hd : decide ((a : Int) ≤ (s.size : Int) - 1) = false := by simp; omega
      go_enter Try.func61, Try.ntmps61
      go_wp2
      go_returns
      exact ⟨by rw [HF.out, HG.out]; rfl, ext_refl _⟩

end Go.Proofs.Ytkgajoichmnaaaa
