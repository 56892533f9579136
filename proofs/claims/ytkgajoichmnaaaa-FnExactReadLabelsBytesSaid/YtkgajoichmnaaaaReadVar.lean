/- ReadVar, of the program. No condition. -/
import Derived.Test.YtkgajoichmnaaaaReadVarP
import Derived.Test.YtkgajoichmnaaaaRegion
namespace Go.Proofs.Ytkgajoichmnaaaa
open Dat (rd)
open Go.ChangeShapes Go.WideShapes Go.ChangeAt Go.RowKit
set_option linter.unusedVariables false
set_option linter.unusedSimpArgs false
set_option maxRecDepth 100000 in
set_option maxHeartbeats 4000000 in
theorem ReadVar_impl (s : ByteArray) (at_ : Int) (w : World) (hs : (s.size : Int) ≤ 1048576) (hat : I64 at_) :
    Calls Try.prog 63 #[.string s, .int .i64 at_] w fun e w' => e = .returned (rvV (readVarR s at_)) ∧ w' = w := by
  by_cases hneg : at_ < 0
  · have hfin : readVarR s at_ = none := by unfold readVarR; rw [if_pos hneg]
    rw [hfin]
    go_enter Try.func63, Try.ntmps63
    go_wp2
    go_returns
    exact ⟨rfl, rfl⟩
  · obtain ⟨a, rfl⟩ := Int.eq_ofNat_of_zero_le (show 0 ≤ at_ by omega)
    have hfin : readVarR s (a : Int) = rvAt s a 0 0 := by unfold readVarR; rw [if_neg hneg]; rfl
    have HF := Lib.hid hfin
    have ha1 := hat.2
    clear hfin hneg
    go_enter Try.func63, Try.ntmps63
    go_wp2
    go_loop [1, 6, 7] (fun x y z => ∃ (k n : Nat), k ≤ 9 ∧ x = .int .i64 ((a + k : Nat) : Int) ∧ y = .int .i64 (n : Int) ∧ z = .int .i64 (k : Int) ∧ Hid (n < 2 ^ (7 * k)) ∧ Hid (0 < k → a + k ≤ s.size) ∧ Hid (rvAt s a 0 0 = rvAt s a k n)) (fun _ _ z => 9 - (intOf z).toNat)
    case atStart => exact ⟨0, 0, by omega, by simp, rfl, rfl, by show 0 < 2 ^ (7 * 0); decide, fun h => by omega, rfl⟩
    case round =>
      obtain ⟨k, n, hk, rfl, rfl, rfl, HN, HA, HO⟩ := hrel
      by_cases hk9 : k < 9
      · by_cases hlt : a + k < s.size
        · have hlti : ((a + k : Nat) : Int) < s.size := by omega
          have hc256 : s[a + k].toNat < 256 := s[a + k].toNat_lt
          have hand := i64_and127 (s[a + k].toNat : Int)
          have hmod : ((s[a + k].toNat : Int) % 128) = ((s[a + k].toNat % 128 : Nat) : Int) := by omega
          rw [hmod] at hand
          have hmul : ∀ P : Nat, ((s[a + k].toNat % 128 : Nat) : Int) * (P : Int) = ((s[a + k].toNat % 128 * P : Nat) : Int) := fun P => by push_cast; rfl
          have hn63 : n < 2 ^ 63 := Nat.lt_of_lt_of_le HN.out (Nat.pow_le_pow_right (by decide) (by omega))
          obtain rfl | rfl | rfl | rfl | rfl | rfl | rfl | rfl | rfl : k = 0 ∨ k = 1 ∨ k = 2 ∨ k = 3 ∨ k = 4 ∨ k = 5 ∨ k = 6 ∨ k = 7 ∨ k = 8 := by omega
          · have hc256i : (s[a].toNat : Int) < 256 := by have : s[a].toNat < 256 := s[a].toNat_lt; omega
            have hc0i : 0 ≤ (s[a].toNat : Int) := by omega
            replace hand := i64_and127 (s[a].toNat : Int)
            have hor : bits .or .i64 (n : Int) ((s[a].toNat : Int) % 128) = ((n + s[a].toNat % 128 * 1 : Nat) : Int) := by
              have h9 := or_join 0 n (s[a].toNat % 128 * 1) (by simpa using HN.out) (Nat.mul_mod_left _ 1) hn63 (by omega)
              rw [← h9]
              congr 1 <;> first | (push_cast; omega) | (push_cast; done) | (simp; done)
            have hnn : n + s[a].toNat % 128 * 1 < 2 ^ (7 * (0 + 1)) := by have := HN.out; simp at this ⊢; omega
            have HNN := Lib.hid hnn
            clear hnn hn63
            by_cases hc : s[a].toNat < 128
            · have hci : (s[a].toNat : Int) < 128 := by omega
              have HG := Lib.hid (HO.out.trans (rvAt_end (n := n) hk9 hlt (by show s[a].toNat < 128; omega) (fun h => absurd h.2 (by decide))))
              clear hmod hmul
              cases hzb : ((s[a].toNat : Int) == 0)
              all_goals
                go_wp2
                go_returns
                exact ⟨by rw [HF.out, HG.out]; unfold rvV; first | rfl | simp, rfl⟩
            · have hci : ¬ (s[a].toNat : Int) < 128 := by omega
              have HG := Lib.hid (HO.out.trans (rvAt_more (n := n) hk9 hlt (by show 128 ≤ s[a].toNat; omega)))
              clear hmod hmul
              go_wp2
              exact ⟨⟨0 + 1, n + s[a].toNat % 128 * 1, by omega, by go_num, (by first | rfl | go_num), by go_num, HNN.out, (by show 0 < _ → _; intro _; omega), HG.out⟩, by simp [intOf]⟩
          · have hc256i : (s[a + 1].toNat : Int) < 256 := by have : s[a + 1].toNat < 256 := s[a + 1].toNat_lt; omega
            have hc0i : 0 ≤ (s[a + 1].toNat : Int) := by omega
            replace hand := i64_and127 (s[a + 1].toNat : Int)
            have hor : bits .or .i64 (n : Int) ((s[a + 1].toNat : Int) % 128 * 128) = ((n + s[a + 1].toNat % 128 * 128 : Nat) : Int) := by
              have h9 := or_join 7 n (s[a + 1].toNat % 128 * 128) (by simpa using HN.out) (Nat.mul_mod_left _ 128) hn63 (by omega)
              rw [← h9]
              congr 1 <;> first | (push_cast; omega) | (push_cast; done) | (simp; done)
            have hnn : n + s[a + 1].toNat % 128 * 128 < 2 ^ (7 * (1 + 1)) := by have := HN.out; simp at this ⊢; omega
            have HNN := Lib.hid hnn
            clear hnn hn63
            by_cases hc : s[a + 1].toNat < 128
            · have hci : (s[a + 1].toNat : Int) < 128 := by omega
              by_cases hz : s[a + 1].toNat = 0
              · have HG := Lib.hid (HO.out.trans (rvAt_zero (n := n) hk9 hlt hz (by decide)))
                have hzi : ((s[a + 1].toNat : Int) == 0) = true := by simp [hz]
                have hzj : (s[a + 1].toNat : Int) = 0 := by omega
                clear hmod hand hmul hz
                go_wp2
                go_returns
                exact ⟨by rw [HF.out, HG.out]; rfl, rfl⟩
              · have HG := Lib.hid (HO.out.trans (rvAt_end (n := n) hk9 hlt (by show s[a + 1].toNat < 128; omega) (fun h => hz h.1)))
                have hzi : ((s[a + 1].toNat : Int) == 0) = false := by rw [beq_eq_false_iff_ne]; omega
                clear hmod hmul hz
                go_wp2
                go_returns
                exact ⟨by rw [HF.out, HG.out]; unfold rvV; first | rfl | simp, rfl⟩
            · have hci : ¬ (s[a + 1].toNat : Int) < 128 := by omega
              have HG := Lib.hid (HO.out.trans (rvAt_more (n := n) hk9 hlt (by show 128 ≤ s[a + 1].toNat; omega)))
              clear hmod hmul
              go_wp2
              exact ⟨⟨1 + 1, n + s[a + 1].toNat % 128 * 128, by omega, by go_num, (by first | rfl | go_num), by go_num, HNN.out, (by show 0 < _ → _; intro _; omega), HG.out⟩, by simp [intOf]⟩
          · have hc256i : (s[a + 2].toNat : Int) < 256 := by have : s[a + 2].toNat < 256 := s[a + 2].toNat_lt; omega
            have hc0i : 0 ≤ (s[a + 2].toNat : Int) := by omega
            replace hand := i64_and127 (s[a + 2].toNat : Int)
            have hor : bits .or .i64 (n : Int) ((s[a + 2].toNat : Int) % 128 * 16384) = ((n + s[a + 2].toNat % 128 * 16384 : Nat) : Int) := by
              have h9 := or_join 14 n (s[a + 2].toNat % 128 * 16384) (by simpa using HN.out) (Nat.mul_mod_left _ 16384) hn63 (by omega)
              rw [← h9]
              congr 1 <;> first | (push_cast; omega) | (push_cast; done) | (simp; done)
            have hnn : n + s[a + 2].toNat % 128 * 16384 < 2 ^ (7 * (2 + 1)) := by have := HN.out; simp at this ⊢; omega
            have HNN := Lib.hid hnn
            clear hnn hn63
            by_cases hc : s[a + 2].toNat < 128
            · have hci : (s[a + 2].toNat : Int) < 128 := by omega
              by_cases hz : s[a + 2].toNat = 0
              · have HG := Lib.hid (HO.out.trans (rvAt_zero (n := n) hk9 hlt hz (by decide)))
                have hzi : ((s[a + 2].toNat : Int) == 0) = true := by simp [hz]
                have hzj : (s[a + 2].toNat : Int) = 0 := by omega
                clear hmod hand hmul hz
                go_wp2
                go_returns
                exact ⟨by rw [HF.out, HG.out]; rfl, rfl⟩
              · have HG := Lib.hid (HO.out.trans (rvAt_end (n := n) hk9 hlt (by show s[a + 2].toNat < 128; omega) (fun h => hz h.1)))
                have hzi : ((s[a + 2].toNat : Int) == 0) = false := by rw [beq_eq_false_iff_ne]; omega
                clear hmod hmul hz
                go_wp2
                go_returns
                exact ⟨by rw [HF.out, HG.out]; unfold rvV; first | rfl | simp, rfl⟩
            · have hci : ¬ (s[a + 2].toNat : Int) < 128 := by omega
              have HG := Lib.hid (HO.out.trans (rvAt_more (n := n) hk9 hlt (by show 128 ≤ s[a + 2].toNat; omega)))
              clear hmod hmul
              go_wp2
              exact ⟨⟨2 + 1, n + s[a + 2].toNat % 128 * 16384, by omega, by go_num, (by first | rfl | go_num), by go_num, HNN.out, (by show 0 < _ → _; intro _; omega), HG.out⟩, by simp [intOf]⟩
          · have hc256i : (s[a + 3].toNat : Int) < 256 := by have : s[a + 3].toNat < 256 := s[a + 3].toNat_lt; omega
            have hc0i : 0 ≤ (s[a + 3].toNat : Int) := by omega
            replace hand := i64_and127 (s[a + 3].toNat : Int)
            have hor : bits .or .i64 (n : Int) ((s[a + 3].toNat : Int) % 128 * 2097152) = ((n + s[a + 3].toNat % 128 * 2097152 : Nat) : Int) := by
              have h9 := or_join 21 n (s[a + 3].toNat % 128 * 2097152) (by simpa using HN.out) (Nat.mul_mod_left _ 2097152) hn63 (by omega)
              rw [← h9]
              congr 1 <;> first | (push_cast; omega) | (push_cast; done) | (simp; done)
            have hnn : n + s[a + 3].toNat % 128 * 2097152 < 2 ^ (7 * (3 + 1)) := by have := HN.out; simp at this ⊢; omega
            have HNN := Lib.hid hnn
            clear hnn hn63
            by_cases hc : s[a + 3].toNat < 128
            · have hci : (s[a + 3].toNat : Int) < 128 := by omega
              by_cases hz : s[a + 3].toNat = 0
              · have HG := Lib.hid (HO.out.trans (rvAt_zero (n := n) hk9 hlt hz (by decide)))
                have hzi : ((s[a + 3].toNat : Int) == 0) = true := by simp [hz]
                have hzj : (s[a + 3].toNat : Int) = 0 := by omega
                clear hmod hand hmul hz
                go_wp2
                go_returns
                exact ⟨by rw [HF.out, HG.out]; rfl, rfl⟩
              · have HG := Lib.hid (HO.out.trans (rvAt_end (n := n) hk9 hlt (by show s[a + 3].toNat < 128; omega) (fun h => hz h.1)))
                have hzi : ((s[a + 3].toNat : Int) == 0) = false := by rw [beq_eq_false_iff_ne]; omega
                clear hmod hmul hz
                go_wp2
                go_returns
                exact ⟨by rw [HF.out, HG.out]; unfold rvV; first | rfl | simp, rfl⟩
            · have hci : ¬ (s[a + 3].toNat : Int) < 128 := by omega
              have HG := Lib.hid (HO.out.trans (rvAt_more (n := n) hk9 hlt (by show 128 ≤ s[a + 3].toNat; omega)))
              clear hmod hmul
              go_wp2
              exact ⟨⟨3 + 1, n + s[a + 3].toNat % 128 * 2097152, by omega, by go_num, (by first | rfl | go_num), by go_num, HNN.out, (by show 0 < _ → _; intro _; omega), HG.out⟩, by simp [intOf]⟩
          · have hc256i : (s[a + 4].toNat : Int) < 256 := by have : s[a + 4].toNat < 256 := s[a + 4].toNat_lt; omega
            have hc0i : 0 ≤ (s[a + 4].toNat : Int) := by omega
            replace hand := i64_and127 (s[a + 4].toNat : Int)
            have hor : bits .or .i64 (n : Int) ((s[a + 4].toNat : Int) % 128 * 268435456) = ((n + s[a + 4].toNat % 128 * 268435456 : Nat) : Int) := by
              have h9 := or_join 28 n (s[a + 4].toNat % 128 * 268435456) (by simpa using HN.out) (Nat.mul_mod_left _ 268435456) hn63 (by omega)
              rw [← h9]
              congr 1 <;> first | (push_cast; omega) | (push_cast; done) | (simp; done)
            have hnn : n + s[a + 4].toNat % 128 * 268435456 < 2 ^ (7 * (4 + 1)) := by have := HN.out; simp at this ⊢; omega
            have HNN := Lib.hid hnn
            clear hnn hn63
            by_cases hc : s[a + 4].toNat < 128
            · have hci : (s[a + 4].toNat : Int) < 128 := by omega
              by_cases hz : s[a + 4].toNat = 0
              · have HG := Lib.hid (HO.out.trans (rvAt_zero (n := n) hk9 hlt hz (by decide)))
                have hzi : ((s[a + 4].toNat : Int) == 0) = true := by simp [hz]
                have hzj : (s[a + 4].toNat : Int) = 0 := by omega
                clear hmod hand hmul hz
                go_wp2
                go_returns
                exact ⟨by rw [HF.out, HG.out]; rfl, rfl⟩
              · have HG := Lib.hid (HO.out.trans (rvAt_end (n := n) hk9 hlt (by show s[a + 4].toNat < 128; omega) (fun h => hz h.1)))
                have hzi : ((s[a + 4].toNat : Int) == 0) = false := by rw [beq_eq_false_iff_ne]; omega
                clear hmod hmul hz
                go_wp2
                go_returns
                exact ⟨by rw [HF.out, HG.out]; unfold rvV; first | rfl | simp, rfl⟩
            · have hci : ¬ (s[a + 4].toNat : Int) < 128 := by omega
              have HG := Lib.hid (HO.out.trans (rvAt_more (n := n) hk9 hlt (by show 128 ≤ s[a + 4].toNat; omega)))
              clear hmod hmul
              go_wp2
              exact ⟨⟨4 + 1, n + s[a + 4].toNat % 128 * 268435456, by omega, by go_num, (by first | rfl | go_num), by go_num, HNN.out, (by show 0 < _ → _; intro _; omega), HG.out⟩, by simp [intOf]⟩
          · have hc256i : (s[a + 5].toNat : Int) < 256 := by have : s[a + 5].toNat < 256 := s[a + 5].toNat_lt; omega
            have hc0i : 0 ≤ (s[a + 5].toNat : Int) := by omega
            replace hand := i64_and127 (s[a + 5].toNat : Int)
            have hor : bits .or .i64 (n : Int) ((s[a + 5].toNat : Int) % 128 * 34359738368) = ((n + s[a + 5].toNat % 128 * 34359738368 : Nat) : Int) := by
              have h9 := or_join 35 n (s[a + 5].toNat % 128 * 34359738368) (by simpa using HN.out) (Nat.mul_mod_left _ 34359738368) hn63 (by omega)
              rw [← h9]
              congr 1 <;> first | (push_cast; omega) | (push_cast; done) | (simp; done)
            have hnn : n + s[a + 5].toNat % 128 * 34359738368 < 2 ^ (7 * (5 + 1)) := by have := HN.out; simp at this ⊢; omega
            have HNN := Lib.hid hnn
            clear hnn hn63
            by_cases hc : s[a + 5].toNat < 128
            · have hci : (s[a + 5].toNat : Int) < 128 := by omega
              by_cases hz : s[a + 5].toNat = 0
              · have HG := Lib.hid (HO.out.trans (rvAt_zero (n := n) hk9 hlt hz (by decide)))
                have hzi : ((s[a + 5].toNat : Int) == 0) = true := by simp [hz]
                have hzj : (s[a + 5].toNat : Int) = 0 := by omega
                clear hmod hand hmul hz
                go_wp2
                go_returns
                exact ⟨by rw [HF.out, HG.out]; rfl, rfl⟩
              · have HG := Lib.hid (HO.out.trans (rvAt_end (n := n) hk9 hlt (by show s[a + 5].toNat < 128; omega) (fun h => hz h.1)))
                have hzi : ((s[a + 5].toNat : Int) == 0) = false := by rw [beq_eq_false_iff_ne]; omega
                clear hmod hmul hz
                go_wp2
                go_returns
                exact ⟨by rw [HF.out, HG.out]; unfold rvV; first | rfl | simp, rfl⟩
            · have hci : ¬ (s[a + 5].toNat : Int) < 128 := by omega
              have HG := Lib.hid (HO.out.trans (rvAt_more (n := n) hk9 hlt (by show 128 ≤ s[a + 5].toNat; omega)))
              clear hmod hmul
              go_wp2
              exact ⟨⟨5 + 1, n + s[a + 5].toNat % 128 * 34359738368, by omega, by go_num, (by first | rfl | go_num), by go_num, HNN.out, (by show 0 < _ → _; intro _; omega), HG.out⟩, by simp [intOf]⟩
          · have hc256i : (s[a + 6].toNat : Int) < 256 := by have : s[a + 6].toNat < 256 := s[a + 6].toNat_lt; omega
            have hc0i : 0 ≤ (s[a + 6].toNat : Int) := by omega
            replace hand := i64_and127 (s[a + 6].toNat : Int)
            have hor : bits .or .i64 (n : Int) ((s[a + 6].toNat : Int) % 128 * 4398046511104) = ((n + s[a + 6].toNat % 128 * 4398046511104 : Nat) : Int) := by
              have h9 := or_join 42 n (s[a + 6].toNat % 128 * 4398046511104) (by simpa using HN.out) (Nat.mul_mod_left _ 4398046511104) hn63 (by omega)
              rw [← h9]
              congr 1 <;> first | (push_cast; omega) | (push_cast; done) | (simp; done)
            have hnn : n + s[a + 6].toNat % 128 * 4398046511104 < 2 ^ (7 * (6 + 1)) := by have := HN.out; simp at this ⊢; omega
            have HNN := Lib.hid hnn
            clear hnn hn63
            by_cases hc : s[a + 6].toNat < 128
            · have hci : (s[a + 6].toNat : Int) < 128 := by omega
              by_cases hz : s[a + 6].toNat = 0
              · have HG := Lib.hid (HO.out.trans (rvAt_zero (n := n) hk9 hlt hz (by decide)))
                have hzi : ((s[a + 6].toNat : Int) == 0) = true := by simp [hz]
                have hzj : (s[a + 6].toNat : Int) = 0 := by omega
                clear hmod hand hmul hz
                go_wp2
                go_returns
                exact ⟨by rw [HF.out, HG.out]; rfl, rfl⟩
              · have HG := Lib.hid (HO.out.trans (rvAt_end (n := n) hk9 hlt (by show s[a + 6].toNat < 128; omega) (fun h => hz h.1)))
                have hzi : ((s[a + 6].toNat : Int) == 0) = false := by rw [beq_eq_false_iff_ne]; omega
                clear hmod hmul hz
                go_wp2
                go_returns
                exact ⟨by rw [HF.out, HG.out]; unfold rvV; first | rfl | simp, rfl⟩
            · have hci : ¬ (s[a + 6].toNat : Int) < 128 := by omega
              have HG := Lib.hid (HO.out.trans (rvAt_more (n := n) hk9 hlt (by show 128 ≤ s[a + 6].toNat; omega)))
              clear hmod hmul
              go_wp2
              exact ⟨⟨6 + 1, n + s[a + 6].toNat % 128 * 4398046511104, by omega, by go_num, (by first | rfl | go_num), by go_num, HNN.out, (by show 0 < _ → _; intro _; omega), HG.out⟩, by simp [intOf]⟩
          · have hc256i : (s[a + 7].toNat : Int) < 256 := by have : s[a + 7].toNat < 256 := s[a + 7].toNat_lt; omega
            have hc0i : 0 ≤ (s[a + 7].toNat : Int) := by omega
            replace hand := i64_and127 (s[a + 7].toNat : Int)
            have hor : bits .or .i64 (n : Int) ((s[a + 7].toNat : Int) % 128 * 562949953421312) = ((n + s[a + 7].toNat % 128 * 562949953421312 : Nat) : Int) := by
              have h9 := or_join 49 n (s[a + 7].toNat % 128 * 562949953421312) (by simpa using HN.out) (Nat.mul_mod_left _ 562949953421312) hn63 (by omega)
              rw [← h9]
              congr 1 <;> first | (push_cast; omega) | (push_cast; done) | (simp; done)
            have hnn : n + s[a + 7].toNat % 128 * 562949953421312 < 2 ^ (7 * (7 + 1)) := by have := HN.out; simp at this ⊢; omega
            have HNN := Lib.hid hnn
            clear hnn hn63
            by_cases hc : s[a + 7].toNat < 128
            · have hci : (s[a + 7].toNat : Int) < 128 := by omega
              by_cases hz : s[a + 7].toNat = 0
              · have HG := Lib.hid (HO.out.trans (rvAt_zero (n := n) hk9 hlt hz (by decide)))
                have hzi : ((s[a + 7].toNat : Int) == 0) = true := by simp [hz]
                have hzj : (s[a + 7].toNat : Int) = 0 := by omega
                clear hmod hand hmul hz
                go_wp2
                go_returns
                exact ⟨by rw [HF.out, HG.out]; rfl, rfl⟩
              · have HG := Lib.hid (HO.out.trans (rvAt_end (n := n) hk9 hlt (by show s[a + 7].toNat < 128; omega) (fun h => hz h.1)))
                have hzi : ((s[a + 7].toNat : Int) == 0) = false := by rw [beq_eq_false_iff_ne]; omega
                clear hmod hmul hz
                go_wp2
                go_returns
                exact ⟨by rw [HF.out, HG.out]; unfold rvV; first | rfl | simp, rfl⟩
            · have hci : ¬ (s[a + 7].toNat : Int) < 128 := by omega
              have HG := Lib.hid (HO.out.trans (rvAt_more (n := n) hk9 hlt (by show 128 ≤ s[a + 7].toNat; omega)))
              clear hmod hmul
              go_wp2
              exact ⟨⟨7 + 1, n + s[a + 7].toNat % 128 * 562949953421312, by omega, by go_num, (by first | rfl | go_num), by go_num, HNN.out, (by show 0 < _ → _; intro _; omega), HG.out⟩, by simp [intOf]⟩
          · have hc256i : (s[a + 8].toNat : Int) < 256 := by have : s[a + 8].toNat < 256 := s[a + 8].toNat_lt; omega
            have hc0i : 0 ≤ (s[a + 8].toNat : Int) := by omega
            replace hand := i64_and127 (s[a + 8].toNat : Int)
            have hor : bits .or .i64 (n : Int) ((s[a + 8].toNat : Int) % 128 * 72057594037927936) = ((n + s[a + 8].toNat % 128 * 72057594037927936 : Nat) : Int) := by
              have h9 := or_join 56 n (s[a + 8].toNat % 128 * 72057594037927936) (by simpa using HN.out) (Nat.mul_mod_left _ 72057594037927936) hn63 (by omega)
              rw [← h9]
              congr 1 <;> first | (push_cast; omega) | (push_cast; done) | (simp; done)
            have hnn : n + s[a + 8].toNat % 128 * 72057594037927936 < 2 ^ (7 * (8 + 1)) := by have := HN.out; simp at this ⊢; omega
            have HNN := Lib.hid hnn
            clear hnn hn63
            by_cases hc : s[a + 8].toNat < 128
            · have hci : (s[a + 8].toNat : Int) < 128 := by omega
              by_cases hz : s[a + 8].toNat = 0
              · have HG := Lib.hid (HO.out.trans (rvAt_zero (n := n) hk9 hlt hz (by decide)))
                have hzi : ((s[a + 8].toNat : Int) == 0) = true := by simp [hz]
                have hzj : (s[a + 8].toNat : Int) = 0 := by omega
                clear hmod hand hmul hz
                go_wp2
                go_returns
                exact ⟨by rw [HF.out, HG.out]; rfl, rfl⟩
              · have HG := Lib.hid (HO.out.trans (rvAt_end (n := n) hk9 hlt (by show s[a + 8].toNat < 128; omega) (fun h => hz h.1)))
                have hzi : ((s[a + 8].toNat : Int) == 0) = false := by rw [beq_eq_false_iff_ne]; omega
                clear hmod hmul hz
                go_wp2
                go_returns
                exact ⟨by rw [HF.out, HG.out]; unfold rvV; first | rfl | simp, rfl⟩
            · have hci : ¬ (s[a + 8].toNat : Int) < 128 := by omega
              have HG := Lib.hid (HO.out.trans (rvAt_more (n := n) hk9 hlt (by show 128 ≤ s[a + 8].toNat; omega)))
              clear hmod hmul
              go_wp2
              exact ⟨⟨8 + 1, n + s[a + 8].toNat % 128 * 72057594037927936, by omega, by go_num, (by first | rfl | go_num), by go_num, HNN.out, (by show 0 < _ → _; intro _; omega), HG.out⟩, by simp [intOf]⟩
        · have HG := Lib.hid (HO.out.trans (rvAt_out (fun h => hlt h.2)))
          have hlti : ¬ ((a + k : Nat) : Int) < s.size := by omega
          go_wp2
          go_returns
          exact ⟨by rw [HF.out, HG.out]; rfl, rfl⟩
      · have HG := Lib.hid (HO.out.trans (rvAt_out (fun h => hk9 h.1)))
        have hk9i : ¬ (k : Int) < 9 := by omega
        go_wp2
        go_returns
        exact ⟨by rw [HF.out, HG.out]; rfl, rfl⟩

end Go.Proofs.Ytkgajoichmnaaaa
