/- The library's stable sort, walked at Placed, at every length. No condition. -/
import Derived.Test.YtjoclfenghenjaaStabGP
namespace Go.Proofs.Ytjoclfenghenjaa
open Go.ChangeShapes Go.WideShapes Go.ChangeAt Go.RowKit
set_option linter.unusedVariables false
set_option linter.unusedSimpArgs false

section
set_option maxRecDepth 100000 in
set_option maxHeartbeats 8000000 in
theorem stableP_any (W0 w : World) (b o c N : Nat) (D : List PRow) (cv : PRow → PRow → Int) (h : Stab prow 9 W0 w b o (D)) (hN : D.length = N) (hN2 : N ≤ 1048576) (W : Weak (ltV cv)) (hc : CmpOkP cv W0 b) :
    Calls Try.prog 33 #[.slice (some ⟨b, o, none⟩) N c, .int .i64 N, .func (.func 20) #[] #[]] w fun e w' => e = .returned (.tuple #[]) ∧ Stab prow 9 W0 w' b o (sortB (ltV cv) [] D) := by
  have HC := Lib.hid hc
  have HW := Lib.hid W
  have HN := Lib.hid hN
  clear hc hN W
  go_enter Try.func33, Try.ntmps33
  go_wp2_with fail
  go_loopw [7, 8] (fun i j wr => ∃ (a0 b0 : Nat) (A : List PRow), i = .int .i64 (a0 : Int) ∧ j = .int .i64 (b0 : Int) ∧ b0 = a0 + 20 ∧ a0 ≤ N ∧ Hid (A.length = a0) ∧ Hid (runs (ltV cv) 20 D = A ++ runs (ltV cv) 20 (D.drop a0)) ∧ Stab prow 9 W0 wr b o (A ++ D.drop a0)) (fun i _ _ => N - (intOf i).toNat)
  case atStart => exact ⟨0, 20, [], rfl, rfl, rfl, by omega, Lib.hid rfl, Lib.hid (by simp), by simpa using h⟩
  case round =>
    obtain ⟨a0, b0, A, rfl, rfl, hb0, ha0, HA, HR, hS⟩ := hrel
    by_cases hlt : b0 ≤ N
    · have HB := Lib.hid hb0
      have hab : a0 < b0 := by omega
      clear hb0
      go_wp2_with fail
      have hx : ((D.drop a0).take 20).length = 20 := by rw [List.length_take, List.length_drop]; have := HB.out; have := HN.out; omega
      have hdr : (D.drop a0).drop 20 = D.drop b0 := by rw [List.drop_drop, HB.out]
      have hst := runs_step (lt := (ltV cv)) (s := 20) (by omega) (D.drop a0)
      rw [hdr] at hst
      refine (insertionP_any W0 _ b o c N A ((D.drop a0).take 20) (D.drop b0) a0 b0 cv (by rw [← hdr, List.take_append_drop]; exact hS) (by rw [← hdr, List.take_append_drop, List.length_append, List.length_drop]; have := HA.out; have := HN.out; omega) hN2 HA (Lib.hid (by rw [hx]; exact HB.out.symm)) HW.out HC.out).mono ?_
      rintro e w2 ⟨rfl, hS2⟩
      have HX := Lib.hid hx
      have HST := Lib.hid hst
      clear hx hdr hst
      go_wp2
      refine ⟨⟨b0, b0 + 20, A ++ sortB (ltV cv) [] ((D.drop a0).take 20), rfl, by go_num, rfl, hlt, Lib.hid (by rw [List.length_append, sortB_len, HX.out, HA.out, HB.out]; simp), Lib.hid (by rw [HR.out, HST.out, List.append_assoc]), by simpa only [List.append_assoc] using hS2⟩, by simp [intOf]; have := HB.out; omega⟩
    · go_wp2_with fail
      have hx : (D.drop a0).length ≤ 20 := by rw [List.length_drop]; have := HN.out; omega
      have hst := runs_short (lt := (ltV cv)) hx
      refine (insertionP_any W0 _ b o c N A (D.drop a0) [] a0 N cv (by rw [List.append_nil]; exact hS) (by rw [List.append_nil, List.length_append, List.length_drop]; have := HA.out; have := HN.out; omega) hN2 HA (Lib.hid (by rw [List.length_drop]; have := HN.out; omega)) HW.out HC.out).mono ?_
      rintro e w2 ⟨rfl, hS2⟩
      have hS3 : Stab prow 9 W0 w2 b o (runs (ltV cv) 20 D) := by rw [HR.out, hst]; simpa only [List.append_nil] using hS2
      clear hS2 hS hx hst HR HA hb0 hlt
      go_wp2_with fail
      go_loopw [6] (fun z wr => ∃ s : Nat, 0 < s ∧ s ≤ 2097152 ∧ z = .int .i64 (s : Int) ∧ Stab prow 9 W0 wr b o (runs (ltV cv) s D)) (fun z _ => N - (intOf z).toNat)
      case atStart => exact ⟨20, by omega, by omega, rfl, hS3⟩
      case round =>
        obtain ⟨s, hs0, hs1, rfl, hS4⟩ := hrel
        by_cases hsn : s < N
        · obtain ⟨wo, hwo⟩ : ∃ wo, wo = wr := ⟨_, rfl⟩
          subst hwo
          clear hS3
          go_wp2_with fail
          go_loopw [7, 8] (fun i j wr => ∃ (a0 b0 : Nat) (A : List PRow), i = .int .i64 (a0 : Int) ∧ j = .int .i64 (b0 : Int) ∧ b0 = a0 + 2 * s ∧ a0 ≤ N ∧ Hid (A.length = a0) ∧ Hid (runs (ltV cv) (2 * s) D = A ++ runs (ltV cv) (2 * s) (D.drop a0)) ∧ Stab prow 9 W0 wr b o (A ++ runs (ltV cv) s (D.drop a0))) (fun i _ _ => N - (intOf i).toNat)
          case atStart => exact ⟨0, 2 * s, [], rfl, by go_num, by omega, by omega, Lib.hid rfl, Lib.hid (by simp), by simpa using hS4⟩
          case round =>
            obtain ⟨a0, b0, A, rfl, rfl, hb0, ha0, HA, HR, hS⟩ := hrel
            by_cases hlt : b0 ≤ N
            · have HB := Lib.hid hb0
              have hab : a0 + s < b0 := by omega
              clear hb0
              go_wp2_with fail
              obtain ⟨h1, h2⟩ := runs_two HW.out hs0 (D.drop a0)
              have hdr : (D.drop a0).drop (2 * s) = D.drop b0 := by rw [List.drop_drop, HB.out]
              have hst := runs_step (lt := (ltV cv)) (s := 2 * s) (by omega) (D.drop a0)
              rw [hdr] at h1 hst
              have hl1 : (sortB (ltV cv) [] ((D.drop a0).take s)).length = s := by rw [sortB_len, List.length_take, List.length_drop]; have := HB.out; have := HN.out; simp; omega
              have hl2 : (sortB (ltV cv) [] (((D.drop a0).drop s).take s)).length = s := by rw [sortB_len, List.length_take, List.length_drop, List.length_drop]; have := HB.out; have := HN.out; simp; omega
              have hl3 : (runs (ltV cv) s (D.drop b0)).length = N - b0 := by rw [runs_len hs0 _ _ (Nat.le_refl _), List.length_drop, HN.out]
              rw [h1] at hS
              have hx : (sortB (ltV cv) [] ((D.drop a0).take (2 * s))).length = 2 * s := by rw [sortB_len, List.length_take, List.length_drop]; have := HB.out; have := HN.out; simp; omega
              rw [show ((a0 : Int) + s) = ((a0 + s : Nat) : Int) by omega]
              refine (symMergeP_any (s + s) W0 _ b o c N A _ _ _ a0 (a0 + s) b0 cv hS (by simp only [List.length_append, hl1, hl2, hl3]; have := HA.out; have := HB.out; omega) hN2 HA (Lib.hid (by rw [hl1])) (Lib.hid (by rw [hl2]; have := HB.out; omega)) (by omega) (by omega) HW.out (sortB_sorted HW.out _ _ List.Pairwise.nil) (sortB_sorted HW.out _ _ List.Pairwise.nil) HC.out (by rw [hl1, hl2]; exact Nat.le_refl _)).mono ?_
              rintro e w2 ⟨rfl, hS2⟩
              rw [h2] at hS2
              have HX := Lib.hid hx
              have HST := Lib.hid hst
              clear h1 h2 hdr hst hl1 hl2 hl3 hx hS
              go_wp2
              refine ⟨⟨b0, b0 + 2 * s, A ++ sortB (ltV cv) [] ((D.drop a0).take (2 * s)), rfl, by go_num, rfl, hlt, Lib.hid (by rw [List.length_append, HX.out, HA.out, HB.out]), Lib.hid (by rw [HR.out, HST.out, List.append_assoc]), by simpa only [List.append_assoc] using hS2⟩, by simp [intOf]; omega⟩
            · by_cases hm : a0 + s < N
              · go_wp2_with fail
                obtain ⟨h1, h2⟩ := runs_tail HW.out hs0 (ys := D.drop a0) (by rw [List.length_drop]; have := HN.out; omega) (by rw [List.length_drop]; have := HN.out; omega)
                have hl1 : (sortB (ltV cv) [] ((D.drop a0).take s)).length = s := by rw [sortB_len, List.length_take, List.length_drop]; have := HN.out; simp; omega
                have hl2 : (sortB (ltV cv) [] ((D.drop a0).drop s)).length = N - a0 - s := by rw [sortB_len, List.length_drop, List.length_drop]; have := HN.out; simp; omega
                rw [h1] at hS
                try rw [show ((a0 : Int) + s) = ((a0 + s : Nat) : Int) by omega]
                refine (symMergeP_any (s + s) W0 _ b o c N A _ _ [] a0 (a0 + s) N cv (by rw [List.append_nil]; exact hS) (by simp only [List.length_append, hl1, hl2, List.length_nil]; have := HA.out; omega) hN2 HA (Lib.hid (by rw [hl1])) (Lib.hid (by rw [hl2]; omega)) (by omega) (by omega) HW.out (sortB_sorted HW.out _ _ List.Pairwise.nil) (sortB_sorted HW.out _ _ List.Pairwise.nil) HC.out (by rw [hl1, hl2]; omega)).mono ?_
                rintro e w2 ⟨rfl, hS2⟩
                rw [h2, List.append_nil, ← HR.out] at hS2
                clear h1 h2 hl1 hl2 hS
                go_wp2
                refine ⟨⟨2 * s, by omega, by omega, by first | go_num | (congr 1; omega), hS2⟩, by simp [intOf]; omega⟩
              · go_wp2
                have e1 := runs_short (lt := (ltV cv)) (s := s) (xs := D.drop a0) (by rw [List.length_drop]; have := HN.out; omega)
                have e2 := runs_short (lt := (ltV cv)) (s := 2 * s) (xs := D.drop a0) (by rw [List.length_drop]; have := HN.out; omega)
                rw [e1, ← e2, ← HR.out] at hS
                refine ⟨⟨2 * s, by omega, by omega, by first | go_num | (congr 1; omega), hS⟩, by simp [intOf]; omega⟩
        · go_wp2
          go_end0
          refine ⟨rfl, ?_⟩
          rw [← runs_short (lt := (ltV cv)) (s := s) (by have := HN.out; omega)]
          exact hS4
set_option maxRecDepth 100000 in
theorem SortStableP_any (W0 w : World) (b o c N : Nat) (D : List PRow) (cv : PRow → PRow → Int) (h : Stab prow 9 W0 w b o (D)) (hN : D.length = N) (hN2 : N ≤ 1048576) (W : Weak (ltV cv)) (hc : CmpOkP cv W0 b) :
    Calls Try.prog 19 #[.slice (some ⟨b, o, none⟩) N c, .func (.func 20) #[] #[]] w fun e w' => e = .returned (.tuple #[]) ∧ Stab prow 9 W0 w' b o (sortB (ltV cv) [] D) := by
  have HN := Lib.hid hN
  clear hN
  go_enter Try.func19, Try.ntmps19
  go_wp2_with fail
  refine (stableP_any W0 _ b o c N D cv h HN.out hN2 W hc).mono ?_
  rintro e w2 ⟨rfl, hS⟩
  go_wp2
  go_end0
  exact ⟨rfl, hS⟩
/-! a list of none -/
set_option maxRecDepth 100000 in
theorem insertionP_nil (w : World) (A : Option Addr) (c : Nat) (f : Value) : Calls Try.prog 47 #[.slice A 0 c, .int .i64 0, .int .i64 0, f] w fun e w' => e = .returned (.tuple #[]) ∧ w' = w := by
  go_enter Try.func47, Try.ntmps47
  go_wp2_with fail
  go_loopw [8] (fun i wr => i = .int .i64 1 ∧ wr = w) (fun _ _ => 0)
  case atStart => exact ⟨by simp, rfl⟩
  case round =>
    obtain ⟨rfl, rfl⟩ := hrel
    go_wp2
    go_end0
    exact ⟨rfl, rfl⟩
set_option maxRecDepth 100000 in
theorem stableP_nil (w : World) (A : Option Addr) (c : Nat) (f : Value) : Calls Try.prog 33 #[.slice A 0 c, .int .i64 0, f] w fun e w' => e = .returned (.tuple #[]) ∧ w' = w := by
  go_enter Try.func33, Try.ntmps33
  go_wp2_with fail
  go_loopw [7, 8] (fun i j wr => i = .int .i64 0 ∧ j = .int .i64 20 ∧ wr = w) (fun _ _ _ => 0)
  case atStart => exact ⟨rfl, rfl, rfl⟩
  case round =>
    obtain ⟨rfl, rfl, hw⟩ := hrel
    subst hw
    go_wp2_with fail
    refine (insertionP_nil _ A c f).mono ?_
    rintro e w2 ⟨rfl, hw2⟩
    subst hw2
    go_wp2_with fail
    go_loopw [6] (fun z wz => z = .int .i64 20 ∧ wz = w2) (fun _ _ => 0)
    case atStart => exact ⟨rfl, rfl⟩
    case round =>
      obtain ⟨rfl, hw⟩ := hrel
      subst hw
      go_wp2
      go_end0
      exact ⟨rfl, rfl⟩
set_option maxRecDepth 100000 in
theorem SortStableP_nil (w : World) (A : Option Addr) (c : Nat) (f : Value) : Calls Try.prog 19 #[.slice A 0 c, f] w fun e w' => e = .returned (.tuple #[]) ∧ w' = w := by
  go_enter Try.func19, Try.ntmps19
  go_wp2_with fail
  refine (stableP_nil _ A c f).mono ?_
  rintro e w2 ⟨rfl, hw⟩
  subst hw
  go_wp2
  go_end0
  exact ⟨rfl, rfl⟩
end
end Go.Proofs.Ytjoclfenghenjaa
