/- The library's merging of two sorted runs in place, walked at Placed: two runs of any length. No condition. -/
import Derived.Test.YtjoclfenghenjaaStabSP
namespace Go.Proofs.Ytjoclfenghenjaa
open Go.ChangeShapes Go.WideShapes Go.ChangeAt Go.RowKit
set_option linter.unusedVariables false
set_option linter.unusedSimpArgs false

section
set_option maxRecDepth 100000 in
set_option maxHeartbeats 8000000 in
theorem symMergeP_any (K : Nat) : ∀ (W0 w : World) (b o c N : Nat) (P L R Q : List PRow) (a m bb : Nat) (cv : PRow → PRow → Int) (h : Stab prow 9 W0 w b o (P ++ (L ++ (R ++ Q)))) (hN : (P ++ (L ++ (R ++ Q))).length ≤ N) (hN2 : N ≤ 1048576) (ha : Hid (P.length = a)) (hm : Hid (a + L.length = m)) (hb : Hid (m + R.length = bb)) (h1 : 0 < L.length) (h2 : 0 < R.length) (W : Weak (ltV cv)) (hL : Sorted (ltV cv) L) (hR : Sorted (ltV cv) R) (hc : CmpOkP cv W0 b) (hK : L.length + R.length ≤ K),
    Calls Try.prog 48 #[.slice (some ⟨b, o, none⟩) N c, .int .i64 a, .int .i64 m, .int .i64 bb, .func (.func 20) #[] #[]] w fun e w' => e = .returned (.tuple #[]) ∧ Stab prow 9 W0 w' b o (P ++ (mergeB (ltV cv) L R ++ Q)) := by
  induction K with
  | zero => intro W0 w b o c N P L R Q a m bb cv h hN hN2 ha hm hb h1 h2 W hL hR hc hK; omega
  | succ K ih =>
    intro W0 w b o c N P L R Q a m bb cv h hN hN2 ha hm hb h1 h2 W hL hR hc hK
    by_cases hL1 : L.length = 1
    · obtain ⟨x, rfl⟩ := List.length_eq_one_iff.1 hL1
      have e : m = a + 1 := by simpa using hm.out.symm
      subst e
      exact symMergeP_left W0 w b o c N P R Q x a bb cv h hN hN2 ha hb W hR hc
    by_cases hR1 : R.length = 1
    · obtain ⟨y, rfl⟩ := List.length_eq_one_iff.1 hR1
      have e : bb = m + 1 := by simpa using hb.out.symm
      subst e
      exact symMergeP_right W0 w b o c N P L Q y a m cv h hN hN2 ha hm (by omega) W hL hc
    have hlq : (P ++ (L ++ (R ++ Q))).length = P.length + L.length + R.length + Q.length := by simp only [List.length_append]; omega
    have HN := Lib.hid (show P.length + L.length + R.length + Q.length ≤ N by omega)
    have hlen : bb ≤ N := by have := HN.out; have := ha.out; have := hm.out; have := hb.out; omega
    have hLL : 2 ≤ L.length := by omega
    have hRR : 2 ≤ R.length := by omega
    have ham : a + 2 ≤ m := by have := hm.out; omega
    have hmb : m + 2 ≤ bb := by have := hb.out; omega
    have HC := Lib.hid hc
    have HW := Lib.hid W
    have HSL := Lib.hid hL
    have HSR := Lib.hid hR
    have HKK := Lib.hid hK
    have HIH := Lib.hid ih
    have hne1 : ((m : Int) - a == 1) = false := by simp; omega
    have hne2 : ((bb : Int) - m == 1) = false := by simp; omega
    obtain ⟨mid, hmid⟩ : ∃ mid : Nat, (a + bb) / 2 = mid := ⟨_, rfl⟩
    have hmI : ((a : Int) + bb) / 2 = mid := by omega
    obtain ⟨d, hd⟩ : ∃ d, a + d = mid := ⟨mid - a, by omega⟩
    have HD := Lib.hid (show a + d = mid ∧ (2 * d = L.length + R.length ∨ 2 * d + 1 = L.length + R.length) by have := hm.out; have := hb.out; omega)
    obtain ⟨lo, HLO⟩ : ∃ lo : Nat, Hid ((mid < m → lo + R.length = d) ∧ (¬ mid < m → lo = 0)) := by
      by_cases hgt : mid < m
      · exact ⟨d - R.length, Lib.hid ⟨fun _ => by have := HD.out; have := hm.out; have := hb.out; omega, fun h => absurd hgt h⟩⟩
      · exact ⟨0, Lib.hid ⟨fun h => absurd h hgt, fun _ => rfl⟩⟩
    obtain ⟨hi, HHI⟩ : ∃ hi : Nat, Hid ((mid < m → hi = d) ∧ (¬ mid < m → hi = L.length)) := by
      by_cases hgt : mid < m
      · exact ⟨d, Lib.hid ⟨fun _ => rfl, fun h => absurd hgt h⟩⟩
      · exact ⟨L.length, Lib.hid ⟨fun h => absurd h hgt, fun _ => rfl⟩⟩
    have hmab : a ≤ mid ∧ mid ≤ bb := by omega
    obtain ⟨hma, hmbb⟩ := hmab
    clear hc hN W hL hR hK ih hL1 hR1 hlq hmid hd
    go_enter Try.func48, Try.ntmps48
    by_cases hgt : mid < m
    · have hlo : lo + R.length = d := by have := HLO.out.1 hgt; omega
      have hhi : hi = d := HHI.out.1 hgt
      have HLO2 := Lib.hid (show lo = 0 ∨ lo + R.length = d from .inr hlo)
      have HHI2 := Lib.hid (show hi = L.length ∨ hi = d from .inr hhi)
      have hlh : lo ≤ hi := by have := hm.out; have := hb.out; have := HD.out; omega
      have hhd : hi ≤ d := by have := hm.out; have := HD.out; omega
      have hhl : hi ≤ L.length := by have := hm.out; have := HD.out; omega
      have hld : d ≤ lo + R.length := by have := hm.out; have := hb.out; have := HD.out; omega
      have HLOE := Lib.hid hlo
      have HHIE := Lib.hid hhi
      clear hlo hhi
      go_wp2_with fail
      go_loopw [20, 21] (fun i j wr => ∃ u v i0 j0 : Nat, lo ≤ u ∧ u ≤ v ∧ v ≤ hi ∧ i = .int .i64 (i0 : Int) ∧ j = .int .i64 (j0 : Int) ∧ Hid (a + u = i0) ∧ Hid (a + v = j0) ∧ Hid (u = lo ∨ ∃ x y, L[u - 1]? = some x ∧ R[d - u]? = some y ∧ ltV cv y x = false) ∧ Hid (v = hi ∨ ∃ x y, L[v]? = some x ∧ R[d - 1 - v]? = some y ∧ ltV cv y x = true) ∧ Stab prow 9 W0 wr b o (P ++ (L ++ (R ++ Q)))) (fun i j _ => (intOf j - intOf i).toNat)
      case atStart =>
        have e1 := HLOE.out; have e2 := HHIE.out; have e3 := HD.out; have e4 := hm.out; have e5 := hb.out
        exact ⟨lo, hi, a + lo, a + hi, by omega, by omega, by omega, by first | (congr 1; omega) | (congr 1; push_cast; omega), by first | (congr 1; omega) | (congr 1; push_cast; omega), Lib.hid rfl, Lib.hid rfl, Lib.hid (.inl rfl), Lib.hid (.inl rfl), h⟩
      case round =>
        obtain ⟨u, v, i0, j0, hlu, huv, hv, rfl, rfl, HI, HJ, HP1, HP2, hS⟩ := hrel
        by_cases hlt : u < v
        · have hij : i0 < j0 := by have := HI.out; have := HJ.out; omega
          have hjb : j0 ≤ m := by have := HJ.out; have := hm.out; omega
          have hai : a ≤ i0 := by have := HI.out; omega
          obtain ⟨t, ht⟩ : ∃ t : Nat, (i0 + j0) / 2 = t := ⟨_, rfl⟩
          have hti : i0 ≤ t := by omega
          have htj : t < j0 := by omega
          obtain ⟨k, hk⟩ : ∃ k, a + k = t := ⟨t - a, by omega⟩
          have huk : u ≤ k := by have := HI.out; omega
          have hkv : k < v := by have := HJ.out; omega
          have hkL : k < L.length := by omega
          have hkd : k < d := by omega
          have hkR : d - 1 - k < R.length := by omega
          obtain ⟨q, hq⟩ : ∃ q : Nat, mid + m - 1 - t = q := ⟨_, rfl⟩
          have hqm : m ≤ q := by have := HD.out; omega
          have hqb : q < bb := by have := HD.out; have := hb.out; omega
          have hmd : mid ≤ bb := by have := HD.out; have := hm.out; have := hb.out; omega
          have hqq : q - m = d - 1 - k := by have := HD.out; omega
          have hL1 : L[k]? = some L[k] := List.getElem?_eq_getElem hkL
          have hR1 : R[d - 1 - k]? = some R[d - 1 - k] := List.getElem?_eq_getElem hkR
          obtain ⟨x, hx⟩ : ∃ x, L[k] = x := ⟨_, rfl⟩
          obtain ⟨y, hy⟩ : ∃ y, R[d - 1 - k] = y := ⟨_, rfl⟩
          rw [hx] at hL1
          rw [hy] at hR1
          have hgx : (P ++ (L ++ (R ++ Q)))[t]? = some x := by
            rw [List.getElem?_append_right (by have := ha.out; omega), show t - P.length = k by have := ha.out; omega, List.getElem?_append_left hkL, hL1]
          have hgy : (P ++ (L ++ (R ++ Q)))[q]? = some y := by
            rw [List.getElem?_append_right (by have := ha.out; omega), List.getElem?_append_right (by have := ha.out; have := hm.out; omega), show q - P.length - L.length = d - 1 - k by have := ha.out; have := hm.out; omega, List.getElem?_append_left hkR, hR1]
          have qx0 : wr.cell? ⟨b, o + t * 9, none⟩ = some (.string x.name) := hS.tab _ x hgx 0 _ rfl
          have qx1 : wr.cell? ⟨b, o + t * 9 + 1, none⟩ = some (.slice x.la x.ln x.lc) := hS.tab _ x hgx 1 _ rfl
          have qx2 : wr.cell? ⟨b, o + t * 9 + 2, none⟩ = some (.int .i64 x.cpu) := hS.tab _ x hgx 2 _ rfl
          have qx3 : wr.cell? ⟨b, o + t * 9 + 3, none⟩ = some (.int .i64 x.mem) := hS.tab _ x hgx 3 _ rfl
          have qx4 : wr.cell? ⟨b, o + t * 9 + 4, none⟩ = some (.int .i64 x.rank) := hS.tab _ x hgx 4 _ rfl
          have qx5 : wr.cell? ⟨b, o + t * 9 + 5, none⟩ = some (.slice x.na x.nn x.nc) := hS.tab _ x hgx 5 _ rfl
          have qx6 : wr.cell? ⟨b, o + t * 9 + 6, none⟩ = some (.slice x.ta x.tn x.tc) := hS.tab _ x hgx 6 _ rfl
          have qx7 : wr.cell? ⟨b, o + t * 9 + 7, none⟩ = some (.string x.on) := hS.tab _ x hgx 7 _ rfl
          have qx8 : wr.cell? ⟨b, o + t * 9 + 8, none⟩ = some (.int .i64 x.seq) := hS.tab _ x hgx 8 _ rfl
          have qy0 : wr.cell? ⟨b, o + q * 9, none⟩ = some (.string y.name) := hS.tab _ y hgy 0 _ rfl
          have qy1 : wr.cell? ⟨b, o + q * 9 + 1, none⟩ = some (.slice y.la y.ln y.lc) := hS.tab _ y hgy 1 _ rfl
          have qy2 : wr.cell? ⟨b, o + q * 9 + 2, none⟩ = some (.int .i64 y.cpu) := hS.tab _ y hgy 2 _ rfl
          have qy3 : wr.cell? ⟨b, o + q * 9 + 3, none⟩ = some (.int .i64 y.mem) := hS.tab _ y hgy 3 _ rfl
          have qy4 : wr.cell? ⟨b, o + q * 9 + 4, none⟩ = some (.int .i64 y.rank) := hS.tab _ y hgy 4 _ rfl
          have qy5 : wr.cell? ⟨b, o + q * 9 + 5, none⟩ = some (.slice y.na y.nn y.nc) := hS.tab _ y hgy 5 _ rfl
          have qy6 : wr.cell? ⟨b, o + q * 9 + 6, none⟩ = some (.slice y.ta y.tn y.tc) := hS.tab _ y hgy 6 _ rfl
          have qy7 : wr.cell? ⟨b, o + q * 9 + 7, none⟩ = some (.string y.on) := hS.tab _ y hgy 7 _ rfl
          have qy8 : wr.cell? ⟨b, o + q * 9 + 8, none⟩ = some (.int .i64 y.seq) := hS.tab _ y hgy 8 _ rfl
          have HU := Lib.hid hS.upd
          have hbl : b < wr.heap.size := hS.plain.lt
          have HS := Lib.hid hS
          have HK := Lib.hid hk
          have htI : ((i0 : Int) + j0) / 2 = t := by omega
          have hwq : IntKind.i64.wrap ((mid : Int) + m - 1 - t) = (q : Int) := by rw [IntWalk.i64_in _ (by omega)]; omega
          have HXY := Lib.hid (And.intro hL1 hR1)
          clear hS hL1 hR1 hgy hgx ht hk hx hy hq hqq
          cases hcv : decide (cv y x < 0) with
          | false =>
            go_wp2_with fail
            refine wp_region_grow wr (by kernel_rfl) (by kernel_rfl) (ext_refl _) ?_
            repeat (first
              | (apply inText_skip
                 case hw => rfl
                 simp only [Act.put, List.setIfInBounds_toArray, List.set_cons_zero, List.set_cons_succ])
              | (apply inText_step
                 case hw => rfl
                 case h =>
                   intro wq hq
                   have hcq := (cls_cell hq).1
                   have hfq := (cls_cell hq).2
                   go_simp
                   first
                     | exact ⟨hq, rfl⟩
                     | (refine (HC.out y x _ (HU.out.trans (Upd.of_ext _ hq))).mono ?_; rintro e w2 ⟨rfl, hb2⟩; exact ⟨rfl, cls_trans hq hb2⟩)
                     | (simp only [↓IntWalk.iteOmega]; exact ⟨hq, rfl⟩)
                 simp only [Act.put, List.setIfInBounds_toArray, List.set_cons_zero, List.set_cons_succ]))
            refine inText_nil ?_
            intro wn hn
            replace hn := hn.out
            go_wp2
            refine ⟨⟨k + 1, v, t + 1, j0, by omega, by omega, hv, by go_num, rfl, Lib.hid (by have := HK.out; omega), HJ, Lib.hid (.inr ⟨x, y, by rw [Nat.add_sub_cancel]; exact HXY.out.1, by rw [show d - (k + 1) = d - 1 - k by omega]; exact HXY.out.2, hcv⟩), HP2, HS.out.ext hn⟩, by simp [intOf]; omega⟩
          | true =>
            go_wp2_with fail
            refine wp_region_grow wr (by kernel_rfl) (by kernel_rfl) (ext_refl _) ?_
            repeat (first
              | (apply inText_skip
                 case hw => rfl
                 simp only [Act.put, List.setIfInBounds_toArray, List.set_cons_zero, List.set_cons_succ])
              | (apply inText_step
                 case hw => rfl
                 case h =>
                   intro wq hq
                   have hcq := (cls_cell hq).1
                   have hfq := (cls_cell hq).2
                   go_simp
                   first
                     | exact ⟨hq, rfl⟩
                     | (refine (HC.out y x _ (HU.out.trans (Upd.of_ext _ hq))).mono ?_; rintro e w2 ⟨rfl, hb2⟩; exact ⟨rfl, cls_trans hq hb2⟩)
                     | (simp only [↓IntWalk.iteOmega]; exact ⟨hq, rfl⟩)
                 simp only [Act.put, List.setIfInBounds_toArray, List.set_cons_zero, List.set_cons_succ]))
            refine inText_nil ?_
            intro wn hn
            replace hn := hn.out
            go_wp2
            refine ⟨⟨u, k, i0, t, hlu, by omega, by omega, rfl, rfl, HI, HK, HP1, Lib.hid (.inr ⟨x, y, HXY.out.1, HXY.out.2, hcv⟩), HS.out.ext hn⟩, by simp [intOf]; omega⟩
        · have huv2 : v = u := by omega
          subst huv2
          have hj0 : j0 = i0 := by have := HI.out; have := HJ.out; omega
          subst hj0
          have hvd : v ≤ d := by omega
          have hdR : d - v ≤ R.length := by omega
          obtain ⟨l1, l2, r1, r2, HSP, HLN, HSO, HM⟩ : ∃ l1 l2 r1 r2, Hid (L = l1 ++ l2 ∧ R = r1 ++ r2) ∧ Hid (l1.length = v ∧ l2.length + v = L.length ∧ r1.length + v = d ∧ r1.length + r2.length = R.length) ∧ Hid (Sorted (ltV cv) l1 ∧ Sorted (ltV cv) l2 ∧ Sorted (ltV cv) r1 ∧ Sorted (ltV cv) r2) ∧ Hid (mergeB (ltV cv) L R = mergeB (ltV cv) l1 r1 ++ mergeB (ltV cv) l2 r2) :=
            ⟨L.take v, L.drop v, R.take (d - v), R.drop (d - v), Lib.hid ⟨(List.take_append_drop ..).symm, (List.take_append_drop ..).symm⟩, Lib.hid ⟨by rw [List.length_take]; omega, by rw [List.length_drop]; omega, by rw [List.length_take]; omega, by rw [List.length_take, List.length_drop]; omega⟩,
              Lib.hid ⟨List.Pairwise.sublist (List.take_sublist ..) HSL.out, List.Pairwise.sublist (List.drop_sublist ..) HSL.out, List.Pairwise.sublist (List.take_sublist ..) HSR.out, List.Pairwise.sublist (List.drop_sublist ..) HSR.out⟩,
              Lib.hid (sym_at HW.out HSL.out HSR.out HLO2.out HHI2.out hlu hv (by omega) (by omega) HP1.out HP2.out)⟩
          have hS1 : Stab prow 9 W0 wr b o (P ++ (l1 ++ (l2 ++ (r1 ++ (r2 ++ Q))))) := by
            have := hS
            rw [HSP.out.1, HSP.out.2] at this
            simpa only [List.append_assoc] using this
          obtain ⟨e0, he0⟩ : ∃ e0 : Nat, mid + m - j0 = e0 := ⟨_, rfl⟩
          have HF := Lib.hid (show a + v = j0 ∧ j0 ≤ m ∧ e0 + j0 = mid + m ∧ e0 ≤ bb ∧ P.length = a ∧ a + d = mid ∧ m ≤ e0 by
            have f1 := HI.out; have f2 := hm.out; have f3 := hb.out; have f4 := HD.out; have f5 := ha.out; omega)
          have hE0 : (mid : Int) + m - j0 = e0 := by have := HF.out; omega
          have hej : e0 ≤ bb := HF.out.2.2.2.1
          have hjm : j0 ≤ m := HF.out.2.1
          clear he0 HP1 HP2 hS
          rcases Nat.lt_or_ge v d with hvd2 | hvd2
          · rcases Nat.eq_zero_or_pos v with hv0 | hv0
            · rcases Nat.eq_zero_or_pos r2.length with hr2 | hr2
              · first
                  | (exfalso; have e3 := HLOE.out; have e4 := HHIE.out; have e5 := HD.out; have f1 := HF.out; have f2 := hm.out; have f3 := hb.out; have f4 := HLN.out; omega)
                  | (
                      have g1 : j0 < m := by have f1 := HF.out; have f2 := hm.out; have f3 := hb.out; have f4 := HLN.out; omega
                      have g2 : m < e0 := by have f1 := HF.out; have f2 := hm.out; have f3 := hb.out; have f4 := HLN.out; omega
                      have g3 : j0 ≤ a := by have f1 := HF.out; have f2 := hm.out; have f3 := hb.out; have f4 := HLN.out; omega
                      have g5 : mid < e0 := by have f1 := HF.out; have f2 := hm.out; have f3 := hb.out; have f4 := HLN.out; omega
                      have g6 : bb ≤ e0 := by have f1 := HF.out; have f2 := hm.out; have f3 := hb.out; have f4 := HLN.out; omega
                      go_wp2_with fail
                      refine (rotateP_any W0 _ b o c N (P ++ l1) l2 r1 (r2 ++ Q) j0 m e0 _ (by simpa only [List.append_assoc] using hS1) (by have e1 := HN.out; have e2 := HLN.out; simp only [List.length_append, mergeB_len]; omega) hN2 (Lib.hid (by rw [List.length_append]; have f1 := HF.out; have f2 := hm.out; have f3 := hb.out; have f4 := HLN.out; omega)) (Lib.hid (by have f1 := HF.out; have f2 := hm.out; have f3 := hb.out; have f4 := HLN.out; omega)) (Lib.hid (by have f1 := HF.out; have f2 := hm.out; have f3 := hb.out; have f4 := HLN.out; omega)) (by have f1 := HF.out; have f2 := hm.out; have f3 := hb.out; have f4 := HLN.out; omega) (by have f1 := HF.out; have f2 := hm.out; have f3 := hb.out; have f4 := HLN.out; omega)).mono ?_
                      rintro e w2 ⟨rfl, hS2⟩
                      replace hS2 : Stab prow 9 W0 w2 b o (P ++ (l1 ++ (r1 ++ (l2 ++ (r2 ++ Q))))) := by simpa only [List.append_assoc] using hS2
                      go_wp2_with fail
                      have l1e : l1 = [] := List.eq_nil_of_length_eq_zero (by have f1 := HF.out; have f2 := hm.out; have f3 := hb.out; have f4 := HLN.out; omega)
                      have hS3 : Stab prow 9 W0 w2 b o (P ++ (mergeB (ltV cv) l1 r1 ++ (l2 ++ (r2 ++ Q)))) := by rw [l1e] at hS2 ⊢; simpa only [mergeB_nil_left, List.nil_append] using hS2
                      have r2e : r2 = [] := List.eq_nil_of_length_eq_zero (by have f1 := HF.out; have f2 := hm.out; have f3 := hb.out; have f4 := HLN.out; omega)
                      have hS4 : Stab prow 9 W0 w2 b o (P ++ (mergeB (ltV cv) l1 r1 ++ (mergeB (ltV cv) l2 r2 ++ Q))) := by rw [r2e] at hS3 ⊢; simpa only [mergeB_nil_right, List.nil_append] using hS3
                      go_end0
                      refine ⟨rfl, ?_⟩
                      rw [HM.out]
                      simpa only [List.append_assoc] using hS4)
              · first
                  | (exfalso; have e3 := HLOE.out; have e4 := HHIE.out; have e5 := HD.out; have f1 := HF.out; have f2 := hm.out; have f3 := hb.out; have f4 := HLN.out; omega)
                  | (
                      have g1 : j0 < m := by have f1 := HF.out; have f2 := hm.out; have f3 := hb.out; have f4 := HLN.out; omega
                      have g2 : m < e0 := by have f1 := HF.out; have f2 := hm.out; have f3 := hb.out; have f4 := HLN.out; omega
                      have g3 : j0 ≤ a := by have f1 := HF.out; have f2 := hm.out; have f3 := hb.out; have f4 := HLN.out; omega
                      have g5 : mid < e0 := by have f1 := HF.out; have f2 := hm.out; have f3 := hb.out; have f4 := HLN.out; omega
                      have g6 : e0 < bb := by have f1 := HF.out; have f2 := hm.out; have f3 := hb.out; have f4 := HLN.out; omega
                      go_wp2_with fail
                      refine (rotateP_any W0 _ b o c N (P ++ l1) l2 r1 (r2 ++ Q) j0 m e0 _ (by simpa only [List.append_assoc] using hS1) (by have e1 := HN.out; have e2 := HLN.out; simp only [List.length_append, mergeB_len]; omega) hN2 (Lib.hid (by rw [List.length_append]; have f1 := HF.out; have f2 := hm.out; have f3 := hb.out; have f4 := HLN.out; omega)) (Lib.hid (by have f1 := HF.out; have f2 := hm.out; have f3 := hb.out; have f4 := HLN.out; omega)) (Lib.hid (by have f1 := HF.out; have f2 := hm.out; have f3 := hb.out; have f4 := HLN.out; omega)) (by have f1 := HF.out; have f2 := hm.out; have f3 := hb.out; have f4 := HLN.out; omega) (by have f1 := HF.out; have f2 := hm.out; have f3 := hb.out; have f4 := HLN.out; omega)).mono ?_
                      rintro e w2 ⟨rfl, hS2⟩
                      replace hS2 : Stab prow 9 W0 w2 b o (P ++ (l1 ++ (r1 ++ (l2 ++ (r2 ++ Q))))) := by simpa only [List.append_assoc] using hS2
                      go_wp2_with fail
                      have l1e : l1 = [] := List.eq_nil_of_length_eq_zero (by have f1 := HF.out; have f2 := hm.out; have f3 := hb.out; have f4 := HLN.out; omega)
                      have hS3 : Stab prow 9 W0 w2 b o (P ++ (mergeB (ltV cv) l1 r1 ++ (l2 ++ (r2 ++ Q)))) := by rw [l1e] at hS2 ⊢; simpa only [mergeB_nil_left, List.nil_append] using hS2
                      refine (HIH.out W0 _ b o c N (P ++ mergeB (ltV cv) l1 r1) l2 r2 Q mid e0 bb cv (by simpa only [List.append_assoc] using hS3) (by have e1 := HN.out; have e2 := HLN.out; simp only [List.length_append, mergeB_len]; omega) hN2 (Lib.hid (by rw [List.length_append, mergeB_len]; have f1 := HF.out; have f2 := hm.out; have f3 := hb.out; have f4 := HLN.out; omega)) (Lib.hid (by have f1 := HF.out; have f2 := hm.out; have f3 := hb.out; have f4 := HLN.out; omega)) (Lib.hid (by have f1 := HF.out; have f2 := hm.out; have f3 := hb.out; have f4 := HLN.out; omega)) (by have f1 := HF.out; have f2 := hm.out; have f3 := hb.out; have f4 := HLN.out; omega) (by have f1 := HF.out; have f2 := hm.out; have f3 := hb.out; have f4 := HLN.out; omega) HW.out HSO.out.2.1 HSO.out.2.2.2 HC.out (by have e3 := HKK.out; have e4 := HD.out; have f1 := HF.out; have f2 := hm.out; have f3 := hb.out; have f4 := HLN.out; omega)).mono ?_
                      rintro e w4 ⟨rfl, hS4⟩
                      go_wp2
                      go_end0
                      refine ⟨rfl, ?_⟩
                      rw [HM.out]
                      simpa only [List.append_assoc] using hS4)
            · rcases Nat.eq_zero_or_pos l2.length with hl2 | hl2
              · first
                  | (exfalso; have e3 := HLOE.out; have e4 := HHIE.out; have e5 := HD.out; have f1 := HF.out; have f2 := hm.out; have f3 := hb.out; have f4 := HLN.out; omega)
                  | (
                      have g1 : m ≤ j0 := by have f1 := HF.out; have f2 := hm.out; have f3 := hb.out; have f4 := HLN.out; omega
                      have g3 : a < j0 := by have f1 := HF.out; have f2 := hm.out; have f3 := hb.out; have f4 := HLN.out; omega
                      have g4 : j0 < mid := by have f1 := HF.out; have f2 := hm.out; have f3 := hb.out; have f4 := HLN.out; omega
                      have g5 : e0 ≤ mid := by have f1 := HF.out; have f2 := hm.out; have f3 := hb.out; have f4 := HLN.out; omega
                      go_wp2_with fail
                      have l2e : l2 = [] := List.eq_nil_of_length_eq_zero (by have f1 := HF.out; have f2 := hm.out; have f3 := hb.out; have f4 := HLN.out; omega)
                      have hS2 : Stab prow 9 W0 wr b o (P ++ (l1 ++ (r1 ++ (l2 ++ (r2 ++ Q))))) := by rw [l2e] at hS1 ⊢; simpa only [List.append_assoc, List.nil_append] using hS1
                      refine (HIH.out W0 _ b o c N P l1 r1 (l2 ++ (r2 ++ Q)) a j0 mid cv hS2 (by have e1 := HN.out; have e2 := HLN.out; simp only [List.length_append, mergeB_len]; omega) hN2 ha (Lib.hid (by have f1 := HF.out; have f2 := hm.out; have f3 := hb.out; have f4 := HLN.out; omega)) (Lib.hid (by have f1 := HF.out; have f2 := hm.out; have f3 := hb.out; have f4 := HLN.out; omega)) (by have f1 := HF.out; have f2 := hm.out; have f3 := hb.out; have f4 := HLN.out; omega) (by have f1 := HF.out; have f2 := hm.out; have f3 := hb.out; have f4 := HLN.out; omega) HW.out HSO.out.1 HSO.out.2.2.1 HC.out (by have e3 := HKK.out; have e4 := HD.out; have f1 := HF.out; have f2 := hm.out; have f3 := hb.out; have f4 := HLN.out; omega)).mono ?_
                      rintro e w3 ⟨rfl, hS3⟩
                      go_wp2_with fail

                      have hS4 : Stab prow 9 W0 w3 b o (P ++ (mergeB (ltV cv) l1 r1 ++ (mergeB (ltV cv) l2 r2 ++ Q))) := by rw [l2e] at hS3 ⊢; simpa only [mergeB_nil_left, List.nil_append] using hS3
                      go_end0
                      refine ⟨rfl, ?_⟩
                      rw [HM.out]
                      simpa only [List.append_assoc] using hS4)
              · rcases Nat.eq_zero_or_pos r2.length with hr2 | hr2
                · first
                    | (exfalso; have e3 := HLOE.out; have e4 := HHIE.out; have e5 := HD.out; have f1 := HF.out; have f2 := hm.out; have f3 := hb.out; have f4 := HLN.out; omega)
                    | (
                        have g1 : j0 < m := by have f1 := HF.out; have f2 := hm.out; have f3 := hb.out; have f4 := HLN.out; omega
                        have g2 : m < e0 := by have f1 := HF.out; have f2 := hm.out; have f3 := hb.out; have f4 := HLN.out; omega
                        have g3 : a < j0 := by have f1 := HF.out; have f2 := hm.out; have f3 := hb.out; have f4 := HLN.out; omega
                        have g4 : j0 < mid := by have f1 := HF.out; have f2 := hm.out; have f3 := hb.out; have f4 := HLN.out; omega
                        have g5 : mid < e0 := by have f1 := HF.out; have f2 := hm.out; have f3 := hb.out; have f4 := HLN.out; omega
                        have g6 : bb ≤ e0 := by have f1 := HF.out; have f2 := hm.out; have f3 := hb.out; have f4 := HLN.out; omega
                        go_wp2_with fail
                        refine (rotateP_any W0 _ b o c N (P ++ l1) l2 r1 (r2 ++ Q) j0 m e0 _ (by simpa only [List.append_assoc] using hS1) (by have e1 := HN.out; have e2 := HLN.out; simp only [List.length_append, mergeB_len]; omega) hN2 (Lib.hid (by rw [List.length_append]; have f1 := HF.out; have f2 := hm.out; have f3 := hb.out; have f4 := HLN.out; omega)) (Lib.hid (by have f1 := HF.out; have f2 := hm.out; have f3 := hb.out; have f4 := HLN.out; omega)) (Lib.hid (by have f1 := HF.out; have f2 := hm.out; have f3 := hb.out; have f4 := HLN.out; omega)) (by have f1 := HF.out; have f2 := hm.out; have f3 := hb.out; have f4 := HLN.out; omega) (by have f1 := HF.out; have f2 := hm.out; have f3 := hb.out; have f4 := HLN.out; omega)).mono ?_
                        rintro e w2 ⟨rfl, hS2⟩
                        replace hS2 : Stab prow 9 W0 w2 b o (P ++ (l1 ++ (r1 ++ (l2 ++ (r2 ++ Q))))) := by simpa only [List.append_assoc] using hS2
                        go_wp2_with fail
                        refine (HIH.out W0 _ b o c N P l1 r1 (l2 ++ (r2 ++ Q)) a j0 mid cv hS2 (by have e1 := HN.out; have e2 := HLN.out; simp only [List.length_append, mergeB_len]; omega) hN2 ha (Lib.hid (by have f1 := HF.out; have f2 := hm.out; have f3 := hb.out; have f4 := HLN.out; omega)) (Lib.hid (by have f1 := HF.out; have f2 := hm.out; have f3 := hb.out; have f4 := HLN.out; omega)) (by have f1 := HF.out; have f2 := hm.out; have f3 := hb.out; have f4 := HLN.out; omega) (by have f1 := HF.out; have f2 := hm.out; have f3 := hb.out; have f4 := HLN.out; omega) HW.out HSO.out.1 HSO.out.2.2.1 HC.out (by have e3 := HKK.out; have e4 := HD.out; have f1 := HF.out; have f2 := hm.out; have f3 := hb.out; have f4 := HLN.out; omega)).mono ?_
                        rintro e w3 ⟨rfl, hS3⟩
                        go_wp2_with fail
                        have r2e : r2 = [] := List.eq_nil_of_length_eq_zero (by have f1 := HF.out; have f2 := hm.out; have f3 := hb.out; have f4 := HLN.out; omega)
                        have hS4 : Stab prow 9 W0 w3 b o (P ++ (mergeB (ltV cv) l1 r1 ++ (mergeB (ltV cv) l2 r2 ++ Q))) := by rw [r2e] at hS3 ⊢; simpa only [mergeB_nil_right, List.nil_append] using hS3
                        go_end0
                        refine ⟨rfl, ?_⟩
                        rw [HM.out]
                        simpa only [List.append_assoc] using hS4)
                · first
                    | (exfalso; have e3 := HLOE.out; have e4 := HHIE.out; have e5 := HD.out; have f1 := HF.out; have f2 := hm.out; have f3 := hb.out; have f4 := HLN.out; omega)
                    | (
                        have g1 : j0 < m := by have f1 := HF.out; have f2 := hm.out; have f3 := hb.out; have f4 := HLN.out; omega
                        have g2 : m < e0 := by have f1 := HF.out; have f2 := hm.out; have f3 := hb.out; have f4 := HLN.out; omega
                        have g3 : a < j0 := by have f1 := HF.out; have f2 := hm.out; have f3 := hb.out; have f4 := HLN.out; omega
                        have g4 : j0 < mid := by have f1 := HF.out; have f2 := hm.out; have f3 := hb.out; have f4 := HLN.out; omega
                        have g5 : mid < e0 := by have f1 := HF.out; have f2 := hm.out; have f3 := hb.out; have f4 := HLN.out; omega
                        have g6 : e0 < bb := by have f1 := HF.out; have f2 := hm.out; have f3 := hb.out; have f4 := HLN.out; omega
                        go_wp2_with fail
                        refine (rotateP_any W0 _ b o c N (P ++ l1) l2 r1 (r2 ++ Q) j0 m e0 _ (by simpa only [List.append_assoc] using hS1) (by have e1 := HN.out; have e2 := HLN.out; simp only [List.length_append, mergeB_len]; omega) hN2 (Lib.hid (by rw [List.length_append]; have f1 := HF.out; have f2 := hm.out; have f3 := hb.out; have f4 := HLN.out; omega)) (Lib.hid (by have f1 := HF.out; have f2 := hm.out; have f3 := hb.out; have f4 := HLN.out; omega)) (Lib.hid (by have f1 := HF.out; have f2 := hm.out; have f3 := hb.out; have f4 := HLN.out; omega)) (by have f1 := HF.out; have f2 := hm.out; have f3 := hb.out; have f4 := HLN.out; omega) (by have f1 := HF.out; have f2 := hm.out; have f3 := hb.out; have f4 := HLN.out; omega)).mono ?_
                        rintro e w2 ⟨rfl, hS2⟩
                        replace hS2 : Stab prow 9 W0 w2 b o (P ++ (l1 ++ (r1 ++ (l2 ++ (r2 ++ Q))))) := by simpa only [List.append_assoc] using hS2
                        go_wp2_with fail
                        refine (HIH.out W0 _ b o c N P l1 r1 (l2 ++ (r2 ++ Q)) a j0 mid cv hS2 (by have e1 := HN.out; have e2 := HLN.out; simp only [List.length_append, mergeB_len]; omega) hN2 ha (Lib.hid (by have f1 := HF.out; have f2 := hm.out; have f3 := hb.out; have f4 := HLN.out; omega)) (Lib.hid (by have f1 := HF.out; have f2 := hm.out; have f3 := hb.out; have f4 := HLN.out; omega)) (by have f1 := HF.out; have f2 := hm.out; have f3 := hb.out; have f4 := HLN.out; omega) (by have f1 := HF.out; have f2 := hm.out; have f3 := hb.out; have f4 := HLN.out; omega) HW.out HSO.out.1 HSO.out.2.2.1 HC.out (by have e3 := HKK.out; have e4 := HD.out; have f1 := HF.out; have f2 := hm.out; have f3 := hb.out; have f4 := HLN.out; omega)).mono ?_
                        rintro e w3 ⟨rfl, hS3⟩
                        go_wp2_with fail
                        refine (HIH.out W0 _ b o c N (P ++ mergeB (ltV cv) l1 r1) l2 r2 Q mid e0 bb cv (by simpa only [List.append_assoc] using hS3) (by have e1 := HN.out; have e2 := HLN.out; simp only [List.length_append, mergeB_len]; omega) hN2 (Lib.hid (by rw [List.length_append, mergeB_len]; have f1 := HF.out; have f2 := hm.out; have f3 := hb.out; have f4 := HLN.out; omega)) (Lib.hid (by have f1 := HF.out; have f2 := hm.out; have f3 := hb.out; have f4 := HLN.out; omega)) (Lib.hid (by have f1 := HF.out; have f2 := hm.out; have f3 := hb.out; have f4 := HLN.out; omega)) (by have f1 := HF.out; have f2 := hm.out; have f3 := hb.out; have f4 := HLN.out; omega) (by have f1 := HF.out; have f2 := hm.out; have f3 := hb.out; have f4 := HLN.out; omega) HW.out HSO.out.2.1 HSO.out.2.2.2 HC.out (by have e3 := HKK.out; have e4 := HD.out; have f1 := HF.out; have f2 := hm.out; have f3 := hb.out; have f4 := HLN.out; omega)).mono ?_
                        rintro e w4 ⟨rfl, hS4⟩
                        go_wp2
                        go_end0
                        refine ⟨rfl, ?_⟩
                        rw [HM.out]
                        simpa only [List.append_assoc] using hS4)
          · rcases Nat.eq_zero_or_pos l2.length with hl2 | hl2
            · first
                | (exfalso; have e3 := HLOE.out; have e4 := HHIE.out; have e5 := HD.out; have f1 := HF.out; have f2 := hm.out; have f3 := hb.out; have f4 := HLN.out; omega)
                | (
                    have g1 : m ≤ j0 := by have f1 := HF.out; have f2 := hm.out; have f3 := hb.out; have f4 := HLN.out; omega
                    have g3 : a < j0 := by have f1 := HF.out; have f2 := hm.out; have f3 := hb.out; have f4 := HLN.out; omega
                    have g4 : mid ≤ j0 := by have f1 := HF.out; have f2 := hm.out; have f3 := hb.out; have f4 := HLN.out; omega
                    have g5 : e0 ≤ mid := by have f1 := HF.out; have f2 := hm.out; have f3 := hb.out; have f4 := HLN.out; omega
                    go_wp2_with fail
                    have l2e : l2 = [] := List.eq_nil_of_length_eq_zero (by have f1 := HF.out; have f2 := hm.out; have f3 := hb.out; have f4 := HLN.out; omega)
                    have hS2 : Stab prow 9 W0 wr b o (P ++ (l1 ++ (r1 ++ (l2 ++ (r2 ++ Q))))) := by rw [l2e] at hS1 ⊢; simpa only [List.append_assoc, List.nil_append] using hS1
                    have r1e : r1 = [] := List.eq_nil_of_length_eq_zero (by have f1 := HF.out; have f2 := hm.out; have f3 := hb.out; have f4 := HLN.out; omega)
                    have hS3 : Stab prow 9 W0 wr b o (P ++ (mergeB (ltV cv) l1 r1 ++ (l2 ++ (r2 ++ Q)))) := by rw [r1e] at hS2 ⊢; simpa only [mergeB_nil_right, List.nil_append] using hS2

                    have hS4 : Stab prow 9 W0 wr b o (P ++ (mergeB (ltV cv) l1 r1 ++ (mergeB (ltV cv) l2 r2 ++ Q))) := by rw [l2e] at hS3 ⊢; simpa only [mergeB_nil_left, List.nil_append] using hS3
                    go_end0
                    refine ⟨rfl, ?_⟩
                    rw [HM.out]
                    simpa only [List.append_assoc] using hS4)
            · first
                | (exfalso; have e3 := HLOE.out; have e4 := HHIE.out; have e5 := HD.out; have f1 := HF.out; have f2 := hm.out; have f3 := hb.out; have f4 := HLN.out; omega)
                | (
                    have g1 : j0 < m := by have f1 := HF.out; have f2 := hm.out; have f3 := hb.out; have f4 := HLN.out; omega
                    have g2 : e0 ≤ m := by have f1 := HF.out; have f2 := hm.out; have f3 := hb.out; have f4 := HLN.out; omega
                    have g3 : a < j0 := by have f1 := HF.out; have f2 := hm.out; have f3 := hb.out; have f4 := HLN.out; omega
                    have g4 : mid ≤ j0 := by have f1 := HF.out; have f2 := hm.out; have f3 := hb.out; have f4 := HLN.out; omega
                    have g5 : mid < e0 := by have f1 := HF.out; have f2 := hm.out; have f3 := hb.out; have f4 := HLN.out; omega
                    have g6 : e0 < bb := by have f1 := HF.out; have f2 := hm.out; have f3 := hb.out; have f4 := HLN.out; omega
                    go_wp2_with fail
                    have r1e : r1 = [] := List.eq_nil_of_length_eq_zero (by have f1 := HF.out; have f2 := hm.out; have f3 := hb.out; have f4 := HLN.out; omega)
                    have hS2 : Stab prow 9 W0 wr b o (P ++ (l1 ++ (r1 ++ (l2 ++ (r2 ++ Q))))) := by rw [r1e] at hS1 ⊢; simpa only [List.append_assoc, List.nil_append] using hS1

                    have hS3 : Stab prow 9 W0 wr b o (P ++ (mergeB (ltV cv) l1 r1 ++ (l2 ++ (r2 ++ Q)))) := by rw [r1e] at hS2 ⊢; simpa only [mergeB_nil_right, List.nil_append] using hS2
                    refine (HIH.out W0 _ b o c N (P ++ mergeB (ltV cv) l1 r1) l2 r2 Q mid e0 bb cv (by simpa only [List.append_assoc] using hS3) (by have e1 := HN.out; have e2 := HLN.out; simp only [List.length_append, mergeB_len]; omega) hN2 (Lib.hid (by rw [List.length_append, mergeB_len]; have f1 := HF.out; have f2 := hm.out; have f3 := hb.out; have f4 := HLN.out; omega)) (Lib.hid (by have f1 := HF.out; have f2 := hm.out; have f3 := hb.out; have f4 := HLN.out; omega)) (Lib.hid (by have f1 := HF.out; have f2 := hm.out; have f3 := hb.out; have f4 := HLN.out; omega)) (by have f1 := HF.out; have f2 := hm.out; have f3 := hb.out; have f4 := HLN.out; omega) (by have f1 := HF.out; have f2 := hm.out; have f3 := hb.out; have f4 := HLN.out; omega) HW.out HSO.out.2.1 HSO.out.2.2.2 HC.out (by have e3 := HKK.out; have e4 := HD.out; have f1 := HF.out; have f2 := hm.out; have f3 := hb.out; have f4 := HLN.out; omega)).mono ?_
                    rintro e w4 ⟨rfl, hS4⟩
                    go_wp2
                    go_end0
                    refine ⟨rfl, ?_⟩
                    rw [HM.out]
                    simpa only [List.append_assoc] using hS4)
    · have hlo : lo = 0 := HLO.out.2 (by omega)
      have hhi : hi = L.length := HHI.out.2 (by omega)
      have HLO2 := Lib.hid (show lo = 0 ∨ lo + R.length = d from .inl hlo)
      have HHI2 := Lib.hid (show hi = L.length ∨ hi = d from .inl hhi)
      have hlh : lo ≤ hi := by have := hm.out; have := hb.out; have := HD.out; omega
      have hhd : hi ≤ d := by have := hm.out; have := HD.out; omega
      have hhl : hi ≤ L.length := by have := hm.out; have := HD.out; omega
      have hld : d ≤ lo + R.length := by have := hm.out; have := hb.out; have := HD.out; omega
      have HLOE := Lib.hid hlo
      have HHIE := Lib.hid hhi
      clear hlo hhi
      go_wp2_with fail
      go_loopw [20, 21] (fun i j wr => ∃ u v i0 j0 : Nat, lo ≤ u ∧ u ≤ v ∧ v ≤ hi ∧ i = .int .i64 (i0 : Int) ∧ j = .int .i64 (j0 : Int) ∧ Hid (a + u = i0) ∧ Hid (a + v = j0) ∧ Hid (u = lo ∨ ∃ x y, L[u - 1]? = some x ∧ R[d - u]? = some y ∧ ltV cv y x = false) ∧ Hid (v = hi ∨ ∃ x y, L[v]? = some x ∧ R[d - 1 - v]? = some y ∧ ltV cv y x = true) ∧ Stab prow 9 W0 wr b o (P ++ (L ++ (R ++ Q)))) (fun i j _ => (intOf j - intOf i).toNat)
      case atStart =>
        have e1 := HLOE.out; have e2 := HHIE.out; have e3 := HD.out; have e4 := hm.out; have e5 := hb.out
        exact ⟨lo, hi, a + lo, a + hi, by omega, by omega, by omega, by first | (congr 1; omega) | (congr 1; push_cast; omega), by first | (congr 1; omega) | (congr 1; push_cast; omega), Lib.hid rfl, Lib.hid rfl, Lib.hid (.inl rfl), Lib.hid (.inl rfl), h⟩
      case round =>
        obtain ⟨u, v, i0, j0, hlu, huv, hv, rfl, rfl, HI, HJ, HP1, HP2, hS⟩ := hrel
        by_cases hlt : u < v
        · have hij : i0 < j0 := by have := HI.out; have := HJ.out; omega
          have hjb : j0 ≤ m := by have := HJ.out; have := hm.out; omega
          have hai : a ≤ i0 := by have := HI.out; omega
          obtain ⟨t, ht⟩ : ∃ t : Nat, (i0 + j0) / 2 = t := ⟨_, rfl⟩
          have hti : i0 ≤ t := by omega
          have htj : t < j0 := by omega
          obtain ⟨k, hk⟩ : ∃ k, a + k = t := ⟨t - a, by omega⟩
          have huk : u ≤ k := by have := HI.out; omega
          have hkv : k < v := by have := HJ.out; omega
          have hkL : k < L.length := by omega
          have hkd : k < d := by omega
          have hkR : d - 1 - k < R.length := by omega
          obtain ⟨q, hq⟩ : ∃ q : Nat, mid + m - 1 - t = q := ⟨_, rfl⟩
          have hqm : m ≤ q := by have := HD.out; omega
          have hqb : q < bb := by have := HD.out; have := hb.out; omega
          have hmd : mid ≤ bb := by have := HD.out; have := hm.out; have := hb.out; omega
          have hqq : q - m = d - 1 - k := by have := HD.out; omega
          have hL1 : L[k]? = some L[k] := List.getElem?_eq_getElem hkL
          have hR1 : R[d - 1 - k]? = some R[d - 1 - k] := List.getElem?_eq_getElem hkR
          obtain ⟨x, hx⟩ : ∃ x, L[k] = x := ⟨_, rfl⟩
          obtain ⟨y, hy⟩ : ∃ y, R[d - 1 - k] = y := ⟨_, rfl⟩
          rw [hx] at hL1
          rw [hy] at hR1
          have hgx : (P ++ (L ++ (R ++ Q)))[t]? = some x := by
            rw [List.getElem?_append_right (by have := ha.out; omega), show t - P.length = k by have := ha.out; omega, List.getElem?_append_left hkL, hL1]
          have hgy : (P ++ (L ++ (R ++ Q)))[q]? = some y := by
            rw [List.getElem?_append_right (by have := ha.out; omega), List.getElem?_append_right (by have := ha.out; have := hm.out; omega), show q - P.length - L.length = d - 1 - k by have := ha.out; have := hm.out; omega, List.getElem?_append_left hkR, hR1]
          have qx0 : wr.cell? ⟨b, o + t * 9, none⟩ = some (.string x.name) := hS.tab _ x hgx 0 _ rfl
          have qx1 : wr.cell? ⟨b, o + t * 9 + 1, none⟩ = some (.slice x.la x.ln x.lc) := hS.tab _ x hgx 1 _ rfl
          have qx2 : wr.cell? ⟨b, o + t * 9 + 2, none⟩ = some (.int .i64 x.cpu) := hS.tab _ x hgx 2 _ rfl
          have qx3 : wr.cell? ⟨b, o + t * 9 + 3, none⟩ = some (.int .i64 x.mem) := hS.tab _ x hgx 3 _ rfl
          have qx4 : wr.cell? ⟨b, o + t * 9 + 4, none⟩ = some (.int .i64 x.rank) := hS.tab _ x hgx 4 _ rfl
          have qx5 : wr.cell? ⟨b, o + t * 9 + 5, none⟩ = some (.slice x.na x.nn x.nc) := hS.tab _ x hgx 5 _ rfl
          have qx6 : wr.cell? ⟨b, o + t * 9 + 6, none⟩ = some (.slice x.ta x.tn x.tc) := hS.tab _ x hgx 6 _ rfl
          have qx7 : wr.cell? ⟨b, o + t * 9 + 7, none⟩ = some (.string x.on) := hS.tab _ x hgx 7 _ rfl
          have qx8 : wr.cell? ⟨b, o + t * 9 + 8, none⟩ = some (.int .i64 x.seq) := hS.tab _ x hgx 8 _ rfl
          have qy0 : wr.cell? ⟨b, o + q * 9, none⟩ = some (.string y.name) := hS.tab _ y hgy 0 _ rfl
          have qy1 : wr.cell? ⟨b, o + q * 9 + 1, none⟩ = some (.slice y.la y.ln y.lc) := hS.tab _ y hgy 1 _ rfl
          have qy2 : wr.cell? ⟨b, o + q * 9 + 2, none⟩ = some (.int .i64 y.cpu) := hS.tab _ y hgy 2 _ rfl
          have qy3 : wr.cell? ⟨b, o + q * 9 + 3, none⟩ = some (.int .i64 y.mem) := hS.tab _ y hgy 3 _ rfl
          have qy4 : wr.cell? ⟨b, o + q * 9 + 4, none⟩ = some (.int .i64 y.rank) := hS.tab _ y hgy 4 _ rfl
          have qy5 : wr.cell? ⟨b, o + q * 9 + 5, none⟩ = some (.slice y.na y.nn y.nc) := hS.tab _ y hgy 5 _ rfl
          have qy6 : wr.cell? ⟨b, o + q * 9 + 6, none⟩ = some (.slice y.ta y.tn y.tc) := hS.tab _ y hgy 6 _ rfl
          have qy7 : wr.cell? ⟨b, o + q * 9 + 7, none⟩ = some (.string y.on) := hS.tab _ y hgy 7 _ rfl
          have qy8 : wr.cell? ⟨b, o + q * 9 + 8, none⟩ = some (.int .i64 y.seq) := hS.tab _ y hgy 8 _ rfl
          have HU := Lib.hid hS.upd
          have hbl : b < wr.heap.size := hS.plain.lt
          have HS := Lib.hid hS
          have HK := Lib.hid hk
          have htI : ((i0 : Int) + j0) / 2 = t := by omega
          have hwq : IntKind.i64.wrap ((mid : Int) + m - 1 - t) = (q : Int) := by rw [IntWalk.i64_in _ (by omega)]; omega
          have HXY := Lib.hid (And.intro hL1 hR1)
          clear hS hL1 hR1 hgy hgx ht hk hx hy hq hqq
          cases hcv : decide (cv y x < 0) with
          | false =>
            go_wp2_with fail
            refine wp_region_grow wr (by kernel_rfl) (by kernel_rfl) (ext_refl _) ?_
            repeat (first
              | (apply inText_skip
                 case hw => rfl
                 simp only [Act.put, List.setIfInBounds_toArray, List.set_cons_zero, List.set_cons_succ])
              | (apply inText_step
                 case hw => rfl
                 case h =>
                   intro wq hq
                   have hcq := (cls_cell hq).1
                   have hfq := (cls_cell hq).2
                   go_simp
                   first
                     | exact ⟨hq, rfl⟩
                     | (refine (HC.out y x _ (HU.out.trans (Upd.of_ext _ hq))).mono ?_; rintro e w2 ⟨rfl, hb2⟩; exact ⟨rfl, cls_trans hq hb2⟩)
                     | (simp only [↓IntWalk.iteOmega]; exact ⟨hq, rfl⟩)
                 simp only [Act.put, List.setIfInBounds_toArray, List.set_cons_zero, List.set_cons_succ]))
            refine inText_nil ?_
            intro wn hn
            replace hn := hn.out
            go_wp2
            refine ⟨⟨k + 1, v, t + 1, j0, by omega, by omega, hv, by go_num, rfl, Lib.hid (by have := HK.out; omega), HJ, Lib.hid (.inr ⟨x, y, by rw [Nat.add_sub_cancel]; exact HXY.out.1, by rw [show d - (k + 1) = d - 1 - k by omega]; exact HXY.out.2, hcv⟩), HP2, HS.out.ext hn⟩, by simp [intOf]; omega⟩
          | true =>
            go_wp2_with fail
            refine wp_region_grow wr (by kernel_rfl) (by kernel_rfl) (ext_refl _) ?_
            repeat (first
              | (apply inText_skip
                 case hw => rfl
                 simp only [Act.put, List.setIfInBounds_toArray, List.set_cons_zero, List.set_cons_succ])
              | (apply inText_step
                 case hw => rfl
                 case h =>
                   intro wq hq
                   have hcq := (cls_cell hq).1
                   have hfq := (cls_cell hq).2
                   go_simp
                   first
                     | exact ⟨hq, rfl⟩
                     | (refine (HC.out y x _ (HU.out.trans (Upd.of_ext _ hq))).mono ?_; rintro e w2 ⟨rfl, hb2⟩; exact ⟨rfl, cls_trans hq hb2⟩)
                     | (simp only [↓IntWalk.iteOmega]; exact ⟨hq, rfl⟩)
                 simp only [Act.put, List.setIfInBounds_toArray, List.set_cons_zero, List.set_cons_succ]))
            refine inText_nil ?_
            intro wn hn
            replace hn := hn.out
            go_wp2
            refine ⟨⟨u, k, i0, t, hlu, by omega, by omega, rfl, rfl, HI, HK, HP1, Lib.hid (.inr ⟨x, y, HXY.out.1, HXY.out.2, hcv⟩), HS.out.ext hn⟩, by simp [intOf]; omega⟩
        · have huv2 : v = u := by omega
          subst huv2
          have hj0 : j0 = i0 := by have := HI.out; have := HJ.out; omega
          subst hj0
          have hvd : v ≤ d := by omega
          have hdR : d - v ≤ R.length := by omega
          obtain ⟨l1, l2, r1, r2, HSP, HLN, HSO, HM⟩ : ∃ l1 l2 r1 r2, Hid (L = l1 ++ l2 ∧ R = r1 ++ r2) ∧ Hid (l1.length = v ∧ l2.length + v = L.length ∧ r1.length + v = d ∧ r1.length + r2.length = R.length) ∧ Hid (Sorted (ltV cv) l1 ∧ Sorted (ltV cv) l2 ∧ Sorted (ltV cv) r1 ∧ Sorted (ltV cv) r2) ∧ Hid (mergeB (ltV cv) L R = mergeB (ltV cv) l1 r1 ++ mergeB (ltV cv) l2 r2) :=
            ⟨L.take v, L.drop v, R.take (d - v), R.drop (d - v), Lib.hid ⟨(List.take_append_drop ..).symm, (List.take_append_drop ..).symm⟩, Lib.hid ⟨by rw [List.length_take]; omega, by rw [List.length_drop]; omega, by rw [List.length_take]; omega, by rw [List.length_take, List.length_drop]; omega⟩,
              Lib.hid ⟨List.Pairwise.sublist (List.take_sublist ..) HSL.out, List.Pairwise.sublist (List.drop_sublist ..) HSL.out, List.Pairwise.sublist (List.take_sublist ..) HSR.out, List.Pairwise.sublist (List.drop_sublist ..) HSR.out⟩,
              Lib.hid (sym_at HW.out HSL.out HSR.out HLO2.out HHI2.out hlu hv (by omega) (by omega) HP1.out HP2.out)⟩
          have hS1 : Stab prow 9 W0 wr b o (P ++ (l1 ++ (l2 ++ (r1 ++ (r2 ++ Q))))) := by
            have := hS
            rw [HSP.out.1, HSP.out.2] at this
            simpa only [List.append_assoc] using this
          obtain ⟨e0, he0⟩ : ∃ e0 : Nat, mid + m - j0 = e0 := ⟨_, rfl⟩
          have HF := Lib.hid (show a + v = j0 ∧ j0 ≤ m ∧ e0 + j0 = mid + m ∧ e0 ≤ bb ∧ P.length = a ∧ a + d = mid ∧ m ≤ e0 by
            have f1 := HI.out; have f2 := hm.out; have f3 := hb.out; have f4 := HD.out; have f5 := ha.out; omega)
          have hE0 : (mid : Int) + m - j0 = e0 := by have := HF.out; omega
          have hej : e0 ≤ bb := HF.out.2.2.2.1
          have hjm : j0 ≤ m := HF.out.2.1
          clear he0 HP1 HP2 hS
          rcases Nat.lt_or_ge v d with hvd2 | hvd2
          · rcases Nat.eq_zero_or_pos v with hv0 | hv0
            · rcases Nat.eq_zero_or_pos r2.length with hr2 | hr2
              · first
                  | (exfalso; have e3 := HLOE.out; have e4 := HHIE.out; have e5 := HD.out; have f1 := HF.out; have f2 := hm.out; have f3 := hb.out; have f4 := HLN.out; omega)
                  | (
                      have g1 : j0 < m := by have f1 := HF.out; have f2 := hm.out; have f3 := hb.out; have f4 := HLN.out; omega
                      have g2 : m < e0 := by have f1 := HF.out; have f2 := hm.out; have f3 := hb.out; have f4 := HLN.out; omega
                      have g3 : j0 ≤ a := by have f1 := HF.out; have f2 := hm.out; have f3 := hb.out; have f4 := HLN.out; omega
                      have g5 : mid < e0 := by have f1 := HF.out; have f2 := hm.out; have f3 := hb.out; have f4 := HLN.out; omega
                      have g6 : bb ≤ e0 := by have f1 := HF.out; have f2 := hm.out; have f3 := hb.out; have f4 := HLN.out; omega
                      go_wp2_with fail
                      refine (rotateP_any W0 _ b o c N (P ++ l1) l2 r1 (r2 ++ Q) j0 m e0 _ (by simpa only [List.append_assoc] using hS1) (by have e1 := HN.out; have e2 := HLN.out; simp only [List.length_append, mergeB_len]; omega) hN2 (Lib.hid (by rw [List.length_append]; have f1 := HF.out; have f2 := hm.out; have f3 := hb.out; have f4 := HLN.out; omega)) (Lib.hid (by have f1 := HF.out; have f2 := hm.out; have f3 := hb.out; have f4 := HLN.out; omega)) (Lib.hid (by have f1 := HF.out; have f2 := hm.out; have f3 := hb.out; have f4 := HLN.out; omega)) (by have f1 := HF.out; have f2 := hm.out; have f3 := hb.out; have f4 := HLN.out; omega) (by have f1 := HF.out; have f2 := hm.out; have f3 := hb.out; have f4 := HLN.out; omega)).mono ?_
                      rintro e w2 ⟨rfl, hS2⟩
                      replace hS2 : Stab prow 9 W0 w2 b o (P ++ (l1 ++ (r1 ++ (l2 ++ (r2 ++ Q))))) := by simpa only [List.append_assoc] using hS2
                      go_wp2_with fail
                      have l1e : l1 = [] := List.eq_nil_of_length_eq_zero (by have f1 := HF.out; have f2 := hm.out; have f3 := hb.out; have f4 := HLN.out; omega)
                      have hS3 : Stab prow 9 W0 w2 b o (P ++ (mergeB (ltV cv) l1 r1 ++ (l2 ++ (r2 ++ Q)))) := by rw [l1e] at hS2 ⊢; simpa only [mergeB_nil_left, List.nil_append] using hS2
                      have r2e : r2 = [] := List.eq_nil_of_length_eq_zero (by have f1 := HF.out; have f2 := hm.out; have f3 := hb.out; have f4 := HLN.out; omega)
                      have hS4 : Stab prow 9 W0 w2 b o (P ++ (mergeB (ltV cv) l1 r1 ++ (mergeB (ltV cv) l2 r2 ++ Q))) := by rw [r2e] at hS3 ⊢; simpa only [mergeB_nil_right, List.nil_append] using hS3
                      go_end0
                      refine ⟨rfl, ?_⟩
                      rw [HM.out]
                      simpa only [List.append_assoc] using hS4)
              · first
                  | (exfalso; have e3 := HLOE.out; have e4 := HHIE.out; have e5 := HD.out; have f1 := HF.out; have f2 := hm.out; have f3 := hb.out; have f4 := HLN.out; omega)
                  | (
                      have g1 : j0 < m := by have f1 := HF.out; have f2 := hm.out; have f3 := hb.out; have f4 := HLN.out; omega
                      have g2 : m < e0 := by have f1 := HF.out; have f2 := hm.out; have f3 := hb.out; have f4 := HLN.out; omega
                      have g3 : j0 ≤ a := by have f1 := HF.out; have f2 := hm.out; have f3 := hb.out; have f4 := HLN.out; omega
                      have g5 : mid < e0 := by have f1 := HF.out; have f2 := hm.out; have f3 := hb.out; have f4 := HLN.out; omega
                      have g6 : e0 < bb := by have f1 := HF.out; have f2 := hm.out; have f3 := hb.out; have f4 := HLN.out; omega
                      go_wp2_with fail
                      refine (rotateP_any W0 _ b o c N (P ++ l1) l2 r1 (r2 ++ Q) j0 m e0 _ (by simpa only [List.append_assoc] using hS1) (by have e1 := HN.out; have e2 := HLN.out; simp only [List.length_append, mergeB_len]; omega) hN2 (Lib.hid (by rw [List.length_append]; have f1 := HF.out; have f2 := hm.out; have f3 := hb.out; have f4 := HLN.out; omega)) (Lib.hid (by have f1 := HF.out; have f2 := hm.out; have f3 := hb.out; have f4 := HLN.out; omega)) (Lib.hid (by have f1 := HF.out; have f2 := hm.out; have f3 := hb.out; have f4 := HLN.out; omega)) (by have f1 := HF.out; have f2 := hm.out; have f3 := hb.out; have f4 := HLN.out; omega) (by have f1 := HF.out; have f2 := hm.out; have f3 := hb.out; have f4 := HLN.out; omega)).mono ?_
                      rintro e w2 ⟨rfl, hS2⟩
                      replace hS2 : Stab prow 9 W0 w2 b o (P ++ (l1 ++ (r1 ++ (l2 ++ (r2 ++ Q))))) := by simpa only [List.append_assoc] using hS2
                      go_wp2_with fail
                      have l1e : l1 = [] := List.eq_nil_of_length_eq_zero (by have f1 := HF.out; have f2 := hm.out; have f3 := hb.out; have f4 := HLN.out; omega)
                      have hS3 : Stab prow 9 W0 w2 b o (P ++ (mergeB (ltV cv) l1 r1 ++ (l2 ++ (r2 ++ Q)))) := by rw [l1e] at hS2 ⊢; simpa only [mergeB_nil_left, List.nil_append] using hS2
                      refine (HIH.out W0 _ b o c N (P ++ mergeB (ltV cv) l1 r1) l2 r2 Q mid e0 bb cv (by simpa only [List.append_assoc] using hS3) (by have e1 := HN.out; have e2 := HLN.out; simp only [List.length_append, mergeB_len]; omega) hN2 (Lib.hid (by rw [List.length_append, mergeB_len]; have f1 := HF.out; have f2 := hm.out; have f3 := hb.out; have f4 := HLN.out; omega)) (Lib.hid (by have f1 := HF.out; have f2 := hm.out; have f3 := hb.out; have f4 := HLN.out; omega)) (Lib.hid (by have f1 := HF.out; have f2 := hm.out; have f3 := hb.out; have f4 := HLN.out; omega)) (by have f1 := HF.out; have f2 := hm.out; have f3 := hb.out; have f4 := HLN.out; omega) (by have f1 := HF.out; have f2 := hm.out; have f3 := hb.out; have f4 := HLN.out; omega) HW.out HSO.out.2.1 HSO.out.2.2.2 HC.out (by have e3 := HKK.out; have e4 := HD.out; have f1 := HF.out; have f2 := hm.out; have f3 := hb.out; have f4 := HLN.out; omega)).mono ?_
                      rintro e w4 ⟨rfl, hS4⟩
                      go_wp2
                      go_end0
                      refine ⟨rfl, ?_⟩
                      rw [HM.out]
                      simpa only [List.append_assoc] using hS4)
            · rcases Nat.eq_zero_or_pos l2.length with hl2 | hl2
              · first
                  | (exfalso; have e3 := HLOE.out; have e4 := HHIE.out; have e5 := HD.out; have f1 := HF.out; have f2 := hm.out; have f3 := hb.out; have f4 := HLN.out; omega)
                  | (
                      have g1 : m ≤ j0 := by have f1 := HF.out; have f2 := hm.out; have f3 := hb.out; have f4 := HLN.out; omega
                      have g3 : a < j0 := by have f1 := HF.out; have f2 := hm.out; have f3 := hb.out; have f4 := HLN.out; omega
                      have g4 : j0 < mid := by have f1 := HF.out; have f2 := hm.out; have f3 := hb.out; have f4 := HLN.out; omega
                      have g5 : e0 ≤ mid := by have f1 := HF.out; have f2 := hm.out; have f3 := hb.out; have f4 := HLN.out; omega
                      go_wp2_with fail
                      have l2e : l2 = [] := List.eq_nil_of_length_eq_zero (by have f1 := HF.out; have f2 := hm.out; have f3 := hb.out; have f4 := HLN.out; omega)
                      have hS2 : Stab prow 9 W0 wr b o (P ++ (l1 ++ (r1 ++ (l2 ++ (r2 ++ Q))))) := by rw [l2e] at hS1 ⊢; simpa only [List.append_assoc, List.nil_append] using hS1
                      refine (HIH.out W0 _ b o c N P l1 r1 (l2 ++ (r2 ++ Q)) a j0 mid cv hS2 (by have e1 := HN.out; have e2 := HLN.out; simp only [List.length_append, mergeB_len]; omega) hN2 ha (Lib.hid (by have f1 := HF.out; have f2 := hm.out; have f3 := hb.out; have f4 := HLN.out; omega)) (Lib.hid (by have f1 := HF.out; have f2 := hm.out; have f3 := hb.out; have f4 := HLN.out; omega)) (by have f1 := HF.out; have f2 := hm.out; have f3 := hb.out; have f4 := HLN.out; omega) (by have f1 := HF.out; have f2 := hm.out; have f3 := hb.out; have f4 := HLN.out; omega) HW.out HSO.out.1 HSO.out.2.2.1 HC.out (by have e3 := HKK.out; have e4 := HD.out; have f1 := HF.out; have f2 := hm.out; have f3 := hb.out; have f4 := HLN.out; omega)).mono ?_
                      rintro e w3 ⟨rfl, hS3⟩
                      go_wp2_with fail

                      have hS4 : Stab prow 9 W0 w3 b o (P ++ (mergeB (ltV cv) l1 r1 ++ (mergeB (ltV cv) l2 r2 ++ Q))) := by rw [l2e] at hS3 ⊢; simpa only [mergeB_nil_left, List.nil_append] using hS3
                      go_end0
                      refine ⟨rfl, ?_⟩
                      rw [HM.out]
                      simpa only [List.append_assoc] using hS4)
              · rcases Nat.eq_zero_or_pos r2.length with hr2 | hr2
                · first
                    | (exfalso; have e3 := HLOE.out; have e4 := HHIE.out; have e5 := HD.out; have f1 := HF.out; have f2 := hm.out; have f3 := hb.out; have f4 := HLN.out; omega)
                    | (
                        have g1 : j0 < m := by have f1 := HF.out; have f2 := hm.out; have f3 := hb.out; have f4 := HLN.out; omega
                        have g2 : m < e0 := by have f1 := HF.out; have f2 := hm.out; have f3 := hb.out; have f4 := HLN.out; omega
                        have g3 : a < j0 := by have f1 := HF.out; have f2 := hm.out; have f3 := hb.out; have f4 := HLN.out; omega
                        have g4 : j0 < mid := by have f1 := HF.out; have f2 := hm.out; have f3 := hb.out; have f4 := HLN.out; omega
                        have g5 : mid < e0 := by have f1 := HF.out; have f2 := hm.out; have f3 := hb.out; have f4 := HLN.out; omega
                        have g6 : bb ≤ e0 := by have f1 := HF.out; have f2 := hm.out; have f3 := hb.out; have f4 := HLN.out; omega
                        go_wp2_with fail
                        refine (rotateP_any W0 _ b o c N (P ++ l1) l2 r1 (r2 ++ Q) j0 m e0 _ (by simpa only [List.append_assoc] using hS1) (by have e1 := HN.out; have e2 := HLN.out; simp only [List.length_append, mergeB_len]; omega) hN2 (Lib.hid (by rw [List.length_append]; have f1 := HF.out; have f2 := hm.out; have f3 := hb.out; have f4 := HLN.out; omega)) (Lib.hid (by have f1 := HF.out; have f2 := hm.out; have f3 := hb.out; have f4 := HLN.out; omega)) (Lib.hid (by have f1 := HF.out; have f2 := hm.out; have f3 := hb.out; have f4 := HLN.out; omega)) (by have f1 := HF.out; have f2 := hm.out; have f3 := hb.out; have f4 := HLN.out; omega) (by have f1 := HF.out; have f2 := hm.out; have f3 := hb.out; have f4 := HLN.out; omega)).mono ?_
                        rintro e w2 ⟨rfl, hS2⟩
                        replace hS2 : Stab prow 9 W0 w2 b o (P ++ (l1 ++ (r1 ++ (l2 ++ (r2 ++ Q))))) := by simpa only [List.append_assoc] using hS2
                        go_wp2_with fail
                        refine (HIH.out W0 _ b o c N P l1 r1 (l2 ++ (r2 ++ Q)) a j0 mid cv hS2 (by have e1 := HN.out; have e2 := HLN.out; simp only [List.length_append, mergeB_len]; omega) hN2 ha (Lib.hid (by have f1 := HF.out; have f2 := hm.out; have f3 := hb.out; have f4 := HLN.out; omega)) (Lib.hid (by have f1 := HF.out; have f2 := hm.out; have f3 := hb.out; have f4 := HLN.out; omega)) (by have f1 := HF.out; have f2 := hm.out; have f3 := hb.out; have f4 := HLN.out; omega) (by have f1 := HF.out; have f2 := hm.out; have f3 := hb.out; have f4 := HLN.out; omega) HW.out HSO.out.1 HSO.out.2.2.1 HC.out (by have e3 := HKK.out; have e4 := HD.out; have f1 := HF.out; have f2 := hm.out; have f3 := hb.out; have f4 := HLN.out; omega)).mono ?_
                        rintro e w3 ⟨rfl, hS3⟩
                        go_wp2_with fail
                        have r2e : r2 = [] := List.eq_nil_of_length_eq_zero (by have f1 := HF.out; have f2 := hm.out; have f3 := hb.out; have f4 := HLN.out; omega)
                        have hS4 : Stab prow 9 W0 w3 b o (P ++ (mergeB (ltV cv) l1 r1 ++ (mergeB (ltV cv) l2 r2 ++ Q))) := by rw [r2e] at hS3 ⊢; simpa only [mergeB_nil_right, List.nil_append] using hS3
                        go_end0
                        refine ⟨rfl, ?_⟩
                        rw [HM.out]
                        simpa only [List.append_assoc] using hS4)
                · first
                    | (exfalso; have e3 := HLOE.out; have e4 := HHIE.out; have e5 := HD.out; have f1 := HF.out; have f2 := hm.out; have f3 := hb.out; have f4 := HLN.out; omega)
                    | (
                        have g1 : j0 < m := by have f1 := HF.out; have f2 := hm.out; have f3 := hb.out; have f4 := HLN.out; omega
                        have g2 : m < e0 := by have f1 := HF.out; have f2 := hm.out; have f3 := hb.out; have f4 := HLN.out; omega
                        have g3 : a < j0 := by have f1 := HF.out; have f2 := hm.out; have f3 := hb.out; have f4 := HLN.out; omega
                        have g4 : j0 < mid := by have f1 := HF.out; have f2 := hm.out; have f3 := hb.out; have f4 := HLN.out; omega
                        have g5 : mid < e0 := by have f1 := HF.out; have f2 := hm.out; have f3 := hb.out; have f4 := HLN.out; omega
                        have g6 : e0 < bb := by have f1 := HF.out; have f2 := hm.out; have f3 := hb.out; have f4 := HLN.out; omega
                        go_wp2_with fail
                        refine (rotateP_any W0 _ b o c N (P ++ l1) l2 r1 (r2 ++ Q) j0 m e0 _ (by simpa only [List.append_assoc] using hS1) (by have e1 := HN.out; have e2 := HLN.out; simp only [List.length_append, mergeB_len]; omega) hN2 (Lib.hid (by rw [List.length_append]; have f1 := HF.out; have f2 := hm.out; have f3 := hb.out; have f4 := HLN.out; omega)) (Lib.hid (by have f1 := HF.out; have f2 := hm.out; have f3 := hb.out; have f4 := HLN.out; omega)) (Lib.hid (by have f1 := HF.out; have f2 := hm.out; have f3 := hb.out; have f4 := HLN.out; omega)) (by have f1 := HF.out; have f2 := hm.out; have f3 := hb.out; have f4 := HLN.out; omega) (by have f1 := HF.out; have f2 := hm.out; have f3 := hb.out; have f4 := HLN.out; omega)).mono ?_
                        rintro e w2 ⟨rfl, hS2⟩
                        replace hS2 : Stab prow 9 W0 w2 b o (P ++ (l1 ++ (r1 ++ (l2 ++ (r2 ++ Q))))) := by simpa only [List.append_assoc] using hS2
                        go_wp2_with fail
                        refine (HIH.out W0 _ b o c N P l1 r1 (l2 ++ (r2 ++ Q)) a j0 mid cv hS2 (by have e1 := HN.out; have e2 := HLN.out; simp only [List.length_append, mergeB_len]; omega) hN2 ha (Lib.hid (by have f1 := HF.out; have f2 := hm.out; have f3 := hb.out; have f4 := HLN.out; omega)) (Lib.hid (by have f1 := HF.out; have f2 := hm.out; have f3 := hb.out; have f4 := HLN.out; omega)) (by have f1 := HF.out; have f2 := hm.out; have f3 := hb.out; have f4 := HLN.out; omega) (by have f1 := HF.out; have f2 := hm.out; have f3 := hb.out; have f4 := HLN.out; omega) HW.out HSO.out.1 HSO.out.2.2.1 HC.out (by have e3 := HKK.out; have e4 := HD.out; have f1 := HF.out; have f2 := hm.out; have f3 := hb.out; have f4 := HLN.out; omega)).mono ?_
                        rintro e w3 ⟨rfl, hS3⟩
                        go_wp2_with fail
                        refine (HIH.out W0 _ b o c N (P ++ mergeB (ltV cv) l1 r1) l2 r2 Q mid e0 bb cv (by simpa only [List.append_assoc] using hS3) (by have e1 := HN.out; have e2 := HLN.out; simp only [List.length_append, mergeB_len]; omega) hN2 (Lib.hid (by rw [List.length_append, mergeB_len]; have f1 := HF.out; have f2 := hm.out; have f3 := hb.out; have f4 := HLN.out; omega)) (Lib.hid (by have f1 := HF.out; have f2 := hm.out; have f3 := hb.out; have f4 := HLN.out; omega)) (Lib.hid (by have f1 := HF.out; have f2 := hm.out; have f3 := hb.out; have f4 := HLN.out; omega)) (by have f1 := HF.out; have f2 := hm.out; have f3 := hb.out; have f4 := HLN.out; omega) (by have f1 := HF.out; have f2 := hm.out; have f3 := hb.out; have f4 := HLN.out; omega) HW.out HSO.out.2.1 HSO.out.2.2.2 HC.out (by have e3 := HKK.out; have e4 := HD.out; have f1 := HF.out; have f2 := hm.out; have f3 := hb.out; have f4 := HLN.out; omega)).mono ?_
                        rintro e w4 ⟨rfl, hS4⟩
                        go_wp2
                        go_end0
                        refine ⟨rfl, ?_⟩
                        rw [HM.out]
                        simpa only [List.append_assoc] using hS4)
          · rcases Nat.eq_zero_or_pos l2.length with hl2 | hl2
            · first
                | (exfalso; have e3 := HLOE.out; have e4 := HHIE.out; have e5 := HD.out; have f1 := HF.out; have f2 := hm.out; have f3 := hb.out; have f4 := HLN.out; omega)
                | (
                    have g1 : m ≤ j0 := by have f1 := HF.out; have f2 := hm.out; have f3 := hb.out; have f4 := HLN.out; omega
                    have g3 : a < j0 := by have f1 := HF.out; have f2 := hm.out; have f3 := hb.out; have f4 := HLN.out; omega
                    have g4 : mid ≤ j0 := by have f1 := HF.out; have f2 := hm.out; have f3 := hb.out; have f4 := HLN.out; omega
                    have g5 : e0 ≤ mid := by have f1 := HF.out; have f2 := hm.out; have f3 := hb.out; have f4 := HLN.out; omega
                    go_wp2_with fail
                    have l2e : l2 = [] := List.eq_nil_of_length_eq_zero (by have f1 := HF.out; have f2 := hm.out; have f3 := hb.out; have f4 := HLN.out; omega)
                    have hS2 : Stab prow 9 W0 wr b o (P ++ (l1 ++ (r1 ++ (l2 ++ (r2 ++ Q))))) := by rw [l2e] at hS1 ⊢; simpa only [List.append_assoc, List.nil_append] using hS1
                    have r1e : r1 = [] := List.eq_nil_of_length_eq_zero (by have f1 := HF.out; have f2 := hm.out; have f3 := hb.out; have f4 := HLN.out; omega)
                    have hS3 : Stab prow 9 W0 wr b o (P ++ (mergeB (ltV cv) l1 r1 ++ (l2 ++ (r2 ++ Q)))) := by rw [r1e] at hS2 ⊢; simpa only [mergeB_nil_right, List.nil_append] using hS2

                    have hS4 : Stab prow 9 W0 wr b o (P ++ (mergeB (ltV cv) l1 r1 ++ (mergeB (ltV cv) l2 r2 ++ Q))) := by rw [l2e] at hS3 ⊢; simpa only [mergeB_nil_left, List.nil_append] using hS3
                    go_end0
                    refine ⟨rfl, ?_⟩
                    rw [HM.out]
                    simpa only [List.append_assoc] using hS4)
            · first
                | (exfalso; have e3 := HLOE.out; have e4 := HHIE.out; have e5 := HD.out; have f1 := HF.out; have f2 := hm.out; have f3 := hb.out; have f4 := HLN.out; omega)
                | (
                    have g1 : j0 < m := by have f1 := HF.out; have f2 := hm.out; have f3 := hb.out; have f4 := HLN.out; omega
                    have g2 : e0 ≤ m := by have f1 := HF.out; have f2 := hm.out; have f3 := hb.out; have f4 := HLN.out; omega
                    have g3 : a < j0 := by have f1 := HF.out; have f2 := hm.out; have f3 := hb.out; have f4 := HLN.out; omega
                    have g4 : mid ≤ j0 := by have f1 := HF.out; have f2 := hm.out; have f3 := hb.out; have f4 := HLN.out; omega
                    have g5 : mid < e0 := by have f1 := HF.out; have f2 := hm.out; have f3 := hb.out; have f4 := HLN.out; omega
                    have g6 : e0 < bb := by have f1 := HF.out; have f2 := hm.out; have f3 := hb.out; have f4 := HLN.out; omega
                    go_wp2_with fail
                    have r1e : r1 = [] := List.eq_nil_of_length_eq_zero (by have f1 := HF.out; have f2 := hm.out; have f3 := hb.out; have f4 := HLN.out; omega)
                    have hS2 : Stab prow 9 W0 wr b o (P ++ (l1 ++ (r1 ++ (l2 ++ (r2 ++ Q))))) := by rw [r1e] at hS1 ⊢; simpa only [List.append_assoc, List.nil_append] using hS1

                    have hS3 : Stab prow 9 W0 wr b o (P ++ (mergeB (ltV cv) l1 r1 ++ (l2 ++ (r2 ++ Q)))) := by rw [r1e] at hS2 ⊢; simpa only [mergeB_nil_right, List.nil_append] using hS2
                    refine (HIH.out W0 _ b o c N (P ++ mergeB (ltV cv) l1 r1) l2 r2 Q mid e0 bb cv (by simpa only [List.append_assoc] using hS3) (by have e1 := HN.out; have e2 := HLN.out; simp only [List.length_append, mergeB_len]; omega) hN2 (Lib.hid (by rw [List.length_append, mergeB_len]; have f1 := HF.out; have f2 := hm.out; have f3 := hb.out; have f4 := HLN.out; omega)) (Lib.hid (by have f1 := HF.out; have f2 := hm.out; have f3 := hb.out; have f4 := HLN.out; omega)) (Lib.hid (by have f1 := HF.out; have f2 := hm.out; have f3 := hb.out; have f4 := HLN.out; omega)) (by have f1 := HF.out; have f2 := hm.out; have f3 := hb.out; have f4 := HLN.out; omega) (by have f1 := HF.out; have f2 := hm.out; have f3 := hb.out; have f4 := HLN.out; omega) HW.out HSO.out.2.1 HSO.out.2.2.2 HC.out (by have e3 := HKK.out; have e4 := HD.out; have f1 := HF.out; have f2 := hm.out; have f3 := hb.out; have f4 := HLN.out; omega)).mono ?_
                    rintro e w4 ⟨rfl, hS4⟩
                    go_wp2
                    go_end0
                    refine ⟨rfl, ?_⟩
                    rw [HM.out]
                    simpa only [List.append_assoc] using hS4)
end
end Go.Proofs.Ytjoclfenghenjaa
