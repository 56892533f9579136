/- The library's insertion sort, walked at string. No condition. -/
import Derived.Test.YtjoclfenghenjaaGreatStab0
import Derived.Test.YtjoclfenghenjaaGreatRegion
namespace Go.Proofs.YtjoclfenghenjaaGreat
open Go.ChangeShapes Go.WideShapes Go.ChangeAt Go.RowKit
set_option linter.unusedVariables false
set_option linter.unusedSimpArgs false

/-- what the order's number tells -/
def ltV {β : Type} (cv : β → β → Int) (x y : β) : Bool := decide (cv x y < 0)
section
variable {β : Type} (nm : β → ByteArray)
/-- the comparison answers that number, in every world in which only the table's block has changed -/
def CmpOkS (cv : β → β → Int) (q1 q2 : Addr) (W0 : World) (b : Nat) : Prop := ∀ (x y : β) (w : World), Upd [b] W0 w →
  Calls Tryz.prog 64 #[.string (nm x), .string (nm y), .pointer (some q1), .pointer (some q2)] w fun e w' => e = .returned (.int .i64 (cv x y)) ∧ Below w.heap.size w w'
set_option maxRecDepth 100000 in
set_option maxHeartbeats 2000000 in
theorem insertionS_any (W0 w : World) (b o c N : Nat) (P X Q : List β) (a bb : Nat) (cv : β → β → Int) (q1 q2 : Addr) (h : Stab (fun x => [Value.string (nm x)]) 1 W0 w b o (P ++ (X ++ Q))) (hN : (P ++ (X ++ Q)).length ≤ N) (hN2 : N ≤ 1048576) (ha : Hid (P.length = a)) (hm : Hid (a + X.length = bb)) (W : Weak (ltV cv)) (hc : CmpOkS nm cv q1 q2 W0 b) :
    Calls Tryz.prog 151 #[.slice (some ⟨b, o, none⟩) N c, .int .i64 a, .int .i64 bb, .func (.func 64) #[] #[.pointer (some q1), .pointer (some q2)]] w fun e w' => e = .returned (.tuple #[]) ∧ Stab (fun x => [Value.string (nm x)]) 1 W0 w' b o (P ++ (sortB (ltV cv) [] X ++ Q)) := by
  have hlen : bb ≤ N := by have e1 := ha.out; have e2 := hm.out; simp only [List.length_append] at hN; omega
  have hle : a ≤ bb := by have e2 := hm.out; omega
  have HC := Lib.hid hc
  have HW := Lib.hid W
  clear hc hN W
  go_enter Tryz.func151, Tryz.ntmps151
  go_wp2_with fail
  by_cases hX : X = []
  · subst hX
    have hab : a = bb := by simpa using hm.out
    subst hab
    go_loopw [8] (fun i wr => i = .int .i64 ((a + 1 : Nat) : Int) ∧ wr = w) (fun _ _ => 0)
    case atStart => exact ⟨by go_num, rfl⟩
    case round =>
      obtain ⟨rfl, rfl⟩ := hrel
      go_wp2
      go_end0
      exact ⟨rfl, h⟩
  have hX1 : 1 ≤ X.length := by cases X with | nil => exact absurd rfl hX | cons x X => simp
  clear hX
  go_loopw [8] (fun i wr => ∃ k : Nat, 1 ≤ k ∧ k ≤ X.length ∧ i = .int .i64 ((a + k : Nat) : Int) ∧ Stab (fun x => [Value.string (nm x)]) 1 W0 wr b o (P ++ (sortB (ltV cv) [] (X.take k) ++ (X.drop k ++ Q)))) (fun i _ => bb - (intOf i).toNat)
  case atStart =>
    refine ⟨1, by omega, hX1, by go_num, ?_⟩
    have e : sortB (ltV cv) [] (X.take 1) ++ (X.drop 1 ++ Q) = X ++ Q := by
      cases X with
      | nil => simp at hX1
      | cons x X => rfl
    rw [e]; exact h
  case round =>
    obtain ⟨k, hk1, hk, rfl, hS⟩ := hrel
    by_cases hlt : k < X.length
    · obtain ⟨wo, hwo⟩ : ∃ wo, wo = wr := ⟨_, rfl⟩
      subst hwo
      have hlt2 : a + k < bb := by have e2 := hm.out; omega
      obtain ⟨y, hy⟩ : ∃ y, X[k] = y := ⟨_, rfl⟩
      have hdr : X.drop k = y :: X.drop (k + 1) := by rw [← hy]; exact (List.getElem_cons_drop ..).symm
      have hnx : sortB (ltV cv) [] (X.take (k + 1)) = insB (ltV cv) y (sortB (ltV cv) [] (X.take k)) := by rw [List.take_succ_eq_append_getElem hlt, hy, sortB_snoc]
      have hso : Sorted (ltV cv) (sortB (ltV cv) [] (X.take k)) := sortB_sorted HW.out _ _ List.Pairwise.nil
      have hsl : (sortB (ltV cv) [] (X.take k)).length = k := by rw [sortB_len, List.length_take]; simp; omega
      rw [hdr] at hS
      have HNX := Lib.hid hnx
      have HSO := Lib.hid hso
      clear hdr hnx hso hy
      generalize hSS : sortB (ltV cv) [] (X.take k) = SS at *
      generalize hRR : X.drop (k + 1) ++ Q = RR at *
      have HSS := Lib.hid hSS
      have HRR := Lib.hid hRR
      have HSL := Lib.hid hsl
      clear hSS hRR hsl
      go_wp2_with fail
      go_loopw [9] (fun j wr => ∃ (s1 s2 : List β) (jj : Nat), Hid (SS = s1 ++ s2) ∧ j = .int .i64 (jj : Int) ∧ Hid (a + s1.length = jj) ∧ Hid (∀ x ∈ s2, ltV cv y x = true) ∧ Stab (fun x => [Value.string (nm x)]) 1 W0 wr b o (P ++ (s1 ++ (y :: (s2 ++ RR))))) (fun j _ => (intOf j).toNat)
      case atStart =>
        refine ⟨SS, [], a + k, Lib.hid (by simp), rfl, Lib.hid (by rw [HSL.out]), Lib.hid (by simp), ?_⟩
        simpa [HRR.out] using hS
      case round =>
        obtain ⟨s1, s2, jj, HE, rfl, HJ, HY, hS2⟩ := hrel
        have HU := Lib.hid hS2.upd
        have hbl : b < wr.heap.size := hS2.plain.lt
        have hjb : jj < bb := by have e1 := HJ.out; have e2 := congrArg List.length HE.out; have e3 := HSL.out; rw [List.length_append] at e2; omega
        rcases List.eq_nil_or_concat s1 with rfl | ⟨s', x, rfl⟩
        · have hja : jj = a := by simpa using HJ.out.symm
          subst hja
          have HN := Lib.hid (show insB (ltV cv) y SS = y :: s2 by
            have e1 : SS = s2 := HE.out
            rw [e1]
            exact ins_at HW.out (y := y) (s1 := []) (s2 := s2) (by rw [List.nil_append, ← e1]; exact HSO.out) HY.out (.inl rfl))
          have HS := Lib.hid hS2
          clear hS2
          go_wp2_with fail
          refine wp_region_grow wr (by kernel_rfl) (by kernel_rfl) (ext_refl _) ?_
          repeat (first
            | (apply inText_skip
               case hw => rfl
               simp only [Act.put, List.setIfInBounds_toArray, List.set_cons_zero, List.set_cons_succ])
            | (apply inText_step
               case hw => rfl
               case h =>
                 intro wq hq
                 have hcq := (cls_cell hq).1
                 have hfq := (cls_cell hq).2
                 go_simp
                 first
                   | exact ⟨hq, rfl⟩
                   | (refine (HC.out y y _ (HU.out.trans (Upd.of_ext _ hq))).mono ?_; rintro e w2 ⟨rfl, hb2⟩; exact ⟨rfl, cls_trans hq hb2⟩)
                   | (simp only [↓IntWalk.iteOmega]; exact ⟨hq, rfl⟩)
               simp only [Act.put, List.setIfInBounds_toArray, List.set_cons_zero, List.set_cons_succ]))
          refine inText_nil ?_
          intro wn hn
          replace hn := hn.out
          go_wp2
          refine ⟨⟨k + 1, by omega, by omega, by go_num, ?_⟩, by simp [intOf]; omega⟩
          rw [HNX.out, HN.out, HRR.out]
          exact (HS.out).ext hn
        · obtain ⟨jk, hjk⟩ : ∃ jk, jj = jk + 1 := ⟨jj - 1, by have := HJ.out; simp at this; omega⟩
          subst hjk
          have hpj : P.length + s'.length = jk := by have e1 := HJ.out; have e2 := ha.out; simp at e1; omega
          have hjl : a ≤ jk := by have := ha.out; omega
          have hS3 : Stab (fun x => [Value.string (nm x)]) 1 W0 wr b o (P ++ (s' ++ (x :: y :: (s2 ++ RR)))) := by simpa only [List.concat_eq_append, List.append_assoc, List.cons_append, List.nil_append] using hS2
          have g1 := near_fst P s' (s2 ++ RR) x y hpj
          have g2 := near_snd P s' (s2 ++ RR) x y hpj
          have qx : wr.cell? ⟨b, o + jk, none⟩ = some (.string (nm x)) := by have := hS3.tab _ x g1 0 _ rfl; simpa using this
          have qy : wr.cell? ⟨b, o + (jk + 1), none⟩ = some (.string (nm y)) := by have := hS3.tab _ y g2 0 _ rfl; simpa using this
          have qf := hS3.plain.frozen
          have HP := Lib.hid hpj
          have HS := Lib.hid hS3
          clear hS2 hS3 g1 g2 hpj
          have hdj : decide ((a : Int) < (jk : Int) + 1) = true := by simp; omega
          have hwj : IntKind.i64.wrap (jk : Int) = jk := IntWalk.i64_in _ (by omega)
          cases hcv : decide (cv y x < 0) with
          | true =>
            go_wp2_with fail
            refine wp_region_grow wr (by kernel_rfl) (by kernel_rfl) (ext_refl _) ?_
            repeat (first
              | (apply inText_skip
                 case hw => rfl
                 simp only [Act.put, List.setIfInBounds_toArray, List.set_cons_zero, List.set_cons_succ])
              | (apply inText_step
                 case hw => rfl
                 case h =>
                   intro wq hq
                   have hcq := (cls_cell hq).1
                   have hfq := (cls_cell hq).2
                   go_simp
                   first
                     | exact ⟨hq, rfl⟩
                     | (refine (HC.out y x _ (HU.out.trans (Upd.of_ext _ hq))).mono ?_; rintro e w2 ⟨rfl, hb2⟩; exact ⟨rfl, cls_trans hq hb2⟩)
                     | (simp only [↓IntWalk.iteOmega]; exact ⟨hq, rfl⟩)
                 simp only [Act.put, List.setIfInBounds_toArray, List.set_cons_zero, List.set_cons_succ]))
            refine inText_nil ?_
            intro wn hn
            replace hn := hn.out
            go_wp2_with fail
            clear qx qy qf HU hbl
            have hSn := HS.out.ext hn
            have qx : wn.cell? ⟨b, o + jk, none⟩ = some (.string (nm x)) := by have := hSn.tab _ x (near_fst P s' (s2 ++ RR) x y HP.out) 0 _ rfl; simpa using this
            have qy : wn.cell? ⟨b, o + (jk + 1), none⟩ = some (.string (nm y)) := by have := hSn.tab _ y (near_snd P s' (s2 ++ RR) x y HP.out) 0 _ rfl; simpa using this
            have qf := hSn.plain.frozen
            have ql := hSn.plain.lt
            have HSn := Lib.hid hSn
            have HCV := Lib.hid hcv
            clear hSn hcv
            go_region
            go_wp2
            have h2 := HSn.out.swap_ (fun _ => rfl) (near_snd P s' (s2 ++ RR) x y HP.out) (near_fst P s' (s2 ++ RR) x y HP.out)
            rw [near_swap2 P s' (s2 ++ RR) x y HP.out, Nat.mul_one, Nat.mul_one] at h2
            refine ⟨⟨s', x :: s2, jk, Lib.hid (by rw [HE.out]; simp), rfl, Lib.hid (by rw [← HP.out, ha.out]), Lib.hid ?_, Stab.ext h2 (ext_drew (ext_refl _))⟩, by simp [intOf]⟩
            intro z hz
            rcases List.mem_cons.1 hz with rfl | hz
            · exact HCV.out
            · exact HY.out z hz
          | false =>
            go_wp2_with fail
            refine wp_region_grow wr (by kernel_rfl) (by kernel_rfl) (ext_refl _) ?_
            repeat (first
              | (apply inText_skip
                 case hw => rfl
                 simp only [Act.put, List.setIfInBounds_toArray, List.set_cons_zero, List.set_cons_succ])
              | (apply inText_step
                 case hw => rfl
                 case h =>
                   intro wq hq
                   have hcq := (cls_cell hq).1
                   have hfq := (cls_cell hq).2
                   go_simp
                   first
                     | exact ⟨hq, rfl⟩
                     | (refine (HC.out y x _ (HU.out.trans (Upd.of_ext _ hq))).mono ?_; rintro e w2 ⟨rfl, hb2⟩; exact ⟨rfl, cls_trans hq hb2⟩)
                     | (simp only [↓IntWalk.iteOmega]; exact ⟨hq, rfl⟩)
                 simp only [Act.put, List.setIfInBounds_toArray, List.set_cons_zero, List.set_cons_succ]))
            refine inText_nil ?_
            intro wn hn
            replace hn := hn.out
            go_wp2
            have hN2 : insB (ltV cv) y SS = (s' ++ [x]) ++ y :: s2 := by
              have e1 : SS = (s' ++ [x]) ++ s2 := by rw [HE.out]; simp
              rw [e1]
              exact ins_at HW.out (by rw [← e1]; exact HSO.out) HY.out (.inr ⟨s', x, rfl, hcv⟩)
            refine ⟨⟨k + 1, by omega, by omega, by go_num, ?_⟩, by simp [intOf]; omega⟩
            rw [HNX.out, hN2, HRR.out]
            have h2 := HS.out.ext hn
            simpa only [List.append_assoc, List.cons_append, List.nil_append] using h2
    · have hkl : k = X.length := by omega
      subst hkl
      rw [hm.out, List.take_length, List.drop_length, List.nil_append] at *
      go_wp2
      go_end0
      exact ⟨rfl, hS⟩
end
end Go.Proofs.YtjoclfenghenjaaGreat

namespace Go.Proofs.YtjoclfenghenjaaGreat
open Go.ChangeShapes Go.WideShapes Go.ChangeAt Go.RowKit
set_option linter.unusedVariables false
set_option linter.unusedSimpArgs false

section
variable {β : Type} (nm : β → ByteArray)
set_option maxRecDepth 100000 in
set_option maxHeartbeats 4000000 in
theorem symMergeS_left (W0 w : World) (b o c N : Nat) (P R Q : List β) (x : β) (a bb : Nat) (cv : β → β → Int) (q1 q2 : Addr) (h : Stab (fun x => [Value.string (nm x)]) 1 W0 w b o (P ++ (x :: (R ++ Q)))) (hN : (P ++ (x :: (R ++ Q))).length ≤ N) (hN2 : N ≤ 1048576) (ha : Hid (P.length = a)) (hm : Hid (a + 1 + R.length = bb)) (W : Weak (ltV cv)) (hR : Sorted (ltV cv) R) (hc : CmpOkS nm cv q1 q2 W0 b) :
    Calls Tryz.prog 152 #[.slice (some ⟨b, o, none⟩) N c, .int .i64 a, .int .i64 ((a + 1 : Nat) : Int), .int .i64 bb, .func (.func 64) #[] #[.pointer (some q1), .pointer (some q2)]] w fun e w' => e = .returned (.tuple #[]) ∧ Stab (fun x => [Value.string (nm x)]) 1 W0 w' b o (P ++ (mergeB (ltV cv) [x] R ++ Q)) := by
  have hlen : bb ≤ N := by have e1 := ha.out; have e2 := hm.out; simp only [List.length_append, List.length_cons] at hN; omega
  have hle : a + 1 ≤ bb := by have e2 := hm.out; omega
  have HC := Lib.hid hc
  have HW := Lib.hid W
  have HR := Lib.hid hR
  clear hc hN W hR
  go_enter Tryz.func152, Tryz.ntmps152
  go_wp2_with fail
  go_loopw [10, 11] (fun i j wr => ∃ u v i0 j0 : Nat, u ≤ v ∧ v ≤ R.length ∧ i = .int .i64 (i0 : Int) ∧ j = .int .i64 (j0 : Int) ∧ Hid (a + 1 + u = i0) ∧ Hid (a + 1 + v = j0) ∧ Hid (∀ y ∈ R.take u, ltV cv y x = true) ∧ Hid (∀ y ∈ R.drop v, ltV cv y x = false) ∧ Stab (fun x => [Value.string (nm x)]) 1 W0 wr b o (P ++ (x :: (R ++ Q)))) (fun i j _ => (intOf j - intOf i).toNat)
  case atStart =>
    have e2 := hm.out
    exact ⟨0, R.length, a + 1, bb, by omega, by omega, rfl, rfl, Lib.hid rfl, hm, Lib.hid (by simp), Lib.hid (by simp), h⟩
  case round =>
    obtain ⟨u, v, i0, j0, huv, hv, rfl, rfl, HI, HJ, HY, HN, hS⟩ := hrel
    by_cases hlt : u < v
    · have hij : i0 < j0 := by have := HI.out; have := HJ.out; omega
      have hjb : j0 ≤ bb := by have := HJ.out; have := hm.out; omega
      have hai : a + 1 ≤ i0 := by have := HI.out; omega
      obtain ⟨t, ht⟩ : ∃ t : Nat, (i0 + j0) / 2 = t := ⟨_, rfl⟩
      have hti : i0 ≤ t := by omega
      have htj : t < j0 := by omega
      obtain ⟨k, hk⟩ : ∃ k, a + 1 + k = t := ⟨t - (a + 1), by omega⟩
      have hkR : k < R.length := by have := hm.out; omega
      have huk : u ≤ k := by have := HI.out; omega
      have hkv : k < v := by have := HJ.out; omega
      have hR1 : R[k]? = some R[k] := List.getElem?_eq_getElem hkR
      obtain ⟨y, hy⟩ : ∃ y, R[k] = y := ⟨_, rfl⟩
      have hgy : (P ++ (x :: (R ++ Q)))[t]? = some y := by
        rw [List.getElem?_append_right (by have := ha.out; omega), show t - P.length = k + 1 by have := ha.out; omega, List.getElem?_cons_succ, List.getElem?_append_left hkR, hR1, hy]
      have hgx : (P ++ (x :: (R ++ Q)))[a]? = some x := by
        rw [List.getElem?_append_right (by have := ha.out; omega), show a - P.length = 0 by have := ha.out; omega]; rfl
      have qx : wr.cell? ⟨b, o + a, none⟩ = some (.string (nm x)) := by have := hS.tab _ x hgx 0 _ rfl; simpa using this
      have qy : wr.cell? ⟨b, o + t, none⟩ = some (.string (nm y)) := by have := hS.tab _ y hgy 0 _ rfl; simpa using this
      have HU := Lib.hid hS.upd
      have hbl : b < wr.heap.size := hS.plain.lt
      have HS := Lib.hid hS
      have HK := Lib.hid hk
      have htI : ((i0 : Int) + j0) / 2 = t := by omega
      have HY2 := Lib.hid (fun h : ltV cv y x = true => one_left_yes HW.out HR.out hkR (by rw [hy]; exact h))
      have HN2 := Lib.hid (fun h : ltV cv y x = false => one_left_no HW.out HR.out hkR (by rw [hy]; exact h))
      clear hS hR1 hgy hgx ht hk hy
      cases hcv : decide (cv y x < 0) with
      | true =>
        go_wp2_with fail
        refine wp_region_grow wr (by kernel_rfl) (by kernel_rfl) (ext_refl _) ?_
        repeat (first
          | (apply inText_skip
             case hw => rfl
             simp only [Act.put, List.setIfInBounds_toArray, List.set_cons_zero, List.set_cons_succ])
          | (apply inText_step
             case hw => rfl
             case h =>
               intro wq hq
               have hcq := (cls_cell hq).1
               have hfq := (cls_cell hq).2
               go_simp
               first
                 | exact ⟨hq, rfl⟩
                 | (refine (HC.out y x _ (HU.out.trans (Upd.of_ext _ hq))).mono ?_; rintro e w2 ⟨rfl, hb2⟩; exact ⟨rfl, cls_trans hq hb2⟩)
                 | (simp only [↓IntWalk.iteOmega]; exact ⟨hq, rfl⟩)
             simp only [Act.put, List.setIfInBounds_toArray, List.set_cons_zero, List.set_cons_succ]))
        refine inText_nil ?_
        intro wn hn
        replace hn := hn.out
        go_wp2
        refine ⟨⟨k + 1, v, t + 1, j0, by omega, hv, by go_num, rfl, Lib.hid (by have := HK.out; omega), HJ, Lib.hid (HY2.out hcv), HN, HS.out.ext hn⟩, by simp [intOf]; omega⟩
      | false =>
        go_wp2_with fail
        refine wp_region_grow wr (by kernel_rfl) (by kernel_rfl) (ext_refl _) ?_
        repeat (first
          | (apply inText_skip
             case hw => rfl
             simp only [Act.put, List.setIfInBounds_toArray, List.set_cons_zero, List.set_cons_succ])
          | (apply inText_step
             case hw => rfl
             case h =>
               intro wq hq
               have hcq := (cls_cell hq).1
               have hfq := (cls_cell hq).2
               go_simp
               first
                 | exact ⟨hq, rfl⟩
                 | (refine (HC.out y x _ (HU.out.trans (Upd.of_ext _ hq))).mono ?_; rintro e w2 ⟨rfl, hb2⟩; exact ⟨rfl, cls_trans hq hb2⟩)
                 | (simp only [↓IntWalk.iteOmega]; exact ⟨hq, rfl⟩)
             simp only [Act.put, List.setIfInBounds_toArray, List.set_cons_zero, List.set_cons_succ]))
        refine inText_nil ?_
        intro wn hn
        replace hn := hn.out
        go_wp2
        refine ⟨⟨u, k, i0, t, by omega, by omega, rfl, rfl, HI, HK, HY, Lib.hid (HN2.out hcv), HS.out.ext hn⟩, by simp [intOf]; omega⟩
    · have huv2 : v = u := by omega
      subst huv2
      have hj0 : j0 = i0 := by have := HI.out; have := HJ.out; omega
      subst hj0
      have HM := Lib.hid (mergeB_at_left HY.out HN.out)
      have hai : a + 1 ≤ j0 := by have := HI.out; omega
      have hjb : j0 ≤ bb := by have := HJ.out; have := hm.out; omega
      obtain ⟨wo, hwo⟩ : ∃ wo, wo = wr := ⟨_, rfl⟩
      subst hwo
      clear HJ HY HN
      go_wp2_with fail
      go_loopw [13] (fun k wr => ∃ s k0 : Nat, s ≤ v ∧ k = .int .i64 (k0 : Int) ∧ Hid (a + s = k0) ∧ Stab (fun x => [Value.string (nm x)]) 1 W0 wr b o (P ++ (R.take s ++ (x :: (R.drop s ++ Q))))) (fun k _ => j0 - (intOf k).toNat)
      case atStart => exact ⟨0, a, by omega, rfl, Lib.hid rfl, by simpa using hS⟩
      case round =>
        obtain ⟨s, k0, hs, rfl, HK, hS2⟩ := hrel
        by_cases hlt : s < v
        · have hks : (k0 : Int) < j0 - 1 := by have := HI.out; have := HK.out; omega
          have hkb : k0 + 1 < bb := by omega
          have hsR : s < R.length := by omega
          obtain ⟨y, hy⟩ : ∃ y, R[s] = y := ⟨_, rfl⟩
          have hdr : R.drop s = y :: R.drop (s + 1) := by rw [← hy]; exact (List.getElem_cons_drop ..).symm
          have htk : R.take (s + 1) = R.take s ++ [y] := by rw [← hy]; exact List.take_succ_eq_append_getElem hsR
          rw [hdr] at hS2
          have hS3 : Stab (fun x => [Value.string (nm x)]) 1 W0 wr b o (P ++ (R.take s ++ (x :: y :: (R.drop (s + 1) ++ Q)))) := hS2
          have hpk : P.length + (R.take s).length = k0 := by rw [List.length_take]; have := HK.out; have := ha.out; omega
          have g1 := near_fst P (R.take s) (R.drop (s + 1) ++ Q) x y hpk
          have g2 := near_snd P (R.take s) (R.drop (s + 1) ++ Q) x y hpk
          have qx : wr.cell? ⟨b, o + k0, none⟩ = some (.string (nm x)) := by have := hS3.tab _ x g1 0 _ rfl; simpa using this
          have qy : wr.cell? ⟨b, o + (k0 + 1), none⟩ = some (.string (nm y)) := by have := hS3.tab _ y g2 0 _ rfl; simpa using this
          have qf := hS3.plain.frozen
          have ql := hS3.plain.lt
          have h2 := hS3.swap_ (fun _ => rfl) g1 g2
          rw [near_swap P (R.take s) (R.drop (s + 1) ++ Q) x y hpk, Nat.mul_one, Nat.mul_one] at h2
          have H2 := Lib.hid h2
          have HTK := Lib.hid htk
          clear hS2 hS3 h2 htk hdr hpk g1 g2 hy
          go_wp2_with fail
          go_region
          go_wp2
          refine ⟨⟨s + 1, k0 + 1, by omega, by go_num, Lib.hid (by have := HK.out; omega), ?_⟩, by simp [intOf]; omega⟩
          have h3 := Stab.ext H2.out (ext_drew (ext_refl _))
          rw [HTK.out, show P ++ ((R.take s ++ [y]) ++ (x :: (R.drop (s + 1) ++ Q))) = P ++ (R.take s ++ (y :: x :: (R.drop (s + 1) ++ Q))) by simp only [List.append_assoc, List.cons_append, List.nil_append]]
          exact h3
        · have hsv : s = v := by omega
          subst hsv
          have hks : (j0 : Int) - 1 ≤ k0 := by have := HI.out; have := HK.out; omega
          go_wp2
          refine bodyPost_ret (results_none rfl _ _ _) rfl ?_
          refine ⟨rfl, ?_⟩
          rw [HM.out]
          simpa only [List.append_assoc, List.cons_append] using hS2
set_option maxRecDepth 100000 in
set_option maxHeartbeats 4000000 in
theorem symMergeS_right (W0 w : World) (b o c N : Nat) (P L Q : List β) (y : β) (a m : Nat) (cv : β → β → Int) (q1 q2 : Addr) (h : Stab (fun x => [Value.string (nm x)]) 1 W0 w b o (P ++ (L ++ (y :: Q)))) (hN : (P ++ (L ++ (y :: Q))).length ≤ N) (hN2 : N ≤ 1048576) (ha : Hid (P.length = a)) (hm : Hid (a + L.length = m)) (h2 : 2 ≤ L.length) (W : Weak (ltV cv)) (hL : Sorted (ltV cv) L) (hc : CmpOkS nm cv q1 q2 W0 b) :
    Calls Tryz.prog 152 #[.slice (some ⟨b, o, none⟩) N c, .int .i64 a, .int .i64 m, .int .i64 ((m + 1 : Nat) : Int), .func (.func 64) #[] #[.pointer (some q1), .pointer (some q2)]] w fun e w' => e = .returned (.tuple #[]) ∧ Stab (fun x => [Value.string (nm x)]) 1 W0 w' b o (P ++ (mergeB (ltV cv) L [y] ++ Q)) := by
  have hlen : m + 1 ≤ N := by have e1 := ha.out; have e2 := hm.out; simp only [List.length_append, List.length_cons] at hN; omega
  have hle : a + 2 ≤ m := by have e2 := hm.out; omega
  have HC := Lib.hid hc
  have HW := Lib.hid W
  have HL := Lib.hid hL
  have hne1 : ((m : Int) - a == 1) = false := by simp; omega
  clear hc hN W hL
  go_enter Tryz.func152, Tryz.ntmps152
  go_wp2_with fail
  go_loopw [14, 15] (fun i j wr => ∃ u v i0 j0 : Nat, u ≤ v ∧ v ≤ L.length ∧ i = .int .i64 (i0 : Int) ∧ j = .int .i64 (j0 : Int) ∧ Hid (a + u = i0) ∧ Hid (a + v = j0) ∧ Hid (∀ x ∈ L.take u, ltV cv y x = false) ∧ Hid (∀ x ∈ L.drop v, ltV cv y x = true) ∧ Stab (fun x => [Value.string (nm x)]) 1 W0 wr b o (P ++ (L ++ (y :: Q)))) (fun i j _ => (intOf j - intOf i).toNat)
  case atStart =>
    have e2 := hm.out
    exact ⟨0, L.length, a, m, by omega, by omega, rfl, rfl, Lib.hid rfl, hm, Lib.hid (by simp), Lib.hid (by simp), h⟩
  case round =>
    obtain ⟨u, v, i0, j0, huv, hv, rfl, rfl, HI, HJ, HY, HN, hS⟩ := hrel
    by_cases hlt : u < v
    · have hij : i0 < j0 := by have := HI.out; have := HJ.out; omega
      have hjb : j0 ≤ m := by have := HJ.out; have := hm.out; omega
      have hai : a ≤ i0 := by have := HI.out; omega
      obtain ⟨t, ht⟩ : ∃ t : Nat, (i0 + j0) / 2 = t := ⟨_, rfl⟩
      have hti : i0 ≤ t := by omega
      have htj : t < j0 := by omega
      obtain ⟨k, hk⟩ : ∃ k, a + k = t := ⟨t - a, by omega⟩
      have hkL : k < L.length := by have := hm.out; omega
      have huk : u ≤ k := by have := HI.out; omega
      have hkv : k < v := by have := HJ.out; omega
      have hL1 : L[k]? = some L[k] := List.getElem?_eq_getElem hkL
      obtain ⟨x, hx⟩ : ∃ x, L[k] = x := ⟨_, rfl⟩
      have hgx : (P ++ (L ++ (y :: Q)))[t]? = some x := by
        rw [List.getElem?_append_right (by have := ha.out; omega), show t - P.length = k by have := ha.out; omega, List.getElem?_append_left hkL, hL1, hx]
      have hgy : (P ++ (L ++ (y :: Q)))[m]? = some y := by
        rw [List.getElem?_append_right (by have := ha.out; omega), List.getElem?_append_right (by have := ha.out; have := hm.out; omega), show m - P.length - L.length = 0 by have := ha.out; have := hm.out; omega]; rfl
      have qx : wr.cell? ⟨b, o + t, none⟩ = some (.string (nm x)) := by have := hS.tab _ x hgx 0 _ rfl; simpa using this
      have qy : wr.cell? ⟨b, o + m, none⟩ = some (.string (nm y)) := by have := hS.tab _ y hgy 0 _ rfl; simpa using this
      have HU := Lib.hid hS.upd
      have hbl : b < wr.heap.size := hS.plain.lt
      have HS := Lib.hid hS
      have HK := Lib.hid hk
      have htI : ((i0 : Int) + j0) / 2 = t := by omega
      have HY2 := Lib.hid (fun h : ltV cv y x = false => one_right_no HW.out HL.out hkL (by rw [hx]; exact h))
      have HN2 := Lib.hid (fun h : ltV cv y x = true => one_right_yes HW.out HL.out hkL (by rw [hx]; exact h))
      clear hS hL1 hgy hgx ht hk hx
      cases hcv : decide (cv y x < 0) with
      | false =>
        go_wp2_with fail
        refine wp_region_grow wr (by kernel_rfl) (by kernel_rfl) (ext_refl _) ?_
        repeat (first
          | (apply inText_skip
             case hw => rfl
             simp only [Act.put, List.setIfInBounds_toArray, List.set_cons_zero, List.set_cons_succ])
          | (apply inText_step
             case hw => rfl
             case h =>
               intro wq hq
               have hcq := (cls_cell hq).1
               have hfq := (cls_cell hq).2
               go_simp
               first
                 | exact ⟨hq, rfl⟩
                 | (refine (HC.out y x _ (HU.out.trans (Upd.of_ext _ hq))).mono ?_; rintro e w2 ⟨rfl, hb2⟩; exact ⟨rfl, cls_trans hq hb2⟩)
                 | (simp only [↓IntWalk.iteOmega]; exact ⟨hq, rfl⟩)
             simp only [Act.put, List.setIfInBounds_toArray, List.set_cons_zero, List.set_cons_succ]))
        refine inText_nil ?_
        intro wn hn
        replace hn := hn.out
        go_wp2
        refine ⟨⟨k + 1, v, t + 1, j0, by omega, hv, by go_num, rfl, Lib.hid (by have := HK.out; omega), HJ, Lib.hid (HY2.out hcv), HN, HS.out.ext hn⟩, by simp [intOf]; omega⟩
      | true =>
        go_wp2_with fail
        refine wp_region_grow wr (by kernel_rfl) (by kernel_rfl) (ext_refl _) ?_
        repeat (first
          | (apply inText_skip
             case hw => rfl
             simp only [Act.put, List.setIfInBounds_toArray, List.set_cons_zero, List.set_cons_succ])
          | (apply inText_step
             case hw => rfl
             case h =>
               intro wq hq
               have hcq := (cls_cell hq).1
               have hfq := (cls_cell hq).2
               go_simp
               first
                 | exact ⟨hq, rfl⟩
                 | (refine (HC.out y x _ (HU.out.trans (Upd.of_ext _ hq))).mono ?_; rintro e w2 ⟨rfl, hb2⟩; exact ⟨rfl, cls_trans hq hb2⟩)
                 | (simp only [↓IntWalk.iteOmega]; exact ⟨hq, rfl⟩)
             simp only [Act.put, List.setIfInBounds_toArray, List.set_cons_zero, List.set_cons_succ]))
        refine inText_nil ?_
        intro wn hn
        replace hn := hn.out
        go_wp2
        refine ⟨⟨u, k, i0, t, by omega, by omega, rfl, rfl, HI, HK, HY, Lib.hid (HN2.out hcv), HS.out.ext hn⟩, by simp [intOf]; omega⟩
    · have huv2 : v = u := by omega
      subst huv2
      have hj0 : j0 = i0 := by have := HI.out; have := HJ.out; omega
      subst hj0
      have HM := Lib.hid (mergeB_at_right HY.out HN.out)
      have hai : a ≤ j0 := by have := HI.out; omega
      have hjb : j0 ≤ m := by have := HJ.out; have := hm.out; omega
      obtain ⟨wo, hwo⟩ : ∃ wo, wo = wr := ⟨_, rfl⟩
      subst hwo
      clear HJ HY HN
      go_wp2_with fail
      go_loopw [17] (fun k wr => ∃ s k0 : Nat, v ≤ s ∧ s ≤ L.length ∧ k = .int .i64 (k0 : Int) ∧ Hid (a + s = k0) ∧ Stab (fun x => [Value.string (nm x)]) 1 W0 wr b o (P ++ (L.take s ++ (y :: (L.drop s ++ Q))))) (fun k _ => (intOf k).toNat)
      case atStart => exact ⟨L.length, m, hv, by omega, rfl, hm, by simpa using hS⟩
      case round =>
        obtain ⟨s, k1, hs1, hs, rfl, HK, hS2⟩ := hrel
        by_cases hlt : v < s
        · obtain ⟨s, rfl⟩ : ∃ s', s = s' + 1 := ⟨s - 1, by omega⟩
          obtain ⟨k0, rfl⟩ : ∃ k', k1 = k' + 1 := ⟨k1 - 1, by have := HK.out; omega⟩
          have hks : (j0 : Int) < k0 + 1 := by have := HI.out; have := HK.out; omega
          have hkb : k0 + 1 ≤ m := by have := HK.out; have := hm.out; omega
          have hsL : s < L.length := by omega
          obtain ⟨x, hx⟩ : ∃ x, L[s] = x := ⟨_, rfl⟩
          have hdr : L.drop s = x :: L.drop (s + 1) := by rw [← hx]; exact (List.getElem_cons_drop ..).symm
          have htk : L.take (s + 1) = L.take s ++ [x] := by rw [← hx]; exact List.take_succ_eq_append_getElem hsL
          rw [htk] at hS2
          have hS3 : Stab (fun x => [Value.string (nm x)]) 1 W0 wr b o (P ++ (L.take s ++ (x :: y :: (L.drop (s + 1) ++ Q)))) := by
            have e : P ++ ((L.take s ++ [x]) ++ (y :: (L.drop (s + 1) ++ Q))) = P ++ (L.take s ++ (x :: y :: (L.drop (s + 1) ++ Q))) := by simp only [List.append_assoc, List.cons_append, List.nil_append]
            rw [← e]; exact hS2
          have hpk : P.length + (L.take s).length = k0 := by rw [List.length_take]; have := HK.out; have := ha.out; omega
          have g1 := near_fst P (L.take s) (L.drop (s + 1) ++ Q) x y hpk
          have g2 := near_snd P (L.take s) (L.drop (s + 1) ++ Q) x y hpk
          have qx : wr.cell? ⟨b, o + k0, none⟩ = some (.string (nm x)) := by have := hS3.tab _ x g1 0 _ rfl; simpa using this
          have qy : wr.cell? ⟨b, o + (k0 + 1), none⟩ = some (.string (nm y)) := by have := hS3.tab _ y g2 0 _ rfl; simpa using this
          have qf := hS3.plain.frozen
          have ql := hS3.plain.lt
          have h2 := hS3.swap_ (fun _ => rfl) g2 g1
          rw [near_swap2 P (L.take s) (L.drop (s + 1) ++ Q) x y hpk, Nat.mul_one, Nat.mul_one] at h2
          have H2 := Lib.hid h2
          have HDR := Lib.hid hdr
          clear hS2 hS3 h2 htk hdr hpk g1 g2 hx
          go_wp2_with fail
          go_region
          go_wp2
          refine ⟨⟨s, k0, by omega, by omega, by go_num, Lib.hid (by have := HK.out; omega), ?_⟩, by simp [intOf]⟩
          have h3 := Stab.ext H2.out (ext_drew (ext_refl _))
          rw [HDR.out]
          exact h3
        · have hsv : s = v := by omega
          subst hsv
          have hkj : k1 = j0 := by have := HI.out; have := HK.out; omega
          subst hkj
          go_wp2
          refine bodyPost_ret (results_none rfl _ _ _) rfl ?_
          refine ⟨rfl, ?_⟩
          rw [HM.out]
          simpa only [List.append_assoc, List.cons_append] using hS2
end
end Go.Proofs.YtjoclfenghenjaaGreat
