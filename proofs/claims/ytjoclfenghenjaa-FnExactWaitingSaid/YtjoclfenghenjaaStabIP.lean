/- The library's insertion sort, walked at Placed. No condition. -/
import Derived.Test.YtjoclfenghenjaaStabWP
import Derived.Test.YtjoclfenghenjaaStabQ
import Derived.Test.YtjoclfenghenjaaRegion
namespace Go.Proofs.Ytjoclfenghenjaa
open Go.ChangeShapes Go.WideShapes Go.ChangeAt Go.RowKit
set_option linter.unusedVariables false
set_option linter.unusedSimpArgs false

section
/-- the comparison answers that number, in every world in which only the table's block has changed -/
def CmpOkP (cv : PRow → PRow → Int) (W0 : World) (b : Nat) : Prop := ∀ (x y : PRow) (w : World), Upd [b] W0 w →
  Calls Try.prog 20 #[.agg #[.string x.name, .slice x.la x.ln x.lc, .int .i64 x.cpu, .int .i64 x.mem, .int .i64 x.rank, .slice x.na x.nn x.nc, .slice x.ta x.tn x.tc, .string x.on, .int .i64 x.seq], .agg #[.string y.name, .slice y.la y.ln y.lc, .int .i64 y.cpu, .int .i64 y.mem, .int .i64 y.rank, .slice y.na y.nn y.nc, .slice y.ta y.tn y.tc, .string y.on, .int .i64 y.seq]] w fun e w' => e = .returned (.int .i64 (cv x y)) ∧ Below w.heap.size w w'
set_option maxRecDepth 100000 in
set_option maxHeartbeats 2000000 in
theorem insertionP_any (W0 w : World) (b o c N : Nat) (P X Q : List PRow) (a bb : Nat) (cv : PRow → PRow → Int) (h : Stab prow 9 W0 w b o (P ++ (X ++ Q))) (hN : (P ++ (X ++ Q)).length ≤ N) (hN2 : N ≤ 1048576) (ha : Hid (P.length = a)) (hm : Hid (a + X.length = bb)) (W : Weak (ltV cv)) (hc : CmpOkP cv W0 b) :
    Calls Try.prog 47 #[.slice (some ⟨b, o, none⟩) N c, .int .i64 a, .int .i64 bb, .func (.func 20) #[] #[]] w fun e w' => e = .returned (.tuple #[]) ∧ Stab prow 9 W0 w' b o (P ++ (sortB (ltV cv) [] X ++ Q)) := by
  have hlen : bb ≤ N := by have e1 := ha.out; have e2 := hm.out; simp only [List.length_append] at hN; omega
  have hle : a ≤ bb := by have e2 := hm.out; omega
  have HC := Lib.hid hc
  have HW := Lib.hid W
  clear hc hN W
  go_enter Try.func47, Try.ntmps47
  go_wp2_with fail
  by_cases hX : X = []
  · subst hX
    have hab : a = bb := by simpa using hm.out
    subst hab
    go_loopw [8] (fun i wr => i = .int .i64 ((a + 1 : Nat) : Int) ∧ wr = w) (fun _ _ => 0)
    case atStart => exact ⟨by go_num, rfl⟩
    case round =>
      obtain ⟨rfl, rfl⟩ := hrel
      go_wp2
      go_end0
      exact ⟨rfl, h⟩
  have hX1 : 1 ≤ X.length := by cases X with | nil => exact absurd rfl hX | cons x X => simp
  clear hX
  go_loopw [8] (fun i wr => ∃ k : Nat, 1 ≤ k ∧ k ≤ X.length ∧ i = .int .i64 ((a + k : Nat) : Int) ∧ Stab prow 9 W0 wr b o (P ++ (sortB (ltV cv) [] (X.take k) ++ (X.drop k ++ Q)))) (fun i _ => bb - (intOf i).toNat)
  case atStart =>
    refine ⟨1, by omega, hX1, by go_num, ?_⟩
    have e : sortB (ltV cv) [] (X.take 1) ++ (X.drop 1 ++ Q) = X ++ Q := by
      cases X with
      | nil => simp at hX1
      | cons x X => rfl
    rw [e]; exact h
  case round =>
    obtain ⟨k, hk1, hk, rfl, hS⟩ := hrel
    by_cases hlt : k < X.length
    · obtain ⟨wo, hwo⟩ : ∃ wo, wo = wr := ⟨_, rfl⟩
      subst hwo
      have hlt2 : a + k < bb := by have e2 := hm.out; omega
      obtain ⟨y, hy⟩ : ∃ y, X[k] = y := ⟨_, rfl⟩
      have hdr : X.drop k = y :: X.drop (k + 1) := by rw [← hy]; exact (List.getElem_cons_drop ..).symm
      have hnx : sortB (ltV cv) [] (X.take (k + 1)) = insB (ltV cv) y (sortB (ltV cv) [] (X.take k)) := by rw [List.take_succ_eq_append_getElem hlt, hy, sortB_snoc]
      have hso : Sorted (ltV cv) (sortB (ltV cv) [] (X.take k)) := sortB_sorted HW.out _ _ List.Pairwise.nil
      have hsl : (sortB (ltV cv) [] (X.take k)).length = k := by rw [sortB_len, List.length_take]; simp; omega
      rw [hdr] at hS
      have HNX := Lib.hid hnx
      have HSO := Lib.hid hso
      clear hdr hnx hso hy
      generalize hSS : sortB (ltV cv) [] (X.take k) = SS at *
      generalize hRR : X.drop (k + 1) ++ Q = RR at *
      have HSS := Lib.hid hSS
      have HRR := Lib.hid hRR
      have HSL := Lib.hid hsl
      clear hSS hRR hsl
      go_wp2_with fail
      go_loopw [9] (fun j wr => ∃ (s1 s2 : List PRow) (jj : Nat), Hid (SS = s1 ++ s2) ∧ j = .int .i64 (jj : Int) ∧ Hid (a + s1.length = jj) ∧ Hid (∀ x ∈ s2, ltV cv y x = true) ∧ Stab prow 9 W0 wr b o (P ++ (s1 ++ (y :: (s2 ++ RR))))) (fun j _ => (intOf j).toNat)
      case atStart =>
        refine ⟨SS, [], a + k, Lib.hid (by simp), rfl, Lib.hid (by rw [HSL.out]), Lib.hid (by simp), ?_⟩
        simpa [HRR.out] using hS
      case round =>
        obtain ⟨s1, s2, jj, HE, rfl, HJ, HY, hS2⟩ := hrel
        have HU := Lib.hid hS2.upd
        have hbl : b < wr.heap.size := hS2.plain.lt
        have hjb : jj < bb := by have e1 := HJ.out; have e2 := congrArg List.length HE.out; have e3 := HSL.out; rw [List.length_append] at e2; omega
        rcases List.eq_nil_or_concat s1 with rfl | ⟨s', x, rfl⟩
        · have hja : jj = a := by simpa using HJ.out.symm
          subst hja
          have HN := Lib.hid (show insB (ltV cv) y SS = y :: s2 by
            have e1 : SS = s2 := HE.out
            rw [e1]
            exact ins_at HW.out (y := y) (s1 := []) (s2 := s2) (by rw [List.nil_append, ← e1]; exact HSO.out) HY.out (.inl rfl))
          have HS := Lib.hid hS2
          clear hS2
          go_wp2_with fail
          refine wp_region_grow wr (by kernel_rfl) (by kernel_rfl) (ext_refl _) ?_
          repeat (first
            | (apply inText_skip
               case hw => rfl
               simp only [Act.put, List.setIfInBounds_toArray, List.set_cons_zero, List.set_cons_succ])
            | (apply inText_step
               case hw => rfl
               case h =>
                 intro wq hq
                 have hcq := (cls_cell hq).1
                 have hfq := (cls_cell hq).2
                 go_simp
                 first
                   | exact ⟨hq, rfl⟩
                   | (refine (HC.out y y _ (HU.out.trans (Upd.of_ext _ hq))).mono ?_; rintro e w2 ⟨rfl, hb2⟩; exact ⟨rfl, cls_trans hq hb2⟩)
                   | (simp only [↓IntWalk.iteOmega]; exact ⟨hq, rfl⟩)
               simp only [Act.put, List.setIfInBounds_toArray, List.set_cons_zero, List.set_cons_succ]))
          refine inText_nil ?_
          intro wn hn
          replace hn := hn.out
          go_wp2
          refine ⟨⟨k + 1, by omega, by omega, by go_num, ?_⟩, by simp [intOf]; omega⟩
          rw [HNX.out, HN.out, HRR.out]
          exact (HS.out).ext hn
        · obtain ⟨jk, hjk⟩ : ∃ jk, jj = jk + 1 := ⟨jj - 1, by have := HJ.out; simp at this; omega⟩
          subst hjk
          have hpj : P.length + s'.length = jk := by have e1 := HJ.out; have e2 := ha.out; simp at e1; omega
          have hjl : a ≤ jk := by have := ha.out; omega
          have hS3 : Stab prow 9 W0 wr b o (P ++ (s' ++ (x :: y :: (s2 ++ RR)))) := by simpa only [List.concat_eq_append, List.append_assoc, List.cons_append, List.nil_append] using hS2
          have g1 := near_fst P s' (s2 ++ RR) x y hpj
          have g2 := near_snd P s' (s2 ++ RR) x y hpj
          have qx0 : wr.cell? ⟨b, o + jk * 9, none⟩ = some (.string x.name) := hS3.tab _ x g1 0 _ rfl
          have qx1 : wr.cell? ⟨b, o + jk * 9 + 1, none⟩ = some (.slice x.la x.ln x.lc) := hS3.tab _ x g1 1 _ rfl
          have qx2 : wr.cell? ⟨b, o + jk * 9 + 2, none⟩ = some (.int .i64 x.cpu) := hS3.tab _ x g1 2 _ rfl
          have qx3 : wr.cell? ⟨b, o + jk * 9 + 3, none⟩ = some (.int .i64 x.mem) := hS3.tab _ x g1 3 _ rfl
          have qx4 : wr.cell? ⟨b, o + jk * 9 + 4, none⟩ = some (.int .i64 x.rank) := hS3.tab _ x g1 4 _ rfl
          have qx5 : wr.cell? ⟨b, o + jk * 9 + 5, none⟩ = some (.slice x.na x.nn x.nc) := hS3.tab _ x g1 5 _ rfl
          have qx6 : wr.cell? ⟨b, o + jk * 9 + 6, none⟩ = some (.slice x.ta x.tn x.tc) := hS3.tab _ x g1 6 _ rfl
          have qx7 : wr.cell? ⟨b, o + jk * 9 + 7, none⟩ = some (.string x.on) := hS3.tab _ x g1 7 _ rfl
          have qx8 : wr.cell? ⟨b, o + jk * 9 + 8, none⟩ = some (.int .i64 x.seq) := hS3.tab _ x g1 8 _ rfl
          have qy0 : wr.cell? ⟨b, o + (jk + 1) * 9, none⟩ = some (.string y.name) := hS3.tab _ y g2 0 _ rfl
          have qy1 : wr.cell? ⟨b, o + (jk + 1) * 9 + 1, none⟩ = some (.slice y.la y.ln y.lc) := hS3.tab _ y g2 1 _ rfl
          have qy2 : wr.cell? ⟨b, o + (jk + 1) * 9 + 2, none⟩ = some (.int .i64 y.cpu) := hS3.tab _ y g2 2 _ rfl
          have qy3 : wr.cell? ⟨b, o + (jk + 1) * 9 + 3, none⟩ = some (.int .i64 y.mem) := hS3.tab _ y g2 3 _ rfl
          have qy4 : wr.cell? ⟨b, o + (jk + 1) * 9 + 4, none⟩ = some (.int .i64 y.rank) := hS3.tab _ y g2 4 _ rfl
          have qy5 : wr.cell? ⟨b, o + (jk + 1) * 9 + 5, none⟩ = some (.slice y.na y.nn y.nc) := hS3.tab _ y g2 5 _ rfl
          have qy6 : wr.cell? ⟨b, o + (jk + 1) * 9 + 6, none⟩ = some (.slice y.ta y.tn y.tc) := hS3.tab _ y g2 6 _ rfl
          have qy7 : wr.cell? ⟨b, o + (jk + 1) * 9 + 7, none⟩ = some (.string y.on) := hS3.tab _ y g2 7 _ rfl
          have qy8 : wr.cell? ⟨b, o + (jk + 1) * 9 + 8, none⟩ = some (.int .i64 y.seq) := hS3.tab _ y g2 8 _ rfl
          have qf := hS3.plain.frozen
          have HP := Lib.hid hpj
          have HS := Lib.hid hS3
          clear hS2 hS3 g1 g2 hpj
          have hdj : decide ((a : Int) < (jk : Int) + 1) = true := by simp; omega
          have hwj : IntKind.i64.wrap (jk : Int) = jk := IntWalk.i64_in _ (by omega)
          cases hcv : decide (cv y x < 0) with
          | true =>
            go_wp2_with fail
            refine wp_region_grow wr (by kernel_rfl) (by kernel_rfl) (ext_refl _) ?_
            repeat (first
              | (apply inText_skip
                 case hw => rfl
                 simp only [Act.put, List.setIfInBounds_toArray, List.set_cons_zero, List.set_cons_succ])
              | (apply inText_step
                 case hw => rfl
                 case h =>
                   intro wq hq
                   have hcq := (cls_cell hq).1
                   have hfq := (cls_cell hq).2
                   go_simp
                   first
                     | exact ⟨hq, rfl⟩
                     | (refine (HC.out y x _ (HU.out.trans (Upd.of_ext _ hq))).mono ?_; rintro e w2 ⟨rfl, hb2⟩; exact ⟨rfl, cls_trans hq hb2⟩)
                     | (simp only [↓IntWalk.iteOmega]; exact ⟨hq, rfl⟩)
                 simp only [Act.put, List.setIfInBounds_toArray, List.set_cons_zero, List.set_cons_succ]))
            refine inText_nil ?_
            intro wn hn
            replace hn := hn.out
            go_wp2_with fail
            clear qx0 qx1 qx2 qx3 qx4 qx5 qx6 qx7 qx8 qy0 qy1 qy2 qy3 qy4 qy5 qy6 qy7 qy8 qf HU hbl
            have hSn := HS.out.ext hn
            have qx0 : wn.cell? ⟨b, o + jk * 9, none⟩ = some (.string x.name) := hSn.tab _ x (near_fst P s' (s2 ++ RR) x y HP.out) 0 _ rfl
            have qx1 : wn.cell? ⟨b, o + jk * 9 + 1, none⟩ = some (.slice x.la x.ln x.lc) := hSn.tab _ x (near_fst P s' (s2 ++ RR) x y HP.out) 1 _ rfl
            have qx2 : wn.cell? ⟨b, o + jk * 9 + 2, none⟩ = some (.int .i64 x.cpu) := hSn.tab _ x (near_fst P s' (s2 ++ RR) x y HP.out) 2 _ rfl
            have qx3 : wn.cell? ⟨b, o + jk * 9 + 3, none⟩ = some (.int .i64 x.mem) := hSn.tab _ x (near_fst P s' (s2 ++ RR) x y HP.out) 3 _ rfl
            have qx4 : wn.cell? ⟨b, o + jk * 9 + 4, none⟩ = some (.int .i64 x.rank) := hSn.tab _ x (near_fst P s' (s2 ++ RR) x y HP.out) 4 _ rfl
            have qx5 : wn.cell? ⟨b, o + jk * 9 + 5, none⟩ = some (.slice x.na x.nn x.nc) := hSn.tab _ x (near_fst P s' (s2 ++ RR) x y HP.out) 5 _ rfl
            have qx6 : wn.cell? ⟨b, o + jk * 9 + 6, none⟩ = some (.slice x.ta x.tn x.tc) := hSn.tab _ x (near_fst P s' (s2 ++ RR) x y HP.out) 6 _ rfl
            have qx7 : wn.cell? ⟨b, o + jk * 9 + 7, none⟩ = some (.string x.on) := hSn.tab _ x (near_fst P s' (s2 ++ RR) x y HP.out) 7 _ rfl
            have qx8 : wn.cell? ⟨b, o + jk * 9 + 8, none⟩ = some (.int .i64 x.seq) := hSn.tab _ x (near_fst P s' (s2 ++ RR) x y HP.out) 8 _ rfl
            have qy0 : wn.cell? ⟨b, o + (jk + 1) * 9, none⟩ = some (.string y.name) := hSn.tab _ y (near_snd P s' (s2 ++ RR) x y HP.out) 0 _ rfl
            have qy1 : wn.cell? ⟨b, o + (jk + 1) * 9 + 1, none⟩ = some (.slice y.la y.ln y.lc) := hSn.tab _ y (near_snd P s' (s2 ++ RR) x y HP.out) 1 _ rfl
            have qy2 : wn.cell? ⟨b, o + (jk + 1) * 9 + 2, none⟩ = some (.int .i64 y.cpu) := hSn.tab _ y (near_snd P s' (s2 ++ RR) x y HP.out) 2 _ rfl
            have qy3 : wn.cell? ⟨b, o + (jk + 1) * 9 + 3, none⟩ = some (.int .i64 y.mem) := hSn.tab _ y (near_snd P s' (s2 ++ RR) x y HP.out) 3 _ rfl
            have qy4 : wn.cell? ⟨b, o + (jk + 1) * 9 + 4, none⟩ = some (.int .i64 y.rank) := hSn.tab _ y (near_snd P s' (s2 ++ RR) x y HP.out) 4 _ rfl
            have qy5 : wn.cell? ⟨b, o + (jk + 1) * 9 + 5, none⟩ = some (.slice y.na y.nn y.nc) := hSn.tab _ y (near_snd P s' (s2 ++ RR) x y HP.out) 5 _ rfl
            have qy6 : wn.cell? ⟨b, o + (jk + 1) * 9 + 6, none⟩ = some (.slice y.ta y.tn y.tc) := hSn.tab _ y (near_snd P s' (s2 ++ RR) x y HP.out) 6 _ rfl
            have qy7 : wn.cell? ⟨b, o + (jk + 1) * 9 + 7, none⟩ = some (.string y.on) := hSn.tab _ y (near_snd P s' (s2 ++ RR) x y HP.out) 7 _ rfl
            have qy8 : wn.cell? ⟨b, o + (jk + 1) * 9 + 8, none⟩ = some (.int .i64 y.seq) := hSn.tab _ y (near_snd P s' (s2 ++ RR) x y HP.out) 8 _ rfl
            have qf := hSn.plain.frozen
            have ql := hSn.plain.lt
            have HSn := Lib.hid hSn
            have HCV := Lib.hid hcv
            clear hSn hcv
            go_region
            go_wp2
            have h2 := HSn.out.swap_ (fun _ => rfl) (near_snd P s' (s2 ++ RR) x y HP.out) (near_fst P s' (s2 ++ RR) x y HP.out)
            rw [near_swap2 P s' (s2 ++ RR) x y HP.out] at h2
            refine ⟨⟨s', x :: s2, jk, Lib.hid (by rw [HE.out]; simp), rfl, Lib.hid (by rw [← HP.out, ha.out]), Lib.hid ?_, Stab.ext h2 (ext_drew (ext_refl _))⟩, by simp [intOf]⟩
            intro z hz
            rcases List.mem_cons.1 hz with rfl | hz
            · exact HCV.out
            · exact HY.out z hz
          | false =>
            go_wp2_with fail
            refine wp_region_grow wr (by kernel_rfl) (by kernel_rfl) (ext_refl _) ?_
            repeat (first
              | (apply inText_skip
                 case hw => rfl
                 simp only [Act.put, List.setIfInBounds_toArray, List.set_cons_zero, List.set_cons_succ])
              | (apply inText_step
                 case hw => rfl
                 case h =>
                   intro wq hq
                   have hcq := (cls_cell hq).1
                   have hfq := (cls_cell hq).2
                   go_simp
                   first
                     | exact ⟨hq, rfl⟩
                     | (refine (HC.out y x _ (HU.out.trans (Upd.of_ext _ hq))).mono ?_; rintro e w2 ⟨rfl, hb2⟩; exact ⟨rfl, cls_trans hq hb2⟩)
                     | (simp only [↓IntWalk.iteOmega]; exact ⟨hq, rfl⟩)
                 simp only [Act.put, List.setIfInBounds_toArray, List.set_cons_zero, List.set_cons_succ]))
            refine inText_nil ?_
            intro wn hn
            replace hn := hn.out
            go_wp2
            have hN2 : insB (ltV cv) y SS = (s' ++ [x]) ++ y :: s2 := by
              have e1 : SS = (s' ++ [x]) ++ s2 := by rw [HE.out]; simp
              rw [e1]
              exact ins_at HW.out (by rw [← e1]; exact HSO.out) HY.out (.inr ⟨s', x, rfl, hcv⟩)
            refine ⟨⟨k + 1, by omega, by omega, by go_num, ?_⟩, by simp [intOf]; omega⟩
            rw [HNX.out, hN2, HRR.out]
            have h2 := HS.out.ext hn
            simpa only [List.append_assoc, List.cons_append, List.nil_append] using h2
    · have hkl : k = X.length := by omega
      subst hkl
      rw [hm.out, List.take_length, List.drop_length, List.nil_append] at *
      go_wp2
      go_end0
      exact ⟨rfl, hS⟩
end
end Go.Proofs.Ytjoclfenghenjaa
