/- The program's reader of where a pod is placed. No condition. -/
import Derived.Test.YtpgdgcjgompokaaGreatRdSnP
import Derived.Test.YtpgdgcjgompokaaGreatRdSt0
namespace Go.Proofs.YtpgdgcjgompokaaGreat
open Go.ChangeShapes Go.WideShapes Go.ChangeAt Go.RowKit
set_option linter.unusedVariables false
set_option linter.unusedSimpArgs false
set_option maxRecDepth 100000 in
set_option maxHeartbeats 4000000 in
theorem placed_any (s : ByteArray) (b : Nat) (a : Int) (hs : List Host) (Ah : Option Addr) (ch : Nat) (Fh : List Nat) (A1 : Option Addr) (l1 c1 : Nat) (z2 z3 z4 z5 : Int) (p : Pod) (ps : List Value) (G : List Nat) (w : World) (h : ICur w b s a) (hsz : (s.size : Int) ≤ 1048576) (hH : Sl w hs Ah ch Fh) (hl : (hs.length : Int) ≤ 1048576) (hb : ∀ y ∈ Fh, y ≠ b) (hp : rd w p ps G) :
    Calls Tryz.prog 18 #[.pointer (some ⟨b, 0, none⟩), .agg ([.slice Ah hs.length ch, .slice A1 l1 c1, .int .i64 z2, .int .i64 z3, .int .i64 z4, .int .i64 z5] : List Value).toArray, .agg ps.toArray] w fun e w' => e = .returned (.agg (ps ++ [Value.string (hostName hs (countI s hs.length a).1), Value.int .i64 (varI s (countI s hs.length a).2).1]).toArray) ∧ ICur w' b s (varI s (countI s hs.length a).2).2 ∧ Upd [b] w w' := by
  have hlt := h.lt
  have HM := Lib.hid (fun wq hq => count_any s b a hs.length wq hq hsz (by omega))
  have HN := Lib.hid (fun wq hq => num_any s b (countI s hs.length a).2 wq hq hsz)
  have hway := countI_ways s hs.length a (by omega)
  have hvi := varI_I64a s (countI s hs.length a).2 hsz
  obtain ⟨q, eq⟩ : ∃ q, countI s hs.length a = q := ⟨_, rfl⟩
  rw [eq] at HM HN hway hvi ⊢
  clear eq
  obtain ⟨k, a2⟩ := q
  dsimp only at hway HM HN hvi ⊢
  obtain ⟨n, en⟩ : ∃ n, varI s a2 = n := ⟨_, rfl⟩
  rw [en] at HN hvi ⊢
  clear en
  obtain ⟨n1, n2⟩ := n
  dsimp only at HN hvi ⊢
  obtain ⟨Alabels2, clabels2, Flabels2, Aneeds2, cneeds2, Fneeds2, Atolerances2, ctolerances2, Ftolerances2, hck, hG, hname2, hlabels2, hcpu2, hmem2, hrank2, hneeds2, htolerances2⟩ := rd_Pod hp
  subst hck
  clear hp hG
  have HS := Lib.hid h
  clear h
  by_cases hk : 0 < k
  · obtain ⟨j, rfl⟩ : ∃ j : Nat, k = (j : Int) + 1 := ⟨(k - 1).toNat, by omega⟩
    have hj : j < hs.length := by omega
    have HF := Lib.hid (hostName_at hj rfl)
    obtain ⟨bh, o, ck, Fk, rfl, hbF, hbs, hr, hsub, hc⟩ := Sl.get (α := Host) (A := Ah) (c := ch) hH hj
    obtain ⟨Alabels3, clabels3, Flabels3, Ataints3, ctaints3, Ftaints3, hck, hFk, hname3, hlabels3, hcpu3, hmem3, hslots3, htaints3⟩ := rd_Host hr
    subst hck
    have q0 : w.cell? ⟨bh, o + j * 6, none⟩ = some (.string hs[j].name) := by exact hc 0 _ rfl
    clear hc hFk hr
    have KC0 := Blk.new w [.slice (some ⟨bh, o, none⟩) hs.length ch, .slice A1 l1 c1, .int .i64 z2, .int .i64 z3, .int .i64 z4, .int .i64 z5] 27
    have KR0 := Blk.new ((w.alloc (.cells ([.slice (some ⟨bh, o, none⟩) hs.length ch, .slice A1 l1 c1, .int .i64 z2, .int .i64 z3, .int .i64 z4, .int .i64 z5] : List Value).toArray 27)).alloc (.cells ([.string p.name, .slice Alabels2 p.labels.length clabels2, .int .i64 p.cpu, .int .i64 p.mem, .int .i64 p.rank, .slice Aneeds2 p.needs.length cneeds2, .slice Atolerances2 p.tolerances.length ctolerances2] : List Value).toArray 46)) [.string ⟨#[]⟩, .slice none 0 0, .int .i64 0, .int .i64 0, .int .i64 0, .slice none 0 0, .slice none 0 0, .string ⟨#[]⟩, .int .i64 0] 49
    have KO0 := Blk.new (((w.alloc (.cells ([.slice (some ⟨bh, o, none⟩) hs.length ch, .slice A1 l1 c1, .int .i64 z2, .int .i64 z3, .int .i64 z4, .int .i64 z5] : List Value).toArray 27)).alloc (.cells ([.string p.name, .slice Alabels2 p.labels.length clabels2, .int .i64 p.cpu, .int .i64 p.mem, .int .i64 p.rank, .slice Aneeds2 p.needs.length cneeds2, .slice Atolerances2 p.tolerances.length ctolerances2] : List Value).toArray 46)).alloc (.cells ([.string ⟨#[]⟩, .slice none 0 0, .int .i64 0, .int .i64 0, .int .i64 0, .slice none 0 0, .slice none 0 0, .string ⟨#[]⟩, .int .i64 0] : List Value).toArray 49)) [.string p.name, .slice Alabels2 p.labels.length clabels2, .int .i64 p.cpu, .int .i64 p.mem, .int .i64 p.rank, .slice Aneeds2 p.needs.length cneeds2, .slice Atolerances2 p.tolerances.length ctolerances2, .string ⟨#[]⟩, .int .i64 0] 49
    simp only [World.size_alloc] at KR0 KO0
    go_enter Tryz.func18, Tryz.ntmps18
    go_wp2_with fail
    refine (HM.out _ (HS.out.ext (by repeat (first | with_reducible exact ext_refl _ | with_reducible assumption | with_reducible refine ext_alloc ?_ _ | with_reducible refine ext_trans ?_ (by assumption))))).mono ?_
    rintro e w1 ⟨rfl, hI1, hu1⟩
    have KR1 := (KR0.ext (by repeat (first | with_reducible exact ext_refl _ | with_reducible assumption | with_reducible refine ext_alloc ?_ _ | with_reducible refine ext_trans ?_ (by assumption)))).upd hu1 (by omega)
    have KO1 := KO0.upd hu1 (by omega)
    have ol := KO1.lt
    have of := KO1.fz 7
    have o7 := KO1.cell (i := 7) (u := .string ⟨#[]⟩) rfl
    have KC1 := (KC0.ext (by repeat (first | with_reducible exact ext_refl _ | with_reducible assumption | with_reducible refine ext_alloc ?_ _ | with_reducible refine ext_trans ?_ (by assumption)))).upd hu1 (by omega)
    have c0 := KC1.cell (i := 0) (u := .slice (some ⟨bh, o, none⟩) hs.length ch) rfl
    have hbb := hb bh hbF
    have q0' := (World.cell?_of_block (a := ⟨bh, o + j * 6, none⟩) (hu1.block bh (by simp; omega) (by simpa using hbb))).trans ((World.cell?_of_block ((show Below w.heap.size w _ from (by repeat (first | with_reducible exact ext_refl _ | with_reducible assumption | with_reducible refine ext_alloc ?_ _ | with_reducible refine ext_trans ?_ (by assumption)))).block bh hbs)).trans q0)
    clear KC1 KC0 q0
    have KO2 := KO1.put 7 (.string hs[j].name)
    have KR2 := KR1.far (c := w.heap.size + 1 + 1 + 1) (by omega) 7 (.string hs[j].name)
    have hI2 := hI1.far (c := w.heap.size + 1 + 1 + 1) (by omega) 7 (.string hs[j].name)
    have hU2 := ((Upd.of_ext [b] (show Below w.heap.size w _ from (by repeat (first | with_reducible exact ext_refl _ | with_reducible assumption | with_reducible refine ext_alloc ?_ _ | with_reducible refine ext_trans ?_ (by assumption))))).trans hu1).setNew (p := ⟨w.heap.size + 1 + 1 + 1, 7, none⟩) (by dsimp only; omega) (.string hs[j].name)
    clear KR0 KO0 KO1 KR1 hI1 hb
    go_wp2_with fail
    refine (HN.out _ hI2).mono ?_
    rintro e w3 ⟨rfl, hI3, hu3⟩
    have KR3 := KR2.upd hu3 (by omega)
    have KO3 := KO2.upd hu3 (by omega)
    have HU := Lib.hid (hU2.trans hu3)
    have k0 := KO3.cell (i := 0) (u := .string p.name) rfl
    have k1 := KO3.cell (i := 1) (u := .slice Alabels2 p.labels.length clabels2) rfl
    have k2 := KO3.cell (i := 2) (u := .int .i64 p.cpu) rfl
    have k3 := KO3.cell (i := 3) (u := .int .i64 p.mem) rfl
    have k4 := KO3.cell (i := 4) (u := .int .i64 p.rank) rfl
    have k5 := KO3.cell (i := 5) (u := .slice Aneeds2 p.needs.length cneeds2) rfl
    have k6 := KO3.cell (i := 6) (u := .slice Atolerances2 p.tolerances.length ctolerances2) rfl
    have k7 := KO3.cell (i := 7) (u := .string hs[j].name) rfl
    have k8 := KO3.cell (i := 8) (u := .int .i64 0) rfl
    have kf := KO3.fz
    have kl := KO3.lt
    have r0 := KR3.cell (i := 0) (u := .string ⟨#[]⟩) rfl
    have r1 := KR3.cell (i := 1) (u := .slice none 0 0) rfl
    have r2 := KR3.cell (i := 2) (u := .int .i64 0) rfl
    have r3 := KR3.cell (i := 3) (u := .int .i64 0) rfl
    have r4 := KR3.cell (i := 4) (u := .int .i64 0) rfl
    have r5 := KR3.cell (i := 5) (u := .slice none 0 0) rfl
    have r6 := KR3.cell (i := 6) (u := .slice none 0 0) rfl
    have r7 := KR3.cell (i := 7) (u := .string ⟨#[]⟩) rfl
    have r8 := KR3.cell (i := 8) (u := .int .i64 0) rfl
    have rf := KR3.fz
    have rl := KR3.lt
    have HI3 := Lib.hid hI3
    clear KR2 KO2 hI2 hU2 hu1 hu3 KR3 KO3 hI3
    dsimp only
    iterate 80 (first | go_step | skip)
    refine bodyPost_ret (v := .agg #[.string p.name, .slice Alabels2 p.labels.length clabels2, .int .i64 p.cpu, .int .i64 p.mem, .int .i64 p.rank, .slice Aneeds2 p.needs.length cneeds2, .slice Atolerances2 p.tolerances.length ctolerances2, .string hs[j].name, .int .i64 n1]) (by simp [results, Tryz.results18, go_sem, *]) rfl ?_
    refine ⟨by first | (rw [HF.out]; done) | (rw [HF.out]; rfl) | rfl | (simp only [HF.out]; rfl), ?_, ?_⟩
    · repeat (first | with_reducible exact HI3.out | with_reducible refine ICur.far ?_ (by omega) _ _)
    · repeat (first | with_reducible exact HU.out | with_reducible refine Upd.setNew ?_ (by first | exact Nat.le_refl _ | (dsimp only; omega)) _)
  · obtain rfl : k = 0 := by omega
    have HF := Lib.hid (hostName_zero (hs := hs) (k := 0) (by omega))
    have KC0 := Blk.new w [.slice Ah hs.length ch, .slice A1 l1 c1, .int .i64 z2, .int .i64 z3, .int .i64 z4, .int .i64 z5] 27
    have KR0 := Blk.new ((w.alloc (.cells ([.slice Ah hs.length ch, .slice A1 l1 c1, .int .i64 z2, .int .i64 z3, .int .i64 z4, .int .i64 z5] : List Value).toArray 27)).alloc (.cells ([.string p.name, .slice Alabels2 p.labels.length clabels2, .int .i64 p.cpu, .int .i64 p.mem, .int .i64 p.rank, .slice Aneeds2 p.needs.length cneeds2, .slice Atolerances2 p.tolerances.length ctolerances2] : List Value).toArray 46)) [.string ⟨#[]⟩, .slice none 0 0, .int .i64 0, .int .i64 0, .int .i64 0, .slice none 0 0, .slice none 0 0, .string ⟨#[]⟩, .int .i64 0] 49
    have KO0 := Blk.new (((w.alloc (.cells ([.slice Ah hs.length ch, .slice A1 l1 c1, .int .i64 z2, .int .i64 z3, .int .i64 z4, .int .i64 z5] : List Value).toArray 27)).alloc (.cells ([.string p.name, .slice Alabels2 p.labels.length clabels2, .int .i64 p.cpu, .int .i64 p.mem, .int .i64 p.rank, .slice Aneeds2 p.needs.length cneeds2, .slice Atolerances2 p.tolerances.length ctolerances2] : List Value).toArray 46)).alloc (.cells ([.string ⟨#[]⟩, .slice none 0 0, .int .i64 0, .int .i64 0, .int .i64 0, .slice none 0 0, .slice none 0 0, .string ⟨#[]⟩, .int .i64 0] : List Value).toArray 49)) [.string p.name, .slice Alabels2 p.labels.length clabels2, .int .i64 p.cpu, .int .i64 p.mem, .int .i64 p.rank, .slice Aneeds2 p.needs.length cneeds2, .slice Atolerances2 p.tolerances.length ctolerances2, .string ⟨#[]⟩, .int .i64 0] 49
    simp only [World.size_alloc] at KR0 KO0
    go_enter Tryz.func18, Tryz.ntmps18
    go_wp2_with fail
    refine (HM.out _ (HS.out.ext (by repeat (first | with_reducible exact ext_refl _ | with_reducible assumption | with_reducible refine ext_alloc ?_ _ | with_reducible refine ext_trans ?_ (by assumption))))).mono ?_
    rintro e w1 ⟨rfl, hI1, hu1⟩
    have KR1 := (KR0.ext (by repeat (first | with_reducible exact ext_refl _ | with_reducible assumption | with_reducible refine ext_alloc ?_ _ | with_reducible refine ext_trans ?_ (by assumption)))).upd hu1 (by omega)
    have KO1 := KO0.upd hu1 (by omega)
    have ol := KO1.lt
    have of := KO1.fz 7
    have o7 := KO1.cell (i := 7) (u := .string ⟨#[]⟩) rfl
    have KO2 := KO1
    have KR2 := KR1
    have hI2 := hI1
    have hU2 := (Upd.of_ext [b] (show Below w.heap.size w _ from (by repeat (first | with_reducible exact ext_refl _ | with_reducible assumption | with_reducible refine ext_alloc ?_ _ | with_reducible refine ext_trans ?_ (by assumption))))).trans hu1
    clear KR0 KO0 KO1 KR1 hI1 hb
    go_wp2_with fail
    refine (HN.out _ hI2).mono ?_
    rintro e w3 ⟨rfl, hI3, hu3⟩
    have KR3 := KR2.upd hu3 (by omega)
    have KO3 := KO2.upd hu3 (by omega)
    have HU := Lib.hid (hU2.trans hu3)
    have k0 := KO3.cell (i := 0) (u := .string p.name) rfl
    have k1 := KO3.cell (i := 1) (u := .slice Alabels2 p.labels.length clabels2) rfl
    have k2 := KO3.cell (i := 2) (u := .int .i64 p.cpu) rfl
    have k3 := KO3.cell (i := 3) (u := .int .i64 p.mem) rfl
    have k4 := KO3.cell (i := 4) (u := .int .i64 p.rank) rfl
    have k5 := KO3.cell (i := 5) (u := .slice Aneeds2 p.needs.length cneeds2) rfl
    have k6 := KO3.cell (i := 6) (u := .slice Atolerances2 p.tolerances.length ctolerances2) rfl
    have k7 := KO3.cell (i := 7) (u := .string ⟨#[]⟩) rfl
    have k8 := KO3.cell (i := 8) (u := .int .i64 0) rfl
    have kf := KO3.fz
    have kl := KO3.lt
    have r0 := KR3.cell (i := 0) (u := .string ⟨#[]⟩) rfl
    have r1 := KR3.cell (i := 1) (u := .slice none 0 0) rfl
    have r2 := KR3.cell (i := 2) (u := .int .i64 0) rfl
    have r3 := KR3.cell (i := 3) (u := .int .i64 0) rfl
    have r4 := KR3.cell (i := 4) (u := .int .i64 0) rfl
    have r5 := KR3.cell (i := 5) (u := .slice none 0 0) rfl
    have r6 := KR3.cell (i := 6) (u := .slice none 0 0) rfl
    have r7 := KR3.cell (i := 7) (u := .string ⟨#[]⟩) rfl
    have r8 := KR3.cell (i := 8) (u := .int .i64 0) rfl
    have rf := KR3.fz
    have rl := KR3.lt
    have HI3 := Lib.hid hI3
    clear KR2 KO2 hI2 hU2 hu1 hu3 KR3 KO3 hI3
    dsimp only
    iterate 80 (first | go_step | skip)
    refine bodyPost_ret (v := .agg #[.string p.name, .slice Alabels2 p.labels.length clabels2, .int .i64 p.cpu, .int .i64 p.mem, .int .i64 p.rank, .slice Aneeds2 p.needs.length cneeds2, .slice Atolerances2 p.tolerances.length ctolerances2, .string ⟨#[]⟩, .int .i64 n1]) (by simp [results, Tryz.results18, go_sem, *]) rfl ?_
    refine ⟨by first | (rw [HF.out]; done) | (rw [HF.out]; rfl) | rfl | (simp only [HF.out]; rfl), ?_, ?_⟩
    · repeat (first | with_reducible exact HI3.out | with_reducible refine ICur.far ?_ (by omega) _ _)
    · repeat (first | with_reducible exact HU.out | with_reducible refine Upd.setNew ?_ (by first | exact Nat.le_refl _ | (dsimp only; omega)) _)

end Go.Proofs.YtpgdgcjgompokaaGreat
