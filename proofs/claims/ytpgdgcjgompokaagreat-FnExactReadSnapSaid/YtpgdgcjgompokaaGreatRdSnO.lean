/- l26On: the name of the host that is told by its number. No condition. -/
import Derived.Test.YtpgdgcjgompokaaGreatRdSnP
import Derived.Test.YtpgdgcjgompokaaGreatRdSt0
namespace Go.Proofs.YtpgdgcjgompokaaGreat
open Go.ChangeShapes Go.WideShapes Go.ChangeAt Go.RowKit
set_option linter.unusedVariables false
set_option linter.unusedSimpArgs false
set_option maxRecDepth 100000 in
set_option maxHeartbeats 2000000 in
theorem On_spec (s : ByteArray) (b : Nat) (st : Int × Bool) (hs : List Host) (Ah : Option Addr) (ch : Nat) (Fh : List Nat) (A1 : Option Addr) (l1 c1 : Nat) (z2 z3 z4 z5 : Int) (w : World) (h : SCur w b s st) (hsz : (s.size : Int) ≤ 1048576) (hH : Sl w hs Ah ch Fh) (hl : (hs.length : Int) ≤ 1048576) (hb : ∀ y ∈ Fh, y ≠ b) :
    Calls Tryz.prog 13 #[.pointer (some ⟨b, 0, none⟩), .agg ([.slice Ah hs.length ch, .slice A1 l1 c1, .int .i64 z2, .int .i64 z3, .int .i64 z4, .int .i64 z5] : List Value).toArray] w fun e w' => e = .returned (.string (hostName hs (manyS s hs.length st).1)) ∧ SCur w' b s (manyS s hs.length st).2 ∧ Upd [b] w w' := by
  have hlt := h.lt
  have HM := Lib.hid (fun wq hq => Many_spec s b hs.length st wq hq hsz)
  have hway := manyS_ways s hs.length st (by omega)
  obtain ⟨q, eq⟩ : ∃ q, manyS s hs.length st = q := ⟨_, rfl⟩
  rw [eq] at HM hway ⊢
  clear eq
  obtain ⟨k, st2⟩ := q
  dsimp only at hway HM ⊢
  have HS := Lib.hid h
  clear h
  by_cases hk : k = 0
  · subst hk
    have HF := Lib.hid (hostName_zero (hs := hs) (k := 0) (by omega))
    go_enter Tryz.func13, Tryz.ntmps13
    go_wp2_with fail
    refine (HM.out _ (HS.out.ext (by repeat (first | with_reducible exact ext_refl _ | with_reducible assumption | with_reducible refine ext_alloc ?_ _ | with_reducible refine ext_trans ?_ (by assumption))))).mono ?_
    rintro e w2 ⟨rfl, hI2, hu2⟩
    go_wp2
    go_ret
    exact ⟨by rw [HF.out]; rfl, hI2, (Upd.of_ext [b] (by repeat (first | with_reducible exact ext_refl _ | with_reducible assumption | with_reducible refine ext_alloc ?_ _ | with_reducible refine ext_trans ?_ (by assumption)))).trans hu2⟩
  · obtain ⟨j, rfl⟩ : ∃ j : Nat, k = (j : Int) + 1 := ⟨(k - 1).toNat, by omega⟩
    have hj : j < hs.length := by omega
    have HF := Lib.hid (hostName_at hj rfl)
    have hkd : (((j : Int) + 1) == 0) = false := by simp; omega
    obtain ⟨bh, o, ck, Fk, rfl, hbF, hbs, hr, hsub, hc⟩ := Sl.get (α := Host) (A := Ah) (c := ch) hH hj
    obtain ⟨Alabels3, clabels3, Flabels3, Ataints3, ctaints3, Ftaints3, hck, hFk, hname3, hlabels3, hcpu3, hmem3, hslots3, htaints3⟩ := rd_Host hr
    subst hck
    have q0 : w.cell? ⟨bh, o + j * 6, none⟩ = some (.string hs[j].name) := by exact hc 0 _ rfl
    clear hc hFk hr
    have KC0 := Blk.new w [.slice (some ⟨bh, o, none⟩) hs.length ch, .slice A1 l1 c1, .int .i64 z2, .int .i64 z3, .int .i64 z4, .int .i64 z5] 27
    go_enter Tryz.func13, Tryz.ntmps13
    go_wp2_with fail
    refine (HM.out _ (HS.out.ext (by repeat (first | with_reducible exact ext_refl _ | with_reducible assumption | with_reducible refine ext_alloc ?_ _ | with_reducible refine ext_trans ?_ (by assumption))))).mono ?_
    rintro e w2 ⟨rfl, hI2, hu2⟩
    have KC := KC0.upd hu2 (by omega)
    have c0 := KC.cell (i := 0) (u := .slice (some ⟨bh, o, none⟩) hs.length ch) rfl
    have hbb := hb bh hbF
    have q0' := (World.cell?_of_block (a := ⟨bh, o + j * 6, none⟩) (hu2.block bh (by simp; omega) (by simpa using hbb))).trans ((World.cell?_of_block (heap_alloc_old w _ hbs)).trans q0)
    clear KC KC0 q0 hb
    go_wp2
    go_ret
    exact ⟨by rw [HF.out]; rfl, hI2, (Upd.of_ext [b] (by repeat (first | with_reducible exact ext_refl _ | with_reducible assumption | with_reducible refine ext_alloc ?_ _ | with_reducible refine ext_trans ?_ (by assumption)))).trans hu2⟩

end Go.Proofs.YtpgdgcjgompokaaGreat
