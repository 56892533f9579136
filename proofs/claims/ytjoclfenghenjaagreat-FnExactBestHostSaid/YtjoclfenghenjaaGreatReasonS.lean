/- ReasonOn, of the reference. No condition. -/
import Derived.Test.YtjoclfenghenjaaGreatFits
namespace Go.Proofs.YtjoclfenghenjaaGreat
open Go.ChangeShapes Go.WideShapes Go.ChangeAt Go.RowKit
set_option linter.unusedVariables false
set_option linter.unusedSimpArgs false
set_option maxRecDepth 100000 in
set_option maxHeartbeats 4000000 in
theorem ReasonOn_spec (x : Cluster) (p : Pod) (cs ps : List Value) (F G : List Nat) (nm : ByteArray) (w : World) (h : rd w x cs F) (h' : rd w p ps G) (hw : (x.wt : Int) ≤ 1048576) (hw' : (p.wt : Int) ≤ 1048576) :
    Calls Tryz.prog 144 #[.agg cs.toArray, .string nm, .agg ps.toArray] w fun e w' => e = .returned (.int .i64 (reasonR nm x p)) ∧ Below w.heap.size w w' := by
  have hwx : x.wt = wtL Host.wt x.hosts + wtL Placed.wt x.pods := rfl
  have hwp : p.wt = p.name.size + wtL Label.wt p.labels + wtL Need.wt p.needs + wtL Tolerance.wt p.tolerances := rfl
  have hlen : (x.hosts.length : Int) ≤ 1048576 := by have := wtL_len Host.wt x.hosts; omega
  have hplen : (x.pods.length : Int) ≤ 1048576 := by have := wtL_len Placed.wt x.pods; omega
  obtain ⟨htl, hts⟩ := tols_small (xs := p.tolerances) (by omega)
  obtain ⟨hnl, hns⟩ := needs_small (xs := p.needs) (by omega)
  have HTS := Lib.hid hts
  have HNS := Lib.hid hns
  clear hts hns
  have hr := h
  have hr' := h'
  obtain ⟨Ahosts, chosts, Fhosts, Apods, cpods, Fpods, hck, hF, hhosts, hpods, hnext, hweightspack, hweightsspread, hweightssoft⟩ := rd_Cluster hr
  obtain ⟨Alabels2, clabels2, Flabels2, Aneeds2, cneeds2, Fneeds2, Atolerances2, ctolerances2, Ftolerances2, hck2, hG, hname2, hlabels2, hcpu2, hmem2, hrank2, hneeds2, htolerances2⟩ := rd_Pod hr'
  subst hck hck2
  clear hF hG hr hr'
  rcases idxI_ways (hostatP nm) x.hosts with hi | ⟨k, hk, hi⟩
  · have HF := Lib.hid (reasonR_no (p := p) hi)
    have HI := Lib.hid hi
    clear hi
    cases hs : sumsR (onL nm x.pods) with
    | none =>
      have HU := Lib.hid (usedV_none hs)
      clear hs
      go_enter Tryz.func144, Tryz.ntmps144
      go_wp2_with fail
      refine (HostAt_spec x _ _ nm _ (rd_extT h (by repeat (first | with_reducible exact ext_refl _ | with_reducible assumption | with_reducible refine ext_alloc ?_ _ | with_reducible refine ext_trans ?_ (by assumption)))) hlen).mono ?_
      rw [HI.out]
      rintro e w2 ⟨rfl, hb2⟩
      obtain ⟨hc2, hf2⟩ := bcell hb2
      have hz2 : w.heap.size < w2.heap.size := (by have := hb2.size; (try simp at this); omega)
      have hy2 : w.heap.size + 1 < w2.heap.size := (by have := hb2.size; (try simp at this); omega)
      have hB2 : Below w.heap.size w w2 := (by repeat (first | with_reducible exact ext_refl _ | with_reducible assumption | with_reducible refine ext_alloc ?_ _ | with_reducible refine ext_trans ?_ (by assumption)))
      go_wp2_with fail
      refine (UsedOn_spec x _ _ nm _ (rd_extT h (by repeat (first | with_reducible exact ext_refl _ | with_reducible assumption | with_reducible refine ext_alloc ?_ _ | with_reducible refine ext_trans ?_ (by assumption)))) hplen).mono ?_
      rw [HU.out]
      rintro e w3 ⟨rfl, hb3⟩
      obtain ⟨hc3, hf3⟩ := bcell hb3
      have hz3 : w.heap.size < w3.heap.size := (by have := hb3.size; (try simp at this); omega)
      have hy3 : w.heap.size + 1 < w3.heap.size := (by have := hb3.size; (try simp at this); omega)
      have hB3 : Below w.heap.size w w3 := ext_trans hB2 hb3
      go_wp2
      go_ret
      exact ⟨by rw [HF.out]; rfl, (by repeat (first | with_reducible exact ext_refl _ | with_reducible assumption | with_reducible refine ext_alloc ?_ _ | with_reducible refine ext_trans ?_ (by assumption)))⟩
    | some ab =>
      obtain ⟨a, b⟩ := ab
      have HU := Lib.hid (usedV_some hs)
      clear hs
      go_enter Tryz.func144, Tryz.ntmps144
      go_wp2_with fail
      refine (HostAt_spec x _ _ nm _ (rd_extT h (by repeat (first | with_reducible exact ext_refl _ | with_reducible assumption | with_reducible refine ext_alloc ?_ _ | with_reducible refine ext_trans ?_ (by assumption)))) hlen).mono ?_
      rw [HI.out]
      rintro e w2 ⟨rfl, hb2⟩
      obtain ⟨hc2, hf2⟩ := bcell hb2
      have hz2 : w.heap.size < w2.heap.size := (by have := hb2.size; (try simp at this); omega)
      have hy2 : w.heap.size + 1 < w2.heap.size := (by have := hb2.size; (try simp at this); omega)
      have hB2 : Below w.heap.size w w2 := (by repeat (first | with_reducible exact ext_refl _ | with_reducible assumption | with_reducible refine ext_alloc ?_ _ | with_reducible refine ext_trans ?_ (by assumption)))
      go_wp2_with fail
      refine (UsedOn_spec x _ _ nm _ (rd_extT h (by repeat (first | with_reducible exact ext_refl _ | with_reducible assumption | with_reducible refine ext_alloc ?_ _ | with_reducible refine ext_trans ?_ (by assumption)))) hplen).mono ?_
      rw [HU.out]
      rintro e w3 ⟨rfl, hb3⟩
      obtain ⟨hc3, hf3⟩ := bcell hb3
      have hz3 : w.heap.size < w3.heap.size := (by have := hb3.size; (try simp at this); omega)
      have hy3 : w.heap.size + 1 < w3.heap.size := (by have := hb3.size; (try simp at this); omega)
      have hB3 : Below w.heap.size w w3 := ext_trans hB2 hb3
      go_wp2
      go_ret
      exact ⟨by rw [HF.out]; rfl, (by repeat (first | with_reducible exact ext_refl _ | with_reducible assumption | with_reducible refine ext_alloc ?_ _ | with_reducible refine ext_trans ?_ (by assumption)))⟩
  · cases hs : sumsR (onL nm x.pods) with
    | none =>
      have HF := Lib.hid (reasonR_none (p := p) hs)
      have HI := Lib.hid hi
      clear hi
      have HU := Lib.hid (usedV_none hs)
      clear hs
      go_enter Tryz.func144, Tryz.ntmps144
      go_wp2_with fail
      refine (HostAt_spec x _ _ nm _ (rd_extT h (by repeat (first | with_reducible exact ext_refl _ | with_reducible assumption | with_reducible refine ext_alloc ?_ _ | with_reducible refine ext_trans ?_ (by assumption)))) hlen).mono ?_
      rw [HI.out]
      rintro e w2 ⟨rfl, hb2⟩
      obtain ⟨hc2, hf2⟩ := bcell hb2
      have hz2 : w.heap.size < w2.heap.size := (by have := hb2.size; (try simp at this); omega)
      have hy2 : w.heap.size + 1 < w2.heap.size := (by have := hb2.size; (try simp at this); omega)
      have hB2 : Below w.heap.size w w2 := (by repeat (first | with_reducible exact ext_refl _ | with_reducible assumption | with_reducible refine ext_alloc ?_ _ | with_reducible refine ext_trans ?_ (by assumption)))
      go_wp2_with fail
      refine (UsedOn_spec x _ _ nm _ (rd_extT h (by repeat (first | with_reducible exact ext_refl _ | with_reducible assumption | with_reducible refine ext_alloc ?_ _ | with_reducible refine ext_trans ?_ (by assumption)))) hplen).mono ?_
      rw [HU.out]
      rintro e w3 ⟨rfl, hb3⟩
      obtain ⟨hc3, hf3⟩ := bcell hb3
      have hz3 : w.heap.size < w3.heap.size := (by have := hb3.size; (try simp at this); omega)
      have hy3 : w.heap.size + 1 < w3.heap.size := (by have := hb3.size; (try simp at this); omega)
      have hB3 : Below w.heap.size w w3 := ext_trans hB2 hb3
      go_wp2
      go_ret
      exact ⟨by rw [HF.out]; rfl, (by repeat (first | with_reducible exact ext_refl _ | with_reducible assumption | with_reducible refine ext_alloc ?_ _ | with_reducible refine ext_trans ?_ (by assumption)))⟩
    | some ab =>
      obtain ⟨a, b⟩ := ab
      have hat := reasonR_at (p := p) hk hi hs
      obtain ⟨ha, hb⟩ := used_I64 (A := Apods) (c := cpods) hpods hs
      have HI := Lib.hid hi
      clear hi
      have HU := Lib.hid (usedV_some hs)
      clear hs
      have hL := onL_len nm x.pods
      generalize (onL nm x.pods).length = L at hat HU hL
      have hLi : (L : Int) ≤ 1048576 := by omega
      clear hL
      obtain ⟨hhl, hht⟩ := host_small (h := x.hosts[k]) (by have := wtL_get (f := Host.wt) hk; omega)
      obtain ⟨hxl, hxs⟩ := taints_small hht
      have hul := untolN_le p.tolerances 1 x.hosts[k].taints
      obtain ⟨bh, o, ck, Fk, rfl, hbF, hbs, hr, hsub, hc⟩ := Sl.get (α := Host) (A := Ahosts) (c := chosts) hhosts hk
      obtain ⟨Alabels3, clabels3, Flabels3, Ataints3, ctaints3, Ftaints3, hck, hFk, hname3, hlabels3, hcpu3, hmem3, hslots3, htaints3⟩ := rd_Host hr
      subst hck
      have q0 : w.cell? ⟨bh, o + k * 6, none⟩ = some (.string x.hosts[k].name) := by exact hc 0 _ rfl
      have q1 : w.cell? ⟨bh, o + k * 6 + 1, none⟩ = some (.slice Alabels3 x.hosts[k].labels.length clabels3) := by rw [Nat.add_assoc]; exact hc 1 _ rfl
      have q2 : w.cell? ⟨bh, o + k * 6 + 2, none⟩ = some (.int .i64 x.hosts[k].cpu) := by rw [Nat.add_assoc]; exact hc 2 _ rfl
      have q3 : w.cell? ⟨bh, o + k * 6 + 3, none⟩ = some (.int .i64 x.hosts[k].mem) := by rw [Nat.add_assoc]; exact hc 3 _ rfl
      have q4 : w.cell? ⟨bh, o + k * 6 + 4, none⟩ = some (.int .i64 x.hosts[k].slots) := by rw [Nat.add_assoc]; exact hc 4 _ rfl
      have q5 : w.cell? ⟨bh, o + k * 6 + 5, none⟩ = some (.slice Ataints3 x.hosts[k].taints.length ctaints3) := by rw [Nat.add_assoc]; exact hc 5 _ rfl
      clear hc
      have HSEL := Lib.hid (show ∀ wq, Below w.heap.size w wq → Calls Tryz.prog 182 #[.slice Aneeds2 p.needs.length cneeds2, .slice Alabels3 x.hosts[k].labels.length clabels3] wq fun e w' => e = .returned (.bool (selectsR x.hosts[k].labels p.needs)) ∧ Below wq.heap.size wq w' from
        fun wq hq => Selects_spec p.needs x.hosts[k].labels _ _ _ _ _ _ _ _ wq (hneeds2.ext hq) (hlabels3.ext hq) rfl rfl hnl hhl HNS.out)
      have hUT : ∀ wq, Below w.heap.size w wq → Calls Tryz.prog 148 #[.slice Atolerances2 p.tolerances.length ctolerances2, .slice Ataints3 x.hosts[k].taints.length ctaints3, .int .i64 1] wq fun e w' => e = .returned (.int .i64 (untolN p.tolerances 1 x.hosts[k].taints)) ∧ Below wq.heap.size wq w' :=
        fun wq hq => Untolerated_spec p.tolerances x.hosts[k].taints 1 _ _ _ _ _ _ _ _ _ (htolerances2.ext hq) (htaints3.ext hq) rfl rfl htl hxl HTS.out hxs
      have HUN := Lib.hid hUT
      unfold reasonH at hat
      clear hUT hxs
      generalize untolN p.tolerances 1 x.hosts[k].taints = z at HUN hat hul
      have hzl : (z : Int) ≤ 1048576 := by omega
      have HAT := Lib.hid hat
      clear hat
      have HLEN := Lib.hid (show (x.hosts.length : Int) ≤ 1048576 from hlen)
      clear hht hhl hxl hlen
      go_enter Tryz.func144, Tryz.ntmps144
      go_wp2_with fail
      refine (HostAt_spec x _ _ nm _ (rd_extT h (by repeat (first | with_reducible exact ext_refl _ | with_reducible assumption | with_reducible refine ext_alloc ?_ _ | with_reducible refine ext_trans ?_ (by assumption)))) HLEN.out).mono ?_
      rw [HI.out]
      rintro e w2 ⟨rfl, hb2⟩
      obtain ⟨hc2, hf2⟩ := bcell hb2
      have hz2 : w.heap.size < w2.heap.size := (by have := hb2.size; (try simp at this); omega)
      have hy2 : w.heap.size + 1 < w2.heap.size := (by have := hb2.size; (try simp at this); omega)
      have hB2 : Below w.heap.size w w2 := (by repeat (first | with_reducible exact ext_refl _ | with_reducible assumption | with_reducible refine ext_alloc ?_ _ | with_reducible refine ext_trans ?_ (by assumption)))
      go_wp2_with fail
      refine (UsedOn_spec x _ _ nm _ (rd_extT h (by repeat (first | with_reducible exact ext_refl _ | with_reducible assumption | with_reducible refine ext_alloc ?_ _ | with_reducible refine ext_trans ?_ (by assumption)))) hplen).mono ?_
      rw [HU.out]
      rintro e w3 ⟨rfl, hb3⟩
      obtain ⟨hc3, hf3⟩ := bcell hb3
      have hz3 : w.heap.size < w3.heap.size := (by have := hb3.size; (try simp at this); omega)
      have hy3 : w.heap.size + 1 < w3.heap.size := (by have := hb3.size; (try simp at this); omega)
      have hB3 : Below w.heap.size w w3 := ext_trans hB2 hb3
      replace q0 := ((bcell hB3).1 bh _ hbs).trans q0
      replace q1 := ((bcell hB3).1 bh _ hbs).trans q1
      replace q2 := ((bcell hB3).1 bh _ hbs).trans q2
      replace q3 := ((bcell hB3).1 bh _ hbs).trans q3
      replace q4 := ((bcell hB3).1 bh _ hbs).trans q4
      replace q5 := ((bcell hB3).1 bh _ hbs).trans q5
      have hbs3 : bh < w3.heap.size := by have := hB3.size; omega
      cases hS : selectsR x.hosts[k].labels p.needs
      · have HF := Lib.hid (show reasonR nm x p = 1 by rw [HAT.out, if_pos hS])
        have HS := Lib.hid hS
        clear hS
        go_wp2_with fail
        refine (HSEL.out _ (by repeat (first | with_reducible exact ext_refl _ | with_reducible assumption | with_reducible refine ext_alloc ?_ _ | with_reducible refine ext_trans ?_ (by assumption)))).mono ?_
        rw [HS.out]
        rintro e w4 ⟨rfl, hb4⟩
        obtain ⟨hc4, hf4⟩ := bcell hb4; have hz4 : w.heap.size < w4.heap.size := (by have := hb4.size; (try simp at this); omega); have hy4 : w.heap.size + 1 < w4.heap.size := (by have := hb4.size; (try simp at this); omega); have hx4 : w3.heap.size < w4.heap.size := (by have := hb4.size; (try simp at this); omega)
        go_wp2
        go_ret
        exact ⟨by rw [HF.out]; first | rfl | simp, (by repeat (first | with_reducible exact ext_refl _ | with_reducible assumption | with_reducible refine ext_alloc ?_ _ | with_reducible refine ext_trans ?_ (by assumption)))⟩
      · by_cases hu : (0 : Int) < (z : Int)
        · have HF := Lib.hid (show reasonR nm x p = 2 by rw [HAT.out, if_neg (by simp [hS]), if_pos hu])
          have HS := Lib.hid hS
          clear hS
          go_wp2_with fail
          refine (HSEL.out _ (by repeat (first | with_reducible exact ext_refl _ | with_reducible assumption | with_reducible refine ext_alloc ?_ _ | with_reducible refine ext_trans ?_ (by assumption)))).mono ?_
          rw [HS.out]
          rintro e w4 ⟨rfl, hb4⟩
          obtain ⟨hc4, hf4⟩ := bcell hb4; have hz4 : w.heap.size < w4.heap.size := (by have := hb4.size; (try simp at this); omega); have hy4 : w.heap.size + 1 < w4.heap.size := (by have := hb4.size; (try simp at this); omega); have hx4 : w3.heap.size < w4.heap.size := (by have := hb4.size; (try simp at this); omega)
          go_wp2_with fail
          refine (HUN.out _ (by repeat (first | with_reducible exact ext_refl _ | with_reducible assumption | with_reducible refine ext_alloc ?_ _ | with_reducible refine ext_trans ?_ (by assumption)))).mono ?_
          rintro e w5 ⟨rfl, hb5⟩
          obtain ⟨hc5, hf5⟩ := bcell hb5; have hz5 : w.heap.size < w5.heap.size := (by have := hb5.size; (try simp at this); omega); have hy5 : w.heap.size + 1 < w5.heap.size := (by have := hb5.size; (try simp at this); omega); have hx5 : w3.heap.size < w5.heap.size := (by have := hb5.size; (try simp at this); omega)
          go_wp2
          go_ret
          exact ⟨by rw [HF.out]; first | rfl | simp, (by repeat (first | with_reducible exact ext_refl _ | with_reducible assumption | with_reducible refine ext_alloc ?_ _ | with_reducible refine ext_trans ?_ (by assumption)))⟩
        · cases he1 : addI a p.cpu with
          | none =>
            have hf1 : fitsR a p.cpu x.hosts[k].cpu = false := by unfold fitsR; rw [he1]
            have HF := Lib.hid (show reasonR nm x p = 3 by rw [HAT.out, if_neg (by simp [hS]), if_neg hu, if_pos hf1])
            have HS := Lib.hid hS
            clear hS
            have H1 := Lib.hid he1
            clear he1
            go_wp2_with fail
            refine (HSEL.out _ (by repeat (first | with_reducible exact ext_refl _ | with_reducible assumption | with_reducible refine ext_alloc ?_ _ | with_reducible refine ext_trans ?_ (by assumption)))).mono ?_
            rw [HS.out]
            rintro e w4 ⟨rfl, hb4⟩
            obtain ⟨hc4, hf4⟩ := bcell hb4; have hz4 : w.heap.size < w4.heap.size := (by have := hb4.size; (try simp at this); omega); have hy4 : w.heap.size + 1 < w4.heap.size := (by have := hb4.size; (try simp at this); omega); have hx4 : w3.heap.size < w4.heap.size := (by have := hb4.size; (try simp at this); omega)
            go_wp2_with fail
            refine (HUN.out _ (by repeat (first | with_reducible exact ext_refl _ | with_reducible assumption | with_reducible refine ext_alloc ?_ _ | with_reducible refine ext_trans ?_ (by assumption)))).mono ?_
            rintro e w5 ⟨rfl, hb5⟩
            obtain ⟨hc5, hf5⟩ := bcell hb5; have hz5 : w.heap.size < w5.heap.size := (by have := hb5.size; (try simp at this); omega); have hy5 : w.heap.size + 1 < w5.heap.size := (by have := hb5.size; (try simp at this); omega); have hx5 : w3.heap.size < w5.heap.size := (by have := hb5.size; (try simp at this); omega)
            go_wp2_with fail
            refine (AddInt_spec a p.cpu _ ha hcpu2).mono ?_
            rw [H1.out]
            rintro e w6 ⟨rfl, hb6⟩
            obtain ⟨hc6, hf6⟩ := bcell hb6; have hz6 : w.heap.size < w6.heap.size := (by have := hb6.size; (try simp at this); omega); have hy6 : w.heap.size + 1 < w6.heap.size := (by have := hb6.size; (try simp at this); omega); have hx6 : w3.heap.size < w6.heap.size := (by have := hb6.size; (try simp at this); omega)
            go_wp2
            go_ret
            exact ⟨by rw [HF.out]; first | rfl | simp, (by repeat (first | with_reducible exact ext_refl _ | with_reducible assumption | with_reducible refine ext_alloc ?_ _ | with_reducible refine ext_trans ?_ (by assumption)))⟩
          | some s1 =>
            by_cases hle1 : s1 ≤ x.hosts[k].cpu
            · have hf1 : fitsR a p.cpu x.hosts[k].cpu = true := by unfold fitsR; rw [he1]; simp [hle1]
              cases he2 : addI b p.mem with
              | none =>
                have hf2 : fitsR b p.mem x.hosts[k].mem = false := by unfold fitsR; rw [he2]
                have HF := Lib.hid (show reasonR nm x p = 4 by rw [HAT.out, if_neg (by simp [hS]), if_neg hu, if_neg (by simp [hf1]), if_pos hf2])
                have HS := Lib.hid hS
                clear hS
                have H1 := Lib.hid he1
                clear he1
                have H2 := Lib.hid he2
                clear he2
                go_wp2_with fail
                refine (HSEL.out _ (by repeat (first | with_reducible exact ext_refl _ | with_reducible assumption | with_reducible refine ext_alloc ?_ _ | with_reducible refine ext_trans ?_ (by assumption)))).mono ?_
                rw [HS.out]
                rintro e w4 ⟨rfl, hb4⟩
                obtain ⟨hc4, hf4⟩ := bcell hb4; have hz4 : w.heap.size < w4.heap.size := (by have := hb4.size; (try simp at this); omega); have hy4 : w.heap.size + 1 < w4.heap.size := (by have := hb4.size; (try simp at this); omega); have hx4 : w3.heap.size < w4.heap.size := (by have := hb4.size; (try simp at this); omega)
                go_wp2_with fail
                refine (HUN.out _ (by repeat (first | with_reducible exact ext_refl _ | with_reducible assumption | with_reducible refine ext_alloc ?_ _ | with_reducible refine ext_trans ?_ (by assumption)))).mono ?_
                rintro e w5 ⟨rfl, hb5⟩
                obtain ⟨hc5, hf5⟩ := bcell hb5; have hz5 : w.heap.size < w5.heap.size := (by have := hb5.size; (try simp at this); omega); have hy5 : w.heap.size + 1 < w5.heap.size := (by have := hb5.size; (try simp at this); omega); have hx5 : w3.heap.size < w5.heap.size := (by have := hb5.size; (try simp at this); omega)
                go_wp2_with fail
                refine (AddInt_spec a p.cpu _ ha hcpu2).mono ?_
                rw [H1.out]
                rintro e w6 ⟨rfl, hb6⟩
                obtain ⟨hc6, hf6⟩ := bcell hb6; have hz6 : w.heap.size < w6.heap.size := (by have := hb6.size; (try simp at this); omega); have hy6 : w.heap.size + 1 < w6.heap.size := (by have := hb6.size; (try simp at this); omega); have hx6 : w3.heap.size < w6.heap.size := (by have := hb6.size; (try simp at this); omega)
                go_wp2_with fail
                refine (AddInt_spec b p.mem _ hb hmem2).mono ?_
                rw [H2.out]
                rintro e w7 ⟨rfl, hb7⟩
                obtain ⟨hc7, hf7⟩ := bcell hb7; have hz7 : w.heap.size < w7.heap.size := (by have := hb7.size; (try simp at this); omega); have hy7 : w.heap.size + 1 < w7.heap.size := (by have := hb7.size; (try simp at this); omega); have hx7 : w3.heap.size < w7.heap.size := (by have := hb7.size; (try simp at this); omega)
                go_wp2
                go_ret
                exact ⟨by rw [HF.out]; first | rfl | simp, (by repeat (first | with_reducible exact ext_refl _ | with_reducible assumption | with_reducible refine ext_alloc ?_ _ | with_reducible refine ext_trans ?_ (by assumption)))⟩
              | some s2 =>
                by_cases hle2 : s2 ≤ x.hosts[k].mem
                · have hf2 : fitsR b p.mem x.hosts[k].mem = true := by unfold fitsR; rw [he2]; simp [hle2]
                  by_cases hsl : x.hosts[k].slots ≤ (L : Int)
                  · have HF := Lib.hid (show reasonR nm x p = 5 by rw [HAT.out, if_neg (by simp [hS]), if_neg hu, if_neg (by simp [hf1]), if_neg (by simp [hf2]), if_pos hsl])
                    have HS := Lib.hid hS
                    clear hS
                    have H1 := Lib.hid he1
                    clear he1
                    have H2 := Lib.hid he2
                    clear he2
                    go_wp2_with fail
                    refine (HSEL.out _ (by repeat (first | with_reducible exact ext_refl _ | with_reducible assumption | with_reducible refine ext_alloc ?_ _ | with_reducible refine ext_trans ?_ (by assumption)))).mono ?_
                    rw [HS.out]
                    rintro e w4 ⟨rfl, hb4⟩
                    obtain ⟨hc4, hf4⟩ := bcell hb4; have hz4 : w.heap.size < w4.heap.size := (by have := hb4.size; (try simp at this); omega); have hy4 : w.heap.size + 1 < w4.heap.size := (by have := hb4.size; (try simp at this); omega); have hx4 : w3.heap.size < w4.heap.size := (by have := hb4.size; (try simp at this); omega)
                    go_wp2_with fail
                    refine (HUN.out _ (by repeat (first | with_reducible exact ext_refl _ | with_reducible assumption | with_reducible refine ext_alloc ?_ _ | with_reducible refine ext_trans ?_ (by assumption)))).mono ?_
                    rintro e w5 ⟨rfl, hb5⟩
                    obtain ⟨hc5, hf5⟩ := bcell hb5; have hz5 : w.heap.size < w5.heap.size := (by have := hb5.size; (try simp at this); omega); have hy5 : w.heap.size + 1 < w5.heap.size := (by have := hb5.size; (try simp at this); omega); have hx5 : w3.heap.size < w5.heap.size := (by have := hb5.size; (try simp at this); omega)
                    go_wp2_with fail
                    refine (AddInt_spec a p.cpu _ ha hcpu2).mono ?_
                    rw [H1.out]
                    rintro e w6 ⟨rfl, hb6⟩
                    obtain ⟨hc6, hf6⟩ := bcell hb6; have hz6 : w.heap.size < w6.heap.size := (by have := hb6.size; (try simp at this); omega); have hy6 : w.heap.size + 1 < w6.heap.size := (by have := hb6.size; (try simp at this); omega); have hx6 : w3.heap.size < w6.heap.size := (by have := hb6.size; (try simp at this); omega)
                    go_wp2_with fail
                    refine (AddInt_spec b p.mem _ hb hmem2).mono ?_
                    rw [H2.out]
                    rintro e w7 ⟨rfl, hb7⟩
                    obtain ⟨hc7, hf7⟩ := bcell hb7; have hz7 : w.heap.size < w7.heap.size := (by have := hb7.size; (try simp at this); omega); have hy7 : w.heap.size + 1 < w7.heap.size := (by have := hb7.size; (try simp at this); omega); have hx7 : w3.heap.size < w7.heap.size := (by have := hb7.size; (try simp at this); omega)
                    go_wp2
                    go_ret
                    exact ⟨by rw [HF.out]; first | rfl | simp, (by repeat (first | with_reducible exact ext_refl _ | with_reducible assumption | with_reducible refine ext_alloc ?_ _ | with_reducible refine ext_trans ?_ (by assumption)))⟩
                  · have HF := Lib.hid (show reasonR nm x p = 0 by rw [HAT.out, if_neg (by simp [hS]), if_neg hu, if_neg (by simp [hf1]), if_neg (by simp [hf2]), if_neg hsl])
                    have HS := Lib.hid hS
                    clear hS
                    have H1 := Lib.hid he1
                    clear he1
                    have H2 := Lib.hid he2
                    clear he2
                    go_wp2_with fail
                    refine (HSEL.out _ (by repeat (first | with_reducible exact ext_refl _ | with_reducible assumption | with_reducible refine ext_alloc ?_ _ | with_reducible refine ext_trans ?_ (by assumption)))).mono ?_
                    rw [HS.out]
                    rintro e w4 ⟨rfl, hb4⟩
                    obtain ⟨hc4, hf4⟩ := bcell hb4; have hz4 : w.heap.size < w4.heap.size := (by have := hb4.size; (try simp at this); omega); have hy4 : w.heap.size + 1 < w4.heap.size := (by have := hb4.size; (try simp at this); omega); have hx4 : w3.heap.size < w4.heap.size := (by have := hb4.size; (try simp at this); omega)
                    go_wp2_with fail
                    refine (HUN.out _ (by repeat (first | with_reducible exact ext_refl _ | with_reducible assumption | with_reducible refine ext_alloc ?_ _ | with_reducible refine ext_trans ?_ (by assumption)))).mono ?_
                    rintro e w5 ⟨rfl, hb5⟩
                    obtain ⟨hc5, hf5⟩ := bcell hb5; have hz5 : w.heap.size < w5.heap.size := (by have := hb5.size; (try simp at this); omega); have hy5 : w.heap.size + 1 < w5.heap.size := (by have := hb5.size; (try simp at this); omega); have hx5 : w3.heap.size < w5.heap.size := (by have := hb5.size; (try simp at this); omega)
                    go_wp2_with fail
                    refine (AddInt_spec a p.cpu _ ha hcpu2).mono ?_
                    rw [H1.out]
                    rintro e w6 ⟨rfl, hb6⟩
                    obtain ⟨hc6, hf6⟩ := bcell hb6; have hz6 : w.heap.size < w6.heap.size := (by have := hb6.size; (try simp at this); omega); have hy6 : w.heap.size + 1 < w6.heap.size := (by have := hb6.size; (try simp at this); omega); have hx6 : w3.heap.size < w6.heap.size := (by have := hb6.size; (try simp at this); omega)
                    go_wp2_with fail
                    refine (AddInt_spec b p.mem _ hb hmem2).mono ?_
                    rw [H2.out]
                    rintro e w7 ⟨rfl, hb7⟩
                    obtain ⟨hc7, hf7⟩ := bcell hb7; have hz7 : w.heap.size < w7.heap.size := (by have := hb7.size; (try simp at this); omega); have hy7 : w.heap.size + 1 < w7.heap.size := (by have := hb7.size; (try simp at this); omega); have hx7 : w3.heap.size < w7.heap.size := (by have := hb7.size; (try simp at this); omega)
                    go_wp2
                    go_ret
                    exact ⟨by rw [HF.out]; first | rfl | simp, (by repeat (first | with_reducible exact ext_refl _ | with_reducible assumption | with_reducible refine ext_alloc ?_ _ | with_reducible refine ext_trans ?_ (by assumption)))⟩
                · have hf2 : fitsR b p.mem x.hosts[k].mem = false := by unfold fitsR; rw [he2]; simp [hle2]
                  have HF := Lib.hid (show reasonR nm x p = 4 by rw [HAT.out, if_neg (by simp [hS]), if_neg hu, if_neg (by simp [hf1]), if_pos hf2])
                  have HS := Lib.hid hS
                  clear hS
                  have H1 := Lib.hid he1
                  clear he1
                  have H2 := Lib.hid he2
                  clear he2
                  go_wp2_with fail
                  refine (HSEL.out _ (by repeat (first | with_reducible exact ext_refl _ | with_reducible assumption | with_reducible refine ext_alloc ?_ _ | with_reducible refine ext_trans ?_ (by assumption)))).mono ?_
                  rw [HS.out]
                  rintro e w4 ⟨rfl, hb4⟩
                  obtain ⟨hc4, hf4⟩ := bcell hb4; have hz4 : w.heap.size < w4.heap.size := (by have := hb4.size; (try simp at this); omega); have hy4 : w.heap.size + 1 < w4.heap.size := (by have := hb4.size; (try simp at this); omega); have hx4 : w3.heap.size < w4.heap.size := (by have := hb4.size; (try simp at this); omega)
                  go_wp2_with fail
                  refine (HUN.out _ (by repeat (first | with_reducible exact ext_refl _ | with_reducible assumption | with_reducible refine ext_alloc ?_ _ | with_reducible refine ext_trans ?_ (by assumption)))).mono ?_
                  rintro e w5 ⟨rfl, hb5⟩
                  obtain ⟨hc5, hf5⟩ := bcell hb5; have hz5 : w.heap.size < w5.heap.size := (by have := hb5.size; (try simp at this); omega); have hy5 : w.heap.size + 1 < w5.heap.size := (by have := hb5.size; (try simp at this); omega); have hx5 : w3.heap.size < w5.heap.size := (by have := hb5.size; (try simp at this); omega)
                  go_wp2_with fail
                  refine (AddInt_spec a p.cpu _ ha hcpu2).mono ?_
                  rw [H1.out]
                  rintro e w6 ⟨rfl, hb6⟩
                  obtain ⟨hc6, hf6⟩ := bcell hb6; have hz6 : w.heap.size < w6.heap.size := (by have := hb6.size; (try simp at this); omega); have hy6 : w.heap.size + 1 < w6.heap.size := (by have := hb6.size; (try simp at this); omega); have hx6 : w3.heap.size < w6.heap.size := (by have := hb6.size; (try simp at this); omega)
                  go_wp2_with fail
                  refine (AddInt_spec b p.mem _ hb hmem2).mono ?_
                  rw [H2.out]
                  rintro e w7 ⟨rfl, hb7⟩
                  obtain ⟨hc7, hf7⟩ := bcell hb7; have hz7 : w.heap.size < w7.heap.size := (by have := hb7.size; (try simp at this); omega); have hy7 : w.heap.size + 1 < w7.heap.size := (by have := hb7.size; (try simp at this); omega); have hx7 : w3.heap.size < w7.heap.size := (by have := hb7.size; (try simp at this); omega)
                  go_wp2
                  go_ret
                  exact ⟨by rw [HF.out]; first | rfl | simp, (by repeat (first | with_reducible exact ext_refl _ | with_reducible assumption | with_reducible refine ext_alloc ?_ _ | with_reducible refine ext_trans ?_ (by assumption)))⟩
            · have hf1 : fitsR a p.cpu x.hosts[k].cpu = false := by unfold fitsR; rw [he1]; simp [hle1]
              have HF := Lib.hid (show reasonR nm x p = 3 by rw [HAT.out, if_neg (by simp [hS]), if_neg hu, if_pos hf1])
              have HS := Lib.hid hS
              clear hS
              have H1 := Lib.hid he1
              clear he1
              go_wp2_with fail
              refine (HSEL.out _ (by repeat (first | with_reducible exact ext_refl _ | with_reducible assumption | with_reducible refine ext_alloc ?_ _ | with_reducible refine ext_trans ?_ (by assumption)))).mono ?_
              rw [HS.out]
              rintro e w4 ⟨rfl, hb4⟩
              obtain ⟨hc4, hf4⟩ := bcell hb4; have hz4 : w.heap.size < w4.heap.size := (by have := hb4.size; (try simp at this); omega); have hy4 : w.heap.size + 1 < w4.heap.size := (by have := hb4.size; (try simp at this); omega); have hx4 : w3.heap.size < w4.heap.size := (by have := hb4.size; (try simp at this); omega)
              go_wp2_with fail
              refine (HUN.out _ (by repeat (first | with_reducible exact ext_refl _ | with_reducible assumption | with_reducible refine ext_alloc ?_ _ | with_reducible refine ext_trans ?_ (by assumption)))).mono ?_
              rintro e w5 ⟨rfl, hb5⟩
              obtain ⟨hc5, hf5⟩ := bcell hb5; have hz5 : w.heap.size < w5.heap.size := (by have := hb5.size; (try simp at this); omega); have hy5 : w.heap.size + 1 < w5.heap.size := (by have := hb5.size; (try simp at this); omega); have hx5 : w3.heap.size < w5.heap.size := (by have := hb5.size; (try simp at this); omega)
              go_wp2_with fail
              refine (AddInt_spec a p.cpu _ ha hcpu2).mono ?_
              rw [H1.out]
              rintro e w6 ⟨rfl, hb6⟩
              obtain ⟨hc6, hf6⟩ := bcell hb6; have hz6 : w.heap.size < w6.heap.size := (by have := hb6.size; (try simp at this); omega); have hy6 : w.heap.size + 1 < w6.heap.size := (by have := hb6.size; (try simp at this); omega); have hx6 : w3.heap.size < w6.heap.size := (by have := hb6.size; (try simp at this); omega)
              go_wp2
              go_ret
              exact ⟨by rw [HF.out]; first | rfl | simp, (by repeat (first | with_reducible exact ext_refl _ | with_reducible assumption | with_reducible refine ext_alloc ?_ _ | with_reducible refine ext_trans ?_ (by assumption)))⟩

end Go.Proofs.YtjoclfenghenjaaGreat
