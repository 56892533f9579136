/- SpreadMark, of the program and of the reference. No condition. -/
import Derived.Test.YtjoclfenghenjaaGreatMarksP
import Derived.Test.YtjoclfenghenjaaGreatShare
namespace Go.Proofs.YtjoclfenghenjaaGreat
open Go.ChangeShapes Go.WideShapes Go.ChangeAt Go.RowKit
set_option linter.unusedVariables false
set_option linter.unusedSimpArgs false
set_option maxRecDepth 100000 in
set_option maxHeartbeats 4000000 in
theorem SpreadMark_impl (x : Cluster) (p : Pod) (cs ps : List Value) (F G : List Nat) (nm : ByteArray) (w : World) (h : rd w x cs F) (h' : rd w p ps G) (hw : (x.wt : Int) ≤ 1048576) (hw' : (p.wt : Int) ≤ 1048576) :
    Calls Tryz.prog 117 #[.agg cs.toArray, .string nm, .agg ps.toArray] w fun e w' => e = .returned (.int .i64 (spreadR nm x)) ∧ Below w.heap.size w w' := by
  have hwx : x.wt = wtL Host.wt x.hosts + wtL Placed.wt x.pods := rfl
  have hlen : (x.hosts.length : Int) ≤ 1048576 := by have := wtL_len Host.wt x.hosts; omega
  have hplen : (x.pods.length : Int) ≤ 1048576 := by have := wtL_len Placed.wt x.pods; omega
  have hr := h
  have hr' := h'
  obtain ⟨Ahosts, chosts, Fhosts, Apods, cpods, Fpods, hck, hF, hhosts, hpods, hnext, hweightspack, hweightsspread, hweightssoft⟩ := rd_Cluster hr
  obtain ⟨Alabels2, clabels2, Flabels2, Aneeds2, cneeds2, Fneeds2, Atolerances2, ctolerances2, Ftolerances2, hck2, hG, hname2, hlabels2, hcpu2, hmem2, hrank2, hneeds2, htolerances2⟩ := rd_Pod hr'
  subst hck hck2
  clear hF hG hr hr'
  rcases idxI_ways (hostatP nm) x.hosts with hi | ⟨k, hk, hi⟩
  · have HF := Lib.hid (spreadR_no  hi)
    have HI := Lib.hid hi
    clear hi
    cases hs : sumsR (onL nm x.pods) with
    | none =>
      have HU := Lib.hid (usedV_none hs)
      clear hs
      go_enter Tryz.func117, Tryz.ntmps117
      go_wp2_with fail
      refine (HostAt_impl x _ _ nm _ (rd_extT h (by repeat (first | with_reducible exact ext_refl _ | with_reducible assumption | with_reducible refine ext_alloc ?_ _ | with_reducible refine ext_trans ?_ (by assumption)))) hlen).mono ?_
      rw [HI.out]
      rintro e w2 ⟨rfl, hb2⟩
      obtain ⟨hc2, hf2⟩ := bcell hb2
      have hz2 : w.heap.size < w2.heap.size := (by have := hb2.size; (try simp at this); omega)
      have hy2 : w.heap.size + 1 < w2.heap.size := (by have := hb2.size; (try simp at this); omega)
      have hB2 : Below w.heap.size w w2 := (by repeat (first | with_reducible exact ext_refl _ | with_reducible assumption | with_reducible refine ext_alloc ?_ _ | with_reducible refine ext_trans ?_ (by assumption)))
      go_wp2_with fail
      refine (UsedOn_impl x _ _ nm _ (rd_extT h (by repeat (first | with_reducible exact ext_refl _ | with_reducible assumption | with_reducible refine ext_alloc ?_ _ | with_reducible refine ext_trans ?_ (by assumption)))) hplen).mono ?_
      rw [HU.out]
      rintro e w3 ⟨rfl, hb3⟩
      obtain ⟨hc3, hf3⟩ := bcell hb3
      have hz3 : w.heap.size < w3.heap.size := (by have := hb3.size; (try simp at this); omega)
      have hy3 : w.heap.size + 1 < w3.heap.size := (by have := hb3.size; (try simp at this); omega)
      have hB3 : Below w.heap.size w w3 := ext_trans hB2 hb3
      go_wp2
      go_ret
      exact ⟨by rw [HF.out]; rfl, (by repeat (first | with_reducible exact ext_refl _ | with_reducible assumption | with_reducible refine ext_alloc ?_ _ | with_reducible refine ext_trans ?_ (by assumption)))⟩
    | some ab =>
      obtain ⟨a, b⟩ := ab
      have HU := Lib.hid (usedV_some hs)
      clear hs
      go_enter Tryz.func117, Tryz.ntmps117
      go_wp2_with fail
      refine (HostAt_impl x _ _ nm _ (rd_extT h (by repeat (first | with_reducible exact ext_refl _ | with_reducible assumption | with_reducible refine ext_alloc ?_ _ | with_reducible refine ext_trans ?_ (by assumption)))) hlen).mono ?_
      rw [HI.out]
      rintro e w2 ⟨rfl, hb2⟩
      obtain ⟨hc2, hf2⟩ := bcell hb2
      have hz2 : w.heap.size < w2.heap.size := (by have := hb2.size; (try simp at this); omega)
      have hy2 : w.heap.size + 1 < w2.heap.size := (by have := hb2.size; (try simp at this); omega)
      have hB2 : Below w.heap.size w w2 := (by repeat (first | with_reducible exact ext_refl _ | with_reducible assumption | with_reducible refine ext_alloc ?_ _ | with_reducible refine ext_trans ?_ (by assumption)))
      go_wp2_with fail
      refine (UsedOn_impl x _ _ nm _ (rd_extT h (by repeat (first | with_reducible exact ext_refl _ | with_reducible assumption | with_reducible refine ext_alloc ?_ _ | with_reducible refine ext_trans ?_ (by assumption)))) hplen).mono ?_
      rw [HU.out]
      rintro e w3 ⟨rfl, hb3⟩
      obtain ⟨hc3, hf3⟩ := bcell hb3
      have hz3 : w.heap.size < w3.heap.size := (by have := hb3.size; (try simp at this); omega)
      have hy3 : w.heap.size + 1 < w3.heap.size := (by have := hb3.size; (try simp at this); omega)
      have hB3 : Below w.heap.size w w3 := ext_trans hB2 hb3
      go_wp2
      go_ret
      exact ⟨by rw [HF.out]; rfl, (by repeat (first | with_reducible exact ext_refl _ | with_reducible assumption | with_reducible refine ext_alloc ?_ _ | with_reducible refine ext_trans ?_ (by assumption)))⟩
  · cases hs : sumsR (onL nm x.pods) with
    | none =>
      have HF := Lib.hid (spreadR_none  hs)
      have HI := Lib.hid hi
      clear hi
      have HU := Lib.hid (usedV_none hs)
      clear hs
      go_enter Tryz.func117, Tryz.ntmps117
      go_wp2_with fail
      refine (HostAt_impl x _ _ nm _ (rd_extT h (by repeat (first | with_reducible exact ext_refl _ | with_reducible assumption | with_reducible refine ext_alloc ?_ _ | with_reducible refine ext_trans ?_ (by assumption)))) hlen).mono ?_
      rw [HI.out]
      rintro e w2 ⟨rfl, hb2⟩
      obtain ⟨hc2, hf2⟩ := bcell hb2
      have hz2 : w.heap.size < w2.heap.size := (by have := hb2.size; (try simp at this); omega)
      have hy2 : w.heap.size + 1 < w2.heap.size := (by have := hb2.size; (try simp at this); omega)
      have hB2 : Below w.heap.size w w2 := (by repeat (first | with_reducible exact ext_refl _ | with_reducible assumption | with_reducible refine ext_alloc ?_ _ | with_reducible refine ext_trans ?_ (by assumption)))
      go_wp2_with fail
      refine (UsedOn_impl x _ _ nm _ (rd_extT h (by repeat (first | with_reducible exact ext_refl _ | with_reducible assumption | with_reducible refine ext_alloc ?_ _ | with_reducible refine ext_trans ?_ (by assumption)))) hplen).mono ?_
      rw [HU.out]
      rintro e w3 ⟨rfl, hb3⟩
      obtain ⟨hc3, hf3⟩ := bcell hb3
      have hz3 : w.heap.size < w3.heap.size := (by have := hb3.size; (try simp at this); omega)
      have hy3 : w.heap.size + 1 < w3.heap.size := (by have := hb3.size; (try simp at this); omega)
      have hB3 : Below w.heap.size w w3 := ext_trans hB2 hb3
      go_wp2
      go_ret
      exact ⟨by rw [HF.out]; rfl, (by repeat (first | with_reducible exact ext_refl _ | with_reducible assumption | with_reducible refine ext_alloc ?_ _ | with_reducible refine ext_trans ?_ (by assumption)))⟩
    | some ab =>
      obtain ⟨a, b⟩ := ab
      have hat := spreadR_at  hk hi hs
      obtain ⟨ha, hb⟩ := used_I64 (A := Apods) (c := cpods) hpods hs
      have HI := Lib.hid hi
      clear hi
      have HU := Lib.hid (usedV_some hs)
      clear hs
      have hL := onL_len nm x.pods
      generalize (onL nm x.pods).length = L at hat HU hL
      have hLi : (L : Int) ≤ 1048576 := by omega
      clear hL
      obtain ⟨bh, o, ck, Fk, rfl, hbF, hbs, hr, hsub, hc⟩ := Sl.get (α := Host) (A := Ahosts) (c := chosts) hhosts hk
      obtain ⟨Alabels3, clabels3, Flabels3, Ataints3, ctaints3, Ftaints3, hck, hFk, hname3, hlabels3, hcpu3, hmem3, hslots3, htaints3⟩ := rd_Host hr
      subst hck
      have q0 : w.cell? ⟨bh, o + k * 6, none⟩ = some (.string x.hosts[k].name) := by exact hc 0 _ rfl
      have q1 : w.cell? ⟨bh, o + k * 6 + 1, none⟩ = some (.slice Alabels3 x.hosts[k].labels.length clabels3) := by rw [Nat.add_assoc]; exact hc 1 _ rfl
      have q2 : w.cell? ⟨bh, o + k * 6 + 2, none⟩ = some (.int .i64 x.hosts[k].cpu) := by rw [Nat.add_assoc]; exact hc 2 _ rfl
      have q3 : w.cell? ⟨bh, o + k * 6 + 3, none⟩ = some (.int .i64 x.hosts[k].mem) := by rw [Nat.add_assoc]; exact hc 3 _ rfl
      have q4 : w.cell? ⟨bh, o + k * 6 + 4, none⟩ = some (.int .i64 x.hosts[k].slots) := by rw [Nat.add_assoc]; exact hc 4 _ rfl
      have q5 : w.cell? ⟨bh, o + k * 6 + 5, none⟩ = some (.slice Ataints3 x.hosts[k].taints.length ctaints3) := by rw [Nat.add_assoc]; exact hc 5 _ rfl
      clear hc
      obtain ⟨S1, hS1⟩ : ∃ S, shareR (L : Int) x.hosts[k].slots = S := ⟨_, rfl⟩
      have hr1 := shareR_range (L : Int) x.hosts[k].slots
      rw [hS1] at hat hr1
      have HF := Lib.hid hat
      have HS1 := Lib.hid hS1
      clear hat hS1
      have hLI : I64 (L : Int) := by unfold I64; omega
      have hsh : IntKind.i64.wrap (100 - S1) = 100 - S1 := by rw [IntKind.wrap_i64]; omega
      go_enter Tryz.func117, Tryz.ntmps117
      go_wp2_with fail
      refine (HostAt_impl x _ _ nm _ (rd_extT h (by repeat (first | with_reducible exact ext_refl _ | with_reducible assumption | with_reducible refine ext_alloc ?_ _ | with_reducible refine ext_trans ?_ (by assumption)))) hlen).mono ?_
      rw [HI.out]
      rintro e w2 ⟨rfl, hb2⟩
      obtain ⟨hc2, hf2⟩ := bcell hb2
      have hz2 : w.heap.size < w2.heap.size := (by have := hb2.size; (try simp at this); omega)
      have hy2 : w.heap.size + 1 < w2.heap.size := (by have := hb2.size; (try simp at this); omega)
      have hB2 : Below w.heap.size w w2 := (by repeat (first | with_reducible exact ext_refl _ | with_reducible assumption | with_reducible refine ext_alloc ?_ _ | with_reducible refine ext_trans ?_ (by assumption)))
      go_wp2_with fail
      refine (UsedOn_impl x _ _ nm _ (rd_extT h (by repeat (first | with_reducible exact ext_refl _ | with_reducible assumption | with_reducible refine ext_alloc ?_ _ | with_reducible refine ext_trans ?_ (by assumption)))) hplen).mono ?_
      rw [HU.out]
      rintro e w3 ⟨rfl, hb3⟩
      obtain ⟨hc3, hf3⟩ := bcell hb3
      have hz3 : w.heap.size < w3.heap.size := (by have := hb3.size; (try simp at this); omega)
      have hy3 : w.heap.size + 1 < w3.heap.size := (by have := hb3.size; (try simp at this); omega)
      have hB3 : Below w.heap.size w w3 := ext_trans hB2 hb3
      replace q0 := ((bcell hB3).1 bh _ hbs).trans q0
      replace q1 := ((bcell hB3).1 bh _ hbs).trans q1
      replace q2 := ((bcell hB3).1 bh _ hbs).trans q2
      replace q3 := ((bcell hB3).1 bh _ hbs).trans q3
      replace q4 := ((bcell hB3).1 bh _ hbs).trans q4
      replace q5 := ((bcell hB3).1 bh _ hbs).trans q5
      have hbs3 : bh < w3.heap.size := by have := hB3.size; omega
      go_wp2_with fail
      refine (ShareOf_impl _ _ _ (by first | assumption | (unfold I64; omega)) (by first | assumption | (unfold I64; omega))).mono ?_
      rw [HS1.out]
      rintro e wn ⟨rfl, hn⟩
      go_wp2
      go_ret
      exact ⟨by rw [HF.out]; first | rfl | simp, ext_trans hB3 hn⟩
set_option maxRecDepth 100000 in
set_option maxHeartbeats 4000000 in
theorem SpreadMark_spec (x : Cluster) (p : Pod) (cs ps : List Value) (F G : List Nat) (nm : ByteArray) (w : World) (h : rd w x cs F) (h' : rd w p ps G) (hw : (x.wt : Int) ≤ 1048576) (hw' : (p.wt : Int) ≤ 1048576) :
    Calls Tryz.prog 108 #[.agg cs.toArray, .string nm, .agg ps.toArray] w fun e w' => e = .returned (.int .i64 (spreadR nm x)) ∧ Below w.heap.size w w' := by
  have hwx : x.wt = wtL Host.wt x.hosts + wtL Placed.wt x.pods := rfl
  have hlen : (x.hosts.length : Int) ≤ 1048576 := by have := wtL_len Host.wt x.hosts; omega
  have hplen : (x.pods.length : Int) ≤ 1048576 := by have := wtL_len Placed.wt x.pods; omega
  have hr := h
  have hr' := h'
  obtain ⟨Ahosts, chosts, Fhosts, Apods, cpods, Fpods, hck, hF, hhosts, hpods, hnext, hweightspack, hweightsspread, hweightssoft⟩ := rd_Cluster hr
  obtain ⟨Alabels2, clabels2, Flabels2, Aneeds2, cneeds2, Fneeds2, Atolerances2, ctolerances2, Ftolerances2, hck2, hG, hname2, hlabels2, hcpu2, hmem2, hrank2, hneeds2, htolerances2⟩ := rd_Pod hr'
  subst hck hck2
  clear hF hG hr hr'
  rcases idxI_ways (hostatP nm) x.hosts with hi | ⟨k, hk, hi⟩
  · have HF := Lib.hid (spreadR_no  hi)
    have HI := Lib.hid hi
    clear hi
    cases hs : sumsR (onL nm x.pods) with
    | none =>
      have HU := Lib.hid (usedV_none hs)
      clear hs
      go_enter Tryz.func108, Tryz.ntmps108
      go_wp2_with fail
      refine (HostAt_spec x _ _ nm _ (rd_extT h (by repeat (first | with_reducible exact ext_refl _ | with_reducible assumption | with_reducible refine ext_alloc ?_ _ | with_reducible refine ext_trans ?_ (by assumption)))) hlen).mono ?_
      rw [HI.out]
      rintro e w2 ⟨rfl, hb2⟩
      obtain ⟨hc2, hf2⟩ := bcell hb2
      have hz2 : w.heap.size < w2.heap.size := (by have := hb2.size; (try simp at this); omega)
      have hy2 : w.heap.size + 1 < w2.heap.size := (by have := hb2.size; (try simp at this); omega)
      have hB2 : Below w.heap.size w w2 := (by repeat (first | with_reducible exact ext_refl _ | with_reducible assumption | with_reducible refine ext_alloc ?_ _ | with_reducible refine ext_trans ?_ (by assumption)))
      go_wp2_with fail
      refine (UsedOn_spec x _ _ nm _ (rd_extT h (by repeat (first | with_reducible exact ext_refl _ | with_reducible assumption | with_reducible refine ext_alloc ?_ _ | with_reducible refine ext_trans ?_ (by assumption)))) hplen).mono ?_
      rw [HU.out]
      rintro e w3 ⟨rfl, hb3⟩
      obtain ⟨hc3, hf3⟩ := bcell hb3
      have hz3 : w.heap.size < w3.heap.size := (by have := hb3.size; (try simp at this); omega)
      have hy3 : w.heap.size + 1 < w3.heap.size := (by have := hb3.size; (try simp at this); omega)
      have hB3 : Below w.heap.size w w3 := ext_trans hB2 hb3
      go_wp2
      go_ret
      exact ⟨by rw [HF.out]; rfl, (by repeat (first | with_reducible exact ext_refl _ | with_reducible assumption | with_reducible refine ext_alloc ?_ _ | with_reducible refine ext_trans ?_ (by assumption)))⟩
    | some ab =>
      obtain ⟨a, b⟩ := ab
      have HU := Lib.hid (usedV_some hs)
      clear hs
      go_enter Tryz.func108, Tryz.ntmps108
      go_wp2_with fail
      refine (HostAt_spec x _ _ nm _ (rd_extT h (by repeat (first | with_reducible exact ext_refl _ | with_reducible assumption | with_reducible refine ext_alloc ?_ _ | with_reducible refine ext_trans ?_ (by assumption)))) hlen).mono ?_
      rw [HI.out]
      rintro e w2 ⟨rfl, hb2⟩
      obtain ⟨hc2, hf2⟩ := bcell hb2
      have hz2 : w.heap.size < w2.heap.size := (by have := hb2.size; (try simp at this); omega)
      have hy2 : w.heap.size + 1 < w2.heap.size := (by have := hb2.size; (try simp at this); omega)
      have hB2 : Below w.heap.size w w2 := (by repeat (first | with_reducible exact ext_refl _ | with_reducible assumption | with_reducible refine ext_alloc ?_ _ | with_reducible refine ext_trans ?_ (by assumption)))
      go_wp2_with fail
      refine (UsedOn_spec x _ _ nm _ (rd_extT h (by repeat (first | with_reducible exact ext_refl _ | with_reducible assumption | with_reducible refine ext_alloc ?_ _ | with_reducible refine ext_trans ?_ (by assumption)))) hplen).mono ?_
      rw [HU.out]
      rintro e w3 ⟨rfl, hb3⟩
      obtain ⟨hc3, hf3⟩ := bcell hb3
      have hz3 : w.heap.size < w3.heap.size := (by have := hb3.size; (try simp at this); omega)
      have hy3 : w.heap.size + 1 < w3.heap.size := (by have := hb3.size; (try simp at this); omega)
      have hB3 : Below w.heap.size w w3 := ext_trans hB2 hb3
      go_wp2
      go_ret
      exact ⟨by rw [HF.out]; rfl, (by repeat (first | with_reducible exact ext_refl _ | with_reducible assumption | with_reducible refine ext_alloc ?_ _ | with_reducible refine ext_trans ?_ (by assumption)))⟩
  · cases hs : sumsR (onL nm x.pods) with
    | none =>
      have HF := Lib.hid (spreadR_none  hs)
      have HI := Lib.hid hi
      clear hi
      have HU := Lib.hid (usedV_none hs)
      clear hs
      go_enter Tryz.func108, Tryz.ntmps108
      go_wp2_with fail
      refine (HostAt_spec x _ _ nm _ (rd_extT h (by repeat (first | with_reducible exact ext_refl _ | with_reducible assumption | with_reducible refine ext_alloc ?_ _ | with_reducible refine ext_trans ?_ (by assumption)))) hlen).mono ?_
      rw [HI.out]
      rintro e w2 ⟨rfl, hb2⟩
      obtain ⟨hc2, hf2⟩ := bcell hb2
      have hz2 : w.heap.size < w2.heap.size := (by have := hb2.size; (try simp at this); omega)
      have hy2 : w.heap.size + 1 < w2.heap.size := (by have := hb2.size; (try simp at this); omega)
      have hB2 : Below w.heap.size w w2 := (by repeat (first | with_reducible exact ext_refl _ | with_reducible assumption | with_reducible refine ext_alloc ?_ _ | with_reducible refine ext_trans ?_ (by assumption)))
      go_wp2_with fail
      refine (UsedOn_spec x _ _ nm _ (rd_extT h (by repeat (first | with_reducible exact ext_refl _ | with_reducible assumption | with_reducible refine ext_alloc ?_ _ | with_reducible refine ext_trans ?_ (by assumption)))) hplen).mono ?_
      rw [HU.out]
      rintro e w3 ⟨rfl, hb3⟩
      obtain ⟨hc3, hf3⟩ := bcell hb3
      have hz3 : w.heap.size < w3.heap.size := (by have := hb3.size; (try simp at this); omega)
      have hy3 : w.heap.size + 1 < w3.heap.size := (by have := hb3.size; (try simp at this); omega)
      have hB3 : Below w.heap.size w w3 := ext_trans hB2 hb3
      go_wp2
      go_ret
      exact ⟨by rw [HF.out]; rfl, (by repeat (first | with_reducible exact ext_refl _ | with_reducible assumption | with_reducible refine ext_alloc ?_ _ | with_reducible refine ext_trans ?_ (by assumption)))⟩
    | some ab =>
      obtain ⟨a, b⟩ := ab
      have hat := spreadR_at  hk hi hs
      obtain ⟨ha, hb⟩ := used_I64 (A := Apods) (c := cpods) hpods hs
      have HI := Lib.hid hi
      clear hi
      have HU := Lib.hid (usedV_some hs)
      clear hs
      have hL := onL_len nm x.pods
      generalize (onL nm x.pods).length = L at hat HU hL
      have hLi : (L : Int) ≤ 1048576 := by omega
      clear hL
      obtain ⟨bh, o, ck, Fk, rfl, hbF, hbs, hr, hsub, hc⟩ := Sl.get (α := Host) (A := Ahosts) (c := chosts) hhosts hk
      obtain ⟨Alabels3, clabels3, Flabels3, Ataints3, ctaints3, Ftaints3, hck, hFk, hname3, hlabels3, hcpu3, hmem3, hslots3, htaints3⟩ := rd_Host hr
      subst hck
      have q0 : w.cell? ⟨bh, o + k * 6, none⟩ = some (.string x.hosts[k].name) := by exact hc 0 _ rfl
      have q1 : w.cell? ⟨bh, o + k * 6 + 1, none⟩ = some (.slice Alabels3 x.hosts[k].labels.length clabels3) := by rw [Nat.add_assoc]; exact hc 1 _ rfl
      have q2 : w.cell? ⟨bh, o + k * 6 + 2, none⟩ = some (.int .i64 x.hosts[k].cpu) := by rw [Nat.add_assoc]; exact hc 2 _ rfl
      have q3 : w.cell? ⟨bh, o + k * 6 + 3, none⟩ = some (.int .i64 x.hosts[k].mem) := by rw [Nat.add_assoc]; exact hc 3 _ rfl
      have q4 : w.cell? ⟨bh, o + k * 6 + 4, none⟩ = some (.int .i64 x.hosts[k].slots) := by rw [Nat.add_assoc]; exact hc 4 _ rfl
      have q5 : w.cell? ⟨bh, o + k * 6 + 5, none⟩ = some (.slice Ataints3 x.hosts[k].taints.length ctaints3) := by rw [Nat.add_assoc]; exact hc 5 _ rfl
      clear hc
      obtain ⟨S1, hS1⟩ : ∃ S, shareR (L : Int) x.hosts[k].slots = S := ⟨_, rfl⟩
      have hr1 := shareR_range (L : Int) x.hosts[k].slots
      rw [hS1] at hat hr1
      have HF := Lib.hid hat
      have HS1 := Lib.hid hS1
      clear hat hS1
      have hLI : I64 (L : Int) := by unfold I64; omega
      have hsh : IntKind.i64.wrap (100 - S1) = 100 - S1 := by rw [IntKind.wrap_i64]; omega
      go_enter Tryz.func108, Tryz.ntmps108
      go_wp2_with fail
      refine (HostAt_spec x _ _ nm _ (rd_extT h (by repeat (first | with_reducible exact ext_refl _ | with_reducible assumption | with_reducible refine ext_alloc ?_ _ | with_reducible refine ext_trans ?_ (by assumption)))) hlen).mono ?_
      rw [HI.out]
      rintro e w2 ⟨rfl, hb2⟩
      obtain ⟨hc2, hf2⟩ := bcell hb2
      have hz2 : w.heap.size < w2.heap.size := (by have := hb2.size; (try simp at this); omega)
      have hy2 : w.heap.size + 1 < w2.heap.size := (by have := hb2.size; (try simp at this); omega)
      have hB2 : Below w.heap.size w w2 := (by repeat (first | with_reducible exact ext_refl _ | with_reducible assumption | with_reducible refine ext_alloc ?_ _ | with_reducible refine ext_trans ?_ (by assumption)))
      go_wp2_with fail
      refine (UsedOn_spec x _ _ nm _ (rd_extT h (by repeat (first | with_reducible exact ext_refl _ | with_reducible assumption | with_reducible refine ext_alloc ?_ _ | with_reducible refine ext_trans ?_ (by assumption)))) hplen).mono ?_
      rw [HU.out]
      rintro e w3 ⟨rfl, hb3⟩
      obtain ⟨hc3, hf3⟩ := bcell hb3
      have hz3 : w.heap.size < w3.heap.size := (by have := hb3.size; (try simp at this); omega)
      have hy3 : w.heap.size + 1 < w3.heap.size := (by have := hb3.size; (try simp at this); omega)
      have hB3 : Below w.heap.size w w3 := ext_trans hB2 hb3
      replace q0 := ((bcell hB3).1 bh _ hbs).trans q0
      replace q1 := ((bcell hB3).1 bh _ hbs).trans q1
      replace q2 := ((bcell hB3).1 bh _ hbs).trans q2
      replace q3 := ((bcell hB3).1 bh _ hbs).trans q3
      replace q4 := ((bcell hB3).1 bh _ hbs).trans q4
      replace q5 := ((bcell hB3).1 bh _ hbs).trans q5
      have hbs3 : bh < w3.heap.size := by have := hB3.size; omega
      go_wp2_with fail
      refine (ShareOf_spec _ _ _ (by first | assumption | (unfold I64; omega)) (by first | assumption | (unfold I64; omega))).mono ?_
      rw [HS1.out]
      rintro e wn ⟨rfl, hn⟩
      go_wp2
      go_ret
      exact ⟨by rw [HF.out]; first | rfl | simp, ext_trans hB3 hn⟩

end Go.Proofs.YtjoclfenghenjaaGreat
