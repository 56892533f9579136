/- Marks on Host. -/
import Derived.Test.YtjoclfenghenjaaMkFlat
import Derived.Test.YtjoclfenghenjaaMwStr
namespace Go.Proofs.Ytjoclfenghenjaa
open Go.ChangeShapes Go.WideShapes Go.ChangeAt Go.RowKit
set_option linter.unusedVariables false
set_option linter.unusedSimpArgs false

def mkHost (x : Host) (k : Int) : Host := { name := mtext (k), labels := mkL mkLabel cntLabel x.labels (k + 1), cpu := (k + 1 + (cntL cntLabel x.labels : Int)), mem := (k + 1 + (cntL cntLabel x.labels : Int) + 1), slots := (k + 1 + (cntL cntLabel x.labels : Int) + 1 + 1), taints := mkL mkTaint cntTaint x.taints (k + 1 + (cntL cntLabel x.labels : Int) + 1 + 1 + 1) }
def cntHost (x : Host) : Nat := 1 + cntL cntLabel x.labels + 1 + 1 + 1 + cntL cntTaint x.taints
set_option maxRecDepth 100000 in
set_option maxHeartbeats 2000000 in
theorem markHostS_any (xs : List Host) (A : Option Addr) (n c : Nat) (F : List Nat) (B : Nat) (k : Int) (w : World) (h : Own w B xs [.slice A n c] F) (hn : n = xs.length) (hk0 : 0 ≤ k) (hk : k + cntL cntHost xs ≤ 1073741823) :
    Calls Try.prog 26 #[.slice A n c, .int .i64 k] w fun e w' => e = .returned (.int .i64 (k + cntL cntHost xs)) ∧ Own w' B (mkL mkHost cntHost xs k) [.slice A n c] F ∧ Upd F w w' := by
  subst hn
  have hlen := own_len h
  go_enter Try.func26, Try.ntmps26
  go_wp2_with fail
  go_loopw [1, 5] (fun x y wr => ∃ (i : Nat), i ≤ xs.length ∧ y = .int .i64 i ∧ x = .int .i64 (k + cntL cntHost (xs.take i)) ∧ Own wr B (mkUp mkHost cntHost xs k i) [.slice A xs.length c] F ∧ Upd F w wr) (fun _ y _ => xs.length - (intOf y).toNat)
  case atStart => exact ⟨0, Nat.zero_le _, rfl, by simp [cntL], by rw [mkUp_zero]; exact h, .refl _ _⟩
  case round =>
    obtain ⟨i, hi, rfl, rfl, hO, hu⟩ := hrel
    by_cases hlt : i < xs.length
    · have hle : (cntL cntHost (xs.take i) : Int) + cntHost xs[i] ≤ cntL cntHost xs := by have := cntL_succ (cnt := cntHost) hlt; have := cntL_le (cnt := cntHost) xs (i + 1); omega
      have hsuc := cntL_succ (cnt := cntHost) hlt
      obtain ⟨b, o, ck, Fk, rfl, hbF, hsub, hbk, hOe, hE, hcl⟩ := hO.elt (k := i) (by rw [mkUp_len hi]; exact hlt)
      rw [mkUp_get hlt] at hOe
      have hRe := hOe.rd
      obtain ⟨Alabels, clabels, Flabels, Ataints, ctaints, Ftaints, hck, hFk, hname, hlabels, hcpu, hmem, hslots, htaints⟩ := rd_Host hRe
      clear hRe
      subst hck hFk
      have hnd := hOe.nodup
      simp only [List.nodup_append, List.mem_append] at hnd
      have hdlabels_taints : ∀ y ∈ Flabels, y ∉ Ftaints := fun y ha hb => hnd.2.2 y ha y hb rfl
      have hdtaints_labels : ∀ y ∈ Ftaints, y ∉ Flabels := fun y hb ha => hnd.2.2 y ha y hb rfl
      have hOlabels : Own wr B xs[i].labels [.slice Alabels xs[i].labels.length clabels] Flabels := ⟨hlabels, hnd.1, fun y hy => hOe.base y (by simp [hy]), fun y hy => hOe.plain y (by simp [hy])⟩
      have hblabels : b ∉ Flabels := fun hb => hbk (by simp [hb])
      have hOtaints : Own wr B xs[i].taints [.slice Ataints xs[i].taints.length ctaints] Ftaints := ⟨htaints, hnd.2.1, fun y hy => hOe.base y (by simp [hy]), fun y hy => hOe.plain y (by simp [hy])⟩
      have hbtaints : b ∉ Ftaints := fun hb => hbk (by simp [hb])
      generalize hkk : k + (cntL cntHost (xs.take i) : Int) = kk
      have hkk0 : 0 ≤ kk := by omega
      have hkk1 : kk + cntHost xs[i] ≤ 1073741823 := by omega
      simp only [cntHost] at hkk1
      push_cast at hkk1
      clear hO
      have q0 := hE.at_ (q := o + i * 6) (j := 0) (by show _ = o + i * 6 + 0; omega) rfl
      have z0 := hE.plain.frozen (o + i * 6)
      have q1 := hE.at_ (q := o + i * 6 + 1) (j := 1) (by show _ = o + i * 6 + 1; omega) rfl
      have z1 := hE.plain.frozen (o + i * 6 + 1)
      have q2 := hE.at_ (q := o + i * 6 + 2) (j := 2) (by show _ = o + i * 6 + 2; omega) rfl
      have z2 := hE.plain.frozen (o + i * 6 + 2)
      have q3 := hE.at_ (q := o + i * 6 + 3) (j := 3) (by show _ = o + i * 6 + 3; omega) rfl
      have z3 := hE.plain.frozen (o + i * 6 + 3)
      have q4 := hE.at_ (q := o + i * 6 + 4) (j := 4) (by show _ = o + i * 6 + 4; omega) rfl
      have z4 := hE.plain.frozen (o + i * 6 + 4)
      have q5 := hE.at_ (q := o + i * 6 + 5) (j := 5) (by show _ = o + i * 6 + 5; omega) rfl
      have z5 := hE.plain.frozen (o + i * 6 + 5)
      go_wp2_with fail
      clear q0 z0 q1 z1 q2 z2 q3 z3 q4 z4 q5 z5
      refine (markText_any (kk) _ (by omega) (by omega)).mono ?_
      rintro e w1 ⟨rfl, hb1⟩
      replace hE := hE.ext hb1
      replace hOlabels := hOlabels.ext hb1
      replace hOtaints := hOtaints.ext hb1
      have q0 := hE.at_ (q := o + i * 6) (j := 0) (by show _ = o + i * 6 + 0; omega) rfl
      have z0 := hE.plain.frozen (o + i * 6)
      have q1 := hE.at_ (q := o + i * 6 + 1) (j := 1) (by show _ = o + i * 6 + 1; omega) rfl
      have z1 := hE.plain.frozen (o + i * 6 + 1)
      have q2 := hE.at_ (q := o + i * 6 + 2) (j := 2) (by show _ = o + i * 6 + 2; omega) rfl
      have z2 := hE.plain.frozen (o + i * 6 + 2)
      have q3 := hE.at_ (q := o + i * 6 + 3) (j := 3) (by show _ = o + i * 6 + 3; omega) rfl
      have z3 := hE.plain.frozen (o + i * 6 + 3)
      have q4 := hE.at_ (q := o + i * 6 + 4) (j := 4) (by show _ = o + i * 6 + 4; omega) rfl
      have z4 := hE.plain.frozen (o + i * 6 + 4)
      have q5 := hE.at_ (q := o + i * 6 + 5) (j := 5) (by show _ = o + i * 6 + 5; omega) rfl
      have z5 := hE.plain.frozen (o + i * 6 + 5)
      go_wp2_with fail
      clear q0 z0 q1 z1 q2 z2 q3 z3 q4 z4 q5 z5
      replace hE := hE.set (j := 0) (q := o + i * 6) (by simp) (by show _ = o + i * 6 + 0; omega) (.string (mtext (kk)))
      simp only [List.set_cons_zero, List.set_cons_succ] at hE
      replace hOlabels := hOlabels.setC (p := ⟨b, o + i * 6, none⟩) hblabels (.string (mtext (kk)))
      replace hOtaints := hOtaints.setC (p := ⟨b, o + i * 6, none⟩) hbtaints (.string (mtext (kk)))
      refine (markLabelS_any xs[i].labels _ _ _ _ _ (kk + 1) _ hOlabels rfl (by omega) (by omega)).mono ?_
      rintro e w2 ⟨rfl, hNlabels, hUlabels⟩
      replace hE := hE.step hUlabels (fun y hy => by simp [hy]) hblabels
      replace hOtaints := hUlabels.own hOtaints hdtaints_labels
      replace hOlabels := hNlabels
      have q0 := hE.at_ (q := o + i * 6) (j := 0) (by show _ = o + i * 6 + 0; omega) rfl
      have z0 := hE.plain.frozen (o + i * 6)
      have q1 := hE.at_ (q := o + i * 6 + 1) (j := 1) (by show _ = o + i * 6 + 1; omega) rfl
      have z1 := hE.plain.frozen (o + i * 6 + 1)
      have q2 := hE.at_ (q := o + i * 6 + 2) (j := 2) (by show _ = o + i * 6 + 2; omega) rfl
      have z2 := hE.plain.frozen (o + i * 6 + 2)
      have q3 := hE.at_ (q := o + i * 6 + 3) (j := 3) (by show _ = o + i * 6 + 3; omega) rfl
      have z3 := hE.plain.frozen (o + i * 6 + 3)
      have q4 := hE.at_ (q := o + i * 6 + 4) (j := 4) (by show _ = o + i * 6 + 4; omega) rfl
      have z4 := hE.plain.frozen (o + i * 6 + 4)
      have q5 := hE.at_ (q := o + i * 6 + 5) (j := 5) (by show _ = o + i * 6 + 5; omega) rfl
      have z5 := hE.plain.frozen (o + i * 6 + 5)
      go_wp2_with fail
      clear q0 z0 q1 z1 q2 z2 q3 z3 q4 z4 q5 z5
      replace hE := hE.set (j := 2) (q := o + i * 6 + 2) (by simp) (by show _ = o + i * 6 + 2; omega) (.int .i64 (kk + 1 + (cntL cntLabel xs[i].labels : Int)))
      simp only [List.set_cons_zero, List.set_cons_succ] at hE
      replace hOlabels := hOlabels.setC (p := ⟨b, o + i * 6 + 2, none⟩) hblabels (.int .i64 (kk + 1 + (cntL cntLabel xs[i].labels : Int)))
      replace hOtaints := hOtaints.setC (p := ⟨b, o + i * 6 + 2, none⟩) hbtaints (.int .i64 (kk + 1 + (cntL cntLabel xs[i].labels : Int)))
      replace hE := hE.set (j := 3) (q := o + i * 6 + 3) (by simp) (by show _ = o + i * 6 + 3; omega) (.int .i64 (kk + 1 + (cntL cntLabel xs[i].labels : Int) + 1))
      simp only [List.set_cons_zero, List.set_cons_succ] at hE
      replace hOlabels := hOlabels.setC (p := ⟨b, o + i * 6 + 3, none⟩) hblabels (.int .i64 (kk + 1 + (cntL cntLabel xs[i].labels : Int) + 1))
      replace hOtaints := hOtaints.setC (p := ⟨b, o + i * 6 + 3, none⟩) hbtaints (.int .i64 (kk + 1 + (cntL cntLabel xs[i].labels : Int) + 1))
      replace hE := hE.set (j := 4) (q := o + i * 6 + 4) (by simp) (by show _ = o + i * 6 + 4; omega) (.int .i64 (kk + 1 + (cntL cntLabel xs[i].labels : Int) + 1 + 1))
      simp only [List.set_cons_zero, List.set_cons_succ] at hE
      replace hOlabels := hOlabels.setC (p := ⟨b, o + i * 6 + 4, none⟩) hblabels (.int .i64 (kk + 1 + (cntL cntLabel xs[i].labels : Int) + 1 + 1))
      replace hOtaints := hOtaints.setC (p := ⟨b, o + i * 6 + 4, none⟩) hbtaints (.int .i64 (kk + 1 + (cntL cntLabel xs[i].labels : Int) + 1 + 1))
      refine (markTaintS_any xs[i].taints _ _ _ _ _ (kk + 1 + (cntL cntLabel xs[i].labels : Int) + 1 + 1 + 1) _ hOtaints rfl (by omega) (by omega)).mono ?_
      rintro e w3 ⟨rfl, hNtaints, hUtaints⟩
      replace hE := hE.step hUtaints (fun y hy => by simp [hy]) hbtaints
      replace hOlabels := hUtaints.own hOlabels hdlabels_taints
      replace hOtaints := hNtaints
      have q0 := hE.at_ (q := o + i * 6) (j := 0) (by show _ = o + i * 6 + 0; omega) rfl
      have z0 := hE.plain.frozen (o + i * 6)
      have q1 := hE.at_ (q := o + i * 6 + 1) (j := 1) (by show _ = o + i * 6 + 1; omega) rfl
      have z1 := hE.plain.frozen (o + i * 6 + 1)
      have q2 := hE.at_ (q := o + i * 6 + 2) (j := 2) (by show _ = o + i * 6 + 2; omega) rfl
      have z2 := hE.plain.frozen (o + i * 6 + 2)
      have q3 := hE.at_ (q := o + i * 6 + 3) (j := 3) (by show _ = o + i * 6 + 3; omega) rfl
      have z3 := hE.plain.frozen (o + i * 6 + 3)
      have q4 := hE.at_ (q := o + i * 6 + 4) (j := 4) (by show _ = o + i * 6 + 4; omega) rfl
      have z4 := hE.plain.frozen (o + i * 6 + 4)
      have q5 := hE.at_ (q := o + i * 6 + 5) (j := 5) (by show _ = o + i * 6 + 5; omega) rfl
      have z5 := hE.plain.frozen (o + i * 6 + 5)
      go_wp2_with fail
      clear q0 z0 q1 z1 q2 z2 q3 z3 q4 z4 q5 z5
      have hP := hcl _ (mkHost xs[i] kk) _ ⟨(by have := (rd_pair (rdStr w3 (mtext (kk)) (mtext63 (by omega))) (rd_pair (hOlabels.rd) (rd_pair (rdInt w3 ((kk + 1 + (cntL cntLabel xs[i].labels : Int))) (by unfold I64; omega)) (rd_pair (rdInt w3 ((kk + 1 + (cntL cntLabel xs[i].labels : Int) + 1)) (by unfold I64; omega)) (rd_pair (rdInt w3 ((kk + 1 + (cntL cntLabel xs[i].labels : Int) + 1 + 1)) (by unfold I64; omega)) (hOtaints.rd)))))); simp only [List.nil_append, List.append_nil, List.append_assoc, List.cons_append] at this; exact this), hOe.nodup, hOe.base, (by intro y hy; (try simp only [List.mem_append] at hy); rcases hy with hy | hy <;> first | exact hOlabels.plain y hy | exact hOtaints.plain y hy)⟩ hE
      have hU := hu.trans (hE.upd.mono (G := F) (fun y hy => by rcases List.mem_cons.1 hy with rfl | hy; exact hbF; exact hsub y hy))
      have hset : (mkUp mkHost cntHost xs k i).set i (mkHost xs[i] kk) = mkUp mkHost cntHost xs k (i + 1) := by rw [← hkk]; exact mkUp_set hlt
      rw [hset] at hP
      refine ⟨⟨i + 1, by omega, by go_num, ?_, hP, hU⟩, by simp [intOf]; omega⟩
      rw [hsuc]; simp only [cntHost]; congr 1; push_cast; omega
    · have hkl : i = xs.length := by omega
      subst hkl
      go_wp2
      go_ret
      rw [mkUp_full] at hO
      simp only [List.take_length]
      exact ⟨rfl, hO, hu⟩
end Go.Proofs.Ytjoclfenghenjaa

namespace Go.Proofs.Ytjoclfenghenjaa
open Go.ChangeShapes Go.WideShapes Go.ChangeAt Go.RowKit
set_option linter.unusedVariables false
set_option linter.unusedSimpArgs false

theorem cntHost_mk (x : Host) (k : Int) : cntHost (mkHost x k) = cntHost x := by simp [cntHost, mkHost, cntL_mkL cntLabel_mk, cntL_mkL cntTaint_mk]
theorem mkHost_idem (x : Host) (k : Int) : mkHost (mkHost x k) k = mkHost x k := by simp [mkHost, mkL_idem cntLabel_mk mkLabel_idem, mkL_idem cntTaint_mk mkTaint_idem, cntL_mkL cntLabel_mk, cntL_mkL cntTaint_mk]
end Go.Proofs.Ytjoclfenghenjaa

namespace Go.Proofs.Ytjoclfenghenjaa
open Go.ChangeShapes Go.WideShapes Go.ChangeAt Go.RowKit
set_option linter.unusedVariables false
set_option linter.unusedSimpArgs false

theorem cntHost_le (x : Host) : cntHost x ≤ 4 * (x.wt + 1) := by
  have h0 := cntL_wt cntLabel_le x.labels
  have h1 := cntL_wt cntTaint_le x.taints
  simp only [cntHost, wtS, Host.wt] at *
  omega
end Go.Proofs.Ytjoclfenghenjaa

namespace Go.Proofs.Ytjoclfenghenjaa
open Go.ChangeShapes Go.WideShapes Go.ChangeAt Go.RowKit
set_option linter.unusedVariables false
set_option linter.unusedSimpArgs false

def mkPlaced (x : Placed) (k : Int) : Placed := { pod := { name := mtext (k), labels := mkL mkLabel cntLabel x.pod.labels (k + 1), cpu := (k + 1 + (cntL cntLabel x.pod.labels : Int)), mem := (k + 1 + (cntL cntLabel x.pod.labels : Int) + 1), rank := (k + 1 + (cntL cntLabel x.pod.labels : Int) + 1 + 1), needs := mkL mkNeed cntNeed x.pod.needs (k + 1 + (cntL cntLabel x.pod.labels : Int) + 1 + 1 + 1), tolerances := mkL mkTolerance cntTolerance x.pod.tolerances (k + 1 + (cntL cntLabel x.pod.labels : Int) + 1 + 1 + 1 + (cntL cntNeed x.pod.needs : Int)) }, on := mtext (k + 1 + (cntL cntLabel x.pod.labels : Int) + 1 + 1 + 1 + (cntL cntNeed x.pod.needs : Int) + (cntL cntTolerance x.pod.tolerances : Int)), seq := (k + 1 + (cntL cntLabel x.pod.labels : Int) + 1 + 1 + 1 + (cntL cntNeed x.pod.needs : Int) + (cntL cntTolerance x.pod.tolerances : Int) + 1) }
def cntPlaced (x : Placed) : Nat := 1 + cntL cntLabel x.pod.labels + 1 + 1 + 1 + cntL cntNeed x.pod.needs + cntL cntTolerance x.pod.tolerances + 1 + 1
set_option maxRecDepth 100000 in
set_option maxHeartbeats 2000000 in
theorem markPlacedS_any (xs : List Placed) (A : Option Addr) (n c : Nat) (F : List Nat) (B : Nat) (k : Int) (w : World) (h : Own w B xs [.slice A n c] F) (hn : n = xs.length) (hk0 : 0 ≤ k) (hk : k + cntL cntPlaced xs ≤ 1073741823) :
    Calls Try.prog 27 #[.slice A n c, .int .i64 k] w fun e w' => e = .returned (.int .i64 (k + cntL cntPlaced xs)) ∧ Own w' B (mkL mkPlaced cntPlaced xs k) [.slice A n c] F ∧ Upd F w w' := by
  subst hn
  have hlen := own_len h
  go_enter Try.func27, Try.ntmps27
  go_wp2_with fail
  go_loopw [1, 5] (fun x y wr => ∃ (i : Nat), i ≤ xs.length ∧ y = .int .i64 i ∧ x = .int .i64 (k + cntL cntPlaced (xs.take i)) ∧ Own wr B (mkUp mkPlaced cntPlaced xs k i) [.slice A xs.length c] F ∧ Upd F w wr) (fun _ y _ => xs.length - (intOf y).toNat)
  case atStart => exact ⟨0, Nat.zero_le _, rfl, by simp [cntL], by rw [mkUp_zero]; exact h, .refl _ _⟩
  case round =>
    obtain ⟨i, hi, rfl, rfl, hO, hu⟩ := hrel
    by_cases hlt : i < xs.length
    · have hle : (cntL cntPlaced (xs.take i) : Int) + cntPlaced xs[i] ≤ cntL cntPlaced xs := by have := cntL_succ (cnt := cntPlaced) hlt; have := cntL_le (cnt := cntPlaced) xs (i + 1); omega
      have hsuc := cntL_succ (cnt := cntPlaced) hlt
      obtain ⟨b, o, ck, Fk, rfl, hbF, hsub, hbk, hOe, hE, hcl⟩ := hO.elt (k := i) (by rw [mkUp_len hi]; exact hlt)
      rw [mkUp_get hlt] at hOe
      have hRe := hOe.rd
      obtain ⟨Apodlabels, cpodlabels, Fpodlabels, Apodneeds, cpodneeds, Fpodneeds, Apodtolerances, cpodtolerances, Fpodtolerances, hck, hFk, hpodname, hpodlabels, hpodcpu, hpodmem, hpodrank, hpodneeds, hpodtolerances, hon, hseq⟩ := rd_Placed hRe
      clear hRe
      subst hck hFk
      have hnd := hOe.nodup
      simp only [List.nodup_append, List.mem_append] at hnd
      have hdpodlabels_podneeds : ∀ y ∈ Fpodlabels, y ∉ Fpodneeds := fun y ha hb => hnd.2.2 y ha y (.inl hb) rfl
      have hdpodneeds_podlabels : ∀ y ∈ Fpodneeds, y ∉ Fpodlabels := fun y hb ha => hnd.2.2 y ha y (.inl hb) rfl
      have hdpodlabels_podtolerances : ∀ y ∈ Fpodlabels, y ∉ Fpodtolerances := fun y ha hb => hnd.2.2 y ha y (.inr hb) rfl
      have hdpodtolerances_podlabels : ∀ y ∈ Fpodtolerances, y ∉ Fpodlabels := fun y hb ha => hnd.2.2 y ha y (.inr hb) rfl
      have hdpodneeds_podtolerances : ∀ y ∈ Fpodneeds, y ∉ Fpodtolerances := fun y ha hb => hnd.2.1.2.2 y ha y hb rfl
      have hdpodtolerances_podneeds : ∀ y ∈ Fpodtolerances, y ∉ Fpodneeds := fun y hb ha => hnd.2.1.2.2 y ha y hb rfl
      have hOpodlabels : Own wr B xs[i].pod.labels [.slice Apodlabels xs[i].pod.labels.length cpodlabels] Fpodlabels := ⟨hpodlabels, hnd.1, fun y hy => hOe.base y (by simp [hy]), fun y hy => hOe.plain y (by simp [hy])⟩
      have hbpodlabels : b ∉ Fpodlabels := fun hb => hbk (by simp [hb])
      have hOpodneeds : Own wr B xs[i].pod.needs [.slice Apodneeds xs[i].pod.needs.length cpodneeds] Fpodneeds := ⟨hpodneeds, hnd.2.1.1, fun y hy => hOe.base y (by simp [hy]), fun y hy => hOe.plain y (by simp [hy])⟩
      have hbpodneeds : b ∉ Fpodneeds := fun hb => hbk (by simp [hb])
      have hOpodtolerances : Own wr B xs[i].pod.tolerances [.slice Apodtolerances xs[i].pod.tolerances.length cpodtolerances] Fpodtolerances := ⟨hpodtolerances, hnd.2.1.2.1, fun y hy => hOe.base y (by simp [hy]), fun y hy => hOe.plain y (by simp [hy])⟩
      have hbpodtolerances : b ∉ Fpodtolerances := fun hb => hbk (by simp [hb])
      generalize hkk : k + (cntL cntPlaced (xs.take i) : Int) = kk
      have hkk0 : 0 ≤ kk := by omega
      have hkk1 : kk + cntPlaced xs[i] ≤ 1073741823 := by omega
      simp only [cntPlaced] at hkk1
      push_cast at hkk1
      clear hO
      have q0 := hE.at_ (q := o + i * 9) (j := 0) (by show _ = o + i * 9 + 0; omega) rfl
      have z0 := hE.plain.frozen (o + i * 9)
      have q1 := hE.at_ (q := o + i * 9 + 1) (j := 1) (by show _ = o + i * 9 + 1; omega) rfl
      have z1 := hE.plain.frozen (o + i * 9 + 1)
      have q2 := hE.at_ (q := o + i * 9 + 2) (j := 2) (by show _ = o + i * 9 + 2; omega) rfl
      have z2 := hE.plain.frozen (o + i * 9 + 2)
      have q3 := hE.at_ (q := o + i * 9 + 3) (j := 3) (by show _ = o + i * 9 + 3; omega) rfl
      have z3 := hE.plain.frozen (o + i * 9 + 3)
      have q4 := hE.at_ (q := o + i * 9 + 4) (j := 4) (by show _ = o + i * 9 + 4; omega) rfl
      have z4 := hE.plain.frozen (o + i * 9 + 4)
      have q5 := hE.at_ (q := o + i * 9 + 5) (j := 5) (by show _ = o + i * 9 + 5; omega) rfl
      have z5 := hE.plain.frozen (o + i * 9 + 5)
      have q6 := hE.at_ (q := o + i * 9 + 6) (j := 6) (by show _ = o + i * 9 + 6; omega) rfl
      have z6 := hE.plain.frozen (o + i * 9 + 6)
      have q7 := hE.at_ (q := o + i * 9 + 7) (j := 7) (by show _ = o + i * 9 + 7; omega) rfl
      have z7 := hE.plain.frozen (o + i * 9 + 7)
      have q8 := hE.at_ (q := o + i * 9 + 8) (j := 8) (by show _ = o + i * 9 + 8; omega) rfl
      have z8 := hE.plain.frozen (o + i * 9 + 8)
      go_wp2_with fail
      clear q0 z0 q1 z1 q2 z2 q3 z3 q4 z4 q5 z5 q6 z6 q7 z7 q8 z8
      refine (markText_any (kk) _ (by omega) (by omega)).mono ?_
      rintro e w1 ⟨rfl, hb1⟩
      replace hE := hE.ext hb1
      replace hOpodlabels := hOpodlabels.ext hb1
      replace hOpodneeds := hOpodneeds.ext hb1
      replace hOpodtolerances := hOpodtolerances.ext hb1
      have q0 := hE.at_ (q := o + i * 9) (j := 0) (by show _ = o + i * 9 + 0; omega) rfl
      have z0 := hE.plain.frozen (o + i * 9)
      have q1 := hE.at_ (q := o + i * 9 + 1) (j := 1) (by show _ = o + i * 9 + 1; omega) rfl
      have z1 := hE.plain.frozen (o + i * 9 + 1)
      have q2 := hE.at_ (q := o + i * 9 + 2) (j := 2) (by show _ = o + i * 9 + 2; omega) rfl
      have z2 := hE.plain.frozen (o + i * 9 + 2)
      have q3 := hE.at_ (q := o + i * 9 + 3) (j := 3) (by show _ = o + i * 9 + 3; omega) rfl
      have z3 := hE.plain.frozen (o + i * 9 + 3)
      have q4 := hE.at_ (q := o + i * 9 + 4) (j := 4) (by show _ = o + i * 9 + 4; omega) rfl
      have z4 := hE.plain.frozen (o + i * 9 + 4)
      have q5 := hE.at_ (q := o + i * 9 + 5) (j := 5) (by show _ = o + i * 9 + 5; omega) rfl
      have z5 := hE.plain.frozen (o + i * 9 + 5)
      have q6 := hE.at_ (q := o + i * 9 + 6) (j := 6) (by show _ = o + i * 9 + 6; omega) rfl
      have z6 := hE.plain.frozen (o + i * 9 + 6)
      have q7 := hE.at_ (q := o + i * 9 + 7) (j := 7) (by show _ = o + i * 9 + 7; omega) rfl
      have z7 := hE.plain.frozen (o + i * 9 + 7)
      have q8 := hE.at_ (q := o + i * 9 + 8) (j := 8) (by show _ = o + i * 9 + 8; omega) rfl
      have z8 := hE.plain.frozen (o + i * 9 + 8)
      go_wp2_with fail
      clear q0 z0 q1 z1 q2 z2 q3 z3 q4 z4 q5 z5 q6 z6 q7 z7 q8 z8
      replace hE := hE.set (j := 0) (q := o + i * 9) (by simp) (by show _ = o + i * 9 + 0; omega) (.string (mtext (kk)))
      simp only [List.set_cons_zero, List.set_cons_succ] at hE
      replace hOpodlabels := hOpodlabels.setC (p := ⟨b, o + i * 9, none⟩) hbpodlabels (.string (mtext (kk)))
      replace hOpodneeds := hOpodneeds.setC (p := ⟨b, o + i * 9, none⟩) hbpodneeds (.string (mtext (kk)))
      replace hOpodtolerances := hOpodtolerances.setC (p := ⟨b, o + i * 9, none⟩) hbpodtolerances (.string (mtext (kk)))
      refine (markLabelS_any xs[i].pod.labels _ _ _ _ _ (kk + 1) _ hOpodlabels rfl (by omega) (by omega)).mono ?_
      rintro e w2 ⟨rfl, hNpodlabels, hUpodlabels⟩
      replace hE := hE.step hUpodlabels (fun y hy => by simp [hy]) hbpodlabels
      replace hOpodneeds := hUpodlabels.own hOpodneeds hdpodneeds_podlabels
      replace hOpodtolerances := hUpodlabels.own hOpodtolerances hdpodtolerances_podlabels
      replace hOpodlabels := hNpodlabels
      have q0 := hE.at_ (q := o + i * 9) (j := 0) (by show _ = o + i * 9 + 0; omega) rfl
      have z0 := hE.plain.frozen (o + i * 9)
      have q1 := hE.at_ (q := o + i * 9 + 1) (j := 1) (by show _ = o + i * 9 + 1; omega) rfl
      have z1 := hE.plain.frozen (o + i * 9 + 1)
      have q2 := hE.at_ (q := o + i * 9 + 2) (j := 2) (by show _ = o + i * 9 + 2; omega) rfl
      have z2 := hE.plain.frozen (o + i * 9 + 2)
      have q3 := hE.at_ (q := o + i * 9 + 3) (j := 3) (by show _ = o + i * 9 + 3; omega) rfl
      have z3 := hE.plain.frozen (o + i * 9 + 3)
      have q4 := hE.at_ (q := o + i * 9 + 4) (j := 4) (by show _ = o + i * 9 + 4; omega) rfl
      have z4 := hE.plain.frozen (o + i * 9 + 4)
      have q5 := hE.at_ (q := o + i * 9 + 5) (j := 5) (by show _ = o + i * 9 + 5; omega) rfl
      have z5 := hE.plain.frozen (o + i * 9 + 5)
      have q6 := hE.at_ (q := o + i * 9 + 6) (j := 6) (by show _ = o + i * 9 + 6; omega) rfl
      have z6 := hE.plain.frozen (o + i * 9 + 6)
      have q7 := hE.at_ (q := o + i * 9 + 7) (j := 7) (by show _ = o + i * 9 + 7; omega) rfl
      have z7 := hE.plain.frozen (o + i * 9 + 7)
      have q8 := hE.at_ (q := o + i * 9 + 8) (j := 8) (by show _ = o + i * 9 + 8; omega) rfl
      have z8 := hE.plain.frozen (o + i * 9 + 8)
      go_wp2_with fail
      clear q0 z0 q1 z1 q2 z2 q3 z3 q4 z4 q5 z5 q6 z6 q7 z7 q8 z8
      replace hE := hE.set (j := 2) (q := o + i * 9 + 2) (by simp) (by show _ = o + i * 9 + 2; omega) (.int .i64 (kk + 1 + (cntL cntLabel xs[i].pod.labels : Int)))
      simp only [List.set_cons_zero, List.set_cons_succ] at hE
      replace hOpodlabels := hOpodlabels.setC (p := ⟨b, o + i * 9 + 2, none⟩) hbpodlabels (.int .i64 (kk + 1 + (cntL cntLabel xs[i].pod.labels : Int)))
      replace hOpodneeds := hOpodneeds.setC (p := ⟨b, o + i * 9 + 2, none⟩) hbpodneeds (.int .i64 (kk + 1 + (cntL cntLabel xs[i].pod.labels : Int)))
      replace hOpodtolerances := hOpodtolerances.setC (p := ⟨b, o + i * 9 + 2, none⟩) hbpodtolerances (.int .i64 (kk + 1 + (cntL cntLabel xs[i].pod.labels : Int)))
      replace hE := hE.set (j := 3) (q := o + i * 9 + 3) (by simp) (by show _ = o + i * 9 + 3; omega) (.int .i64 (kk + 1 + (cntL cntLabel xs[i].pod.labels : Int) + 1))
      simp only [List.set_cons_zero, List.set_cons_succ] at hE
      replace hOpodlabels := hOpodlabels.setC (p := ⟨b, o + i * 9 + 3, none⟩) hbpodlabels (.int .i64 (kk + 1 + (cntL cntLabel xs[i].pod.labels : Int) + 1))
      replace hOpodneeds := hOpodneeds.setC (p := ⟨b, o + i * 9 + 3, none⟩) hbpodneeds (.int .i64 (kk + 1 + (cntL cntLabel xs[i].pod.labels : Int) + 1))
      replace hOpodtolerances := hOpodtolerances.setC (p := ⟨b, o + i * 9 + 3, none⟩) hbpodtolerances (.int .i64 (kk + 1 + (cntL cntLabel xs[i].pod.labels : Int) + 1))
      replace hE := hE.set (j := 4) (q := o + i * 9 + 4) (by simp) (by show _ = o + i * 9 + 4; omega) (.int .i64 (kk + 1 + (cntL cntLabel xs[i].pod.labels : Int) + 1 + 1))
      simp only [List.set_cons_zero, List.set_cons_succ] at hE
      replace hOpodlabels := hOpodlabels.setC (p := ⟨b, o + i * 9 + 4, none⟩) hbpodlabels (.int .i64 (kk + 1 + (cntL cntLabel xs[i].pod.labels : Int) + 1 + 1))
      replace hOpodneeds := hOpodneeds.setC (p := ⟨b, o + i * 9 + 4, none⟩) hbpodneeds (.int .i64 (kk + 1 + (cntL cntLabel xs[i].pod.labels : Int) + 1 + 1))
      replace hOpodtolerances := hOpodtolerances.setC (p := ⟨b, o + i * 9 + 4, none⟩) hbpodtolerances (.int .i64 (kk + 1 + (cntL cntLabel xs[i].pod.labels : Int) + 1 + 1))
      refine (markNeedS_any xs[i].pod.needs _ _ _ _ _ (kk + 1 + (cntL cntLabel xs[i].pod.labels : Int) + 1 + 1 + 1) _ hOpodneeds rfl (by omega) (by omega)).mono ?_
      rintro e w3 ⟨rfl, hNpodneeds, hUpodneeds⟩
      replace hE := hE.step hUpodneeds (fun y hy => by simp [hy]) hbpodneeds
      replace hOpodlabels := hUpodneeds.own hOpodlabels hdpodlabels_podneeds
      replace hOpodtolerances := hUpodneeds.own hOpodtolerances hdpodtolerances_podneeds
      replace hOpodneeds := hNpodneeds
      have q0 := hE.at_ (q := o + i * 9) (j := 0) (by show _ = o + i * 9 + 0; omega) rfl
      have z0 := hE.plain.frozen (o + i * 9)
      have q1 := hE.at_ (q := o + i * 9 + 1) (j := 1) (by show _ = o + i * 9 + 1; omega) rfl
      have z1 := hE.plain.frozen (o + i * 9 + 1)
      have q2 := hE.at_ (q := o + i * 9 + 2) (j := 2) (by show _ = o + i * 9 + 2; omega) rfl
      have z2 := hE.plain.frozen (o + i * 9 + 2)
      have q3 := hE.at_ (q := o + i * 9 + 3) (j := 3) (by show _ = o + i * 9 + 3; omega) rfl
      have z3 := hE.plain.frozen (o + i * 9 + 3)
      have q4 := hE.at_ (q := o + i * 9 + 4) (j := 4) (by show _ = o + i * 9 + 4; omega) rfl
      have z4 := hE.plain.frozen (o + i * 9 + 4)
      have q5 := hE.at_ (q := o + i * 9 + 5) (j := 5) (by show _ = o + i * 9 + 5; omega) rfl
      have z5 := hE.plain.frozen (o + i * 9 + 5)
      have q6 := hE.at_ (q := o + i * 9 + 6) (j := 6) (by show _ = o + i * 9 + 6; omega) rfl
      have z6 := hE.plain.frozen (o + i * 9 + 6)
      have q7 := hE.at_ (q := o + i * 9 + 7) (j := 7) (by show _ = o + i * 9 + 7; omega) rfl
      have z7 := hE.plain.frozen (o + i * 9 + 7)
      have q8 := hE.at_ (q := o + i * 9 + 8) (j := 8) (by show _ = o + i * 9 + 8; omega) rfl
      have z8 := hE.plain.frozen (o + i * 9 + 8)
      go_wp2_with fail
      clear q0 z0 q1 z1 q2 z2 q3 z3 q4 z4 q5 z5 q6 z6 q7 z7 q8 z8
      refine (markToleranceS_any xs[i].pod.tolerances _ _ _ _ _ (kk + 1 + (cntL cntLabel xs[i].pod.labels : Int) + 1 + 1 + 1 + (cntL cntNeed xs[i].pod.needs : Int)) _ hOpodtolerances rfl (by omega) (by omega)).mono ?_
      rintro e w4 ⟨rfl, hNpodtolerances, hUpodtolerances⟩
      replace hE := hE.step hUpodtolerances (fun y hy => by simp [hy]) hbpodtolerances
      replace hOpodlabels := hUpodtolerances.own hOpodlabels hdpodlabels_podtolerances
      replace hOpodneeds := hUpodtolerances.own hOpodneeds hdpodneeds_podtolerances
      replace hOpodtolerances := hNpodtolerances
      have q0 := hE.at_ (q := o + i * 9) (j := 0) (by show _ = o + i * 9 + 0; omega) rfl
      have z0 := hE.plain.frozen (o + i * 9)
      have q1 := hE.at_ (q := o + i * 9 + 1) (j := 1) (by show _ = o + i * 9 + 1; omega) rfl
      have z1 := hE.plain.frozen (o + i * 9 + 1)
      have q2 := hE.at_ (q := o + i * 9 + 2) (j := 2) (by show _ = o + i * 9 + 2; omega) rfl
      have z2 := hE.plain.frozen (o + i * 9 + 2)
      have q3 := hE.at_ (q := o + i * 9 + 3) (j := 3) (by show _ = o + i * 9 + 3; omega) rfl
      have z3 := hE.plain.frozen (o + i * 9 + 3)
      have q4 := hE.at_ (q := o + i * 9 + 4) (j := 4) (by show _ = o + i * 9 + 4; omega) rfl
      have z4 := hE.plain.frozen (o + i * 9 + 4)
      have q5 := hE.at_ (q := o + i * 9 + 5) (j := 5) (by show _ = o + i * 9 + 5; omega) rfl
      have z5 := hE.plain.frozen (o + i * 9 + 5)
      have q6 := hE.at_ (q := o + i * 9 + 6) (j := 6) (by show _ = o + i * 9 + 6; omega) rfl
      have z6 := hE.plain.frozen (o + i * 9 + 6)
      have q7 := hE.at_ (q := o + i * 9 + 7) (j := 7) (by show _ = o + i * 9 + 7; omega) rfl
      have z7 := hE.plain.frozen (o + i * 9 + 7)
      have q8 := hE.at_ (q := o + i * 9 + 8) (j := 8) (by show _ = o + i * 9 + 8; omega) rfl
      have z8 := hE.plain.frozen (o + i * 9 + 8)
      go_wp2_with fail
      clear q0 z0 q1 z1 q2 z2 q3 z3 q4 z4 q5 z5 q6 z6 q7 z7 q8 z8
      refine (markText_any (kk + 1 + (cntL cntLabel xs[i].pod.labels : Int) + 1 + 1 + 1 + (cntL cntNeed xs[i].pod.needs : Int) + (cntL cntTolerance xs[i].pod.tolerances : Int)) _ (by omega) (by omega)).mono ?_
      rintro e w5 ⟨rfl, hb5⟩
      replace hE := hE.ext hb5
      replace hOpodlabels := hOpodlabels.ext hb5
      replace hOpodneeds := hOpodneeds.ext hb5
      replace hOpodtolerances := hOpodtolerances.ext hb5
      have q0 := hE.at_ (q := o + i * 9) (j := 0) (by show _ = o + i * 9 + 0; omega) rfl
      have z0 := hE.plain.frozen (o + i * 9)
      have q1 := hE.at_ (q := o + i * 9 + 1) (j := 1) (by show _ = o + i * 9 + 1; omega) rfl
      have z1 := hE.plain.frozen (o + i * 9 + 1)
      have q2 := hE.at_ (q := o + i * 9 + 2) (j := 2) (by show _ = o + i * 9 + 2; omega) rfl
      have z2 := hE.plain.frozen (o + i * 9 + 2)
      have q3 := hE.at_ (q := o + i * 9 + 3) (j := 3) (by show _ = o + i * 9 + 3; omega) rfl
      have z3 := hE.plain.frozen (o + i * 9 + 3)
      have q4 := hE.at_ (q := o + i * 9 + 4) (j := 4) (by show _ = o + i * 9 + 4; omega) rfl
      have z4 := hE.plain.frozen (o + i * 9 + 4)
      have q5 := hE.at_ (q := o + i * 9 + 5) (j := 5) (by show _ = o + i * 9 + 5; omega) rfl
      have z5 := hE.plain.frozen (o + i * 9 + 5)
      have q6 := hE.at_ (q := o + i * 9 + 6) (j := 6) (by show _ = o + i * 9 + 6; omega) rfl
      have z6 := hE.plain.frozen (o + i * 9 + 6)
      have q7 := hE.at_ (q := o + i * 9 + 7) (j := 7) (by show _ = o + i * 9 + 7; omega) rfl
      have z7 := hE.plain.frozen (o + i * 9 + 7)
      have q8 := hE.at_ (q := o + i * 9 + 8) (j := 8) (by show _ = o + i * 9 + 8; omega) rfl
      have z8 := hE.plain.frozen (o + i * 9 + 8)
      go_wp2_with fail
      clear q0 z0 q1 z1 q2 z2 q3 z3 q4 z4 q5 z5 q6 z6 q7 z7 q8 z8
      replace hE := hE.set (j := 7) (q := o + i * 9 + 7) (by simp) (by show _ = o + i * 9 + 7; omega) (.string (mtext (kk + 1 + (cntL cntLabel xs[i].pod.labels : Int) + 1 + 1 + 1 + (cntL cntNeed xs[i].pod.needs : Int) + (cntL cntTolerance xs[i].pod.tolerances : Int))))
      simp only [List.set_cons_zero, List.set_cons_succ] at hE
      replace hOpodlabels := hOpodlabels.setC (p := ⟨b, o + i * 9 + 7, none⟩) hbpodlabels (.string (mtext (kk + 1 + (cntL cntLabel xs[i].pod.labels : Int) + 1 + 1 + 1 + (cntL cntNeed xs[i].pod.needs : Int) + (cntL cntTolerance xs[i].pod.tolerances : Int))))
      replace hOpodneeds := hOpodneeds.setC (p := ⟨b, o + i * 9 + 7, none⟩) hbpodneeds (.string (mtext (kk + 1 + (cntL cntLabel xs[i].pod.labels : Int) + 1 + 1 + 1 + (cntL cntNeed xs[i].pod.needs : Int) + (cntL cntTolerance xs[i].pod.tolerances : Int))))
      replace hOpodtolerances := hOpodtolerances.setC (p := ⟨b, o + i * 9 + 7, none⟩) hbpodtolerances (.string (mtext (kk + 1 + (cntL cntLabel xs[i].pod.labels : Int) + 1 + 1 + 1 + (cntL cntNeed xs[i].pod.needs : Int) + (cntL cntTolerance xs[i].pod.tolerances : Int))))
      replace hE := hE.set (j := 8) (q := o + i * 9 + 8) (by simp) (by show _ = o + i * 9 + 8; omega) (.int .i64 (kk + 1 + (cntL cntLabel xs[i].pod.labels : Int) + 1 + 1 + 1 + (cntL cntNeed xs[i].pod.needs : Int) + (cntL cntTolerance xs[i].pod.tolerances : Int) + 1))
      simp only [List.set_cons_zero, List.set_cons_succ] at hE
      replace hOpodlabels := hOpodlabels.setC (p := ⟨b, o + i * 9 + 8, none⟩) hbpodlabels (.int .i64 (kk + 1 + (cntL cntLabel xs[i].pod.labels : Int) + 1 + 1 + 1 + (cntL cntNeed xs[i].pod.needs : Int) + (cntL cntTolerance xs[i].pod.tolerances : Int) + 1))
      replace hOpodneeds := hOpodneeds.setC (p := ⟨b, o + i * 9 + 8, none⟩) hbpodneeds (.int .i64 (kk + 1 + (cntL cntLabel xs[i].pod.labels : Int) + 1 + 1 + 1 + (cntL cntNeed xs[i].pod.needs : Int) + (cntL cntTolerance xs[i].pod.tolerances : Int) + 1))
      replace hOpodtolerances := hOpodtolerances.setC (p := ⟨b, o + i * 9 + 8, none⟩) hbpodtolerances (.int .i64 (kk + 1 + (cntL cntLabel xs[i].pod.labels : Int) + 1 + 1 + 1 + (cntL cntNeed xs[i].pod.needs : Int) + (cntL cntTolerance xs[i].pod.tolerances : Int) + 1))
      have hP := hcl _ (mkPlaced xs[i] kk) _ ⟨(by have := (rd_pair ((rd_pair (rdStr ((w5.setCell ⟨b, o + i * 9 + 7, none⟩ (.string (mtext (kk + 1 + (cntL cntLabel xs[i].pod.labels : Int) + 1 + 1 + 1 + (cntL cntNeed xs[i].pod.needs : Int) + (cntL cntTolerance xs[i].pod.tolerances : Int))))).setCell ⟨b, o + i * 9 + 8, none⟩ (.int .i64 (kk + 1 + (cntL cntLabel xs[i].pod.labels : Int) + 1 + 1 + 1 + (cntL cntNeed xs[i].pod.needs : Int) + (cntL cntTolerance xs[i].pod.tolerances : Int) + 1))) (mtext (kk)) (mtext63 (by omega))) (rd_pair (hOpodlabels.rd) (rd_pair (rdInt ((w5.setCell ⟨b, o + i * 9 + 7, none⟩ (.string (mtext (kk + 1 + (cntL cntLabel xs[i].pod.labels : Int) + 1 + 1 + 1 + (cntL cntNeed xs[i].pod.needs : Int) + (cntL cntTolerance xs[i].pod.tolerances : Int))))).setCell ⟨b, o + i * 9 + 8, none⟩ (.int .i64 (kk + 1 + (cntL cntLabel xs[i].pod.labels : Int) + 1 + 1 + 1 + (cntL cntNeed xs[i].pod.needs : Int) + (cntL cntTolerance xs[i].pod.tolerances : Int) + 1))) ((kk + 1 + (cntL cntLabel xs[i].pod.labels : Int))) (by unfold I64; omega)) (rd_pair (rdInt ((w5.setCell ⟨b, o + i * 9 + 7, none⟩ (.string (mtext (kk + 1 + (cntL cntLabel xs[i].pod.labels : Int) + 1 + 1 + 1 + (cntL cntNeed xs[i].pod.needs : Int) + (cntL cntTolerance xs[i].pod.tolerances : Int))))).setCell ⟨b, o + i * 9 + 8, none⟩ (.int .i64 (kk + 1 + (cntL cntLabel xs[i].pod.labels : Int) + 1 + 1 + 1 + (cntL cntNeed xs[i].pod.needs : Int) + (cntL cntTolerance xs[i].pod.tolerances : Int) + 1))) ((kk + 1 + (cntL cntLabel xs[i].pod.labels : Int) + 1)) (by unfold I64; omega)) (rd_pair (rdInt ((w5.setCell ⟨b, o + i * 9 + 7, none⟩ (.string (mtext (kk + 1 + (cntL cntLabel xs[i].pod.labels : Int) + 1 + 1 + 1 + (cntL cntNeed xs[i].pod.needs : Int) + (cntL cntTolerance xs[i].pod.tolerances : Int))))).setCell ⟨b, o + i * 9 + 8, none⟩ (.int .i64 (kk + 1 + (cntL cntLabel xs[i].pod.labels : Int) + 1 + 1 + 1 + (cntL cntNeed xs[i].pod.needs : Int) + (cntL cntTolerance xs[i].pod.tolerances : Int) + 1))) ((kk + 1 + (cntL cntLabel xs[i].pod.labels : Int) + 1 + 1)) (by unfold I64; omega)) (rd_pair (hOpodneeds.rd) (hOpodtolerances.rd)))))))) (rd_pair (rdStr ((w5.setCell ⟨b, o + i * 9 + 7, none⟩ (.string (mtext (kk + 1 + (cntL cntLabel xs[i].pod.labels : Int) + 1 + 1 + 1 + (cntL cntNeed xs[i].pod.needs : Int) + (cntL cntTolerance xs[i].pod.tolerances : Int))))).setCell ⟨b, o + i * 9 + 8, none⟩ (.int .i64 (kk + 1 + (cntL cntLabel xs[i].pod.labels : Int) + 1 + 1 + 1 + (cntL cntNeed xs[i].pod.needs : Int) + (cntL cntTolerance xs[i].pod.tolerances : Int) + 1))) (mtext (kk + 1 + (cntL cntLabel xs[i].pod.labels : Int) + 1 + 1 + 1 + (cntL cntNeed xs[i].pod.needs : Int) + (cntL cntTolerance xs[i].pod.tolerances : Int))) (mtext63 (by omega))) (rdInt ((w5.setCell ⟨b, o + i * 9 + 7, none⟩ (.string (mtext (kk + 1 + (cntL cntLabel xs[i].pod.labels : Int) + 1 + 1 + 1 + (cntL cntNeed xs[i].pod.needs : Int) + (cntL cntTolerance xs[i].pod.tolerances : Int))))).setCell ⟨b, o + i * 9 + 8, none⟩ (.int .i64 (kk + 1 + (cntL cntLabel xs[i].pod.labels : Int) + 1 + 1 + 1 + (cntL cntNeed xs[i].pod.needs : Int) + (cntL cntTolerance xs[i].pod.tolerances : Int) + 1))) ((kk + 1 + (cntL cntLabel xs[i].pod.labels : Int) + 1 + 1 + 1 + (cntL cntNeed xs[i].pod.needs : Int) + (cntL cntTolerance xs[i].pod.tolerances : Int) + 1)) (by unfold I64; omega)))); simp only [List.nil_append, List.append_nil, List.append_assoc, List.cons_append] at this; exact this), hOe.nodup, hOe.base, (by intro y hy; (try simp only [List.mem_append] at hy); rcases hy with hy | hy | hy <;> first | exact hOpodlabels.plain y hy | exact hOpodneeds.plain y hy | exact hOpodtolerances.plain y hy)⟩ hE
      have hU := hu.trans (hE.upd.mono (G := F) (fun y hy => by rcases List.mem_cons.1 hy with rfl | hy; exact hbF; exact hsub y hy))
      have hset : (mkUp mkPlaced cntPlaced xs k i).set i (mkPlaced xs[i] kk) = mkUp mkPlaced cntPlaced xs k (i + 1) := by rw [← hkk]; exact mkUp_set hlt
      rw [hset] at hP
      refine ⟨⟨i + 1, by omega, by go_num, ?_, hP, hU⟩, by simp [intOf]; omega⟩
      rw [hsuc]; simp only [cntPlaced]; congr 1; push_cast; omega
    · have hkl : i = xs.length := by omega
      subst hkl
      go_wp2
      go_ret
      rw [mkUp_full] at hO
      simp only [List.take_length]
      exact ⟨rfl, hO, hu⟩
end Go.Proofs.Ytjoclfenghenjaa

namespace Go.Proofs.Ytjoclfenghenjaa
open Go.ChangeShapes Go.WideShapes Go.ChangeAt Go.RowKit
set_option linter.unusedVariables false
set_option linter.unusedSimpArgs false

theorem cntPlaced_mk (x : Placed) (k : Int) : cntPlaced (mkPlaced x k) = cntPlaced x := by simp [cntPlaced, mkPlaced, cntL_mkL cntLabel_mk, cntL_mkL cntNeed_mk, cntL_mkL cntTolerance_mk]
theorem mkPlaced_idem (x : Placed) (k : Int) : mkPlaced (mkPlaced x k) k = mkPlaced x k := by simp [mkPlaced, mkL_idem cntLabel_mk mkLabel_idem, mkL_idem cntNeed_mk mkNeed_idem, mkL_idem cntTolerance_mk mkTolerance_idem, cntL_mkL cntLabel_mk, cntL_mkL cntNeed_mk, cntL_mkL cntTolerance_mk]
end Go.Proofs.Ytjoclfenghenjaa

namespace Go.Proofs.Ytjoclfenghenjaa
open Go.ChangeShapes Go.WideShapes Go.ChangeAt Go.RowKit
set_option linter.unusedVariables false
set_option linter.unusedSimpArgs false

theorem cntPlaced_le (x : Placed) : cntPlaced x ≤ 6 * (x.wt + 1) := by
  have h0 := cntL_wt cntLabel_le x.pod.labels
  have h1 := cntL_wt cntNeed_le x.pod.needs
  have h2 := cntL_wt cntTolerance_le x.pod.tolerances
  simp only [cntPlaced, wtS, Placed.wt, Pod.wt] at *
  omega
end Go.Proofs.Ytjoclfenghenjaa
