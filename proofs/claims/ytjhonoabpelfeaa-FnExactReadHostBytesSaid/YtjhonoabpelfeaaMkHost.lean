/- Marks on Host. -/
import Derived.Test.YtjhonoabpelfeaaMkLabel
import Derived.Test.YtjhonoabpelfeaaMkTaint
namespace Go.Proofs.Ytjhonoabpelfeaa
open Go.ChangeShapes Go.WideShapes Go.ChangeAt Go.RowKit
set_option linter.unusedVariables false
set_option linter.unusedSimpArgs false

def mkHost (x : Host) (k : Int) : Host := { name := mtext (k), labels := mkL mkLabel cntLabel x.labels (k + 1), cpu := (k + 1 + (cntL cntLabel x.labels : Int)), mem := (k + 1 + (cntL cntLabel x.labels : Int) + 1), slots := (k + 1 + (cntL cntLabel x.labels : Int) + 1 + 1), taints := mkL mkTaint cntTaint x.taints (k + 1 + (cntL cntLabel x.labels : Int) + 1 + 1 + 1) }
def cntHost (x : Host) : Nat := 1 + cntL cntLabel x.labels + 1 + 1 + 1 + cntL cntTaint x.taints
set_option maxRecDepth 100000 in
set_option maxHeartbeats 2000000 in
theorem markHostS_any (xs : List Host) (A : Option Addr) (n c : Nat) (F : List Nat) (B : Nat) (k : Int) (w : World) (h : Own w B xs [.slice A n c] F) (hn : n = xs.length) (hk0 : 0 ≤ k) (hk : k + cntL cntHost xs ≤ 1073741823) :
    Calls Try.prog 57 #[.slice A n c, .int .i64 k] w fun e w' => e = .returned (.int .i64 (k + cntL cntHost xs)) ∧ Own w' B (mkL mkHost cntHost xs k) [.slice A n c] F ∧ Upd F w w' := by
  subst hn
  have hlen := own_len h
  go_enter Try.func57, Try.ntmps57
  go_wp2_with fail
  go_loopw [1, 5] (fun x y wr => ∃ (i : Nat), i ≤ xs.length ∧ y = .int .i64 i ∧ x = .int .i64 (k + cntL cntHost (xs.take i)) ∧ Own wr B (mkUp mkHost cntHost xs k i) [.slice A xs.length c] F ∧ Upd F w wr) (fun _ y _ => xs.length - (intOf y).toNat)
  case atStart => exact ⟨0, Nat.zero_le _, rfl, by simp [cntL], by rw [mkUp_zero]; exact h, .refl _ _⟩
  case round =>
    obtain ⟨i, hi, rfl, rfl, hO, hu⟩ := hrel
    by_cases hlt : i < xs.length
    · have hle : (cntL cntHost (xs.take i) : Int) + cntHost xs[i] ≤ cntL cntHost xs := by have := cntL_succ (cnt := cntHost) hlt; have := cntL_le (cnt := cntHost) xs (i + 1); omega
      have hsuc := cntL_succ (cnt := cntHost) hlt
      obtain ⟨b, o, ck, Fk, rfl, hbF, hsub, hbk, hOe, hE, hcl⟩ := hO.elt (k := i) (by rw [mkUp_len hi]; exact hlt)
      rw [mkUp_get hlt] at hOe
      have hRe := hOe.rd
      obtain ⟨Alabels, clabels, Flabels, Ataints, ctaints, Ftaints, hck, hFk, hname, hlabels, hcpu, hmem, hslots, htaints⟩ := rd_Host hRe
      clear hRe
      subst hck hFk
      have hnd := hOe.nodup
      simp only [List.nodup_append, List.mem_append] at hnd
      have hdlabels_taints : ∀ y ∈ Flabels, y ∉ Ftaints := fun y ha hb => hnd.2.2 y ha y hb rfl
      have hdtaints_labels : ∀ y ∈ Ftaints, y ∉ Flabels := fun y hb ha => hnd.2.2 y ha y hb rfl
      have hOlabels : Own wr B xs[i].labels [.slice Alabels xs[i].labels.length clabels] Flabels := ⟨hlabels, hnd.1, fun y hy => hOe.base y (by simp [hy]), fun y hy => hOe.plain y (by simp [hy])⟩
      have hblabels : b ∉ Flabels := fun hb => hbk (by simp [hb])
      have hOtaints : Own wr B xs[i].taints [.slice Ataints xs[i].taints.length ctaints] Ftaints := ⟨htaints, hnd.2.1, fun y hy => hOe.base y (by simp [hy]), fun y hy => hOe.plain y (by simp [hy])⟩
      have hbtaints : b ∉ Ftaints := fun hb => hbk (by simp [hb])
      generalize hkk : k + (cntL cntHost (xs.take i) : Int) = kk
      have hkk0 : 0 ≤ kk := by omega
      have hkk1 : kk + cntHost xs[i] ≤ 1073741823 := by omega
      simp only [cntHost] at hkk1
      push_cast at hkk1
      clear hO
      have q0 := hE.at_ (q := o + i * 6) (j := 0) (by show _ = o + i * 6 + 0; omega) rfl
      have z0 := hE.plain.frozen (o + i * 6)
      have q1 := hE.at_ (q := o + i * 6 + 1) (j := 1) (by show _ = o + i * 6 + 1; omega) rfl
      have z1 := hE.plain.frozen (o + i * 6 + 1)
      have q2 := hE.at_ (q := o + i * 6 + 2) (j := 2) (by show _ = o + i * 6 + 2; omega) rfl
      have z2 := hE.plain.frozen (o + i * 6 + 2)
      have q3 := hE.at_ (q := o + i * 6 + 3) (j := 3) (by show _ = o + i * 6 + 3; omega) rfl
      have z3 := hE.plain.frozen (o + i * 6 + 3)
      have q4 := hE.at_ (q := o + i * 6 + 4) (j := 4) (by show _ = o + i * 6 + 4; omega) rfl
      have z4 := hE.plain.frozen (o + i * 6 + 4)
      have q5 := hE.at_ (q := o + i * 6 + 5) (j := 5) (by show _ = o + i * 6 + 5; omega) rfl
      have z5 := hE.plain.frozen (o + i * 6 + 5)
      go_wp2_with fail
      clear q0 z0 q1 z1 q2 z2 q3 z3 q4 z4 q5 z5
      refine (markText_any (kk) _ (by omega) (by omega)).mono ?_
      rintro e w1 ⟨rfl, hb1⟩
      replace hE := hE.ext hb1
      replace hOlabels := hOlabels.ext hb1
      replace hOtaints := hOtaints.ext hb1
      have q0 := hE.at_ (q := o + i * 6) (j := 0) (by show _ = o + i * 6 + 0; omega) rfl
      have z0 := hE.plain.frozen (o + i * 6)
      have q1 := hE.at_ (q := o + i * 6 + 1) (j := 1) (by show _ = o + i * 6 + 1; omega) rfl
      have z1 := hE.plain.frozen (o + i * 6 + 1)
      have q2 := hE.at_ (q := o + i * 6 + 2) (j := 2) (by show _ = o + i * 6 + 2; omega) rfl
      have z2 := hE.plain.frozen (o + i * 6 + 2)
      have q3 := hE.at_ (q := o + i * 6 + 3) (j := 3) (by show _ = o + i * 6 + 3; omega) rfl
      have z3 := hE.plain.frozen (o + i * 6 + 3)
      have q4 := hE.at_ (q := o + i * 6 + 4) (j := 4) (by show _ = o + i * 6 + 4; omega) rfl
      have z4 := hE.plain.frozen (o + i * 6 + 4)
      have q5 := hE.at_ (q := o + i * 6 + 5) (j := 5) (by show _ = o + i * 6 + 5; omega) rfl
      have z5 := hE.plain.frozen (o + i * 6 + 5)
      go_wp2_with fail
      clear q0 z0 q1 z1 q2 z2 q3 z3 q4 z4 q5 z5
      replace hE := hE.set (j := 0) (q := o + i * 6) (by simp) (by show _ = o + i * 6 + 0; omega) (.string (mtext (kk)))
      simp only [List.set_cons_zero, List.set_cons_succ] at hE
      replace hOlabels := hOlabels.setC (p := ⟨b, o + i * 6, none⟩) hblabels (.string (mtext (kk)))
      replace hOtaints := hOtaints.setC (p := ⟨b, o + i * 6, none⟩) hbtaints (.string (mtext (kk)))
      refine (markLabelS_any xs[i].labels _ _ _ _ _ (kk + 1) _ hOlabels rfl (by omega) (by omega)).mono ?_
      rintro e w2 ⟨rfl, hNlabels, hUlabels⟩
      replace hE := hE.step hUlabels (fun y hy => by simp [hy]) hblabels
      replace hOtaints := hUlabels.own hOtaints hdtaints_labels
      replace hOlabels := hNlabels
      have q0 := hE.at_ (q := o + i * 6) (j := 0) (by show _ = o + i * 6 + 0; omega) rfl
      have z0 := hE.plain.frozen (o + i * 6)
      have q1 := hE.at_ (q := o + i * 6 + 1) (j := 1) (by show _ = o + i * 6 + 1; omega) rfl
      have z1 := hE.plain.frozen (o + i * 6 + 1)
      have q2 := hE.at_ (q := o + i * 6 + 2) (j := 2) (by show _ = o + i * 6 + 2; omega) rfl
      have z2 := hE.plain.frozen (o + i * 6 + 2)
      have q3 := hE.at_ (q := o + i * 6 + 3) (j := 3) (by show _ = o + i * 6 + 3; omega) rfl
      have z3 := hE.plain.frozen (o + i * 6 + 3)
      have q4 := hE.at_ (q := o + i * 6 + 4) (j := 4) (by show _ = o + i * 6 + 4; omega) rfl
      have z4 := hE.plain.frozen (o + i * 6 + 4)
      have q5 := hE.at_ (q := o + i * 6 + 5) (j := 5) (by show _ = o + i * 6 + 5; omega) rfl
      have z5 := hE.plain.frozen (o + i * 6 + 5)
      go_wp2_with fail
      clear q0 z0 q1 z1 q2 z2 q3 z3 q4 z4 q5 z5
      replace hE := hE.set (j := 2) (q := o + i * 6 + 2) (by simp) (by show _ = o + i * 6 + 2; omega) (.int .i64 (kk + 1 + (cntL cntLabel xs[i].labels : Int)))
      simp only [List.set_cons_zero, List.set_cons_succ] at hE
      replace hOlabels := hOlabels.setC (p := ⟨b, o + i * 6 + 2, none⟩) hblabels (.int .i64 (kk + 1 + (cntL cntLabel xs[i].labels : Int)))
      replace hOtaints := hOtaints.setC (p := ⟨b, o + i * 6 + 2, none⟩) hbtaints (.int .i64 (kk + 1 + (cntL cntLabel xs[i].labels : Int)))
      replace hE := hE.set (j := 3) (q := o + i * 6 + 3) (by simp) (by show _ = o + i * 6 + 3; omega) (.int .i64 (kk + 1 + (cntL cntLabel xs[i].labels : Int) + 1))
      simp only [List.set_cons_zero, List.set_cons_succ] at hE
      replace hOlabels := hOlabels.setC (p := ⟨b, o + i * 6 + 3, none⟩) hblabels (.int .i64 (kk + 1 + (cntL cntLabel xs[i].labels : Int) + 1))
      replace hOtaints := hOtaints.setC (p := ⟨b, o + i * 6 + 3, none⟩) hbtaints (.int .i64 (kk + 1 + (cntL cntLabel xs[i].labels : Int) + 1))
      replace hE := hE.set (j := 4) (q := o + i * 6 + 4) (by simp) (by show _ = o + i * 6 + 4; omega) (.int .i64 (kk + 1 + (cntL cntLabel xs[i].labels : Int) + 1 + 1))
      simp only [List.set_cons_zero, List.set_cons_succ] at hE
      replace hOlabels := hOlabels.setC (p := ⟨b, o + i * 6 + 4, none⟩) hblabels (.int .i64 (kk + 1 + (cntL cntLabel xs[i].labels : Int) + 1 + 1))
      replace hOtaints := hOtaints.setC (p := ⟨b, o + i * 6 + 4, none⟩) hbtaints (.int .i64 (kk + 1 + (cntL cntLabel xs[i].labels : Int) + 1 + 1))
      refine (markTaintS_any xs[i].taints _ _ _ _ _ (kk + 1 + (cntL cntLabel xs[i].labels : Int) + 1 + 1 + 1) _ hOtaints rfl (by omega) (by omega)).mono ?_
      rintro e w3 ⟨rfl, hNtaints, hUtaints⟩
      replace hE := hE.step hUtaints (fun y hy => by simp [hy]) hbtaints
      replace hOlabels := hUtaints.own hOlabels hdlabels_taints
      replace hOtaints := hNtaints
      have q0 := hE.at_ (q := o + i * 6) (j := 0) (by show _ = o + i * 6 + 0; omega) rfl
      have z0 := hE.plain.frozen (o + i * 6)
      have q1 := hE.at_ (q := o + i * 6 + 1) (j := 1) (by show _ = o + i * 6 + 1; omega) rfl
      have z1 := hE.plain.frozen (o + i * 6 + 1)
      have q2 := hE.at_ (q := o + i * 6 + 2) (j := 2) (by show _ = o + i * 6 + 2; omega) rfl
      have z2 := hE.plain.frozen (o + i * 6 + 2)
      have q3 := hE.at_ (q := o + i * 6 + 3) (j := 3) (by show _ = o + i * 6 + 3; omega) rfl
      have z3 := hE.plain.frozen (o + i * 6 + 3)
      have q4 := hE.at_ (q := o + i * 6 + 4) (j := 4) (by show _ = o + i * 6 + 4; omega) rfl
      have z4 := hE.plain.frozen (o + i * 6 + 4)
      have q5 := hE.at_ (q := o + i * 6 + 5) (j := 5) (by show _ = o + i * 6 + 5; omega) rfl
      have z5 := hE.plain.frozen (o + i * 6 + 5)
      go_wp2_with fail
      clear q0 z0 q1 z1 q2 z2 q3 z3 q4 z4 q5 z5
      have hP := hcl _ (mkHost xs[i] kk) _ ⟨(by have := (rd_pair (rdStr w3 (mtext (kk)) (mtext63 (by omega))) (rd_pair (hOlabels.rd) (rd_pair (rdInt w3 ((kk + 1 + (cntL cntLabel xs[i].labels : Int))) (by unfold I64; omega)) (rd_pair (rdInt w3 ((kk + 1 + (cntL cntLabel xs[i].labels : Int) + 1)) (by unfold I64; omega)) (rd_pair (rdInt w3 ((kk + 1 + (cntL cntLabel xs[i].labels : Int) + 1 + 1)) (by unfold I64; omega)) (hOtaints.rd)))))); simp only [List.nil_append, List.append_nil, List.append_assoc, List.cons_append] at this; exact this), hOe.nodup, hOe.base, (by intro y hy; (try simp only [List.mem_append] at hy); rcases hy with hy | hy <;> first | exact hOlabels.plain y hy | exact hOtaints.plain y hy)⟩ hE
      have hU := hu.trans (hE.upd.mono (G := F) (fun y hy => by rcases List.mem_cons.1 hy with rfl | hy; exact hbF; exact hsub y hy))
      have hset : (mkUp mkHost cntHost xs k i).set i (mkHost xs[i] kk) = mkUp mkHost cntHost xs k (i + 1) := by rw [← hkk]; exact mkUp_set hlt
      rw [hset] at hP
      refine ⟨⟨i + 1, by omega, by go_num, ?_, hP, hU⟩, by simp [intOf]; omega⟩
      rw [hsuc]; simp only [cntHost]; congr 1; push_cast; omega
    · have hkl : i = xs.length := by omega
      subst hkl
      go_wp2
      go_ret
      rw [mkUp_full] at hO
      simp only [List.take_length]
      exact ⟨rfl, hO, hu⟩
set_option maxRecDepth 100000 in
set_option maxHeartbeats 2000000 in
theorem heldHostS_any (xs : List Host) (A : Option Addr) (n c : Nat) (F : List Nat) (k : Int) (w : World) (h : rd w xs [.slice A n c] F) (hn : n = xs.length) (hm : mkL mkHost cntHost xs k = xs) (hk0 : 0 ≤ k) (hk : k + cntL cntHost xs ≤ 1073741823) :
    Calls Try.prog 59 #[.slice A n c, .int .i64 k] w fun e w' => e = .returned (.int .i64 (k + cntL cntHost xs)) ∧ Below w.heap.size w w' := by
  subst hn
  have hlen := rd_len h
  have HM := Lib.hid hm
  clear hm
  go_enter Try.func59, Try.ntmps59
  go_wp2_with fail
  go_loopw [1, 5] (fun x y wr => ∃ (i : Nat), i ≤ xs.length ∧ y = .int .i64 i ∧ x = .int .i64 (k + cntL cntHost (xs.take i)) ∧ Below w.heap.size w wr) (fun _ y _ => xs.length - (intOf y).toNat)
  case atStart => exact ⟨0, Nat.zero_le _, rfl, by simp [cntL], ext_refl _⟩
  case round =>
    obtain ⟨i, hi, rfl, rfl, hbl⟩ := hrel
    by_cases hlt : i < xs.length
    · have hle : (cntL cntHost (xs.take i) : Int) + cntHost xs[i] ≤ cntL cntHost xs := by have := cntL_succ (cnt := cntHost) hlt; have := cntL_le (cnt := cntHost) xs (i + 1); omega
      have hsuc := cntL_succ (cnt := cntHost) hlt
      have hfix := mkL_fix HM.out hlt
      obtain ⟨b, o, ck, Fk, rfl, hbF, hbs, hr, hsub, hc⟩ := (Sl.ext (w' := wr) (A := A) (c := c) h hbl).get hlt
      obtain ⟨Alabels, clabels, Flabels, Ataints, ctaints, Ftaints, hck, hFk, hname, hlabels, hcpu, hmem, hslots, htaints⟩ := rd_Host hr
      clear hr
      subst hck
      generalize hkk : k + (cntL cntHost (xs.take i) : Int) = kk at hfix ⊢
      have hkk0 : 0 ≤ kk := by omega
      have hkk1 : kk + cntHost xs[i] ≤ 1073741823 := by omega
      simp only [cntHost] at hkk1
      push_cast at hkk1
      have e0 : mtext (kk) = xs[i].name := congrArg (fun z : Host => z.name) hfix
      have q0 : wr.cell? ⟨b, o + i * 6, none⟩ = some (.string xs[i].name) := by have := hc 0 _ rfl; rwa [show o + (i * Dat.size Host + 0) = o + i * 6 from by show o + (i * 6 + 0) = _; omega] at this
      rw [← e0] at q0
      clear e0
      have e1 : mkL mkLabel cntLabel xs[i].labels (kk + 1) = xs[i].labels := congrArg (fun z : Host => z.labels) hfix
      have q1 : wr.cell? ⟨b, o + i * 6 + 1, none⟩ = some (.slice Alabels xs[i].labels.length clabels) := by have := hc 1 _ rfl; rwa [show o + (i * Dat.size Host + 1) = o + i * 6 + 1 from by show o + (i * 6 + 1) = _; omega] at this
      have e2 : (kk + 1 + (cntL cntLabel xs[i].labels : Int)) = xs[i].cpu := congrArg (fun z : Host => z.cpu) hfix
      have q2 : wr.cell? ⟨b, o + i * 6 + 2, none⟩ = some (.int .i64 xs[i].cpu) := by have := hc 2 _ rfl; rwa [show o + (i * Dat.size Host + 2) = o + i * 6 + 2 from by show o + (i * 6 + 2) = _; omega] at this
      rw [← e2] at q2
      clear e2
      have e3 : (kk + 1 + (cntL cntLabel xs[i].labels : Int) + 1) = xs[i].mem := congrArg (fun z : Host => z.mem) hfix
      have q3 : wr.cell? ⟨b, o + i * 6 + 3, none⟩ = some (.int .i64 xs[i].mem) := by have := hc 3 _ rfl; rwa [show o + (i * Dat.size Host + 3) = o + i * 6 + 3 from by show o + (i * 6 + 3) = _; omega] at this
      rw [← e3] at q3
      clear e3
      have e4 : (kk + 1 + (cntL cntLabel xs[i].labels : Int) + 1 + 1) = xs[i].slots := congrArg (fun z : Host => z.slots) hfix
      have q4 : wr.cell? ⟨b, o + i * 6 + 4, none⟩ = some (.int .i64 xs[i].slots) := by have := hc 4 _ rfl; rwa [show o + (i * Dat.size Host + 4) = o + i * 6 + 4 from by show o + (i * 6 + 4) = _; omega] at this
      rw [← e4] at q4
      clear e4
      have e5 : mkL mkTaint cntTaint xs[i].taints (kk + 1 + (cntL cntLabel xs[i].labels : Int) + 1 + 1 + 1) = xs[i].taints := congrArg (fun z : Host => z.taints) hfix
      have q5 : wr.cell? ⟨b, o + i * 6 + 5, none⟩ = some (.slice Ataints xs[i].taints.length ctaints) := by have := hc 5 _ rfl; rwa [show o + (i * Dat.size Host + 5) = o + i * 6 + 5 from by show o + (i * 6 + 5) = _; omega] at this
      clear hc hfix
      go_wp2_with fail
      refine wp_region_grow wr (by kernel_rfl) (by kernel_rfl) (ext_refl _) ?_
      repeat (first
        | (apply inText_skip
           case hw => rfl
           simp only [Act.put, List.setIfInBounds_toArray, List.set_cons_zero, List.set_cons_succ])
        | (apply inText_step
           case hw => rfl
           case h =>
             intro wq hq
             have hcq := (cls_cell hq).1
             have hfq := (cls_cell hq).2
             go_simp
             first
               | exact ⟨hq, rfl⟩
               | exact ⟨cls_alloc hq _, rfl⟩
               | (refine (markText_any (kk) _ (by omega) (by omega)).mono ?_; rintro e w2 ⟨rfl, hb2⟩; exact ⟨rfl, cls_trans hq hb2⟩)
               | (simp only [↓IntWalk.iteOmega]; exact ⟨hq, rfl⟩)
           simp only [Act.put, List.setIfInBounds_toArray, List.set_cons_zero, List.set_cons_succ]))
      refine inText_nil ?_
      intro wn1 hn1
      replace hn1 := hn1.out
      replace q0 := ((bcell hn1).1 b _ hbs).trans q0
      replace q1 := ((bcell hn1).1 b _ hbs).trans q1
      replace hlabels := Sl.ext hlabels hn1
      replace q2 := ((bcell hn1).1 b _ hbs).trans q2
      replace q3 := ((bcell hn1).1 b _ hbs).trans q3
      replace q4 := ((bcell hn1).1 b _ hbs).trans q4
      replace q5 := ((bcell hn1).1 b _ hbs).trans q5
      replace htaints := Sl.ext htaints hn1
      replace hbs := Nat.lt_of_lt_of_le hbs hn1.size
      replace hbl := ext_trans hbl hn1
      go_wp2_with fail
      refine (heldLabelS_any xs[i].labels _ _ _ _ (kk + 1) _ hlabels rfl e1 (by omega) (by omega)).mono ?_
      rintro e wn2 ⟨rfl, hn2⟩
      replace q0 := ((bcell hn2).1 b _ hbs).trans q0
      replace q1 := ((bcell hn2).1 b _ hbs).trans q1
      replace hlabels := Sl.ext hlabels hn2
      replace q2 := ((bcell hn2).1 b _ hbs).trans q2
      replace q3 := ((bcell hn2).1 b _ hbs).trans q3
      replace q4 := ((bcell hn2).1 b _ hbs).trans q4
      replace q5 := ((bcell hn2).1 b _ hbs).trans q5
      replace htaints := Sl.ext htaints hn2
      replace hbs := Nat.lt_of_lt_of_le hbs hn2.size
      replace hbl := ext_trans hbl hn2
      go_wp2_with fail
      refine (heldTaintS_any xs[i].taints _ _ _ _ (kk + 1 + (cntL cntLabel xs[i].labels : Int) + 1 + 1 + 1) _ htaints rfl e5 (by omega) (by omega)).mono ?_
      rintro e wn3 ⟨rfl, hn3⟩
      replace q0 := ((bcell hn3).1 b _ hbs).trans q0
      replace q1 := ((bcell hn3).1 b _ hbs).trans q1
      replace hlabels := Sl.ext hlabels hn3
      replace q2 := ((bcell hn3).1 b _ hbs).trans q2
      replace q3 := ((bcell hn3).1 b _ hbs).trans q3
      replace q4 := ((bcell hn3).1 b _ hbs).trans q4
      replace q5 := ((bcell hn3).1 b _ hbs).trans q5
      replace htaints := Sl.ext htaints hn3
      replace hbs := Nat.lt_of_lt_of_le hbs hn3.size
      replace hbl := ext_trans hbl hn3
      go_wp2
      refine ⟨⟨i + 1, by omega, by go_num, ?_, hbl⟩, by simp [intOf]; omega⟩
      rw [hsuc]; simp only [cntHost]; congr 1; push_cast; omega
    · have hkl : i = xs.length := by omega
      subst hkl
      go_wp2
      go_ret
      simp only [List.take_length]
      exact ⟨rfl, hbl⟩
end Go.Proofs.Ytjhonoabpelfeaa
