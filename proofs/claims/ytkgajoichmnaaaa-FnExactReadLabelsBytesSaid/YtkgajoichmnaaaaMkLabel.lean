/- Marks on Label. -/
import Derived.Test.YtkgajoichmnaaaaMkBase
import Derived.Test.YtkgajoichmnaaaaData
namespace Go.Proofs.Ytkgajoichmnaaaa
open Dat (rd)
open Go.ChangeShapes Go.WideShapes Go.ChangeAt Go.RowKit
set_option linter.unusedVariables false
set_option linter.unusedSimpArgs false

def mkLabel (x : Label) (k : Int) : Label := { key := mtext (k), value := mtext (k + 1) }
def cntLabel (x : Label) : Nat := 1 + 1
set_option maxRecDepth 100000 in
set_option maxHeartbeats 2000000 in
theorem markLabelS_any (xs : List Label) (A : Option Addr) (n c : Nat) (F : List Nat) (B : Nat) (k : Int) (w : World) (h : Own w B xs [.slice A n c] F) (hn : n = xs.length) (hk0 : 0 ≤ k) (hk : k + cntL cntLabel xs ≤ 1073741823) :
    Calls Try.prog 26 #[.slice A n c, .int .i64 k] w fun e w' => e = .returned (.int .i64 (k + cntL cntLabel xs)) ∧ Own w' B (mkL mkLabel cntLabel xs k) [.slice A n c] F ∧ Upd F w w' := by
  subst hn
  have hlen := own_len h
  go_enter Try.func26, Try.ntmps26
  go_wp2_with fail
  go_loopw [1, 5] (fun x y wr => ∃ (i : Nat), i ≤ xs.length ∧ y = .int .i64 i ∧ x = .int .i64 (k + cntL cntLabel (xs.take i)) ∧ Own wr B (mkUp mkLabel cntLabel xs k i) [.slice A xs.length c] F ∧ Upd F w wr) (fun _ y _ => xs.length - (intOf y).toNat)
  case atStart => exact ⟨0, Nat.zero_le _, rfl, by simp [cntL], by rw [mkUp_zero]; exact h, .refl _ _⟩
  case round =>
    obtain ⟨i, hi, rfl, rfl, hO, hu⟩ := hrel
    by_cases hlt : i < xs.length
    · have hle : (cntL cntLabel (xs.take i) : Int) + cntLabel xs[i] ≤ cntL cntLabel xs := by have := cntL_succ (cnt := cntLabel) hlt; have := cntL_le (cnt := cntLabel) xs (i + 1); omega
      have hsuc := cntL_succ (cnt := cntLabel) hlt
      obtain ⟨b, o, ck, Fk, rfl, hbF, hsub, hbk, hOe, hE, hcl⟩ := hO.elt (k := i) (by rw [mkUp_len hi]; exact hlt)
      rw [mkUp_get hlt] at hOe
      have hRe := hOe.rd
      obtain ⟨hck, hFk, hkey, hvalue⟩ := rd_Label hRe
      clear hRe
      subst hck hFk
      generalize hkk : k + (cntL cntLabel (xs.take i) : Int) = kk
      have hkk0 : 0 ≤ kk := by omega
      have hkk1 : kk + cntLabel xs[i] ≤ 1073741823 := by omega
      simp only [cntLabel] at hkk1
      push_cast at hkk1
      clear hO
      have q0 := hE.at_ (q := o + i * 2) (j := 0) (by show _ = o + i * 2 + 0; omega) rfl
      have z0 := hE.plain.frozen (o + i * 2)
      have q1 := hE.at_ (q := o + i * 2 + 1) (j := 1) (by show _ = o + i * 2 + 1; omega) rfl
      have z1 := hE.plain.frozen (o + i * 2 + 1)
      go_wp2_with fail
      clear q0 z0 q1 z1
      refine (markText_any (kk) _ (by omega) (by omega)).mono ?_
      rintro e w1 ⟨rfl, hb1⟩
      replace hE := hE.ext hb1
      have q0 := hE.at_ (q := o + i * 2) (j := 0) (by show _ = o + i * 2 + 0; omega) rfl
      have z0 := hE.plain.frozen (o + i * 2)
      have q1 := hE.at_ (q := o + i * 2 + 1) (j := 1) (by show _ = o + i * 2 + 1; omega) rfl
      have z1 := hE.plain.frozen (o + i * 2 + 1)
      go_wp2_with fail
      clear q0 z0 q1 z1
      replace hE := hE.set (j := 0) (q := o + i * 2) (by simp) (by show _ = o + i * 2 + 0; omega) (.string (mtext (kk)))
      simp only [List.set_cons_zero, List.set_cons_succ] at hE
      refine (markText_any (kk + 1) _ (by omega) (by omega)).mono ?_
      rintro e w2 ⟨rfl, hb2⟩
      replace hE := hE.ext hb2
      have q0 := hE.at_ (q := o + i * 2) (j := 0) (by show _ = o + i * 2 + 0; omega) rfl
      have z0 := hE.plain.frozen (o + i * 2)
      have q1 := hE.at_ (q := o + i * 2 + 1) (j := 1) (by show _ = o + i * 2 + 1; omega) rfl
      have z1 := hE.plain.frozen (o + i * 2 + 1)
      go_wp2_with fail
      clear q0 z0 q1 z1
      replace hE := hE.set (j := 1) (q := o + i * 2 + 1) (by simp) (by show _ = o + i * 2 + 1; omega) (.string (mtext (kk + 1)))
      simp only [List.set_cons_zero, List.set_cons_succ] at hE
      have hP := hcl _ (mkLabel xs[i] kk) _ ⟨(by have := (rd_pair (rdStr (w2.setCell ⟨b, o + i * 2 + 1, none⟩ (.string (mtext (kk + 1)))) (mtext (kk)) (mtext63 (by omega))) (rdStr (w2.setCell ⟨b, o + i * 2 + 1, none⟩ (.string (mtext (kk + 1)))) (mtext (kk + 1)) (mtext63 (by omega)))); simp only [List.nil_append, List.append_nil, List.append_assoc, List.cons_append] at this; exact this), hOe.nodup, hOe.base, (by intro y hy; cases hy)⟩ hE
      have hU := hu.trans (hE.upd.mono (G := F) (fun y hy => by rcases List.mem_cons.1 hy with rfl | hy; exact hbF; exact hsub y hy))
      have hset : (mkUp mkLabel cntLabel xs k i).set i (mkLabel xs[i] kk) = mkUp mkLabel cntLabel xs k (i + 1) := by rw [← hkk]; exact mkUp_set hlt
      rw [hset] at hP
      refine ⟨⟨i + 1, by omega, by go_num, ?_, hP, hU⟩, by simp [intOf]; omega⟩
      rw [hsuc]; simp only [cntLabel]; congr 1; push_cast; omega
    · have hkl : i = xs.length := by omega
      subst hkl
      go_wp2
      go_ret
      rw [mkUp_full] at hO
      simp only [List.take_length]
      exact ⟨rfl, hO, hu⟩
set_option maxRecDepth 100000 in
set_option maxHeartbeats 2000000 in
theorem heldLabelS_any (xs : List Label) (A : Option Addr) (n c : Nat) (F : List Nat) (k : Int) (w : World) (h : rd w xs [.slice A n c] F) (hn : n = xs.length) (hm : mkL mkLabel cntLabel xs k = xs) (hk0 : 0 ≤ k) (hk : k + cntL cntLabel xs ≤ 1073741823) :
    Calls Try.prog 27 #[.slice A n c, .int .i64 k] w fun e w' => e = .returned (.int .i64 (k + cntL cntLabel xs)) ∧ Below w.heap.size w w' := by
  subst hn
  have hlen := rd_len h
  have HM := Lib.hid hm
  clear hm
  go_enter Try.func27, Try.ntmps27
  go_wp2_with fail
  go_loopw [1, 5] (fun x y wr => ∃ (i : Nat), i ≤ xs.length ∧ y = .int .i64 i ∧ x = .int .i64 (k + cntL cntLabel (xs.take i)) ∧ Below w.heap.size w wr) (fun _ y _ => xs.length - (intOf y).toNat)
  case atStart => exact ⟨0, Nat.zero_le _, rfl, by simp [cntL], ext_refl _⟩
  case round =>
    obtain ⟨i, hi, rfl, rfl, hbl⟩ := hrel
    by_cases hlt : i < xs.length
    · have hle : (cntL cntLabel (xs.take i) : Int) + cntLabel xs[i] ≤ cntL cntLabel xs := by have := cntL_succ (cnt := cntLabel) hlt; have := cntL_le (cnt := cntLabel) xs (i + 1); omega
      have hsuc := cntL_succ (cnt := cntLabel) hlt
      have hfix := mkL_fix HM.out hlt
      obtain ⟨b, o, ck, Fk, rfl, hbF, hbs, hr, hsub, hc⟩ := (Sl.ext (w' := wr) (A := A) (c := c) h hbl).get hlt
      obtain ⟨hck, hFk, hkey, hvalue⟩ := rd_Label hr
      clear hr
      subst hck
      generalize hkk : k + (cntL cntLabel (xs.take i) : Int) = kk at hfix ⊢
      have hkk0 : 0 ≤ kk := by omega
      have hkk1 : kk + cntLabel xs[i] ≤ 1073741823 := by omega
      simp only [cntLabel] at hkk1
      push_cast at hkk1
      have e0 : mtext (kk) = xs[i].key := congrArg (fun z : Label => z.key) hfix
      have q0 : wr.cell? ⟨b, o + i * 2, none⟩ = some (.string xs[i].key) := by have := hc 0 _ rfl; rwa [show o + (i * Dat.size Label + 0) = o + i * 2 from by show o + (i * 2 + 0) = _; omega] at this
      rw [← e0] at q0
      clear e0
      have e1 : mtext (kk + 1) = xs[i].value := congrArg (fun z : Label => z.value) hfix
      have q1 : wr.cell? ⟨b, o + i * 2 + 1, none⟩ = some (.string xs[i].value) := by have := hc 1 _ rfl; rwa [show o + (i * Dat.size Label + 1) = o + i * 2 + 1 from by show o + (i * 2 + 1) = _; omega] at this
      rw [← e1] at q1
      clear e1
      clear hc hfix
      go_wp2_with fail
      refine wp_region_grow wr (by kernel_rfl) (by kernel_rfl) (ext_refl _) ?_
      repeat (first
        | (apply inText_skip
           case hw => rfl
           simp only [Act.put, List.setIfInBounds_toArray, List.set_cons_zero, List.set_cons_succ])
        | (apply inText_step
           case hw => rfl
           case h =>
             intro wq hq
             have hcq := (cls_cell hq).1
             have hfq := (cls_cell hq).2
             go_simp
             first
               | exact ⟨hq, rfl⟩
               | exact ⟨cls_alloc hq _, rfl⟩
               | (refine (markText_any (kk) _ (by omega) (by omega)).mono ?_; rintro e w2 ⟨rfl, hb2⟩; exact ⟨rfl, cls_trans hq hb2⟩)
               | (simp only [↓IntWalk.iteOmega]; exact ⟨hq, rfl⟩)
           simp only [Act.put, List.setIfInBounds_toArray, List.set_cons_zero, List.set_cons_succ]))
      refine inText_nil ?_
      intro wn1 hn1
      replace hn1 := hn1.out
      replace q0 := ((bcell hn1).1 b _ hbs).trans q0
      replace q1 := ((bcell hn1).1 b _ hbs).trans q1
      replace hbs := Nat.lt_of_lt_of_le hbs hn1.size
      replace hbl := ext_trans hbl hn1
      go_wp2_with fail
      refine wp_region_grow wn1 (by kernel_rfl) (by kernel_rfl) (ext_refl _) ?_
      repeat (first
        | (apply inText_skip
           case hw => rfl
           simp only [Act.put, List.setIfInBounds_toArray, List.set_cons_zero, List.set_cons_succ])
        | (apply inText_step
           case hw => rfl
           case h =>
             intro wq hq
             have hcq := (cls_cell hq).1
             have hfq := (cls_cell hq).2
             go_simp
             first
               | exact ⟨hq, rfl⟩
               | exact ⟨cls_alloc hq _, rfl⟩
               | (refine (markText_any (kk + 1) _ (by omega) (by omega)).mono ?_; rintro e w2 ⟨rfl, hb2⟩; exact ⟨rfl, cls_trans hq hb2⟩)
               | (simp only [↓IntWalk.iteOmega]; exact ⟨hq, rfl⟩)
           simp only [Act.put, List.setIfInBounds_toArray, List.set_cons_zero, List.set_cons_succ]))
      refine inText_nil ?_
      intro wn2 hn2
      replace hn2 := hn2.out
      replace q0 := ((bcell hn2).1 b _ hbs).trans q0
      replace q1 := ((bcell hn2).1 b _ hbs).trans q1
      replace hbs := Nat.lt_of_lt_of_le hbs hn2.size
      replace hbl := ext_trans hbl hn2
      go_wp2
      refine ⟨⟨i + 1, by omega, by go_num, ?_, hbl⟩, by simp [intOf]; omega⟩
      rw [hsuc]; simp only [cntLabel]; congr 1; push_cast; omega
    · have hkl : i = xs.length := by omega
      subst hkl
      go_wp2
      go_ret
      simp only [List.take_length]
      exact ⟨rfl, hbl⟩
end Go.Proofs.Ytkgajoichmnaaaa
