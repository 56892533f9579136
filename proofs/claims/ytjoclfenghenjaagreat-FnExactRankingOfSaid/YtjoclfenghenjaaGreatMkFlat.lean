/- Marks on Label. -/
import Derived.Test.YtjoclfenghenjaaGreatMarks0
import Derived.Test.YtjoclfenghenjaaGreatBase0
namespace Go.Proofs.YtjoclfenghenjaaGreat
open Go.ChangeShapes Go.WideShapes Go.ChangeAt Go.RowKit
set_option linter.unusedVariables false
set_option linter.unusedSimpArgs false

def mkLabel (x : Label) (k : Int) : Label := { key := mtext (k), value := mtext (k + 1) }
def cntLabel (x : Label) : Nat := 1 + 1
set_option maxRecDepth 100000 in
set_option maxHeartbeats 2000000 in
theorem markLabelS_any (xs : List Label) (A : Option Addr) (n c : Nat) (F : List Nat) (B : Nat) (k : Int) (w : World) (h : Own w B xs [.slice A n c] F) (hn : n = xs.length) (hk0 : 0 ≤ k) (hk : k + cntL cntLabel xs ≤ 1073741823) :
    Calls Tryz.prog 72 #[.slice A n c, .int .i64 k] w fun e w' => e = .returned (.int .i64 (k + cntL cntLabel xs)) ∧ Own w' B (mkL mkLabel cntLabel xs k) [.slice A n c] F ∧ Upd F w w' := by
  subst hn
  have hlen := own_len h
  go_enter Tryz.func72, Tryz.ntmps72
  go_wp2_with fail
  go_loopw [1, 5] (fun x y wr => ∃ (i : Nat), i ≤ xs.length ∧ y = .int .i64 i ∧ x = .int .i64 (k + cntL cntLabel (xs.take i)) ∧ Own wr B (mkUp mkLabel cntLabel xs k i) [.slice A xs.length c] F ∧ Upd F w wr) (fun _ y _ => xs.length - (intOf y).toNat)
  case atStart => exact ⟨0, Nat.zero_le _, rfl, by simp [cntL], by rw [mkUp_zero]; exact h, .refl _ _⟩
  case round =>
    obtain ⟨i, hi, rfl, rfl, hO, hu⟩ := hrel
    by_cases hlt : i < xs.length
    · have hle : (cntL cntLabel (xs.take i) : Int) + cntLabel xs[i] ≤ cntL cntLabel xs := by have := cntL_succ (cnt := cntLabel) hlt; have := cntL_le (cnt := cntLabel) xs (i + 1); omega
      have hsuc := cntL_succ (cnt := cntLabel) hlt
      obtain ⟨b, o, ck, Fk, rfl, hbF, hsub, hbk, hOe, hE, hcl⟩ := hO.elt (k := i) (by rw [mkUp_len hi]; exact hlt)
      rw [mkUp_get hlt] at hOe
      have hRe := hOe.rd
      obtain ⟨hck, hFk, hkey, hvalue⟩ := rd_Label hRe
      clear hRe
      subst hck hFk
      generalize hkk : k + (cntL cntLabel (xs.take i) : Int) = kk
      have hkk0 : 0 ≤ kk := by omega
      have hkk1 : kk + cntLabel xs[i] ≤ 1073741823 := by omega
      simp only [cntLabel] at hkk1
      push_cast at hkk1
      clear hO
      have q0 := hE.at_ (q := o + i * 2) (j := 0) (by show _ = o + i * 2 + 0; omega) rfl
      have z0 := hE.plain.frozen (o + i * 2)
      have q1 := hE.at_ (q := o + i * 2 + 1) (j := 1) (by show _ = o + i * 2 + 1; omega) rfl
      have z1 := hE.plain.frozen (o + i * 2 + 1)
      go_wp2_with fail
      clear q0 z0 q1 z1
      refine (markText_any (kk) _ (by omega) (by omega)).mono ?_
      rintro e w1 ⟨rfl, hb1⟩
      replace hE := hE.ext hb1
      have q0 := hE.at_ (q := o + i * 2) (j := 0) (by show _ = o + i * 2 + 0; omega) rfl
      have z0 := hE.plain.frozen (o + i * 2)
      have q1 := hE.at_ (q := o + i * 2 + 1) (j := 1) (by show _ = o + i * 2 + 1; omega) rfl
      have z1 := hE.plain.frozen (o + i * 2 + 1)
      go_wp2_with fail
      clear q0 z0 q1 z1
      replace hE := hE.set (j := 0) (q := o + i * 2) (by simp) (by show _ = o + i * 2 + 0; omega) (.string (mtext (kk)))
      simp only [List.set_cons_zero, List.set_cons_succ] at hE
      refine (markText_any (kk + 1) _ (by omega) (by omega)).mono ?_
      rintro e w2 ⟨rfl, hb2⟩
      replace hE := hE.ext hb2
      have q0 := hE.at_ (q := o + i * 2) (j := 0) (by show _ = o + i * 2 + 0; omega) rfl
      have z0 := hE.plain.frozen (o + i * 2)
      have q1 := hE.at_ (q := o + i * 2 + 1) (j := 1) (by show _ = o + i * 2 + 1; omega) rfl
      have z1 := hE.plain.frozen (o + i * 2 + 1)
      go_wp2_with fail
      clear q0 z0 q1 z1
      replace hE := hE.set (j := 1) (q := o + i * 2 + 1) (by simp) (by show _ = o + i * 2 + 1; omega) (.string (mtext (kk + 1)))
      simp only [List.set_cons_zero, List.set_cons_succ] at hE
      have hP := hcl _ (mkLabel xs[i] kk) _ ⟨(by have := (rd_pair (rdStr (w2.setCell ⟨b, o + i * 2 + 1, none⟩ (.string (mtext (kk + 1)))) (mtext (kk)) (mtext63 (by omega))) (rdStr (w2.setCell ⟨b, o + i * 2 + 1, none⟩ (.string (mtext (kk + 1)))) (mtext (kk + 1)) (mtext63 (by omega)))); simp only [List.nil_append, List.append_nil, List.append_assoc, List.cons_append] at this; exact this), hOe.nodup, hOe.base, (by intro y hy; cases hy)⟩ hE
      have hU := hu.trans (hE.upd.mono (G := F) (fun y hy => by rcases List.mem_cons.1 hy with rfl | hy; exact hbF; exact hsub y hy))
      have hset : (mkUp mkLabel cntLabel xs k i).set i (mkLabel xs[i] kk) = mkUp mkLabel cntLabel xs k (i + 1) := by rw [← hkk]; exact mkUp_set hlt
      rw [hset] at hP
      refine ⟨⟨i + 1, by omega, by go_num, ?_, hP, hU⟩, by simp [intOf]; omega⟩
      rw [hsuc]; simp only [cntLabel]; congr 1; push_cast; omega
    · have hkl : i = xs.length := by omega
      subst hkl
      go_wp2
      go_ret
      rw [mkUp_full] at hO
      simp only [List.take_length]
      exact ⟨rfl, hO, hu⟩
set_option maxRecDepth 100000 in
set_option maxHeartbeats 2000000 in
theorem heldLabelS_any (xs : List Label) (A : Option Addr) (n c : Nat) (F : List Nat) (k : Int) (w : World) (h : rd w xs [.slice A n c] F) (hn : n = xs.length) (hm : mkL mkLabel cntLabel xs k = xs) (hk0 : 0 ≤ k) (hk : k + cntL cntLabel xs ≤ 1073741823) :
    Calls Tryz.prog 95 #[.slice A n c, .int .i64 k] w fun e w' => e = .returned (.int .i64 (k + cntL cntLabel xs)) ∧ Below w.heap.size w w' := by
  subst hn
  have hlen := rd_len h
  have HM := Lib.hid hm
  clear hm
  go_enter Tryz.func95, Tryz.ntmps95
  go_wp2_with fail
  go_loopw [1, 5] (fun x y wr => ∃ (i : Nat), i ≤ xs.length ∧ y = .int .i64 i ∧ x = .int .i64 (k + cntL cntLabel (xs.take i)) ∧ Below w.heap.size w wr) (fun _ y _ => xs.length - (intOf y).toNat)
  case atStart => exact ⟨0, Nat.zero_le _, rfl, by simp [cntL], ext_refl _⟩
  case round =>
    obtain ⟨i, hi, rfl, rfl, hbl⟩ := hrel
    by_cases hlt : i < xs.length
    · have hle : (cntL cntLabel (xs.take i) : Int) + cntLabel xs[i] ≤ cntL cntLabel xs := by have := cntL_succ (cnt := cntLabel) hlt; have := cntL_le (cnt := cntLabel) xs (i + 1); omega
      have hsuc := cntL_succ (cnt := cntLabel) hlt
      have hfix := mkL_fix HM.out hlt
      obtain ⟨b, o, ck, Fk, rfl, hbF, hbs, hr, hsub, hc⟩ := (Sl.ext (w' := wr) (A := A) (c := c) h hbl).get hlt
      obtain ⟨hck, hFk, hkey, hvalue⟩ := rd_Label hr
      clear hr
      subst hck
      generalize hkk : k + (cntL cntLabel (xs.take i) : Int) = kk at hfix ⊢
      have hkk0 : 0 ≤ kk := by omega
      have hkk1 : kk + cntLabel xs[i] ≤ 1073741823 := by omega
      simp only [cntLabel] at hkk1
      push_cast at hkk1
      have e0 : mtext (kk) = xs[i].key := congrArg (fun z : Label => z.key) hfix
      have q0 : wr.cell? ⟨b, o + i * 2, none⟩ = some (.string xs[i].key) := by have := hc 0 _ rfl; rwa [show o + (i * Dat.size Label + 0) = o + i * 2 from by show o + (i * 2 + 0) = _; omega] at this
      rw [← e0] at q0
      clear e0
      have e1 : mtext (kk + 1) = xs[i].value := congrArg (fun z : Label => z.value) hfix
      have q1 : wr.cell? ⟨b, o + i * 2 + 1, none⟩ = some (.string xs[i].value) := by have := hc 1 _ rfl; rwa [show o + (i * Dat.size Label + 1) = o + i * 2 + 1 from by show o + (i * 2 + 1) = _; omega] at this
      rw [← e1] at q1
      clear e1
      clear hc hfix
      go_wp2_with fail
      refine wp_region_grow wr (by kernel_rfl) (by kernel_rfl) (ext_refl _) ?_
      repeat (first
        | (apply inText_skip
           case hw => rfl
           simp only [Act.put, List.setIfInBounds_toArray, List.set_cons_zero, List.set_cons_succ])
        | (apply inText_step
           case hw => rfl
           case h =>
             intro wq hq
             have hcq := (cls_cell hq).1
             have hfq := (cls_cell hq).2
             go_simp
             first
               | exact ⟨hq, rfl⟩
               | exact ⟨cls_alloc hq _, rfl⟩
               | (refine (markText_any (kk) _ (by omega) (by omega)).mono ?_; rintro e w2 ⟨rfl, hb2⟩; exact ⟨rfl, cls_trans hq hb2⟩)
               | (simp only [↓IntWalk.iteOmega]; exact ⟨hq, rfl⟩)
           simp only [Act.put, List.setIfInBounds_toArray, List.set_cons_zero, List.set_cons_succ]))
      refine inText_nil ?_
      intro wn1 hn1
      replace hn1 := hn1.out
      replace q0 := ((bcell hn1).1 b _ hbs).trans q0
      replace q1 := ((bcell hn1).1 b _ hbs).trans q1
      replace hbs := Nat.lt_of_lt_of_le hbs hn1.size
      replace hbl := ext_trans hbl hn1
      go_wp2_with fail
      refine wp_region_grow wn1 (by kernel_rfl) (by kernel_rfl) (ext_refl _) ?_
      repeat (first
        | (apply inText_skip
           case hw => rfl
           simp only [Act.put, List.setIfInBounds_toArray, List.set_cons_zero, List.set_cons_succ])
        | (apply inText_step
           case hw => rfl
           case h =>
             intro wq hq
             have hcq := (cls_cell hq).1
             have hfq := (cls_cell hq).2
             go_simp
             first
               | exact ⟨hq, rfl⟩
               | exact ⟨cls_alloc hq _, rfl⟩
               | (refine (markText_any (kk + 1) _ (by omega) (by omega)).mono ?_; rintro e w2 ⟨rfl, hb2⟩; exact ⟨rfl, cls_trans hq hb2⟩)
               | (simp only [↓IntWalk.iteOmega]; exact ⟨hq, rfl⟩)
           simp only [Act.put, List.setIfInBounds_toArray, List.set_cons_zero, List.set_cons_succ]))
      refine inText_nil ?_
      intro wn2 hn2
      replace hn2 := hn2.out
      replace q0 := ((bcell hn2).1 b _ hbs).trans q0
      replace q1 := ((bcell hn2).1 b _ hbs).trans q1
      replace hbs := Nat.lt_of_lt_of_le hbs hn2.size
      replace hbl := ext_trans hbl hn2
      go_wp2
      refine ⟨⟨i + 1, by omega, by go_num, ?_, hbl⟩, by simp [intOf]; omega⟩
      rw [hsuc]; simp only [cntLabel]; congr 1; push_cast; omega
    · have hkl : i = xs.length := by omega
      subst hkl
      go_wp2
      go_ret
      simp only [List.take_length]
      exact ⟨rfl, hbl⟩
end Go.Proofs.YtjoclfenghenjaaGreat

namespace Go.Proofs.YtjoclfenghenjaaGreat
open Go.ChangeShapes Go.WideShapes Go.ChangeAt Go.RowKit
set_option linter.unusedVariables false
set_option linter.unusedSimpArgs false

def mkTaint (x : Taint) (k : Int) : Taint := { key := mtext (k), value := mtext (k + 1), effect := (k + 1 + 1) }
def cntTaint (x : Taint) : Nat := 1 + 1 + 1
set_option maxRecDepth 100000 in
set_option maxHeartbeats 2000000 in
theorem markTaintS_any (xs : List Taint) (A : Option Addr) (n c : Nat) (F : List Nat) (B : Nat) (k : Int) (w : World) (h : Own w B xs [.slice A n c] F) (hn : n = xs.length) (hk0 : 0 ≤ k) (hk : k + cntL cntTaint xs ≤ 1073741823) :
    Calls Tryz.prog 94 #[.slice A n c, .int .i64 k] w fun e w' => e = .returned (.int .i64 (k + cntL cntTaint xs)) ∧ Own w' B (mkL mkTaint cntTaint xs k) [.slice A n c] F ∧ Upd F w w' := by
  subst hn
  have hlen := own_len h
  go_enter Tryz.func94, Tryz.ntmps94
  go_wp2_with fail
  go_loopw [1, 5] (fun x y wr => ∃ (i : Nat), i ≤ xs.length ∧ y = .int .i64 i ∧ x = .int .i64 (k + cntL cntTaint (xs.take i)) ∧ Own wr B (mkUp mkTaint cntTaint xs k i) [.slice A xs.length c] F ∧ Upd F w wr) (fun _ y _ => xs.length - (intOf y).toNat)
  case atStart => exact ⟨0, Nat.zero_le _, rfl, by simp [cntL], by rw [mkUp_zero]; exact h, .refl _ _⟩
  case round =>
    obtain ⟨i, hi, rfl, rfl, hO, hu⟩ := hrel
    by_cases hlt : i < xs.length
    · have hle : (cntL cntTaint (xs.take i) : Int) + cntTaint xs[i] ≤ cntL cntTaint xs := by have := cntL_succ (cnt := cntTaint) hlt; have := cntL_le (cnt := cntTaint) xs (i + 1); omega
      have hsuc := cntL_succ (cnt := cntTaint) hlt
      obtain ⟨b, o, ck, Fk, rfl, hbF, hsub, hbk, hOe, hE, hcl⟩ := hO.elt (k := i) (by rw [mkUp_len hi]; exact hlt)
      rw [mkUp_get hlt] at hOe
      have hRe := hOe.rd
      obtain ⟨hck, hFk, hkey, hvalue, heffect⟩ := rd_Taint hRe
      clear hRe
      subst hck hFk
      generalize hkk : k + (cntL cntTaint (xs.take i) : Int) = kk
      have hkk0 : 0 ≤ kk := by omega
      have hkk1 : kk + cntTaint xs[i] ≤ 1073741823 := by omega
      simp only [cntTaint] at hkk1
      push_cast at hkk1
      clear hO
      have q0 := hE.at_ (q := o + i * 3) (j := 0) (by show _ = o + i * 3 + 0; omega) rfl
      have z0 := hE.plain.frozen (o + i * 3)
      have q1 := hE.at_ (q := o + i * 3 + 1) (j := 1) (by show _ = o + i * 3 + 1; omega) rfl
      have z1 := hE.plain.frozen (o + i * 3 + 1)
      have q2 := hE.at_ (q := o + i * 3 + 2) (j := 2) (by show _ = o + i * 3 + 2; omega) rfl
      have z2 := hE.plain.frozen (o + i * 3 + 2)
      go_wp2_with fail
      clear q0 z0 q1 z1 q2 z2
      refine (markText_any (kk) _ (by omega) (by omega)).mono ?_
      rintro e w1 ⟨rfl, hb1⟩
      replace hE := hE.ext hb1
      have q0 := hE.at_ (q := o + i * 3) (j := 0) (by show _ = o + i * 3 + 0; omega) rfl
      have z0 := hE.plain.frozen (o + i * 3)
      have q1 := hE.at_ (q := o + i * 3 + 1) (j := 1) (by show _ = o + i * 3 + 1; omega) rfl
      have z1 := hE.plain.frozen (o + i * 3 + 1)
      have q2 := hE.at_ (q := o + i * 3 + 2) (j := 2) (by show _ = o + i * 3 + 2; omega) rfl
      have z2 := hE.plain.frozen (o + i * 3 + 2)
      go_wp2_with fail
      clear q0 z0 q1 z1 q2 z2
      replace hE := hE.set (j := 0) (q := o + i * 3) (by simp) (by show _ = o + i * 3 + 0; omega) (.string (mtext (kk)))
      simp only [List.set_cons_zero, List.set_cons_succ] at hE
      refine (markText_any (kk + 1) _ (by omega) (by omega)).mono ?_
      rintro e w2 ⟨rfl, hb2⟩
      replace hE := hE.ext hb2
      have q0 := hE.at_ (q := o + i * 3) (j := 0) (by show _ = o + i * 3 + 0; omega) rfl
      have z0 := hE.plain.frozen (o + i * 3)
      have q1 := hE.at_ (q := o + i * 3 + 1) (j := 1) (by show _ = o + i * 3 + 1; omega) rfl
      have z1 := hE.plain.frozen (o + i * 3 + 1)
      have q2 := hE.at_ (q := o + i * 3 + 2) (j := 2) (by show _ = o + i * 3 + 2; omega) rfl
      have z2 := hE.plain.frozen (o + i * 3 + 2)
      go_wp2_with fail
      clear q0 z0 q1 z1 q2 z2
      replace hE := hE.set (j := 1) (q := o + i * 3 + 1) (by simp) (by show _ = o + i * 3 + 1; omega) (.string (mtext (kk + 1)))
      simp only [List.set_cons_zero, List.set_cons_succ] at hE
      replace hE := hE.set (j := 2) (q := o + i * 3 + 2) (by simp) (by show _ = o + i * 3 + 2; omega) (.int .i64 (kk + 1 + 1))
      simp only [List.set_cons_zero, List.set_cons_succ] at hE
      have hP := hcl _ (mkTaint xs[i] kk) _ ⟨(by have := (rd_pair (rdStr ((w2.setCell ⟨b, o + i * 3 + 1, none⟩ (.string (mtext (kk + 1)))).setCell ⟨b, o + i * 3 + 2, none⟩ (.int .i64 (kk + 1 + 1))) (mtext (kk)) (mtext63 (by omega))) (rd_pair (rdStr ((w2.setCell ⟨b, o + i * 3 + 1, none⟩ (.string (mtext (kk + 1)))).setCell ⟨b, o + i * 3 + 2, none⟩ (.int .i64 (kk + 1 + 1))) (mtext (kk + 1)) (mtext63 (by omega))) (rdInt ((w2.setCell ⟨b, o + i * 3 + 1, none⟩ (.string (mtext (kk + 1)))).setCell ⟨b, o + i * 3 + 2, none⟩ (.int .i64 (kk + 1 + 1))) ((kk + 1 + 1)) (by unfold I64; omega)))); simp only [List.nil_append, List.append_nil, List.append_assoc, List.cons_append] at this; exact this), hOe.nodup, hOe.base, (by intro y hy; cases hy)⟩ hE
      have hU := hu.trans (hE.upd.mono (G := F) (fun y hy => by rcases List.mem_cons.1 hy with rfl | hy; exact hbF; exact hsub y hy))
      have hset : (mkUp mkTaint cntTaint xs k i).set i (mkTaint xs[i] kk) = mkUp mkTaint cntTaint xs k (i + 1) := by rw [← hkk]; exact mkUp_set hlt
      rw [hset] at hP
      refine ⟨⟨i + 1, by omega, by go_num, ?_, hP, hU⟩, by simp [intOf]; omega⟩
      rw [hsuc]; simp only [cntTaint]; congr 1; push_cast; omega
    · have hkl : i = xs.length := by omega
      subst hkl
      go_wp2
      go_ret
      rw [mkUp_full] at hO
      simp only [List.take_length]
      exact ⟨rfl, hO, hu⟩
set_option maxRecDepth 100000 in
set_option maxHeartbeats 2000000 in
theorem heldTaintS_any (xs : List Taint) (A : Option Addr) (n c : Nat) (F : List Nat) (k : Int) (w : World) (h : rd w xs [.slice A n c] F) (hn : n = xs.length) (hm : mkL mkTaint cntTaint xs k = xs) (hk0 : 0 ≤ k) (hk : k + cntL cntTaint xs ≤ 1073741823) :
    Calls Tryz.prog 96 #[.slice A n c, .int .i64 k] w fun e w' => e = .returned (.int .i64 (k + cntL cntTaint xs)) ∧ Below w.heap.size w w' := by
  subst hn
  have hlen := rd_len h
  have HM := Lib.hid hm
  clear hm
  go_enter Tryz.func96, Tryz.ntmps96
  go_wp2_with fail
  go_loopw [1, 5] (fun x y wr => ∃ (i : Nat), i ≤ xs.length ∧ y = .int .i64 i ∧ x = .int .i64 (k + cntL cntTaint (xs.take i)) ∧ Below w.heap.size w wr) (fun _ y _ => xs.length - (intOf y).toNat)
  case atStart => exact ⟨0, Nat.zero_le _, rfl, by simp [cntL], ext_refl _⟩
  case round =>
    obtain ⟨i, hi, rfl, rfl, hbl⟩ := hrel
    by_cases hlt : i < xs.length
    · have hle : (cntL cntTaint (xs.take i) : Int) + cntTaint xs[i] ≤ cntL cntTaint xs := by have := cntL_succ (cnt := cntTaint) hlt; have := cntL_le (cnt := cntTaint) xs (i + 1); omega
      have hsuc := cntL_succ (cnt := cntTaint) hlt
      have hfix := mkL_fix HM.out hlt
      obtain ⟨b, o, ck, Fk, rfl, hbF, hbs, hr, hsub, hc⟩ := (Sl.ext (w' := wr) (A := A) (c := c) h hbl).get hlt
      obtain ⟨hck, hFk, hkey, hvalue, heffect⟩ := rd_Taint hr
      clear hr
      subst hck
      generalize hkk : k + (cntL cntTaint (xs.take i) : Int) = kk at hfix ⊢
      have hkk0 : 0 ≤ kk := by omega
      have hkk1 : kk + cntTaint xs[i] ≤ 1073741823 := by omega
      simp only [cntTaint] at hkk1
      push_cast at hkk1
      have e0 : mtext (kk) = xs[i].key := congrArg (fun z : Taint => z.key) hfix
      have q0 : wr.cell? ⟨b, o + i * 3, none⟩ = some (.string xs[i].key) := by have := hc 0 _ rfl; rwa [show o + (i * Dat.size Taint + 0) = o + i * 3 from by show o + (i * 3 + 0) = _; omega] at this
      rw [← e0] at q0
      clear e0
      have e1 : mtext (kk + 1) = xs[i].value := congrArg (fun z : Taint => z.value) hfix
      have q1 : wr.cell? ⟨b, o + i * 3 + 1, none⟩ = some (.string xs[i].value) := by have := hc 1 _ rfl; rwa [show o + (i * Dat.size Taint + 1) = o + i * 3 + 1 from by show o + (i * 3 + 1) = _; omega] at this
      rw [← e1] at q1
      clear e1
      have e2 : (kk + 1 + 1) = xs[i].effect := congrArg (fun z : Taint => z.effect) hfix
      have q2 : wr.cell? ⟨b, o + i * 3 + 2, none⟩ = some (.int .i64 xs[i].effect) := by have := hc 2 _ rfl; rwa [show o + (i * Dat.size Taint + 2) = o + i * 3 + 2 from by show o + (i * 3 + 2) = _; omega] at this
      rw [← e2] at q2
      clear e2
      clear hc hfix
      go_wp2_with fail
      refine wp_region_grow wr (by kernel_rfl) (by kernel_rfl) (ext_refl _) ?_
      repeat (first
        | (apply inText_skip
           case hw => rfl
           simp only [Act.put, List.setIfInBounds_toArray, List.set_cons_zero, List.set_cons_succ])
        | (apply inText_step
           case hw => rfl
           case h =>
             intro wq hq
             have hcq := (cls_cell hq).1
             have hfq := (cls_cell hq).2
             go_simp
             first
               | exact ⟨hq, rfl⟩
               | exact ⟨cls_alloc hq _, rfl⟩
               | (refine (markText_any (kk) _ (by omega) (by omega)).mono ?_; rintro e w2 ⟨rfl, hb2⟩; exact ⟨rfl, cls_trans hq hb2⟩)
               | (simp only [↓IntWalk.iteOmega]; exact ⟨hq, rfl⟩)
           simp only [Act.put, List.setIfInBounds_toArray, List.set_cons_zero, List.set_cons_succ]))
      refine inText_nil ?_
      intro wn1 hn1
      replace hn1 := hn1.out
      replace q0 := ((bcell hn1).1 b _ hbs).trans q0
      replace q1 := ((bcell hn1).1 b _ hbs).trans q1
      replace q2 := ((bcell hn1).1 b _ hbs).trans q2
      replace hbs := Nat.lt_of_lt_of_le hbs hn1.size
      replace hbl := ext_trans hbl hn1
      go_wp2_with fail
      refine wp_region_grow wn1 (by kernel_rfl) (by kernel_rfl) (ext_refl _) ?_
      repeat (first
        | (apply inText_skip
           case hw => rfl
           simp only [Act.put, List.setIfInBounds_toArray, List.set_cons_zero, List.set_cons_succ])
        | (apply inText_step
           case hw => rfl
           case h =>
             intro wq hq
             have hcq := (cls_cell hq).1
             have hfq := (cls_cell hq).2
             go_simp
             first
               | exact ⟨hq, rfl⟩
               | exact ⟨cls_alloc hq _, rfl⟩
               | (refine (markText_any (kk + 1) _ (by omega) (by omega)).mono ?_; rintro e w2 ⟨rfl, hb2⟩; exact ⟨rfl, cls_trans hq hb2⟩)
               | (simp only [↓IntWalk.iteOmega]; exact ⟨hq, rfl⟩)
           simp only [Act.put, List.setIfInBounds_toArray, List.set_cons_zero, List.set_cons_succ]))
      refine inText_nil ?_
      intro wn2 hn2
      replace hn2 := hn2.out
      replace q0 := ((bcell hn2).1 b _ hbs).trans q0
      replace q1 := ((bcell hn2).1 b _ hbs).trans q1
      replace q2 := ((bcell hn2).1 b _ hbs).trans q2
      replace hbs := Nat.lt_of_lt_of_le hbs hn2.size
      replace hbl := ext_trans hbl hn2
      go_wp2
      refine ⟨⟨i + 1, by omega, by go_num, ?_, hbl⟩, by simp [intOf]; omega⟩
      rw [hsuc]; simp only [cntTaint]; congr 1; push_cast; omega
    · have hkl : i = xs.length := by omega
      subst hkl
      go_wp2
      go_ret
      simp only [List.take_length]
      exact ⟨rfl, hbl⟩
end Go.Proofs.YtjoclfenghenjaaGreat

namespace Go.Proofs.YtjoclfenghenjaaGreat
open Go.ChangeShapes Go.WideShapes Go.ChangeAt Go.RowKit
set_option linter.unusedVariables false
set_option linter.unusedSimpArgs false

def mkTolerance (x : Tolerance) (k : Int) : Tolerance := { key := mtext (k), equal := decide ((k + 1) % 3 = 0), value := mtext (k + 1 + 1), effect := (k + 1 + 1 + 1) }
def cntTolerance (x : Tolerance) : Nat := 1 + 1 + 1 + 1
set_option maxRecDepth 100000 in
set_option maxHeartbeats 2000000 in
theorem markToleranceS_any (xs : List Tolerance) (A : Option Addr) (n c : Nat) (F : List Nat) (B : Nat) (k : Int) (w : World) (h : Own w B xs [.slice A n c] F) (hn : n = xs.length) (hk0 : 0 ≤ k) (hk : k + cntL cntTolerance xs ≤ 1073741823) :
    Calls Tryz.prog 74 #[.slice A n c, .int .i64 k] w fun e w' => e = .returned (.int .i64 (k + cntL cntTolerance xs)) ∧ Own w' B (mkL mkTolerance cntTolerance xs k) [.slice A n c] F ∧ Upd F w w' := by
  subst hn
  have hlen := own_len h
  go_enter Tryz.func74, Tryz.ntmps74
  go_wp2_with fail
  go_loopw [1, 5] (fun x y wr => ∃ (i : Nat), i ≤ xs.length ∧ y = .int .i64 i ∧ x = .int .i64 (k + cntL cntTolerance (xs.take i)) ∧ Own wr B (mkUp mkTolerance cntTolerance xs k i) [.slice A xs.length c] F ∧ Upd F w wr) (fun _ y _ => xs.length - (intOf y).toNat)
  case atStart => exact ⟨0, Nat.zero_le _, rfl, by simp [cntL], by rw [mkUp_zero]; exact h, .refl _ _⟩
  case round =>
    obtain ⟨i, hi, rfl, rfl, hO, hu⟩ := hrel
    by_cases hlt : i < xs.length
    · have hle : (cntL cntTolerance (xs.take i) : Int) + cntTolerance xs[i] ≤ cntL cntTolerance xs := by have := cntL_succ (cnt := cntTolerance) hlt; have := cntL_le (cnt := cntTolerance) xs (i + 1); omega
      have hsuc := cntL_succ (cnt := cntTolerance) hlt
      obtain ⟨b, o, ck, Fk, rfl, hbF, hsub, hbk, hOe, hE, hcl⟩ := hO.elt (k := i) (by rw [mkUp_len hi]; exact hlt)
      rw [mkUp_get hlt] at hOe
      have hRe := hOe.rd
      obtain ⟨hck, hFk, hkey, hvalue, heffect⟩ := rd_Tolerance hRe
      clear hRe
      subst hck hFk
      generalize hkk : k + (cntL cntTolerance (xs.take i) : Int) = kk
      have hkk0 : 0 ≤ kk := by omega
      have hkk1 : kk + cntTolerance xs[i] ≤ 1073741823 := by omega
      simp only [cntTolerance] at hkk1
      push_cast at hkk1
      clear hO
      have q0 := hE.at_ (q := o + i * 4) (j := 0) (by show _ = o + i * 4 + 0; omega) rfl
      have z0 := hE.plain.frozen (o + i * 4)
      have q1 := hE.at_ (q := o + i * 4 + 1) (j := 1) (by show _ = o + i * 4 + 1; omega) rfl
      have z1 := hE.plain.frozen (o + i * 4 + 1)
      have q2 := hE.at_ (q := o + i * 4 + 2) (j := 2) (by show _ = o + i * 4 + 2; omega) rfl
      have z2 := hE.plain.frozen (o + i * 4 + 2)
      have q3 := hE.at_ (q := o + i * 4 + 3) (j := 3) (by show _ = o + i * 4 + 3; omega) rfl
      have z3 := hE.plain.frozen (o + i * 4 + 3)
      go_wp2_with fail
      clear q0 z0 q1 z1 q2 z2 q3 z3
      refine (markText_any (kk) _ (by omega) (by omega)).mono ?_
      rintro e w1 ⟨rfl, hb1⟩
      replace hE := hE.ext hb1
      have q0 := hE.at_ (q := o + i * 4) (j := 0) (by show _ = o + i * 4 + 0; omega) rfl
      have z0 := hE.plain.frozen (o + i * 4)
      have q1 := hE.at_ (q := o + i * 4 + 1) (j := 1) (by show _ = o + i * 4 + 1; omega) rfl
      have z1 := hE.plain.frozen (o + i * 4 + 1)
      have q2 := hE.at_ (q := o + i * 4 + 2) (j := 2) (by show _ = o + i * 4 + 2; omega) rfl
      have z2 := hE.plain.frozen (o + i * 4 + 2)
      have q3 := hE.at_ (q := o + i * 4 + 3) (j := 3) (by show _ = o + i * 4 + 3; omega) rfl
      have z3 := hE.plain.frozen (o + i * 4 + 3)
      go_wp2_with fail
      clear q0 z0 q1 z1 q2 z2 q3 z3
      replace hE := hE.set (j := 0) (q := o + i * 4) (by simp) (by show _ = o + i * 4 + 0; omega) (.string (mtext (kk)))
      simp only [List.set_cons_zero, List.set_cons_succ] at hE
      replace hE := hE.set (j := 1) (q := o + i * 4 + 1) (by simp) (by show _ = o + i * 4 + 1; omega) (.bool (decide ((kk + 1) % 3 = 0)))
      simp only [List.set_cons_zero, List.set_cons_succ] at hE
      refine (markText_any (kk + 1 + 1) _ (by omega) (by omega)).mono ?_
      rintro e w2 ⟨rfl, hb2⟩
      replace hE := hE.ext hb2
      have q0 := hE.at_ (q := o + i * 4) (j := 0) (by show _ = o + i * 4 + 0; omega) rfl
      have z0 := hE.plain.frozen (o + i * 4)
      have q1 := hE.at_ (q := o + i * 4 + 1) (j := 1) (by show _ = o + i * 4 + 1; omega) rfl
      have z1 := hE.plain.frozen (o + i * 4 + 1)
      have q2 := hE.at_ (q := o + i * 4 + 2) (j := 2) (by show _ = o + i * 4 + 2; omega) rfl
      have z2 := hE.plain.frozen (o + i * 4 + 2)
      have q3 := hE.at_ (q := o + i * 4 + 3) (j := 3) (by show _ = o + i * 4 + 3; omega) rfl
      have z3 := hE.plain.frozen (o + i * 4 + 3)
      go_wp2_with fail
      clear q0 z0 q1 z1 q2 z2 q3 z3
      replace hE := hE.set (j := 2) (q := o + i * 4 + 2) (by simp) (by show _ = o + i * 4 + 2; omega) (.string (mtext (kk + 1 + 1)))
      simp only [List.set_cons_zero, List.set_cons_succ] at hE
      replace hE := hE.set (j := 3) (q := o + i * 4 + 3) (by simp) (by show _ = o + i * 4 + 3; omega) (.int .i64 (kk + 1 + 1 + 1))
      simp only [List.set_cons_zero, List.set_cons_succ] at hE
      have hP := hcl _ (mkTolerance xs[i] kk) _ ⟨(by have := (rd_pair (rdStr ((w2.setCell ⟨b, o + i * 4 + 2, none⟩ (.string (mtext (kk + 1 + 1)))).setCell ⟨b, o + i * 4 + 3, none⟩ (.int .i64 (kk + 1 + 1 + 1))) (mtext (kk)) (mtext63 (by omega))) (rd_pair (rdBool ((w2.setCell ⟨b, o + i * 4 + 2, none⟩ (.string (mtext (kk + 1 + 1)))).setCell ⟨b, o + i * 4 + 3, none⟩ (.int .i64 (kk + 1 + 1 + 1))) (decide ((kk + 1) % 3 = 0))) (rd_pair (rdStr ((w2.setCell ⟨b, o + i * 4 + 2, none⟩ (.string (mtext (kk + 1 + 1)))).setCell ⟨b, o + i * 4 + 3, none⟩ (.int .i64 (kk + 1 + 1 + 1))) (mtext (kk + 1 + 1)) (mtext63 (by omega))) (rdInt ((w2.setCell ⟨b, o + i * 4 + 2, none⟩ (.string (mtext (kk + 1 + 1)))).setCell ⟨b, o + i * 4 + 3, none⟩ (.int .i64 (kk + 1 + 1 + 1))) ((kk + 1 + 1 + 1)) (by unfold I64; omega))))); simp only [List.nil_append, List.append_nil, List.append_assoc, List.cons_append] at this; exact this), hOe.nodup, hOe.base, (by intro y hy; cases hy)⟩ hE
      have hU := hu.trans (hE.upd.mono (G := F) (fun y hy => by rcases List.mem_cons.1 hy with rfl | hy; exact hbF; exact hsub y hy))
      have hset : (mkUp mkTolerance cntTolerance xs k i).set i (mkTolerance xs[i] kk) = mkUp mkTolerance cntTolerance xs k (i + 1) := by rw [← hkk]; exact mkUp_set hlt
      rw [hset] at hP
      refine ⟨⟨i + 1, by omega, by go_num, ?_, hP, hU⟩, by simp [intOf]; omega⟩
      rw [hsuc]; simp only [cntTolerance]; congr 1; push_cast; omega
    · have hkl : i = xs.length := by omega
      subst hkl
      go_wp2
      go_ret
      rw [mkUp_full] at hO
      simp only [List.take_length]
      exact ⟨rfl, hO, hu⟩
set_option maxRecDepth 100000 in
set_option maxHeartbeats 2000000 in
theorem heldToleranceS_any (xs : List Tolerance) (A : Option Addr) (n c : Nat) (F : List Nat) (k : Int) (w : World) (h : rd w xs [.slice A n c] F) (hn : n = xs.length) (hm : mkL mkTolerance cntTolerance xs k = xs) (hk0 : 0 ≤ k) (hk : k + cntL cntTolerance xs ≤ 1073741823) :
    Calls Tryz.prog 98 #[.slice A n c, .int .i64 k] w fun e w' => e = .returned (.int .i64 (k + cntL cntTolerance xs)) ∧ Below w.heap.size w w' := by
  subst hn
  have hlen := rd_len h
  have HM := Lib.hid hm
  clear hm
  go_enter Tryz.func98, Tryz.ntmps98
  go_wp2_with fail
  go_loopw [1, 5] (fun x y wr => ∃ (i : Nat), i ≤ xs.length ∧ y = .int .i64 i ∧ x = .int .i64 (k + cntL cntTolerance (xs.take i)) ∧ Below w.heap.size w wr) (fun _ y _ => xs.length - (intOf y).toNat)
  case atStart => exact ⟨0, Nat.zero_le _, rfl, by simp [cntL], ext_refl _⟩
  case round =>
    obtain ⟨i, hi, rfl, rfl, hbl⟩ := hrel
    by_cases hlt : i < xs.length
    · have hle : (cntL cntTolerance (xs.take i) : Int) + cntTolerance xs[i] ≤ cntL cntTolerance xs := by have := cntL_succ (cnt := cntTolerance) hlt; have := cntL_le (cnt := cntTolerance) xs (i + 1); omega
      have hsuc := cntL_succ (cnt := cntTolerance) hlt
      have hfix := mkL_fix HM.out hlt
      obtain ⟨b, o, ck, Fk, rfl, hbF, hbs, hr, hsub, hc⟩ := (Sl.ext (w' := wr) (A := A) (c := c) h hbl).get hlt
      obtain ⟨hck, hFk, hkey, hvalue, heffect⟩ := rd_Tolerance hr
      clear hr
      subst hck
      generalize hkk : k + (cntL cntTolerance (xs.take i) : Int) = kk at hfix ⊢
      have hkk0 : 0 ≤ kk := by omega
      have hkk1 : kk + cntTolerance xs[i] ≤ 1073741823 := by omega
      simp only [cntTolerance] at hkk1
      push_cast at hkk1
      have e0 : mtext (kk) = xs[i].key := congrArg (fun z : Tolerance => z.key) hfix
      have q0 : wr.cell? ⟨b, o + i * 4, none⟩ = some (.string xs[i].key) := by have := hc 0 _ rfl; rwa [show o + (i * Dat.size Tolerance + 0) = o + i * 4 from by show o + (i * 4 + 0) = _; omega] at this
      rw [← e0] at q0
      clear e0
      have e1 : decide ((kk + 1) % 3 = 0) = xs[i].equal := congrArg (fun z : Tolerance => z.equal) hfix
      have q1 : wr.cell? ⟨b, o + i * 4 + 1, none⟩ = some (.bool xs[i].equal) := by have := hc 1 _ rfl; rwa [show o + (i * Dat.size Tolerance + 1) = o + i * 4 + 1 from by show o + (i * 4 + 1) = _; omega] at this
      rw [← e1] at q1
      clear e1
      rw [show decide ((kk + 1) % 3 = 0) = ((kk + 1) % 3 == 0) from rfl] at q1
      have e2 : mtext (kk + 1 + 1) = xs[i].value := congrArg (fun z : Tolerance => z.value) hfix
      have q2 : wr.cell? ⟨b, o + i * 4 + 2, none⟩ = some (.string xs[i].value) := by have := hc 2 _ rfl; rwa [show o + (i * Dat.size Tolerance + 2) = o + i * 4 + 2 from by show o + (i * 4 + 2) = _; omega] at this
      rw [← e2] at q2
      clear e2
      have e3 : (kk + 1 + 1 + 1) = xs[i].effect := congrArg (fun z : Tolerance => z.effect) hfix
      have q3 : wr.cell? ⟨b, o + i * 4 + 3, none⟩ = some (.int .i64 xs[i].effect) := by have := hc 3 _ rfl; rwa [show o + (i * Dat.size Tolerance + 3) = o + i * 4 + 3 from by show o + (i * 4 + 3) = _; omega] at this
      rw [← e3] at q3
      clear e3
      clear hc hfix
      go_wp2_with fail
      refine wp_region_grow wr (by kernel_rfl) (by kernel_rfl) (ext_refl _) ?_
      repeat (first
        | (apply inText_skip
           case hw => rfl
           simp only [Act.put, List.setIfInBounds_toArray, List.set_cons_zero, List.set_cons_succ])
        | (apply inText_step
           case hw => rfl
           case h =>
             intro wq hq
             have hcq := (cls_cell hq).1
             have hfq := (cls_cell hq).2
             go_simp
             first
               | exact ⟨hq, rfl⟩
               | exact ⟨cls_alloc hq _, rfl⟩
               | (refine (markText_any (kk) _ (by omega) (by omega)).mono ?_; rintro e w2 ⟨rfl, hb2⟩; exact ⟨rfl, cls_trans hq hb2⟩)
               | (simp only [↓IntWalk.iteOmega]; exact ⟨hq, rfl⟩)
           simp only [Act.put, List.setIfInBounds_toArray, List.set_cons_zero, List.set_cons_succ]))
      refine inText_nil ?_
      intro wn1 hn1
      replace hn1 := hn1.out
      replace q0 := ((bcell hn1).1 b _ hbs).trans q0
      replace q1 := ((bcell hn1).1 b _ hbs).trans q1
      replace q2 := ((bcell hn1).1 b _ hbs).trans q2
      replace q3 := ((bcell hn1).1 b _ hbs).trans q3
      replace hbs := Nat.lt_of_lt_of_le hbs hn1.size
      replace hbl := ext_trans hbl hn1
      go_wp2_with fail
      refine wp_region_grow wn1 (by kernel_rfl) (by kernel_rfl) (ext_refl _) ?_
      repeat (first
        | (apply inText_skip
           case hw => rfl
           simp only [Act.put, List.setIfInBounds_toArray, List.set_cons_zero, List.set_cons_succ])
        | (apply inText_step
           case hw => rfl
           case h =>
             intro wq hq
             have hcq := (cls_cell hq).1
             have hfq := (cls_cell hq).2
             go_simp
             first
               | exact ⟨hq, rfl⟩
               | exact ⟨cls_alloc hq _, rfl⟩
               | (refine (markText_any (kk + 1 + 1) _ (by omega) (by omega)).mono ?_; rintro e w2 ⟨rfl, hb2⟩; exact ⟨rfl, cls_trans hq hb2⟩)
               | (simp only [↓IntWalk.iteOmega]; exact ⟨hq, rfl⟩)
           simp only [Act.put, List.setIfInBounds_toArray, List.set_cons_zero, List.set_cons_succ]))
      refine inText_nil ?_
      intro wn2 hn2
      replace hn2 := hn2.out
      replace q0 := ((bcell hn2).1 b _ hbs).trans q0
      replace q1 := ((bcell hn2).1 b _ hbs).trans q1
      replace q2 := ((bcell hn2).1 b _ hbs).trans q2
      replace q3 := ((bcell hn2).1 b _ hbs).trans q3
      replace hbs := Nat.lt_of_lt_of_le hbs hn2.size
      replace hbl := ext_trans hbl hn2
      go_wp2
      refine ⟨⟨i + 1, by omega, by go_num, ?_, hbl⟩, by simp [intOf]; omega⟩
      rw [hsuc]; simp only [cntTolerance]; congr 1; push_cast; omega
    · have hkl : i = xs.length := by omega
      subst hkl
      go_wp2
      go_ret
      simp only [List.take_length]
      exact ⟨rfl, hbl⟩
end Go.Proofs.YtjoclfenghenjaaGreat

namespace Go.Proofs.YtjoclfenghenjaaGreat
open Go.ChangeShapes Go.WideShapes Go.ChangeAt Go.RowKit
set_option linter.unusedVariables false
set_option linter.unusedSimpArgs false

def mkNeed (x : Need) (k : Int) : Need := { key := mtext (k), op := (k + 1), values := mkL mkStr cntStr x.values (k + 1 + 1) }
def cntNeed (x : Need) : Nat := 1 + 1 + cntL cntStr x.values
set_option maxRecDepth 100000 in
set_option maxHeartbeats 2000000 in
theorem markNeedS_any (xs : List Need) (A : Option Addr) (n c : Nat) (F : List Nat) (B : Nat) (k : Int) (w : World) (h : Own w B xs [.slice A n c] F) (hn : n = xs.length) (hk0 : 0 ≤ k) (hk : k + cntL cntNeed xs ≤ 1073741823) :
    Calls Tryz.prog 73 #[.slice A n c, .int .i64 k] w fun e w' => e = .returned (.int .i64 (k + cntL cntNeed xs)) ∧ Own w' B (mkL mkNeed cntNeed xs k) [.slice A n c] F ∧ Upd F w w' := by
  subst hn
  have hlen := own_len h
  go_enter Tryz.func73, Tryz.ntmps73
  go_wp2_with fail
  go_loopw [1, 5] (fun x y wr => ∃ (i : Nat), i ≤ xs.length ∧ y = .int .i64 i ∧ x = .int .i64 (k + cntL cntNeed (xs.take i)) ∧ Own wr B (mkUp mkNeed cntNeed xs k i) [.slice A xs.length c] F ∧ Upd F w wr) (fun _ y _ => xs.length - (intOf y).toNat)
  case atStart => exact ⟨0, Nat.zero_le _, rfl, by simp [cntL], by rw [mkUp_zero]; exact h, .refl _ _⟩
  case round =>
    obtain ⟨i, hi, rfl, rfl, hO, hu⟩ := hrel
    by_cases hlt : i < xs.length
    · have hle : (cntL cntNeed (xs.take i) : Int) + cntNeed xs[i] ≤ cntL cntNeed xs := by have := cntL_succ (cnt := cntNeed) hlt; have := cntL_le (cnt := cntNeed) xs (i + 1); omega
      have hsuc := cntL_succ (cnt := cntNeed) hlt
      obtain ⟨b, o, ck, Fk, rfl, hbF, hsub, hbk, hOe, hE, hcl⟩ := hO.elt (k := i) (by rw [mkUp_len hi]; exact hlt)
      rw [mkUp_get hlt] at hOe
      have hRe := hOe.rd
      obtain ⟨Avalues, cvalues, Fvalues, hck, hFk, hkey, hop, hvalues⟩ := rd_Need hRe
      clear hRe
      subst hck hFk
      have hOvalues : Own wr B xs[i].values [.slice Avalues xs[i].values.length cvalues] Fk := ⟨hvalues, hOe.nodup, fun y hy => hOe.base y (by simp [hy]), fun y hy => hOe.plain y (by simp [hy])⟩
      have hbvalues : b ∉ Fk := fun hb => hbk (by simp [hb])
      generalize hkk : k + (cntL cntNeed (xs.take i) : Int) = kk
      have hkk0 : 0 ≤ kk := by omega
      have hkk1 : kk + cntNeed xs[i] ≤ 1073741823 := by omega
      simp only [cntNeed] at hkk1
      push_cast at hkk1
      clear hO
      have q0 := hE.at_ (q := o + i * 3) (j := 0) (by show _ = o + i * 3 + 0; omega) rfl
      have z0 := hE.plain.frozen (o + i * 3)
      have q1 := hE.at_ (q := o + i * 3 + 1) (j := 1) (by show _ = o + i * 3 + 1; omega) rfl
      have z1 := hE.plain.frozen (o + i * 3 + 1)
      have q2 := hE.at_ (q := o + i * 3 + 2) (j := 2) (by show _ = o + i * 3 + 2; omega) rfl
      have z2 := hE.plain.frozen (o + i * 3 + 2)
      go_wp2_with fail
      clear q0 z0 q1 z1 q2 z2
      refine (markText_any (kk) _ (by omega) (by omega)).mono ?_
      rintro e w1 ⟨rfl, hb1⟩
      replace hE := hE.ext hb1
      replace hOvalues := hOvalues.ext hb1
      have q0 := hE.at_ (q := o + i * 3) (j := 0) (by show _ = o + i * 3 + 0; omega) rfl
      have z0 := hE.plain.frozen (o + i * 3)
      have q1 := hE.at_ (q := o + i * 3 + 1) (j := 1) (by show _ = o + i * 3 + 1; omega) rfl
      have z1 := hE.plain.frozen (o + i * 3 + 1)
      have q2 := hE.at_ (q := o + i * 3 + 2) (j := 2) (by show _ = o + i * 3 + 2; omega) rfl
      have z2 := hE.plain.frozen (o + i * 3 + 2)
      go_wp2_with fail
      clear q0 z0 q1 z1 q2 z2
      replace hE := hE.set (j := 0) (q := o + i * 3) (by simp) (by show _ = o + i * 3 + 0; omega) (.string (mtext (kk)))
      simp only [List.set_cons_zero, List.set_cons_succ] at hE
      replace hOvalues := hOvalues.setC (p := ⟨b, o + i * 3, none⟩) hbvalues (.string (mtext (kk)))
      replace hE := hE.set (j := 1) (q := o + i * 3 + 1) (by simp) (by show _ = o + i * 3 + 1; omega) (.int .i64 (kk + 1))
      simp only [List.set_cons_zero, List.set_cons_succ] at hE
      replace hOvalues := hOvalues.setC (p := ⟨b, o + i * 3 + 1, none⟩) hbvalues (.int .i64 (kk + 1))
      refine (markStringS_any xs[i].values _ _ _ _ _ (kk + 1 + 1) _ hOvalues rfl (by omega) (by omega)).mono ?_
      rintro e w2 ⟨rfl, hNvalues, hUvalues⟩
      replace hE := hE.step hUvalues (fun y hy => by simp [hy]) hbvalues
      replace hOvalues := hNvalues
      have q0 := hE.at_ (q := o + i * 3) (j := 0) (by show _ = o + i * 3 + 0; omega) rfl
      have z0 := hE.plain.frozen (o + i * 3)
      have q1 := hE.at_ (q := o + i * 3 + 1) (j := 1) (by show _ = o + i * 3 + 1; omega) rfl
      have z1 := hE.plain.frozen (o + i * 3 + 1)
      have q2 := hE.at_ (q := o + i * 3 + 2) (j := 2) (by show _ = o + i * 3 + 2; omega) rfl
      have z2 := hE.plain.frozen (o + i * 3 + 2)
      go_wp2_with fail
      clear q0 z0 q1 z1 q2 z2
      have hP := hcl _ (mkNeed xs[i] kk) _ ⟨(by have := (rd_pair (rdStr w2 (mtext (kk)) (mtext63 (by omega))) (rd_pair (rdInt w2 ((kk + 1)) (by unfold I64; omega)) (hOvalues.rd))); simp only [List.nil_append, List.append_nil, List.append_assoc, List.cons_append] at this; exact this), hOe.nodup, hOe.base, (by intro y hy; (try simp only [List.mem_append] at hy); rcases hy with hy; exact hOvalues.plain y hy)⟩ hE
      have hU := hu.trans (hE.upd.mono (G := F) (fun y hy => by rcases List.mem_cons.1 hy with rfl | hy; exact hbF; exact hsub y hy))
      have hset : (mkUp mkNeed cntNeed xs k i).set i (mkNeed xs[i] kk) = mkUp mkNeed cntNeed xs k (i + 1) := by rw [← hkk]; exact mkUp_set hlt
      rw [hset] at hP
      refine ⟨⟨i + 1, by omega, by go_num, ?_, hP, hU⟩, by simp [intOf]; omega⟩
      rw [hsuc]; simp only [cntNeed]; congr 1; push_cast; omega
    · have hkl : i = xs.length := by omega
      subst hkl
      go_wp2
      go_ret
      rw [mkUp_full] at hO
      simp only [List.take_length]
      exact ⟨rfl, hO, hu⟩
set_option maxRecDepth 100000 in
set_option maxHeartbeats 2000000 in
theorem heldNeedS_any (xs : List Need) (A : Option Addr) (n c : Nat) (F : List Nat) (k : Int) (w : World) (h : rd w xs [.slice A n c] F) (hn : n = xs.length) (hm : mkL mkNeed cntNeed xs k = xs) (hk0 : 0 ≤ k) (hk : k + cntL cntNeed xs ≤ 1073741823) :
    Calls Tryz.prog 97 #[.slice A n c, .int .i64 k] w fun e w' => e = .returned (.int .i64 (k + cntL cntNeed xs)) ∧ Below w.heap.size w w' := by
  subst hn
  have hlen := rd_len h
  have HM := Lib.hid hm
  clear hm
  go_enter Tryz.func97, Tryz.ntmps97
  go_wp2_with fail
  go_loopw [1, 5] (fun x y wr => ∃ (i : Nat), i ≤ xs.length ∧ y = .int .i64 i ∧ x = .int .i64 (k + cntL cntNeed (xs.take i)) ∧ Below w.heap.size w wr) (fun _ y _ => xs.length - (intOf y).toNat)
  case atStart => exact ⟨0, Nat.zero_le _, rfl, by simp [cntL], ext_refl _⟩
  case round =>
    obtain ⟨i, hi, rfl, rfl, hbl⟩ := hrel
    by_cases hlt : i < xs.length
    · have hle : (cntL cntNeed (xs.take i) : Int) + cntNeed xs[i] ≤ cntL cntNeed xs := by have := cntL_succ (cnt := cntNeed) hlt; have := cntL_le (cnt := cntNeed) xs (i + 1); omega
      have hsuc := cntL_succ (cnt := cntNeed) hlt
      have hfix := mkL_fix HM.out hlt
      obtain ⟨b, o, ck, Fk, rfl, hbF, hbs, hr, hsub, hc⟩ := (Sl.ext (w' := wr) (A := A) (c := c) h hbl).get hlt
      obtain ⟨Avalues, cvalues, Fvalues, hck, hFk, hkey, hop, hvalues⟩ := rd_Need hr
      clear hr
      subst hck
      generalize hkk : k + (cntL cntNeed (xs.take i) : Int) = kk at hfix ⊢
      have hkk0 : 0 ≤ kk := by omega
      have hkk1 : kk + cntNeed xs[i] ≤ 1073741823 := by omega
      simp only [cntNeed] at hkk1
      push_cast at hkk1
      have e0 : mtext (kk) = xs[i].key := congrArg (fun z : Need => z.key) hfix
      have q0 : wr.cell? ⟨b, o + i * 3, none⟩ = some (.string xs[i].key) := by have := hc 0 _ rfl; rwa [show o + (i * Dat.size Need + 0) = o + i * 3 from by show o + (i * 3 + 0) = _; omega] at this
      rw [← e0] at q0
      clear e0
      have e1 : (kk + 1) = xs[i].op := congrArg (fun z : Need => z.op) hfix
      have q1 : wr.cell? ⟨b, o + i * 3 + 1, none⟩ = some (.int .i64 xs[i].op) := by have := hc 1 _ rfl; rwa [show o + (i * Dat.size Need + 1) = o + i * 3 + 1 from by show o + (i * 3 + 1) = _; omega] at this
      rw [← e1] at q1
      clear e1
      have e2 : mkL mkStr cntStr xs[i].values (kk + 1 + 1) = xs[i].values := congrArg (fun z : Need => z.values) hfix
      have q2 : wr.cell? ⟨b, o + i * 3 + 2, none⟩ = some (.slice Avalues xs[i].values.length cvalues) := by have := hc 2 _ rfl; rwa [show o + (i * Dat.size Need + 2) = o + i * 3 + 2 from by show o + (i * 3 + 2) = _; omega] at this
      clear hc hfix
      go_wp2_with fail
      refine wp_region_grow wr (by kernel_rfl) (by kernel_rfl) (ext_refl _) ?_
      repeat (first
        | (apply inText_skip
           case hw => rfl
           simp only [Act.put, List.setIfInBounds_toArray, List.set_cons_zero, List.set_cons_succ])
        | (apply inText_step
           case hw => rfl
           case h =>
             intro wq hq
             have hcq := (cls_cell hq).1
             have hfq := (cls_cell hq).2
             go_simp
             first
               | exact ⟨hq, rfl⟩
               | exact ⟨cls_alloc hq _, rfl⟩
               | (refine (markText_any (kk) _ (by omega) (by omega)).mono ?_; rintro e w2 ⟨rfl, hb2⟩; exact ⟨rfl, cls_trans hq hb2⟩)
               | (simp only [↓IntWalk.iteOmega]; exact ⟨hq, rfl⟩)
           simp only [Act.put, List.setIfInBounds_toArray, List.set_cons_zero, List.set_cons_succ]))
      refine inText_nil ?_
      intro wn1 hn1
      replace hn1 := hn1.out
      replace q0 := ((bcell hn1).1 b _ hbs).trans q0
      replace q1 := ((bcell hn1).1 b _ hbs).trans q1
      replace q2 := ((bcell hn1).1 b _ hbs).trans q2
      replace hvalues := Sl.ext hvalues hn1
      replace hbs := Nat.lt_of_lt_of_le hbs hn1.size
      replace hbl := ext_trans hbl hn1
      go_wp2_with fail
      refine (heldStringS_any xs[i].values _ _ _ _ (kk + 1 + 1) _ hvalues rfl e2 (by omega) (by omega)).mono ?_
      rintro e wn2 ⟨rfl, hn2⟩
      replace q0 := ((bcell hn2).1 b _ hbs).trans q0
      replace q1 := ((bcell hn2).1 b _ hbs).trans q1
      replace q2 := ((bcell hn2).1 b _ hbs).trans q2
      replace hvalues := Sl.ext hvalues hn2
      replace hbs := Nat.lt_of_lt_of_le hbs hn2.size
      replace hbl := ext_trans hbl hn2
      go_wp2
      refine ⟨⟨i + 1, by omega, by go_num, ?_, hbl⟩, by simp [intOf]; omega⟩
      rw [hsuc]; simp only [cntNeed]; congr 1; push_cast; omega
    · have hkl : i = xs.length := by omega
      subst hkl
      go_wp2
      go_ret
      simp only [List.take_length]
      exact ⟨rfl, hbl⟩
end Go.Proofs.YtjoclfenghenjaaGreat

namespace Go.Proofs.YtjoclfenghenjaaGreat
open Go.ChangeShapes Go.WideShapes Go.ChangeAt Go.RowKit
set_option linter.unusedVariables false
set_option linter.unusedSimpArgs false

theorem cntLabel_mk (x : Label) (k : Int) : cntLabel (mkLabel x k) = cntLabel x := by simp [cntLabel, mkLabel]
theorem mkLabel_idem (x : Label) (k : Int) : mkLabel (mkLabel x k) k = mkLabel x k := by simp [mkLabel]
end Go.Proofs.YtjoclfenghenjaaGreat

namespace Go.Proofs.YtjoclfenghenjaaGreat
open Go.ChangeShapes Go.WideShapes Go.ChangeAt Go.RowKit
set_option linter.unusedVariables false
set_option linter.unusedSimpArgs false

theorem cntTaint_mk (x : Taint) (k : Int) : cntTaint (mkTaint x k) = cntTaint x := by simp [cntTaint, mkTaint]
theorem mkTaint_idem (x : Taint) (k : Int) : mkTaint (mkTaint x k) k = mkTaint x k := by simp [mkTaint]
end Go.Proofs.YtjoclfenghenjaaGreat

namespace Go.Proofs.YtjoclfenghenjaaGreat
open Go.ChangeShapes Go.WideShapes Go.ChangeAt Go.RowKit
set_option linter.unusedVariables false
set_option linter.unusedSimpArgs false

theorem cntTolerance_mk (x : Tolerance) (k : Int) : cntTolerance (mkTolerance x k) = cntTolerance x := by simp [cntTolerance, mkTolerance]
theorem mkTolerance_idem (x : Tolerance) (k : Int) : mkTolerance (mkTolerance x k) k = mkTolerance x k := by simp [mkTolerance]
end Go.Proofs.YtjoclfenghenjaaGreat

namespace Go.Proofs.YtjoclfenghenjaaGreat
open Go.ChangeShapes Go.WideShapes Go.ChangeAt Go.RowKit
set_option linter.unusedVariables false
set_option linter.unusedSimpArgs false

theorem cntNeed_mk (x : Need) (k : Int) : cntNeed (mkNeed x k) = cntNeed x := by simp [cntNeed, mkNeed, cntL_mkL cntStr_mk]
theorem mkNeed_idem (x : Need) (k : Int) : mkNeed (mkNeed x k) k = mkNeed x k := by simp [mkNeed, mkL_idem cntStr_mk mkStr_idem, cntL_mkL cntStr_mk]
end Go.Proofs.YtjoclfenghenjaaGreat

namespace Go.Proofs.YtjoclfenghenjaaGreat
open Go.ChangeShapes Go.WideShapes Go.ChangeAt Go.RowKit
set_option linter.unusedVariables false
set_option linter.unusedSimpArgs false

theorem cntLabel_le (x : Label) : cntLabel x ≤ 2 * (x.wt + 1) := by
  simp only [cntLabel, wtS, Label.wt] at *
  omega
end Go.Proofs.YtjoclfenghenjaaGreat

namespace Go.Proofs.YtjoclfenghenjaaGreat
open Go.ChangeShapes Go.WideShapes Go.ChangeAt Go.RowKit
set_option linter.unusedVariables false
set_option linter.unusedSimpArgs false

theorem cntTaint_le (x : Taint) : cntTaint x ≤ 3 * (x.wt + 1) := by
  simp only [cntTaint, wtS, Taint.wt] at *
  omega
end Go.Proofs.YtjoclfenghenjaaGreat

namespace Go.Proofs.YtjoclfenghenjaaGreat
open Go.ChangeShapes Go.WideShapes Go.ChangeAt Go.RowKit
set_option linter.unusedVariables false
set_option linter.unusedSimpArgs false

theorem cntTolerance_le (x : Tolerance) : cntTolerance x ≤ 4 * (x.wt + 1) := by
  simp only [cntTolerance, wtS, Tolerance.wt] at *
  omega
end Go.Proofs.YtjoclfenghenjaaGreat

namespace Go.Proofs.YtjoclfenghenjaaGreat
open Go.ChangeShapes Go.WideShapes Go.ChangeAt Go.RowKit
set_option linter.unusedVariables false
set_option linter.unusedSimpArgs false

theorem cntNeed_le (x : Need) : cntNeed x ≤ 2 * (x.wt + 1) := by
  have h0 := cntL_wt (f := ByteArray.size) cntStr_le x.values
  simp only [cntNeed, wtS, Need.wt] at *
  omega
end Go.Proofs.YtjoclfenghenjaaGreat
