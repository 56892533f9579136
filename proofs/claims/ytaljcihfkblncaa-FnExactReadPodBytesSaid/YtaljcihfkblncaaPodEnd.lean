/- markStringS, heldStringS, markLabelS, heldLabelS: prototypes -/
import Derived.Test.YtaljcihfkblncaaMark
import Derived.Test.YtaljcihfkblncaaData
import Derived.Test.YtaljcihfkblncaaRegion
import Derived.Test.YtaljcihfkblncaaAppend
import Derived.Test.YtaljcihfkblncaaEq
import Derived.Test.YtaljcihfkblncaaRdPI
import Derived.Test.YtaljcihfkblncaaRdPS
import Derived.Deep.RegionWith
namespace Go.Proofs.Ytaljcihfkblncaa
open Go.ChangeShapes Go.WideShapes Go.ChangeAt Go.RowKit
set_option linter.unusedVariables false
set_option linter.unusedSimpArgs false
def mkStr (_ : ByteArray) (k : Int) : ByteArray := mtext k
def cntStr (_ : ByteArray) : Nat := 1
set_option maxRecDepth 100000 in
set_option maxHeartbeats 1000000 in
theorem markStringS_any (xs : List ByteArray) (A : Option Addr) (n c : Nat) (F : List Nat) (B : Nat) (k : Int) (w : World) (h : Own w B xs [.slice A n c] F) (hn : n = xs.length) (hk0 : 0 ≤ k) (hk : k + cntL cntStr xs ≤ 1073741823) :
    Calls Try.prog 21 #[.slice A n c, .int .i64 k] w fun e w' => e = .returned (.int .i64 (k + cntL cntStr xs)) ∧ Own w' B (mkL mkStr cntStr xs k) [.slice A n c] F ∧ Upd F w w' := by
  subst hn
  have hlen : (xs.length : Int) ≤ 9223372036854775807 := by
    have := h.rd
    obtain ⟨_, _, _, _, e, h1, h2, _⟩ := this
    unfold maxLen at h2
    simp at e
    omega
  go_enter Try.func21, Try.ntmps21
  go_wp2_with fail
  go_loopw [1, 5] (fun x y wr => ∃ (i : Nat), i ≤ xs.length ∧ y = .int .i64 i ∧ x = .int .i64 (k + cntL cntStr (xs.take i)) ∧ Own wr B (mkUp mkStr cntStr xs k i) [.slice A xs.length c] F ∧ Upd F w wr) (fun _ y _ => xs.length - (intOf y).toNat)
  case atStart => exact ⟨0, Nat.zero_le _, rfl, by simp [cntL], by rw [mkUp_zero]; exact h, .refl _ _⟩
  case round =>
    obtain ⟨i, hi, rfl, rfl, hO, hu⟩ := hrel
    by_cases hlt : i < xs.length
    · have hle : (cntL cntStr (xs.take i) : Int) + cntStr xs[i] ≤ cntL cntStr xs := by have := cntL_succ (cnt := cntStr) hlt; have := cntL_le (cnt := cntStr) xs (i + 1); omega
      have hsuc := cntL_succ (cnt := cntStr) hlt
      obtain ⟨b, o, ck, Fk, rfl, hbF, hsub, hbk, hOe, hE, hcl⟩ := hO.elt (k := i) (by rw [mkUp_len hi]; exact hlt)
      rw [mkUp_get hlt] at hOe
      have hRe := hOe.rd
      obtain ⟨hck, hFk, hsz⟩ := hRe
      subst hck hFk
      generalize hkk : k + (cntL cntStr (xs.take i) : Int) = kk
      have hkk0 : 0 ≤ kk := by omega
      have hkk1 : kk + cntStr xs[i] ≤ 1073741823 := by omega
      simp only [cntStr] at hkk1 
      go_wp2_with (refine (markText_any kk _ (by omega) (by omega)).mono ?_; rintro e w2 ⟨rfl, hb2⟩; replace hE := hE.ext hb2; have hq := hE.at_ (q := o + i) (j := 0) (by show _ = o + i * 1 + 0; omega) rfl; have hfz := hE.plain.frozen (o + i))
      have hE2 := hE.set (q := o + i) (j := 0) (by simp) (by show _ = o + i * 1 + 0; omega) (.string (mtext kk))
      have hP := hcl _ (mkStr xs[i] kk) _ (Own.flat (rdStr _ _ (by have := mtext_size kk (by omega); show ((mtext kk).size : Int) ≤ _; omega))) hE2
      rw [← hkk, mkUp_set hlt] at hP
      have hU := hu.trans (hE2.upd.mono (G := F) (fun y hy => by rcases List.mem_cons.1 hy with rfl | hy; exact hbF; exact hsub y hy))
      rw [← hkk] at hU
      refine ⟨⟨i + 1, by omega, by go_num, ?_, ?_, ?_⟩, by simp [intOf]; omega⟩
      · rw [hsuc, ← hkk]; simp only [cntStr]; congr 1; push_cast; omega
      · rw [← hkk]; exact hP
      · rw [← hkk]; exact hU
    · have hkl : i = xs.length := by omega
      subst hkl
      go_wp2
      go_ret
      rw [mkUp_full] at hO
      simp only [List.take_length]
      exact ⟨rfl, hO, hu⟩
set_option maxRecDepth 100000 in
set_option maxHeartbeats 1000000 in
theorem heldStringS_any (xs : List ByteArray) (A : Option Addr) (n c : Nat) (F : List Nat) (k : Int) (w : World) (h : rd w xs [.slice A n c] F) (hn : n = xs.length) (hm : mkL mkStr cntStr xs k = xs) (hk0 : 0 ≤ k) (hk : k + cntL cntStr xs ≤ 1073741823) :
    Calls Try.prog 22 #[.slice A n c, .int .i64 k] w fun e w' => e = .returned (.int .i64 (k + cntL cntStr xs)) ∧ Below w.heap.size w w' := by
  subst hn
  have hlen : (xs.length : Int) ≤ 9223372036854775807 := by
    have := h
    obtain ⟨_, _, _, _, e, h1, h2, _⟩ := this
    unfold maxLen at h2
    simp at e
    omega
  have HM := Lib.hid hm
  clear hm
  go_enter Try.func22, Try.ntmps22
  go_wp2_with fail
  go_loopw [1, 5] (fun x y wr => ∃ (i : Nat), i ≤ xs.length ∧ y = .int .i64 i ∧ x = .int .i64 (k + cntL cntStr (xs.take i)) ∧ Below w.heap.size w wr) (fun _ y _ => xs.length - (intOf y).toNat)
  case atStart => exact ⟨0, Nat.zero_le _, rfl, by simp [cntL], ext_refl _⟩
  case round =>
    obtain ⟨i, hi, rfl, rfl, hbl⟩ := hrel
    by_cases hlt : i < xs.length
    · have hle : (cntL cntStr (xs.take i) : Int) + cntStr xs[i] ≤ cntL cntStr xs := by have := cntL_succ (cnt := cntStr) hlt; have := cntL_le (cnt := cntStr) xs (i + 1); omega
      have hsuc := cntL_succ (cnt := cntStr) hlt
      have hfix := mkL_fix HM.out hlt
      obtain ⟨b, o, ck, Fk, rfl, hbF, hbs, hr, hsub, hc⟩ := (Sl.ext (w' := wr) (A := A) (c := c) h hbl).get hlt
      obtain ⟨hck, hFk, hsz⟩ := hr
      subst hck hFk
      generalize hkk : k + (cntL cntStr (xs.take i) : Int) = kk at hfix ⊢
      have hkk0 : 0 ≤ kk := by omega
      have hkk1 : kk + cntStr xs[i] ≤ 1073741823 := by omega
      simp only [cntStr] at hkk1 
      have q0 : wr.cell? ⟨b, o + i, none⟩ = some (.string xs[i]) := by have := hc 0 _ rfl; rwa [show o + (i * Dat.size ByteArray + 0) = o + i from by show o + (i * 1 + 0) = _; omega] at this
      rw [← hfix] at q0
      simp only [mkStr] at q0
      go_wp2_with fail
      refine wp_region_grow wr (by kernel_rfl) (by kernel_rfl) (ext_refl _) ?_
      repeat (first
        | (apply inText_skip
           case hw => rfl
           simp only [Act.put, List.setIfInBounds_toArray, List.set_cons_zero, List.set_cons_succ])
        | (apply inText_step
           case hw => rfl
           case h =>
             intro wq hq
             have hcq := (cls_cell hq).1
             have hfq := (cls_cell hq).2
             go_simp
             first
               | exact ⟨hq, rfl⟩
               | exact ⟨cls_alloc hq _, rfl⟩
               | (refine (markText_any kk _ (by omega) (by omega)).mono ?_; rintro e w2 ⟨rfl, hb2⟩; exact ⟨rfl, cls_trans hq hb2⟩)
               | (simp only [↓IntWalk.iteOmega]; exact ⟨hq, rfl⟩)
           simp only [Act.put, List.setIfInBounds_toArray, List.set_cons_zero, List.set_cons_succ]))
      refine inText_nil ?_
      intro wn hn
      replace hn := hn.out
      go_wp2
      exact ⟨⟨i + 1, by omega, by go_num, (by rw [hsuc, ← hkk]; simp only [cntStr]; congr 1; push_cast; omega), ext_trans hbl hn⟩, by simp [intOf]; omega⟩
    · have hkl : i = xs.length := by omega
      subst hkl
      go_wp2
      go_ret
      simp only [List.take_length]
      exact ⟨rfl, hbl⟩
end Go.Proofs.Ytaljcihfkblncaa

namespace Go.Proofs.Ytaljcihfkblncaa
open Go.ChangeShapes Go.WideShapes Go.ChangeAt Go.RowKit
set_option linter.unusedVariables false
set_option linter.unusedSimpArgs false

def mkLabel (x : Label) (k : Int) : Label := { key := mtext (k), value := mtext (k + 1) }
def cntLabel (x : Label) : Nat := 1 + 1
set_option maxRecDepth 100000 in
set_option maxHeartbeats 2000000 in
theorem markLabelS_any (xs : List Label) (A : Option Addr) (n c : Nat) (F : List Nat) (B : Nat) (k : Int) (w : World) (h : Own w B xs [.slice A n c] F) (hn : n = xs.length) (hk0 : 0 ≤ k) (hk : k + cntL cntLabel xs ≤ 1073741823) :
    Calls Try.prog 70 #[.slice A n c, .int .i64 k] w fun e w' => e = .returned (.int .i64 (k + cntL cntLabel xs)) ∧ Own w' B (mkL mkLabel cntLabel xs k) [.slice A n c] F ∧ Upd F w w' := by
  subst hn
  have hlen := own_len h
  go_enter Try.func70, Try.ntmps70
  go_wp2_with fail
  go_loopw [1, 5] (fun x y wr => ∃ (i : Nat), i ≤ xs.length ∧ y = .int .i64 i ∧ x = .int .i64 (k + cntL cntLabel (xs.take i)) ∧ Own wr B (mkUp mkLabel cntLabel xs k i) [.slice A xs.length c] F ∧ Upd F w wr) (fun _ y _ => xs.length - (intOf y).toNat)
  case atStart => exact ⟨0, Nat.zero_le _, rfl, by simp [cntL], by rw [mkUp_zero]; exact h, .refl _ _⟩
  case round =>
    obtain ⟨i, hi, rfl, rfl, hO, hu⟩ := hrel
    by_cases hlt : i < xs.length
    · have hle : (cntL cntLabel (xs.take i) : Int) + cntLabel xs[i] ≤ cntL cntLabel xs := by have := cntL_succ (cnt := cntLabel) hlt; have := cntL_le (cnt := cntLabel) xs (i + 1); omega
      have hsuc := cntL_succ (cnt := cntLabel) hlt
      obtain ⟨b, o, ck, Fk, rfl, hbF, hsub, hbk, hOe, hE, hcl⟩ := hO.elt (k := i) (by rw [mkUp_len hi]; exact hlt)
      rw [mkUp_get hlt] at hOe
      have hRe := hOe.rd
      obtain ⟨hck, hFk, hkey, hvalue⟩ := rd_Label hRe
      clear hRe
      subst hck hFk
      generalize hkk : k + (cntL cntLabel (xs.take i) : Int) = kk
      have hkk0 : 0 ≤ kk := by omega
      have hkk1 : kk + cntLabel xs[i] ≤ 1073741823 := by omega
      simp only [cntLabel] at hkk1
      push_cast at hkk1
      clear hO
      have q0 := hE.at_ (q := o + i * 2) (j := 0) (by show _ = o + i * 2 + 0; omega) rfl
      have z0 := hE.plain.frozen (o + i * 2)
      have q1 := hE.at_ (q := o + i * 2 + 1) (j := 1) (by show _ = o + i * 2 + 1; omega) rfl
      have z1 := hE.plain.frozen (o + i * 2 + 1)
      go_wp2_with fail
      clear q0 z0 q1 z1
      refine (markText_any (kk) _ (by omega) (by omega)).mono ?_
      rintro e w1 ⟨rfl, hb1⟩
      replace hE := hE.ext hb1
      have q0 := hE.at_ (q := o + i * 2) (j := 0) (by show _ = o + i * 2 + 0; omega) rfl
      have z0 := hE.plain.frozen (o + i * 2)
      have q1 := hE.at_ (q := o + i * 2 + 1) (j := 1) (by show _ = o + i * 2 + 1; omega) rfl
      have z1 := hE.plain.frozen (o + i * 2 + 1)
      go_wp2_with fail
      clear q0 z0 q1 z1
      replace hE := hE.set (j := 0) (q := o + i * 2) (by simp) (by show _ = o + i * 2 + 0; omega) (.string (mtext (kk)))
      simp only [List.set_cons_zero, List.set_cons_succ] at hE
      refine (markText_any (kk + 1) _ (by omega) (by omega)).mono ?_
      rintro e w2 ⟨rfl, hb2⟩
      replace hE := hE.ext hb2
      have q0 := hE.at_ (q := o + i * 2) (j := 0) (by show _ = o + i * 2 + 0; omega) rfl
      have z0 := hE.plain.frozen (o + i * 2)
      have q1 := hE.at_ (q := o + i * 2 + 1) (j := 1) (by show _ = o + i * 2 + 1; omega) rfl
      have z1 := hE.plain.frozen (o + i * 2 + 1)
      go_wp2_with fail
      clear q0 z0 q1 z1
      replace hE := hE.set (j := 1) (q := o + i * 2 + 1) (by simp) (by show _ = o + i * 2 + 1; omega) (.string (mtext (kk + 1)))
      simp only [List.set_cons_zero, List.set_cons_succ] at hE
      have hP := hcl _ (mkLabel xs[i] kk) _ ⟨(by have := (rd_pair (rdStr (w2.setCell ⟨b, o + i * 2 + 1, none⟩ (.string (mtext (kk + 1)))) (mtext (kk)) (mtext63 (by omega))) (rdStr (w2.setCell ⟨b, o + i * 2 + 1, none⟩ (.string (mtext (kk + 1)))) (mtext (kk + 1)) (mtext63 (by omega)))); simp only [List.nil_append, List.append_nil, List.append_assoc, List.cons_append] at this; exact this), hOe.nodup, hOe.base, (by intro y hy; cases hy)⟩ hE
      have hU := hu.trans (hE.upd.mono (G := F) (fun y hy => by rcases List.mem_cons.1 hy with rfl | hy; exact hbF; exact hsub y hy))
      have hset : (mkUp mkLabel cntLabel xs k i).set i (mkLabel xs[i] kk) = mkUp mkLabel cntLabel xs k (i + 1) := by rw [← hkk]; exact mkUp_set hlt
      rw [hset] at hP
      refine ⟨⟨i + 1, by omega, by go_num, ?_, hP, hU⟩, by simp [intOf]; omega⟩
      rw [hsuc]; simp only [cntLabel]; congr 1; push_cast; omega
    · have hkl : i = xs.length := by omega
      subst hkl
      go_wp2
      go_ret
      rw [mkUp_full] at hO
      simp only [List.take_length]
      exact ⟨rfl, hO, hu⟩
set_option maxRecDepth 100000 in
set_option maxHeartbeats 2000000 in
theorem heldLabelS_any (xs : List Label) (A : Option Addr) (n c : Nat) (F : List Nat) (k : Int) (w : World) (h : rd w xs [.slice A n c] F) (hn : n = xs.length) (hm : mkL mkLabel cntLabel xs k = xs) (hk0 : 0 ≤ k) (hk : k + cntL cntLabel xs ≤ 1073741823) :
    Calls Try.prog 73 #[.slice A n c, .int .i64 k] w fun e w' => e = .returned (.int .i64 (k + cntL cntLabel xs)) ∧ Below w.heap.size w w' := by
  subst hn
  have hlen := rd_len h
  have HM := Lib.hid hm
  clear hm
  go_enter Try.func73, Try.ntmps73
  go_wp2_with fail
  go_loopw [1, 5] (fun x y wr => ∃ (i : Nat), i ≤ xs.length ∧ y = .int .i64 i ∧ x = .int .i64 (k + cntL cntLabel (xs.take i)) ∧ Below w.heap.size w wr) (fun _ y _ => xs.length - (intOf y).toNat)
  case atStart => exact ⟨0, Nat.zero_le _, rfl, by simp [cntL], ext_refl _⟩
  case round =>
    obtain ⟨i, hi, rfl, rfl, hbl⟩ := hrel
    by_cases hlt : i < xs.length
    · have hle : (cntL cntLabel (xs.take i) : Int) + cntLabel xs[i] ≤ cntL cntLabel xs := by have := cntL_succ (cnt := cntLabel) hlt; have := cntL_le (cnt := cntLabel) xs (i + 1); omega
      have hsuc := cntL_succ (cnt := cntLabel) hlt
      have hfix := mkL_fix HM.out hlt
      obtain ⟨b, o, ck, Fk, rfl, hbF, hbs, hr, hsub, hc⟩ := (Sl.ext (w' := wr) (A := A) (c := c) h hbl).get hlt
      obtain ⟨hck, hFk, hkey, hvalue⟩ := rd_Label hr
      clear hr
      subst hck
      generalize hkk : k + (cntL cntLabel (xs.take i) : Int) = kk at hfix ⊢
      have hkk0 : 0 ≤ kk := by omega
      have hkk1 : kk + cntLabel xs[i] ≤ 1073741823 := by omega
      simp only [cntLabel] at hkk1
      push_cast at hkk1
      have e0 : mtext (kk) = xs[i].key := congrArg (fun z : Label => z.key) hfix
      have q0 : wr.cell? ⟨b, o + i * 2, none⟩ = some (.string xs[i].key) := by have := hc 0 _ rfl; rwa [show o + (i * Dat.size Label + 0) = o + i * 2 from by show o + (i * 2 + 0) = _; omega] at this
      rw [← e0] at q0
      clear e0
      have e1 : mtext (kk + 1) = xs[i].value := congrArg (fun z : Label => z.value) hfix
      have q1 : wr.cell? ⟨b, o + i * 2 + 1, none⟩ = some (.string xs[i].value) := by have := hc 1 _ rfl; rwa [show o + (i * Dat.size Label + 1) = o + i * 2 + 1 from by show o + (i * 2 + 1) = _; omega] at this
      rw [← e1] at q1
      clear e1
      clear hc hfix
      go_wp2_with fail
      refine wp_region_grow wr (by kernel_rfl) (by kernel_rfl) (ext_refl _) ?_
      repeat (first
        | (apply inText_skip
           case hw => rfl
           simp only [Act.put, List.setIfInBounds_toArray, List.set_cons_zero, List.set_cons_succ])
        | (apply inText_step
           case hw => rfl
           case h =>
             intro wq hq
             have hcq := (cls_cell hq).1
             have hfq := (cls_cell hq).2
             go_simp
             first
               | exact ⟨hq, rfl⟩
               | exact ⟨cls_alloc hq _, rfl⟩
               | (refine (markText_any (kk) _ (by omega) (by omega)).mono ?_; rintro e w2 ⟨rfl, hb2⟩; exact ⟨rfl, cls_trans hq hb2⟩)
               | (simp only [↓IntWalk.iteOmega]; exact ⟨hq, rfl⟩)
           simp only [Act.put, List.setIfInBounds_toArray, List.set_cons_zero, List.set_cons_succ]))
      refine inText_nil ?_
      intro wn1 hn1
      replace hn1 := hn1.out
      replace q0 := ((bcell hn1).1 b _ hbs).trans q0
      replace q1 := ((bcell hn1).1 b _ hbs).trans q1
      replace hbs := Nat.lt_of_lt_of_le hbs hn1.size
      replace hbl := ext_trans hbl hn1
      go_wp2_with fail
      refine wp_region_grow wn1 (by kernel_rfl) (by kernel_rfl) (ext_refl _) ?_
      repeat (first
        | (apply inText_skip
           case hw => rfl
           simp only [Act.put, List.setIfInBounds_toArray, List.set_cons_zero, List.set_cons_succ])
        | (apply inText_step
           case hw => rfl
           case h =>
             intro wq hq
             have hcq := (cls_cell hq).1
             have hfq := (cls_cell hq).2
             go_simp
             first
               | exact ⟨hq, rfl⟩
               | exact ⟨cls_alloc hq _, rfl⟩
               | (refine (markText_any (kk + 1) _ (by omega) (by omega)).mono ?_; rintro e w2 ⟨rfl, hb2⟩; exact ⟨rfl, cls_trans hq hb2⟩)
               | (simp only [↓IntWalk.iteOmega]; exact ⟨hq, rfl⟩)
           simp only [Act.put, List.setIfInBounds_toArray, List.set_cons_zero, List.set_cons_succ]))
      refine inText_nil ?_
      intro wn2 hn2
      replace hn2 := hn2.out
      replace q0 := ((bcell hn2).1 b _ hbs).trans q0
      replace q1 := ((bcell hn2).1 b _ hbs).trans q1
      replace hbs := Nat.lt_of_lt_of_le hbs hn2.size
      replace hbl := ext_trans hbl hn2
      go_wp2
      refine ⟨⟨i + 1, by omega, by go_num, ?_, hbl⟩, by simp [intOf]; omega⟩
      rw [hsuc]; simp only [cntLabel]; congr 1; push_cast; omega
    · have hkl : i = xs.length := by omega
      subst hkl
      go_wp2
      go_ret
      simp only [List.take_length]
      exact ⟨rfl, hbl⟩
end Go.Proofs.Ytaljcihfkblncaa

namespace Go.Proofs.Ytaljcihfkblncaa
open Go.ChangeShapes Go.WideShapes Go.ChangeAt Go.RowKit
set_option linter.unusedVariables false
set_option linter.unusedSimpArgs false

theorem cntLabel_mk (x : Label) (k : Int) : cntLabel (mkLabel x k) = cntLabel x := by simp [cntLabel, mkLabel]
theorem mkLabel_idem (x : Label) (k : Int) : mkLabel (mkLabel x k) k = mkLabel x k := by simp [mkLabel]
end Go.Proofs.Ytaljcihfkblncaa

namespace Go.Proofs.Ytaljcihfkblncaa
open Go.ChangeShapes Go.WideShapes Go.ChangeAt Go.RowKit
set_option linter.unusedVariables false
set_option linter.unusedSimpArgs false

def mkNeed (x : Need) (k : Int) : Need := { key := mtext (k), op := (k + 1), values := mkL mkStr cntStr x.values (k + 1 + 1) }
def cntNeed (x : Need) : Nat := 1 + 1 + cntL cntStr x.values
set_option maxRecDepth 100000 in
set_option maxHeartbeats 2000000 in
theorem markNeedS_any (xs : List Need) (A : Option Addr) (n c : Nat) (F : List Nat) (B : Nat) (k : Int) (w : World) (h : Own w B xs [.slice A n c] F) (hn : n = xs.length) (hk0 : 0 ≤ k) (hk : k + cntL cntNeed xs ≤ 1073741823) :
    Calls Try.prog 71 #[.slice A n c, .int .i64 k] w fun e w' => e = .returned (.int .i64 (k + cntL cntNeed xs)) ∧ Own w' B (mkL mkNeed cntNeed xs k) [.slice A n c] F ∧ Upd F w w' := by
  subst hn
  have hlen := own_len h
  go_enter Try.func71, Try.ntmps71
  go_wp2_with fail
  go_loopw [1, 5] (fun x y wr => ∃ (i : Nat), i ≤ xs.length ∧ y = .int .i64 i ∧ x = .int .i64 (k + cntL cntNeed (xs.take i)) ∧ Own wr B (mkUp mkNeed cntNeed xs k i) [.slice A xs.length c] F ∧ Upd F w wr) (fun _ y _ => xs.length - (intOf y).toNat)
  case atStart => exact ⟨0, Nat.zero_le _, rfl, by simp [cntL], by rw [mkUp_zero]; exact h, .refl _ _⟩
  case round =>
    obtain ⟨i, hi, rfl, rfl, hO, hu⟩ := hrel
    by_cases hlt : i < xs.length
    · have hle : (cntL cntNeed (xs.take i) : Int) + cntNeed xs[i] ≤ cntL cntNeed xs := by have := cntL_succ (cnt := cntNeed) hlt; have := cntL_le (cnt := cntNeed) xs (i + 1); omega
      have hsuc := cntL_succ (cnt := cntNeed) hlt
      obtain ⟨b, o, ck, Fk, rfl, hbF, hsub, hbk, hOe, hE, hcl⟩ := hO.elt (k := i) (by rw [mkUp_len hi]; exact hlt)
      rw [mkUp_get hlt] at hOe
      have hRe := hOe.rd
      obtain ⟨Avalues, cvalues, Fvalues, hck, hFk, hkey, hop, hvalues⟩ := rd_Need hRe
      clear hRe
      subst hck hFk
      have hOvalues : Own wr B xs[i].values [.slice Avalues xs[i].values.length cvalues] Fk := ⟨hvalues, hOe.nodup, fun y hy => hOe.base y (by simp [hy]), fun y hy => hOe.plain y (by simp [hy])⟩
      have hbvalues : b ∉ Fk := fun hb => hbk (by simp [hb])
      generalize hkk : k + (cntL cntNeed (xs.take i) : Int) = kk
      have hkk0 : 0 ≤ kk := by omega
      have hkk1 : kk + cntNeed xs[i] ≤ 1073741823 := by omega
      simp only [cntNeed] at hkk1
      push_cast at hkk1
      clear hO
      have q0 := hE.at_ (q := o + i * 3) (j := 0) (by show _ = o + i * 3 + 0; omega) rfl
      have z0 := hE.plain.frozen (o + i * 3)
      have q1 := hE.at_ (q := o + i * 3 + 1) (j := 1) (by show _ = o + i * 3 + 1; omega) rfl
      have z1 := hE.plain.frozen (o + i * 3 + 1)
      have q2 := hE.at_ (q := o + i * 3 + 2) (j := 2) (by show _ = o + i * 3 + 2; omega) rfl
      have z2 := hE.plain.frozen (o + i * 3 + 2)
      go_wp2_with fail
      clear q0 z0 q1 z1 q2 z2
      refine (markText_any (kk) _ (by omega) (by omega)).mono ?_
      rintro e w1 ⟨rfl, hb1⟩
      replace hE := hE.ext hb1
      replace hOvalues := hOvalues.ext hb1
      have q0 := hE.at_ (q := o + i * 3) (j := 0) (by show _ = o + i * 3 + 0; omega) rfl
      have z0 := hE.plain.frozen (o + i * 3)
      have q1 := hE.at_ (q := o + i * 3 + 1) (j := 1) (by show _ = o + i * 3 + 1; omega) rfl
      have z1 := hE.plain.frozen (o + i * 3 + 1)
      have q2 := hE.at_ (q := o + i * 3 + 2) (j := 2) (by show _ = o + i * 3 + 2; omega) rfl
      have z2 := hE.plain.frozen (o + i * 3 + 2)
      go_wp2_with fail
      clear q0 z0 q1 z1 q2 z2
      replace hE := hE.set (j := 0) (q := o + i * 3) (by simp) (by show _ = o + i * 3 + 0; omega) (.string (mtext (kk)))
      simp only [List.set_cons_zero, List.set_cons_succ] at hE
      replace hOvalues := hOvalues.setC (p := ⟨b, o + i * 3, none⟩) hbvalues (.string (mtext (kk)))
      replace hE := hE.set (j := 1) (q := o + i * 3 + 1) (by simp) (by show _ = o + i * 3 + 1; omega) (.int .i64 (kk + 1))
      simp only [List.set_cons_zero, List.set_cons_succ] at hE
      replace hOvalues := hOvalues.setC (p := ⟨b, o + i * 3 + 1, none⟩) hbvalues (.int .i64 (kk + 1))
      refine (markStringS_any xs[i].values _ _ _ _ _ (kk + 1 + 1) _ hOvalues rfl (by omega) (by omega)).mono ?_
      rintro e w2 ⟨rfl, hNvalues, hUvalues⟩
      replace hE := hE.step hUvalues (fun y hy => by simp [hy]) hbvalues
      replace hOvalues := hNvalues
      have q0 := hE.at_ (q := o + i * 3) (j := 0) (by show _ = o + i * 3 + 0; omega) rfl
      have z0 := hE.plain.frozen (o + i * 3)
      have q1 := hE.at_ (q := o + i * 3 + 1) (j := 1) (by show _ = o + i * 3 + 1; omega) rfl
      have z1 := hE.plain.frozen (o + i * 3 + 1)
      have q2 := hE.at_ (q := o + i * 3 + 2) (j := 2) (by show _ = o + i * 3 + 2; omega) rfl
      have z2 := hE.plain.frozen (o + i * 3 + 2)
      go_wp2_with fail
      clear q0 z0 q1 z1 q2 z2
      have hP := hcl _ (mkNeed xs[i] kk) _ ⟨(by have := (rd_pair (rdStr w2 (mtext (kk)) (mtext63 (by omega))) (rd_pair (rdInt w2 ((kk + 1)) (by unfold I64; omega)) (hOvalues.rd))); simp only [List.nil_append, List.append_nil, List.append_assoc, List.cons_append] at this; exact this), hOe.nodup, hOe.base, (by intro y hy; (try simp only [List.mem_append] at hy); rcases hy with hy; exact hOvalues.plain y hy)⟩ hE
      have hU := hu.trans (hE.upd.mono (G := F) (fun y hy => by rcases List.mem_cons.1 hy with rfl | hy; exact hbF; exact hsub y hy))
      have hset : (mkUp mkNeed cntNeed xs k i).set i (mkNeed xs[i] kk) = mkUp mkNeed cntNeed xs k (i + 1) := by rw [← hkk]; exact mkUp_set hlt
      rw [hset] at hP
      refine ⟨⟨i + 1, by omega, by go_num, ?_, hP, hU⟩, by simp [intOf]; omega⟩
      rw [hsuc]; simp only [cntNeed]; congr 1; push_cast; omega
    · have hkl : i = xs.length := by omega
      subst hkl
      go_wp2
      go_ret
      rw [mkUp_full] at hO
      simp only [List.take_length]
      exact ⟨rfl, hO, hu⟩
set_option maxRecDepth 100000 in
set_option maxHeartbeats 2000000 in
theorem heldNeedS_any (xs : List Need) (A : Option Addr) (n c : Nat) (F : List Nat) (k : Int) (w : World) (h : rd w xs [.slice A n c] F) (hn : n = xs.length) (hm : mkL mkNeed cntNeed xs k = xs) (hk0 : 0 ≤ k) (hk : k + cntL cntNeed xs ≤ 1073741823) :
    Calls Try.prog 74 #[.slice A n c, .int .i64 k] w fun e w' => e = .returned (.int .i64 (k + cntL cntNeed xs)) ∧ Below w.heap.size w w' := by
  subst hn
  have hlen := rd_len h
  have HM := Lib.hid hm
  clear hm
  go_enter Try.func74, Try.ntmps74
  go_wp2_with fail
  go_loopw [1, 5] (fun x y wr => ∃ (i : Nat), i ≤ xs.length ∧ y = .int .i64 i ∧ x = .int .i64 (k + cntL cntNeed (xs.take i)) ∧ Below w.heap.size w wr) (fun _ y _ => xs.length - (intOf y).toNat)
  case atStart => exact ⟨0, Nat.zero_le _, rfl, by simp [cntL], ext_refl _⟩
  case round =>
    obtain ⟨i, hi, rfl, rfl, hbl⟩ := hrel
    by_cases hlt : i < xs.length
    · have hle : (cntL cntNeed (xs.take i) : Int) + cntNeed xs[i] ≤ cntL cntNeed xs := by have := cntL_succ (cnt := cntNeed) hlt; have := cntL_le (cnt := cntNeed) xs (i + 1); omega
      have hsuc := cntL_succ (cnt := cntNeed) hlt
      have hfix := mkL_fix HM.out hlt
      obtain ⟨b, o, ck, Fk, rfl, hbF, hbs, hr, hsub, hc⟩ := (Sl.ext (w' := wr) (A := A) (c := c) h hbl).get hlt
      obtain ⟨Avalues, cvalues, Fvalues, hck, hFk, hkey, hop, hvalues⟩ := rd_Need hr
      clear hr
      subst hck
      generalize hkk : k + (cntL cntNeed (xs.take i) : Int) = kk at hfix ⊢
      have hkk0 : 0 ≤ kk := by omega
      have hkk1 : kk + cntNeed xs[i] ≤ 1073741823 := by omega
      simp only [cntNeed] at hkk1
      push_cast at hkk1
      have e0 : mtext (kk) = xs[i].key := congrArg (fun z : Need => z.key) hfix
      have q0 : wr.cell? ⟨b, o + i * 3, none⟩ = some (.string xs[i].key) := by have := hc 0 _ rfl; rwa [show o + (i * Dat.size Need + 0) = o + i * 3 from by show o + (i * 3 + 0) = _; omega] at this
      rw [← e0] at q0
      clear e0
      have e1 : (kk + 1) = xs[i].op := congrArg (fun z : Need => z.op) hfix
      have q1 : wr.cell? ⟨b, o + i * 3 + 1, none⟩ = some (.int .i64 xs[i].op) := by have := hc 1 _ rfl; rwa [show o + (i * Dat.size Need + 1) = o + i * 3 + 1 from by show o + (i * 3 + 1) = _; omega] at this
      rw [← e1] at q1
      clear e1
      have e2 : mkL mkStr cntStr xs[i].values (kk + 1 + 1) = xs[i].values := congrArg (fun z : Need => z.values) hfix
      have q2 : wr.cell? ⟨b, o + i * 3 + 2, none⟩ = some (.slice Avalues xs[i].values.length cvalues) := by have := hc 2 _ rfl; rwa [show o + (i * Dat.size Need + 2) = o + i * 3 + 2 from by show o + (i * 3 + 2) = _; omega] at this
      clear hc hfix
      go_wp2_with fail
      refine wp_region_grow wr (by kernel_rfl) (by kernel_rfl) (ext_refl _) ?_
      repeat (first
        | (apply inText_skip
           case hw => rfl
           simp only [Act.put, List.setIfInBounds_toArray, List.set_cons_zero, List.set_cons_succ])
        | (apply inText_step
           case hw => rfl
           case h =>
             intro wq hq
             have hcq := (cls_cell hq).1
             have hfq := (cls_cell hq).2
             go_simp
             first
               | exact ⟨hq, rfl⟩
               | exact ⟨cls_alloc hq _, rfl⟩
               | (refine (markText_any (kk) _ (by omega) (by omega)).mono ?_; rintro e w2 ⟨rfl, hb2⟩; exact ⟨rfl, cls_trans hq hb2⟩)
               | (simp only [↓IntWalk.iteOmega]; exact ⟨hq, rfl⟩)
           simp only [Act.put, List.setIfInBounds_toArray, List.set_cons_zero, List.set_cons_succ]))
      refine inText_nil ?_
      intro wn1 hn1
      replace hn1 := hn1.out
      replace q0 := ((bcell hn1).1 b _ hbs).trans q0
      replace q1 := ((bcell hn1).1 b _ hbs).trans q1
      replace q2 := ((bcell hn1).1 b _ hbs).trans q2
      replace hvalues := Sl.ext hvalues hn1
      replace hbs := Nat.lt_of_lt_of_le hbs hn1.size
      replace hbl := ext_trans hbl hn1
      go_wp2_with fail
      refine (heldStringS_any xs[i].values _ _ _ _ (kk + 1 + 1) _ hvalues rfl e2 (by omega) (by omega)).mono ?_
      rintro e wn2 ⟨rfl, hn2⟩
      replace q0 := ((bcell hn2).1 b _ hbs).trans q0
      replace q1 := ((bcell hn2).1 b _ hbs).trans q1
      replace q2 := ((bcell hn2).1 b _ hbs).trans q2
      replace hvalues := Sl.ext hvalues hn2
      replace hbs := Nat.lt_of_lt_of_le hbs hn2.size
      replace hbl := ext_trans hbl hn2
      go_wp2
      refine ⟨⟨i + 1, by omega, by go_num, ?_, hbl⟩, by simp [intOf]; omega⟩
      rw [hsuc]; simp only [cntNeed]; congr 1; push_cast; omega
    · have hkl : i = xs.length := by omega
      subst hkl
      go_wp2
      go_ret
      simp only [List.take_length]
      exact ⟨rfl, hbl⟩
end Go.Proofs.Ytaljcihfkblncaa

namespace Go.Proofs.Ytaljcihfkblncaa
open Go.ChangeShapes Go.WideShapes Go.ChangeAt Go.RowKit
set_option linter.unusedVariables false
set_option linter.unusedSimpArgs false

theorem cntStr_mk (x : ByteArray) (k : Int) : cntStr (mkStr x k) = cntStr x := rfl
theorem mkStr_idem (x : ByteArray) (k : Int) : mkStr (mkStr x k) k = mkStr x k := rfl
end Go.Proofs.Ytaljcihfkblncaa

namespace Go.Proofs.Ytaljcihfkblncaa
open Go.ChangeShapes Go.WideShapes Go.ChangeAt Go.RowKit
set_option linter.unusedVariables false
set_option linter.unusedSimpArgs false

theorem cntNeed_mk (x : Need) (k : Int) : cntNeed (mkNeed x k) = cntNeed x := by simp [cntNeed, mkNeed, cntL_mkL cntStr_mk]
theorem mkNeed_idem (x : Need) (k : Int) : mkNeed (mkNeed x k) k = mkNeed x k := by simp [mkNeed, mkL_idem cntStr_mk mkStr_idem, cntL_mkL cntStr_mk]
end Go.Proofs.Ytaljcihfkblncaa

namespace Go.Proofs.Ytaljcihfkblncaa
open Go.ChangeShapes Go.WideShapes Go.ChangeAt Go.RowKit
set_option linter.unusedVariables false
set_option linter.unusedSimpArgs false

def mkTolerance (x : Tolerance) (k : Int) : Tolerance := { key := mtext (k), equal := decide ((k + 1) % 3 = 0), value := mtext (k + 1 + 1), effect := (k + 1 + 1 + 1) }
def cntTolerance (x : Tolerance) : Nat := 1 + 1 + 1 + 1
set_option maxRecDepth 100000 in
set_option maxHeartbeats 2000000 in
theorem markToleranceS_any (xs : List Tolerance) (A : Option Addr) (n c : Nat) (F : List Nat) (B : Nat) (k : Int) (w : World) (h : Own w B xs [.slice A n c] F) (hn : n = xs.length) (hk0 : 0 ≤ k) (hk : k + cntL cntTolerance xs ≤ 1073741823) :
    Calls Try.prog 72 #[.slice A n c, .int .i64 k] w fun e w' => e = .returned (.int .i64 (k + cntL cntTolerance xs)) ∧ Own w' B (mkL mkTolerance cntTolerance xs k) [.slice A n c] F ∧ Upd F w w' := by
  subst hn
  have hlen := own_len h
  go_enter Try.func72, Try.ntmps72
  go_wp2_with fail
  go_loopw [1, 5] (fun x y wr => ∃ (i : Nat), i ≤ xs.length ∧ y = .int .i64 i ∧ x = .int .i64 (k + cntL cntTolerance (xs.take i)) ∧ Own wr B (mkUp mkTolerance cntTolerance xs k i) [.slice A xs.length c] F ∧ Upd F w wr) (fun _ y _ => xs.length - (intOf y).toNat)
  case atStart => exact ⟨0, Nat.zero_le _, rfl, by simp [cntL], by rw [mkUp_zero]; exact h, .refl _ _⟩
  case round =>
    obtain ⟨i, hi, rfl, rfl, hO, hu⟩ := hrel
    by_cases hlt : i < xs.length
    · have hle : (cntL cntTolerance (xs.take i) : Int) + cntTolerance xs[i] ≤ cntL cntTolerance xs := by have := cntL_succ (cnt := cntTolerance) hlt; have := cntL_le (cnt := cntTolerance) xs (i + 1); omega
      have hsuc := cntL_succ (cnt := cntTolerance) hlt
      obtain ⟨b, o, ck, Fk, rfl, hbF, hsub, hbk, hOe, hE, hcl⟩ := hO.elt (k := i) (by rw [mkUp_len hi]; exact hlt)
      rw [mkUp_get hlt] at hOe
      have hRe := hOe.rd
      obtain ⟨hck, hFk, hkey, hvalue, heffect⟩ := rd_Tolerance hRe
      clear hRe
      subst hck hFk
      generalize hkk : k + (cntL cntTolerance (xs.take i) : Int) = kk
      have hkk0 : 0 ≤ kk := by omega
      have hkk1 : kk + cntTolerance xs[i] ≤ 1073741823 := by omega
      simp only [cntTolerance] at hkk1
      push_cast at hkk1
      clear hO
      have q0 := hE.at_ (q := o + i * 4) (j := 0) (by show _ = o + i * 4 + 0; omega) rfl
      have z0 := hE.plain.frozen (o + i * 4)
      have q1 := hE.at_ (q := o + i * 4 + 1) (j := 1) (by show _ = o + i * 4 + 1; omega) rfl
      have z1 := hE.plain.frozen (o + i * 4 + 1)
      have q2 := hE.at_ (q := o + i * 4 + 2) (j := 2) (by show _ = o + i * 4 + 2; omega) rfl
      have z2 := hE.plain.frozen (o + i * 4 + 2)
      have q3 := hE.at_ (q := o + i * 4 + 3) (j := 3) (by show _ = o + i * 4 + 3; omega) rfl
      have z3 := hE.plain.frozen (o + i * 4 + 3)
      go_wp2_with fail
      clear q0 z0 q1 z1 q2 z2 q3 z3
      refine (markText_any (kk) _ (by omega) (by omega)).mono ?_
      rintro e w1 ⟨rfl, hb1⟩
      replace hE := hE.ext hb1
      have q0 := hE.at_ (q := o + i * 4) (j := 0) (by show _ = o + i * 4 + 0; omega) rfl
      have z0 := hE.plain.frozen (o + i * 4)
      have q1 := hE.at_ (q := o + i * 4 + 1) (j := 1) (by show _ = o + i * 4 + 1; omega) rfl
      have z1 := hE.plain.frozen (o + i * 4 + 1)
      have q2 := hE.at_ (q := o + i * 4 + 2) (j := 2) (by show _ = o + i * 4 + 2; omega) rfl
      have z2 := hE.plain.frozen (o + i * 4 + 2)
      have q3 := hE.at_ (q := o + i * 4 + 3) (j := 3) (by show _ = o + i * 4 + 3; omega) rfl
      have z3 := hE.plain.frozen (o + i * 4 + 3)
      go_wp2_with fail
      clear q0 z0 q1 z1 q2 z2 q3 z3
      replace hE := hE.set (j := 0) (q := o + i * 4) (by simp) (by show _ = o + i * 4 + 0; omega) (.string (mtext (kk)))
      simp only [List.set_cons_zero, List.set_cons_succ] at hE
      replace hE := hE.set (j := 1) (q := o + i * 4 + 1) (by simp) (by show _ = o + i * 4 + 1; omega) (.bool (decide ((kk + 1) % 3 = 0)))
      simp only [List.set_cons_zero, List.set_cons_succ] at hE
      refine (markText_any (kk + 1 + 1) _ (by omega) (by omega)).mono ?_
      rintro e w2 ⟨rfl, hb2⟩
      replace hE := hE.ext hb2
      have q0 := hE.at_ (q := o + i * 4) (j := 0) (by show _ = o + i * 4 + 0; omega) rfl
      have z0 := hE.plain.frozen (o + i * 4)
      have q1 := hE.at_ (q := o + i * 4 + 1) (j := 1) (by show _ = o + i * 4 + 1; omega) rfl
      have z1 := hE.plain.frozen (o + i * 4 + 1)
      have q2 := hE.at_ (q := o + i * 4 + 2) (j := 2) (by show _ = o + i * 4 + 2; omega) rfl
      have z2 := hE.plain.frozen (o + i * 4 + 2)
      have q3 := hE.at_ (q := o + i * 4 + 3) (j := 3) (by show _ = o + i * 4 + 3; omega) rfl
      have z3 := hE.plain.frozen (o + i * 4 + 3)
      go_wp2_with fail
      clear q0 z0 q1 z1 q2 z2 q3 z3
      replace hE := hE.set (j := 2) (q := o + i * 4 + 2) (by simp) (by show _ = o + i * 4 + 2; omega) (.string (mtext (kk + 1 + 1)))
      simp only [List.set_cons_zero, List.set_cons_succ] at hE
      replace hE := hE.set (j := 3) (q := o + i * 4 + 3) (by simp) (by show _ = o + i * 4 + 3; omega) (.int .i64 (kk + 1 + 1 + 1))
      simp only [List.set_cons_zero, List.set_cons_succ] at hE
      have hP := hcl _ (mkTolerance xs[i] kk) _ ⟨(by have := (rd_pair (rdStr ((w2.setCell ⟨b, o + i * 4 + 2, none⟩ (.string (mtext (kk + 1 + 1)))).setCell ⟨b, o + i * 4 + 3, none⟩ (.int .i64 (kk + 1 + 1 + 1))) (mtext (kk)) (mtext63 (by omega))) (rd_pair (rdBool ((w2.setCell ⟨b, o + i * 4 + 2, none⟩ (.string (mtext (kk + 1 + 1)))).setCell ⟨b, o + i * 4 + 3, none⟩ (.int .i64 (kk + 1 + 1 + 1))) (decide ((kk + 1) % 3 = 0))) (rd_pair (rdStr ((w2.setCell ⟨b, o + i * 4 + 2, none⟩ (.string (mtext (kk + 1 + 1)))).setCell ⟨b, o + i * 4 + 3, none⟩ (.int .i64 (kk + 1 + 1 + 1))) (mtext (kk + 1 + 1)) (mtext63 (by omega))) (rdInt ((w2.setCell ⟨b, o + i * 4 + 2, none⟩ (.string (mtext (kk + 1 + 1)))).setCell ⟨b, o + i * 4 + 3, none⟩ (.int .i64 (kk + 1 + 1 + 1))) ((kk + 1 + 1 + 1)) (by unfold I64; omega))))); simp only [List.nil_append, List.append_nil, List.append_assoc, List.cons_append] at this; exact this), hOe.nodup, hOe.base, (by intro y hy; cases hy)⟩ hE
      have hU := hu.trans (hE.upd.mono (G := F) (fun y hy => by rcases List.mem_cons.1 hy with rfl | hy; exact hbF; exact hsub y hy))
      have hset : (mkUp mkTolerance cntTolerance xs k i).set i (mkTolerance xs[i] kk) = mkUp mkTolerance cntTolerance xs k (i + 1) := by rw [← hkk]; exact mkUp_set hlt
      rw [hset] at hP
      refine ⟨⟨i + 1, by omega, by go_num, ?_, hP, hU⟩, by simp [intOf]; omega⟩
      rw [hsuc]; simp only [cntTolerance]; congr 1; push_cast; omega
    · have hkl : i = xs.length := by omega
      subst hkl
      go_wp2
      go_ret
      rw [mkUp_full] at hO
      simp only [List.take_length]
      exact ⟨rfl, hO, hu⟩
set_option maxRecDepth 100000 in
set_option maxHeartbeats 2000000 in
theorem heldToleranceS_any (xs : List Tolerance) (A : Option Addr) (n c : Nat) (F : List Nat) (k : Int) (w : World) (h : rd w xs [.slice A n c] F) (hn : n = xs.length) (hm : mkL mkTolerance cntTolerance xs k = xs) (hk0 : 0 ≤ k) (hk : k + cntL cntTolerance xs ≤ 1073741823) :
    Calls Try.prog 75 #[.slice A n c, .int .i64 k] w fun e w' => e = .returned (.int .i64 (k + cntL cntTolerance xs)) ∧ Below w.heap.size w w' := by
  subst hn
  have hlen := rd_len h
  have HM := Lib.hid hm
  clear hm
  go_enter Try.func75, Try.ntmps75
  go_wp2_with fail
  go_loopw [1, 5] (fun x y wr => ∃ (i : Nat), i ≤ xs.length ∧ y = .int .i64 i ∧ x = .int .i64 (k + cntL cntTolerance (xs.take i)) ∧ Below w.heap.size w wr) (fun _ y _ => xs.length - (intOf y).toNat)
  case atStart => exact ⟨0, Nat.zero_le _, rfl, by simp [cntL], ext_refl _⟩
  case round =>
    obtain ⟨i, hi, rfl, rfl, hbl⟩ := hrel
    by_cases hlt : i < xs.length
    · have hle : (cntL cntTolerance (xs.take i) : Int) + cntTolerance xs[i] ≤ cntL cntTolerance xs := by have := cntL_succ (cnt := cntTolerance) hlt; have := cntL_le (cnt := cntTolerance) xs (i + 1); omega
      have hsuc := cntL_succ (cnt := cntTolerance) hlt
      have hfix := mkL_fix HM.out hlt
      obtain ⟨b, o, ck, Fk, rfl, hbF, hbs, hr, hsub, hc⟩ := (Sl.ext (w' := wr) (A := A) (c := c) h hbl).get hlt
      obtain ⟨hck, hFk, hkey, hvalue, heffect⟩ := rd_Tolerance hr
      clear hr
      subst hck
      generalize hkk : k + (cntL cntTolerance (xs.take i) : Int) = kk at hfix ⊢
      have hkk0 : 0 ≤ kk := by omega
      have hkk1 : kk + cntTolerance xs[i] ≤ 1073741823 := by omega
      simp only [cntTolerance] at hkk1
      push_cast at hkk1
      have e0 : mtext (kk) = xs[i].key := congrArg (fun z : Tolerance => z.key) hfix
      have q0 : wr.cell? ⟨b, o + i * 4, none⟩ = some (.string xs[i].key) := by have := hc 0 _ rfl; rwa [show o + (i * Dat.size Tolerance + 0) = o + i * 4 from by show o + (i * 4 + 0) = _; omega] at this
      rw [← e0] at q0
      clear e0
      have e1 : decide ((kk + 1) % 3 = 0) = xs[i].equal := congrArg (fun z : Tolerance => z.equal) hfix
      have q1 : wr.cell? ⟨b, o + i * 4 + 1, none⟩ = some (.bool xs[i].equal) := by have := hc 1 _ rfl; rwa [show o + (i * Dat.size Tolerance + 1) = o + i * 4 + 1 from by show o + (i * 4 + 1) = _; omega] at this
      rw [← e1] at q1
      clear e1
      rw [show decide ((kk + 1) % 3 = 0) = ((kk + 1) % 3 == 0) from rfl] at q1
      have e2 : mtext (kk + 1 + 1) = xs[i].value := congrArg (fun z : Tolerance => z.value) hfix
      have q2 : wr.cell? ⟨b, o + i * 4 + 2, none⟩ = some (.string xs[i].value) := by have := hc 2 _ rfl; rwa [show o + (i * Dat.size Tolerance + 2) = o + i * 4 + 2 from by show o + (i * 4 + 2) = _; omega] at this
      rw [← e2] at q2
      clear e2
      have e3 : (kk + 1 + 1 + 1) = xs[i].effect := congrArg (fun z : Tolerance => z.effect) hfix
      have q3 : wr.cell? ⟨b, o + i * 4 + 3, none⟩ = some (.int .i64 xs[i].effect) := by have := hc 3 _ rfl; rwa [show o + (i * Dat.size Tolerance + 3) = o + i * 4 + 3 from by show o + (i * 4 + 3) = _; omega] at this
      rw [← e3] at q3
      clear e3
      clear hc hfix
      go_wp2_with fail
      refine wp_region_grow wr (by kernel_rfl) (by kernel_rfl) (ext_refl _) ?_
      repeat (first
        | (apply inText_skip
           case hw => rfl
           simp only [Act.put, List.setIfInBounds_toArray, List.set_cons_zero, List.set_cons_succ])
        | (apply inText_step
           case hw => rfl
           case h =>
             intro wq hq
             have hcq := (cls_cell hq).1
             have hfq := (cls_cell hq).2
             go_simp
             first
               | exact ⟨hq, rfl⟩
               | exact ⟨cls_alloc hq _, rfl⟩
               | (refine (markText_any (kk) _ (by omega) (by omega)).mono ?_; rintro e w2 ⟨rfl, hb2⟩; exact ⟨rfl, cls_trans hq hb2⟩)
               | (simp only [↓IntWalk.iteOmega]; exact ⟨hq, rfl⟩)
           simp only [Act.put, List.setIfInBounds_toArray, List.set_cons_zero, List.set_cons_succ]))
      refine inText_nil ?_
      intro wn1 hn1
      replace hn1 := hn1.out
      replace q0 := ((bcell hn1).1 b _ hbs).trans q0
      replace q1 := ((bcell hn1).1 b _ hbs).trans q1
      replace q2 := ((bcell hn1).1 b _ hbs).trans q2
      replace q3 := ((bcell hn1).1 b _ hbs).trans q3
      replace hbs := Nat.lt_of_lt_of_le hbs hn1.size
      replace hbl := ext_trans hbl hn1
      go_wp2_with fail
      refine wp_region_grow wn1 (by kernel_rfl) (by kernel_rfl) (ext_refl _) ?_
      repeat (first
        | (apply inText_skip
           case hw => rfl
           simp only [Act.put, List.setIfInBounds_toArray, List.set_cons_zero, List.set_cons_succ])
        | (apply inText_step
           case hw => rfl
           case h =>
             intro wq hq
             have hcq := (cls_cell hq).1
             have hfq := (cls_cell hq).2
             go_simp
             first
               | exact ⟨hq, rfl⟩
               | exact ⟨cls_alloc hq _, rfl⟩
               | (refine (markText_any (kk + 1 + 1) _ (by omega) (by omega)).mono ?_; rintro e w2 ⟨rfl, hb2⟩; exact ⟨rfl, cls_trans hq hb2⟩)
               | (simp only [↓IntWalk.iteOmega]; exact ⟨hq, rfl⟩)
           simp only [Act.put, List.setIfInBounds_toArray, List.set_cons_zero, List.set_cons_succ]))
      refine inText_nil ?_
      intro wn2 hn2
      replace hn2 := hn2.out
      replace q0 := ((bcell hn2).1 b _ hbs).trans q0
      replace q1 := ((bcell hn2).1 b _ hbs).trans q1
      replace q2 := ((bcell hn2).1 b _ hbs).trans q2
      replace q3 := ((bcell hn2).1 b _ hbs).trans q3
      replace hbs := Nat.lt_of_lt_of_le hbs hn2.size
      replace hbl := ext_trans hbl hn2
      go_wp2
      refine ⟨⟨i + 1, by omega, by go_num, ?_, hbl⟩, by simp [intOf]; omega⟩
      rw [hsuc]; simp only [cntTolerance]; congr 1; push_cast; omega
    · have hkl : i = xs.length := by omega
      subst hkl
      go_wp2
      go_ret
      simp only [List.take_length]
      exact ⟨rfl, hbl⟩
end Go.Proofs.Ytaljcihfkblncaa

namespace Go.Proofs.Ytaljcihfkblncaa
open Go.ChangeShapes Go.WideShapes Go.ChangeAt Go.RowKit
set_option linter.unusedVariables false
set_option linter.unusedSimpArgs false

theorem cntTolerance_mk (x : Tolerance) (k : Int) : cntTolerance (mkTolerance x k) = cntTolerance x := by simp [cntTolerance, mkTolerance]
theorem mkTolerance_idem (x : Tolerance) (k : Int) : mkTolerance (mkTolerance x k) k = mkTolerance x k := by simp [mkTolerance]
end Go.Proofs.Ytaljcihfkblncaa

namespace Go.Proofs.Ytaljcihfkblncaa
open Go.ChangeShapes Go.WideShapes Go.ChangeAt Go.RowKit
set_option linter.unusedVariables false
set_option linter.unusedSimpArgs false

end Go.Proofs.Ytaljcihfkblncaa

namespace Go.Proofs.Ytaljcihfkblncaa
open Go.ChangeShapes Go.WideShapes Go.ChangeAt Go.RowKit
set_option linter.unusedVariables false
set_option linter.unusedSimpArgs false

def mkTopPod (x : Pod) (k : Int) : Pod := { x with labels := mkL mkLabel cntLabel x.labels (k), needs := mkL mkNeed cntNeed x.needs (k + (cntL cntLabel x.labels : Int)), tolerances := mkL mkTolerance cntTolerance x.tolerances (k + (cntL cntLabel x.labels : Int) + (cntL cntNeed x.needs : Int)) }
def cntTopPod (x : Pod) : Nat := cntL cntLabel x.labels + cntL cntNeed x.needs + cntL cntTolerance x.tolerances
theorem cntTopPod_mk (x : Pod) (k : Int) : cntTopPod (mkTopPod x k) = cntTopPod x := by simp [cntTopPod, mkTopPod, cntL_mkL cntLabel_mk, cntL_mkL cntNeed_mk, cntL_mkL cntTolerance_mk]
theorem mkTopPod_idem (x : Pod) (k : Int) : mkTopPod (mkTopPod x k) k = mkTopPod x k := by simp [mkTopPod, mkL_idem cntLabel_mk mkLabel_idem, mkL_idem cntNeed_mk mkNeed_idem, mkL_idem cntTolerance_mk mkTolerance_idem, cntL_mkL cntLabel_mk, cntL_mkL cntNeed_mk, cntL_mkL cntTolerance_mk]
set_option maxRecDepth 100000 in
set_option maxHeartbeats 2000000 in
theorem markPod_any (x : Pod) (cs : List Value) (F : List Nat) (B : Nat) (k : Int) (w : World) (h : Own w B x cs F) (hk0 : 0 ≤ k) (hk : k + cntTopPod x ≤ 1073741823) :
    Calls Try.prog 27 #[.agg cs.toArray, .int .i64 k] w fun e w' => e = .returned (.int .i64 (k + cntTopPod x)) ∧ Own w' B (mkTopPod x k) cs F ∧ Upd F w w' := by
  have hr := h.rd
  obtain ⟨Alabels, clabels, Flabels, Aneeds, cneeds, Fneeds, Atolerances, ctolerances, Ftolerances, hck, hFk, hname, hlabels, hcpu, hmem, hrank, hneeds, htolerances⟩ := rd_Pod hr
  clear hr
  subst hck hFk
  simp only [cntTopPod] at hk ⊢
  push_cast at hk ⊢
  have hnd := h.nodup
  simp only [List.nodup_append, List.mem_append] at hnd
  have hdlabels_needs : ∀ y ∈ Flabels, y ∉ Fneeds := fun y ha hb => hnd.2.2 y ha y (.inl hb) rfl
  have hdneeds_labels : ∀ y ∈ Fneeds, y ∉ Flabels := fun y hb ha => hnd.2.2 y ha y (.inl hb) rfl
  have hdlabels_tolerances : ∀ y ∈ Flabels, y ∉ Ftolerances := fun y ha hb => hnd.2.2 y ha y (.inr hb) rfl
  have hdtolerances_labels : ∀ y ∈ Ftolerances, y ∉ Flabels := fun y hb ha => hnd.2.2 y ha y (.inr hb) rfl
  have hdneeds_tolerances : ∀ y ∈ Fneeds, y ∉ Ftolerances := fun y ha hb => hnd.2.1.2.2 y ha y hb rfl
  have hdtolerances_needs : ∀ y ∈ Ftolerances, y ∉ Fneeds := fun y hb ha => hnd.2.1.2.2 y ha y hb rfl
  have hOlabels : Own w B x.labels [.slice Alabels x.labels.length clabels] Flabels := ⟨hlabels, hnd.1, fun y hy => h.base y (by simp [hy]), fun y hy => h.plain y (by simp [hy])⟩
  have hOneeds : Own w B x.needs [.slice Aneeds x.needs.length cneeds] Fneeds := ⟨hneeds, hnd.2.1.1, fun y hy => h.base y (by simp [hy]), fun y hy => h.plain y (by simp [hy])⟩
  have hOtolerances : Own w B x.tolerances [.slice Atolerances x.tolerances.length ctolerances] Ftolerances := ⟨htolerances, hnd.2.1.2.1, fun y hy => h.base y (by simp [hy]), fun y hy => h.plain y (by simp [hy])⟩
  go_enter Try.func27, Try.ntmps27
  go_wp2_with fail
  generalize hwa : World.alloc w _ = wa
  have hUa : Upd (Flabels ++ (Fneeds ++ (Ftolerances))) w wa := hwa ▸ Upd.of_ext _ (ext_alloc (ext_refl w) _)
  have hz : w.heap.size < wa.heap.size := by rw [← hwa]; simp
  replace hOlabels : Own wa B x.labels [.slice Alabels x.labels.length clabels] Flabels := hwa ▸ hOlabels.alloc _
  have hglabels : w.heap.size ∉ Flabels := fun hy => Nat.lt_irrefl _ (h.lt _ (by simp [hy]))
  have qlabels : wa.cell? ⟨w.heap.size, 1, none⟩ = some (.slice Alabels x.labels.length clabels) := by rw [← hwa, cell_of_row _ _ _ _ _ _ (heap_alloc_new w _)]; rfl
  replace hOneeds : Own wa B x.needs [.slice Aneeds x.needs.length cneeds] Fneeds := hwa ▸ hOneeds.alloc _
  have hgneeds : w.heap.size ∉ Fneeds := fun hy => Nat.lt_irrefl _ (h.lt _ (by simp [hy]))
  have qneeds : wa.cell? ⟨w.heap.size, 5, none⟩ = some (.slice Aneeds x.needs.length cneeds) := by rw [← hwa, cell_of_row _ _ _ _ _ _ (heap_alloc_new w _)]; rfl
  replace hOtolerances : Own wa B x.tolerances [.slice Atolerances x.tolerances.length ctolerances] Ftolerances := hwa ▸ hOtolerances.alloc _
  have hgtolerances : w.heap.size ∉ Ftolerances := fun hy => Nat.lt_irrefl _ (h.lt _ (by simp [hy]))
  have qtolerances : wa.cell? ⟨w.heap.size, 6, none⟩ = some (.slice Atolerances x.tolerances.length ctolerances) := by rw [← hwa, cell_of_row _ _ _ _ _ _ (heap_alloc_new w _)]; rfl
  clear hwa
  refine (markLabelS_any x.labels _ _ _ _ _ (k) _ hOlabels rfl (by omega) (by omega)).mono ?_
  rintro e w1 ⟨rfl, hNlabels, hUlabels⟩
  replace qlabels := (World.cell?_of_block (a := ⟨w.heap.size, 1, none⟩) (hUlabels.block _ hz hglabels)).trans qlabels
  replace hOneeds := hUlabels.own hOneeds hdneeds_labels
  replace qneeds := (World.cell?_of_block (a := ⟨w.heap.size, 5, none⟩) (hUlabels.block _ hz hglabels)).trans qneeds
  replace hOtolerances := hUlabels.own hOtolerances hdtolerances_labels
  replace qtolerances := (World.cell?_of_block (a := ⟨w.heap.size, 6, none⟩) (hUlabels.block _ hz hglabels)).trans qtolerances
  replace hz := Nat.lt_of_lt_of_le hz hUlabels.size
  replace hOlabels := hNlabels
  go_wp2_with fail
  refine (markNeedS_any x.needs _ _ _ _ _ (k + (cntL cntLabel x.labels : Int)) _ hOneeds rfl (by omega) (by omega)).mono ?_
  rintro e w2 ⟨rfl, hNneeds, hUneeds⟩
  replace hOlabels := hUneeds.own hOlabels hdlabels_needs
  replace qlabels := (World.cell?_of_block (a := ⟨w.heap.size, 1, none⟩) (hUneeds.block _ hz hgneeds)).trans qlabels
  replace qneeds := (World.cell?_of_block (a := ⟨w.heap.size, 5, none⟩) (hUneeds.block _ hz hgneeds)).trans qneeds
  replace hOtolerances := hUneeds.own hOtolerances hdtolerances_needs
  replace qtolerances := (World.cell?_of_block (a := ⟨w.heap.size, 6, none⟩) (hUneeds.block _ hz hgneeds)).trans qtolerances
  replace hz := Nat.lt_of_lt_of_le hz hUneeds.size
  replace hOneeds := hNneeds
  go_wp2_with fail
  refine (markToleranceS_any x.tolerances _ _ _ _ _ (k + (cntL cntLabel x.labels : Int) + (cntL cntNeed x.needs : Int)) _ hOtolerances rfl (by omega) (by omega)).mono ?_
  rintro e w3 ⟨rfl, hNtolerances, hUtolerances⟩
  replace hOlabels := hUtolerances.own hOlabels hdlabels_tolerances
  replace qlabels := (World.cell?_of_block (a := ⟨w.heap.size, 1, none⟩) (hUtolerances.block _ hz hgtolerances)).trans qlabels
  replace hOneeds := hUtolerances.own hOneeds hdneeds_tolerances
  replace qneeds := (World.cell?_of_block (a := ⟨w.heap.size, 5, none⟩) (hUtolerances.block _ hz hgtolerances)).trans qneeds
  replace qtolerances := (World.cell?_of_block (a := ⟨w.heap.size, 6, none⟩) (hUtolerances.block _ hz hgtolerances)).trans qtolerances
  replace hz := Nat.lt_of_lt_of_le hz hUtolerances.size
  replace hOtolerances := hNtolerances
  go_wp2_with fail
  go_ret
  refine ⟨by first | rfl | (simp only [Int.add_assoc, Int.natCast_add]; rfl), ?_, (((hUa.trans (hUlabels.mono (G := Flabels ++ (Fneeds ++ (Ftolerances))) (fun y hy => by simp [hy]))).trans (hUneeds.mono (G := Flabels ++ (Fneeds ++ (Ftolerances))) (fun y hy => by simp [hy]))).trans (hUtolerances.mono (G := Flabels ++ (Fneeds ++ (Ftolerances))) (fun y hy => by simp [hy])))⟩
  exact ⟨(by have := (rd_pair (rdStr w3 (x.name) (sz63 hname)) (rd_pair (hOlabels.rd) (rd_pair (rdInt w3 (x.cpu) hcpu) (rd_pair (rdInt w3 (x.mem) hmem) (rd_pair (rdInt w3 (x.rank) hrank) (rd_pair (hOneeds.rd) (hOtolerances.rd))))))); simp only [List.nil_append, List.append_nil, List.append_assoc, List.cons_append, mkL_len] at this; exact this), h.nodup, h.base, (by intro y hy; (try simp only [List.mem_append] at hy); rcases hy with hy | hy | hy <;> first | exact hOlabels.plain y hy | exact hOneeds.plain y hy | exact hOtolerances.plain y hy)⟩
set_option maxRecDepth 100000 in
set_option maxHeartbeats 2000000 in
theorem heldPod_any (x : Pod) (cs : List Value) (F : List Nat) (k : Int) (w : World) (h : rd w x cs F) (hm : mkTopPod x k = x) (hk0 : 0 ≤ k) (hk : k + cntTopPod x ≤ 1073741823) :
    Calls Try.prog 28 #[.agg cs.toArray, .int .i64 k] w fun e w' => e = .returned (.int .i64 (k + cntTopPod x)) ∧ Below w.heap.size w w' := by
  obtain ⟨Alabels, clabels, Flabels, Aneeds, cneeds, Fneeds, Atolerances, ctolerances, Ftolerances, hck, hFk, hname, hlabels, hcpu, hmem, hrank, hneeds, htolerances⟩ := rd_Pod h
  clear h
  subst hck
  simp only [cntTopPod] at hk ⊢
  push_cast at hk ⊢
  have e0 : mkL mkLabel cntLabel x.labels (k) = x.labels := congrArg (fun z : Pod => z.labels) hm
  have e1 : mkL mkNeed cntNeed x.needs (k + (cntL cntLabel x.labels : Int)) = x.needs := congrArg (fun z : Pod => z.needs) hm
  have e2 : mkL mkTolerance cntTolerance x.tolerances (k + (cntL cntLabel x.labels : Int) + (cntL cntNeed x.needs : Int)) = x.tolerances := congrArg (fun z : Pod => z.tolerances) hm
  clear hm
  have hbl := ext_refl w
  go_enter Try.func28, Try.ntmps28
  go_wp2_with fail
  generalize hwa : World.alloc w _ = wa
  replace hbl : Below w.heap.size w wa := hwa ▸ ext_alloc (ext_refl w) _
  have hz : w.heap.size < wa.heap.size := by rw [← hwa]; simp
  replace hlabels : Sl wa x.labels Alabels clabels Flabels := Sl.ext hlabels hbl
  have qlabels : wa.cell? ⟨w.heap.size, 1, none⟩ = some (.slice Alabels x.labels.length clabels) := by rw [← hwa, cell_of_row _ _ _ _ _ _ (heap_alloc_new w _)]; rfl
  replace hneeds : Sl wa x.needs Aneeds cneeds Fneeds := Sl.ext hneeds hbl
  have qneeds : wa.cell? ⟨w.heap.size, 5, none⟩ = some (.slice Aneeds x.needs.length cneeds) := by rw [← hwa, cell_of_row _ _ _ _ _ _ (heap_alloc_new w _)]; rfl
  replace htolerances : Sl wa x.tolerances Atolerances ctolerances Ftolerances := Sl.ext htolerances hbl
  have qtolerances : wa.cell? ⟨w.heap.size, 6, none⟩ = some (.slice Atolerances x.tolerances.length ctolerances) := by rw [← hwa, cell_of_row _ _ _ _ _ _ (heap_alloc_new w _)]; rfl
  clear hwa
  refine (heldLabelS_any x.labels _ _ _ _ (k) _ hlabels rfl e0 (by omega) (by omega)).mono ?_
  rintro e w1 ⟨rfl, hn⟩
  replace hlabels := Sl.ext hlabels hn
  replace qlabels := ((bcell hn).1 _ _ hz).trans qlabels
  replace hneeds := Sl.ext hneeds hn
  replace qneeds := ((bcell hn).1 _ _ hz).trans qneeds
  replace htolerances := Sl.ext htolerances hn
  replace qtolerances := ((bcell hn).1 _ _ hz).trans qtolerances
  replace hz := Nat.lt_of_lt_of_le hz hn.size
  replace hbl := ext_trans hbl hn
  clear hn
  go_wp2_with fail
  refine (heldNeedS_any x.needs _ _ _ _ (k + (cntL cntLabel x.labels : Int)) _ hneeds rfl e1 (by omega) (by omega)).mono ?_
  rintro e w2 ⟨rfl, hn⟩
  replace hlabels := Sl.ext hlabels hn
  replace qlabels := ((bcell hn).1 _ _ hz).trans qlabels
  replace hneeds := Sl.ext hneeds hn
  replace qneeds := ((bcell hn).1 _ _ hz).trans qneeds
  replace htolerances := Sl.ext htolerances hn
  replace qtolerances := ((bcell hn).1 _ _ hz).trans qtolerances
  replace hz := Nat.lt_of_lt_of_le hz hn.size
  replace hbl := ext_trans hbl hn
  clear hn
  go_wp2_with fail
  refine (heldToleranceS_any x.tolerances _ _ _ _ (k + (cntL cntLabel x.labels : Int) + (cntL cntNeed x.needs : Int)) _ htolerances rfl e2 (by omega) (by omega)).mono ?_
  rintro e w3 ⟨rfl, hn⟩
  replace hlabels := Sl.ext hlabels hn
  replace qlabels := ((bcell hn).1 _ _ hz).trans qlabels
  replace hneeds := Sl.ext hneeds hn
  replace qneeds := ((bcell hn).1 _ _ hz).trans qneeds
  replace htolerances := Sl.ext htolerances hn
  replace qtolerances := ((bcell hn).1 _ _ hz).trans qtolerances
  replace hz := Nat.lt_of_lt_of_le hz hn.size
  replace hbl := ext_trans hbl hn
  clear hn
  go_wp2_with fail
  go_ret
  exact ⟨by first | rfl | (simp only [Int.add_assoc, Int.natCast_add]; rfl), hbl⟩
end Go.Proofs.Ytaljcihfkblncaa

namespace Go.Proofs.Ytaljcihfkblncaa
open Go.ChangeShapes Go.WideShapes Go.ChangeAt Go.RowKit
set_option linter.unusedVariables false
set_option linter.unusedSimpArgs false

theorem rd_ext {α : Type} [Dat α] {w w' : World} {x : α} {cs : List Value} {F : List Nat} (h : rd w x cs F) (hb : Below w.heap.size w w') : rd w' x cs F :=
  Dat.frame h (fun b hb' => hb.block b (Dat.lt h b hb')) hb.size
theorem bcellB {B : Nat} {W w1 : World} (hb : Below B W w1) : (∀ b o, b < B → w1.cell? ⟨b, o, none⟩ = W.cell? ⟨b, o, none⟩) ∧ (∀ b o, b < B → w1.frozen? ⟨b, o, none⟩ = W.frozen? ⟨b, o, none⟩) :=
  ⟨fun b o h => hb.cell (p := ⟨b, o, none⟩) h, fun b o h => hb.frozen (p := ⟨b, o, none⟩) h⟩
theorem same_self {α : Type} {eq : α → α → Bool} (h : ∀ a, eq a a = true) : ∀ l, same eq l l = true
  | [] => rfl
  | a :: l => by simp [same, h, same_self h l]
theorem same_int (l : List Int) : same eqInt l l = true := same_self (fun a => (eqInt_iff a a).2 rfl) l
theorem same_str (l : List ByteArray) : same eqStr l l = true := same_self (fun a => (eqStr_iff a a).2 rfl) l

end Go.Proofs.Ytaljcihfkblncaa

namespace Go.Proofs.Ytaljcihfkblncaa
open Go.ChangeShapes Go.WideShapes Go.ChangeAt Go.RowKit
set_option linter.unusedVariables false
set_option linter.unusedSimpArgs false
theorem Own.drew {α : Type} [Dat α] {w : World} {B : Nat} {x : α} {cs : List Value} {F : List Nat} (h : Own w B x cs F) : Own w.drew B x cs F := h.ext (ext_drew (ext_refl _))

end Go.Proofs.Ytaljcihfkblncaa

namespace Go.Proofs.Ytaljcihfkblncaa
open Go.ChangeShapes Go.WideShapes Go.ChangeAt Go.RowKit
set_option linter.unusedVariables false
set_option linter.unusedSimpArgs false

theorem manyL_len {α : Type} (r : Int × Bool → α × (Int × Bool)) (s : ByteArray) (st : Int × Bool) : (manyL r s 4 st).1.length ≤ 4 := by
  have h := loopS_len r (manyS s 4 st).1.toNat [] (manyS s 4 st).2
  have := manyS_ways s 4 st (by decide)
  refine Nat.le_trans h ?_
  rw [List.length_nil]
  omega
theorem manyL_all {α : Type} {r : Int × Bool → α × (Int × Bool)} {p : α → Prop} (hr : ∀ st, p (r st).1) (s : ByteArray) (most : Int) (st : Int × Bool) : ∀ x ∈ (manyL r s most st).1, p x := loopS_all hr _ _ _ (fun l hl => by cases hl)
theorem podS_name (s : ByteArray) (st : Int × Bool) (hs : (s.size : Int) ≤ 1048576) : ((podS s st).1.name.size : Int) ≤ 1048576 := textS_size s st hs
theorem podS_labels (s : ByteArray) (st : Int × Bool) (hs : (s.size : Int) ≤ 1048576) : (podS s st).1.labels.length ≤ 6 ∧ ∀ l ∈ (podS s st).1.labels, (l.key.size : Int) ≤ 1048576 ∧ (l.value.size : Int) ≤ 1048576 :=
  ⟨labelsS_len s _, labelsS_small s _ hs⟩
theorem podS_needs (s : ByteArray) (st : Int × Bool) (hs : (s.size : Int) ≤ 1048576) : (podS s st).1.needs.length ≤ 4 ∧ ∀ l ∈ (podS s st).1.needs, SmallN l := ⟨manyL_len _ s _, manyL_all (fun a => needS_small s a hs) s _ _⟩
theorem podS_tols (s : ByteArray) (st : Int × Bool) (hs : (s.size : Int) ≤ 1048576) : (podS s st).1.tolerances.length ≤ 4 ∧ ∀ l ∈ (podS s st).1.tolerances, SmallT l := by
  unfold podS restPS
  dsimp only
  exact ⟨manyL_len _ s _, manyL_all (fun a => tolS_small s a hs) s _ _⟩
theorem podS_tolsN (s : ByteArray) (st : Int × Bool) : (podS s st).1.tolerances.length ≤ 4 := by
  unfold podS restPS
  dsimp only
  exact manyL_len _ s _
theorem needS_vals (s : ByteArray) (a : Int × Bool) : (needS s a).1.values.length ≤ 4 := manyL_len _ s _
theorem cntL_most {α : Type} {cnt : α → Nat} {c : Nat} : ∀ xs : List α, (∀ x ∈ xs, cnt x ≤ c) → cntL cnt xs ≤ c * xs.length
  | [], _ => Nat.zero_le _
  | x :: xs, h => by
    have h1 := cntL_most xs (fun y hy => h y (List.mem_cons_of_mem _ hy))
    have h2 := h x (List.mem_cons_self ..)
    simp only [cntL, List.map_cons, List.sum_cons, List.length_cons, Nat.mul_add, Nat.mul_one] at h1 ⊢
    omega
theorem readPodI_cnt (s : ByteArray) (a : Int) : (cntTopPod (readPodI s a).1 : Int) ≤ 1048576 := by
  rw [readPod_same]
  unfold readPodS
  split
  · decide
  · rename_i h
    show (cntTopPod (podS s (a, false)).1 : Int) ≤ 1048576
    have h1 : (podS s (a, false)).1.labels.length ≤ 6 := labelsS_len s (textS s (a, false)).2
    have h2 : (podS s (a, false)).1.needs.length ≤ 4 := manyL_len _ s _
    have h3 := podS_tolsN s (a, false)
    have h4 : ∀ x ∈ (podS s (a, false)).1.needs, cntNeed x ≤ 6 := manyL_all (p := fun x => cntNeed x ≤ 6) (fun st => by
      have h5 := needS_vals s st
      have h6 := cntL_most (cnt := cntStr) (c := 1) (needS s st).1.values (fun _ _ => Nat.le_refl 1)
      unfold cntNeed
      omega) s _ _
    have h7 := cntL_most _ h4
    have h8 := cntL_most (cnt := cntTolerance) (c := 4) (podS s (a, false)).1.tolerances (fun x _ => by unfold cntTolerance; omega)
    have h9 := cntL_most (cnt := cntLabel) (c := 2) (podS s (a, false)).1.labels (fun x _ => by unfold cntLabel; omega)
    unfold cntTopPod
    omega
set_option maxRecDepth 100000 in
set_option maxHeartbeats 2000000 in
theorem ReadPod_impl (s : ByteArray) (a : Int) (w : World) (hs : (s.size : Int) ≤ 1048576) (ha : I64 a) :
    Calls Try.prog 26 #[.string s, .int .i64 a] w fun e w' => ∃ ds F, e = .returned (.tuple #[.agg ds.toArray, .int .i64 (readPodI s a).2]) ∧ Own w' w.heap.size (readPodI s a).1 ds F ∧ Below w.heap.size w w' := by
  have HR := Lib.hid (show readPodI s a = if (podI s a).2 < 0 then (zeroPod, -1) else podI s a from rfl)
  have HL := Lib.hid (fun b wq hq => pod_any s b a wq hq hs)
  generalize podI s a = q at *
  generalize readPodI s a = R at *
  go_enter Try.func26, Try.ntmps26
  go_wp2_with fail
  have hI0 : ICur ((w.alloc (.cells ([.string ⟨#[]⟩, .slice none 0 0, .int .i64 0, .int .i64 0, .int .i64 0, .slice none 0 0, .slice none 0 0] : List Value).toArray 33)).alloc (.cells #[.string s, .int .i64 a] 105)) (w.heap.size + 1) s a := ⟨⟨_, by have := heap_alloc_new (w.alloc (.cells ([.string ⟨#[]⟩, .slice none 0 0, .int .i64 0, .int .i64 0, .int .i64 0, .slice none 0 0, .slice none 0 0] : List Value).toArray 33)) (.cells #[.string s, .int .i64 a] 105); simpa using this⟩, ha⟩
  refine (HL.out _ _ hI0).mono ?_
  rintro e w2 ⟨ds2, F2, rfl, hO, hI, hu⟩
  have hz2 : w.heap.size + 1 < w2.heap.size := by have := hu.size; (try simp at this); omega
  have hy2 : w.heap.size < w2.heap.size := by omega
  have RB := (Blk.new w [.string ⟨#[]⟩, .slice none 0 0, .int .i64 0, .int .i64 0, .int .i64 0, .slice none 0 0, .slice none 0 0] 33).ext (w' := (w.alloc (.cells ([.string ⟨#[]⟩, .slice none 0 0, .int .i64 0, .int .i64 0, .int .i64 0, .slice none 0 0, .slice none 0 0] : List Value).toArray 33)).alloc (.cells #[.string s, .int .i64 a] 105)) (ext_alloc (ext_refl _) _) |>.upd hu (by omega)
  have HB := Lib.hid (((Upd.of_ext [w.heap.size + 1] (ext_alloc (ext_alloc (ext_refl w) (.cells ([.string ⟨#[]⟩, .slice none 0 0, .int .i64 0, .int .i64 0, .int .i64 0, .slice none 0 0, .slice none 0 0] : List Value).toArray 33)) (.cells #[.string s, .int .i64 a] 105))).trans hu).below (B := w.heap.size) (fun y hy => by simp only [List.mem_singleton] at hy; omega) (Nat.le_refl _))
  have HO := Lib.hid (hO.mono (B' := w.heap.size + 1) (by simp))
  have hR := hO.rd
  obtain ⟨Alabels7, clabels7, Flabels7, Aneeds7, cneeds7, Fneeds7, Atolerances7, ctolerances7, Ftolerances7, hck, hG, hname7, hlabels7, hcpu7, hmem7, hrank7, hneeds7, htolerances7⟩ := rd_Pod hR
  subst hck
  have r0 := RB.cell (i := 0) (u := .string ⟨#[]⟩) rfl
  have r1 := RB.cell (i := 1) (u := .slice none 0 0) rfl
  have r2 := RB.cell (i := 2) (u := .int .i64 0) rfl
  have r3 := RB.cell (i := 3) (u := .int .i64 0) rfl
  have r4 := RB.cell (i := 4) (u := .int .i64 0) rfl
  have r5 := RB.cell (i := 5) (u := .slice none 0 0) rfl
  have r6 := RB.cell (i := 6) (u := .slice none 0 0) rfl
  have rl := RB.lt
  have rf := RB.fz
  have hc1 := hI.c1
  have hlt := hI.lt
  have H2 := Lib.hid hI
  clear hO hu hI hR hG hlabels7 hneeds7 htolerances7 RB hI0
  by_cases hn : q.2 < 0
  · have HF := Lib.hid (show R = (zeroPod, -1) by rw [HR.out, if_pos hn])
    go_wp2_with fail
    refine (bad_any s (w.heap.size + 1) q.2 _ (H2.out.ext (by repeat (first | with_reducible exact ext_refl _ | with_reducible assumption | with_reducible refine ext_alloc ?_ _ | with_reducible refine ext_trans ?_ (by assumption))))).mono ?_
    rw [show decide (q.2 < 0) = true by simp [hn]]
    rintro e w4 ⟨rfl, hw⟩
    simp only [hw]
    clear hw w4
    iterate 60 (first | go_step | skip)
    refine bodyPost_ret (v := .tuple #[.agg #[.string ⟨#[]⟩, .slice none 0 0, .int .i64 0, .int .i64 0, .int .i64 0, .slice none 0 0, .slice none 0 0], .int .i64 (-1)]) (by simp [results, Try.results26, go_sem, *]) rfl ?_
    rw [HF.out]
    have HB9 := HB.out
    first
      | refine ⟨[.string ⟨#[]⟩, .slice none 0 0, .int .i64 0, .int .i64 0, .int .i64 0, .slice none 0 0, .slice none 0 0], [], rfl, ?_, ?_⟩
      | refine ⟨[.string ⟨#[]⟩, .slice none 0 0, .int .i64 0, .int .i64 0, .int .i64 0, .slice none 0 0, .slice none 0 0], rfl, ⟨[], ?_⟩, ?_⟩
    · exact Own.zeroP _ _
    · repeat (first | with_reducible exact HB9 | with_reducible refine ext_drew ?_ | with_reducible refine ext_setCell ?_ (by exact Nat.le_refl _) _ | with_reducible refine ext_alloc ?_ _ | with_reducible refine ext_trans ?_ (by assumption))
  · have HF := Lib.hid (show R = q by rw [HR.out, if_neg hn])
    go_wp2_with fail
    refine (bad_any s (w.heap.size + 1) q.2 _ (H2.out.ext (by repeat (first | with_reducible exact ext_refl _ | with_reducible assumption | with_reducible refine ext_alloc ?_ _ | with_reducible refine ext_trans ?_ (by assumption))))).mono ?_
    rw [show decide (q.2 < 0) = false by simp; omega]
    rintro e w4 ⟨rfl, hw⟩
    simp only [hw]
    clear hw w4
    iterate 60 (first | go_step | skip)
    go_region_with fail
    all_goals iterate 60 (first | go_step | skip)
    all_goals
      refine bodyPost_ret (v := .tuple #[.agg #[.string q.1.name, .slice Alabels7 q.1.labels.length clabels7, .int .i64 q.1.cpu, .int .i64 q.1.mem, .int .i64 q.1.rank, .slice Aneeds7 q.1.needs.length cneeds7, .slice Atolerances7 q.1.tolerances.length ctolerances7], .int .i64 q.2]) (by simp [results, Try.results26, go_sem, *]) rfl ?_
      rw [HF.out]
      have HB9 := HB.out
      first
        | refine ⟨[.string q.1.name, .slice Alabels7 q.1.labels.length clabels7, .int .i64 q.1.cpu, .int .i64 q.1.mem, .int .i64 q.1.rank, .slice Aneeds7 q.1.needs.length cneeds7, .slice Atolerances7 q.1.tolerances.length ctolerances7], F2, rfl, ?_, ?_⟩
        | refine ⟨[.string q.1.name, .slice Alabels7 q.1.labels.length clabels7, .int .i64 q.1.cpu, .int .i64 q.1.mem, .int .i64 q.1.rank, .slice Aneeds7 q.1.needs.length cneeds7, .slice Atolerances7 q.1.tolerances.length ctolerances7], rfl, ⟨F2, ?_⟩, ?_⟩
      · refine Own.mono (B := w.heap.size + 1) ?_ (by omega)
        repeat (first | with_reducible exact HO.out | with_reducible refine Own.drew ?_ | with_reducible refine Own.setCell ?_ (by show w.heap.size < _; omega) _ | with_reducible refine Own.alloc ?_ _ | with_reducible refine Own.ext ?_ (by assumption))
      · repeat (first | with_reducible exact HB9 | with_reducible refine ext_drew ?_ | with_reducible refine ext_setCell ?_ (by exact Nat.le_refl _) _ | with_reducible refine ext_alloc ?_ _ | with_reducible refine ext_trans ?_ (by assumption))
set_option maxRecDepth 100000 in
set_option maxHeartbeats 2000000 in
theorem ReadPod_spec (s : ByteArray) (a : Int) (w : World) (hs : (s.size : Int) ≤ 1048576) (ha : I64 a) :
    Calls Try.prog 25 #[.string s, .int .i64 a] w fun e w' => ∃ ds F, e = .returned (.tuple #[.agg ds.toArray, .int .i64 (readPodI s a).2]) ∧ Own w' w.heap.size (readPodI s a).1 ds F ∧ Below w.heap.size w w' := by
  have HR := Lib.hid (show readPodI s a = if (podS s (a, false)).2.2 = true ∨ podR (podS s (a, false)).1 = false then (zeroPod, -1) else ((podS s (a, false)).1, (podS s (a, false)).2.1) from readPod_same s a)
  have HL := Lib.hid (fun b wq hq => Pod_spec s b (a, false) wq hq hs)
  have hnm := podS_name s (a, false) hs
  obtain ⟨hll, hls⟩ := podS_labels s (a, false) hs
  obtain ⟨hnl, hns⟩ := podS_needs s (a, false) hs
  obtain ⟨htl, hts⟩ := podS_tols s (a, false) hs
  have HNS := Lib.hid hns
  clear hns
  have HLS := Lib.hid hls
  have HTS := Lib.hid hts
  clear hls hts
  generalize podS s (a, false) = q at *
  generalize readPodI s a = R at *
  go_enter Try.func25, Try.ntmps25
  go_wp2_with fail
  have hI0 : SCur ((w.alloc (.cells ([.string ⟨#[]⟩, .slice none 0 0, .int .i64 0, .int .i64 0, .int .i64 0, .slice none 0 0, .slice none 0 0] : List Value).toArray 33)).alloc (.cells #[.string s, .int .i64 a, .bool false] 102)) (w.heap.size + 1) s (a, false) := ⟨⟨_, by have := heap_alloc_new (w.alloc (.cells ([.string ⟨#[]⟩, .slice none 0 0, .int .i64 0, .int .i64 0, .int .i64 0, .slice none 0 0, .slice none 0 0] : List Value).toArray 33)) (.cells #[.string s, .int .i64 a, .bool false] 102); simpa using this⟩, ha⟩
  refine (HL.out _ _ hI0).mono ?_
  rintro e w2 ⟨ds2, F2, rfl, hO, hI, hu⟩
  have hz2 : w.heap.size + 1 < w2.heap.size := by have := hu.size; (try simp at this); omega
  have hy2 : w.heap.size < w2.heap.size := by omega
  have RB := (Blk.new w [.string ⟨#[]⟩, .slice none 0 0, .int .i64 0, .int .i64 0, .int .i64 0, .slice none 0 0, .slice none 0 0] 33).ext (w' := (w.alloc (.cells ([.string ⟨#[]⟩, .slice none 0 0, .int .i64 0, .int .i64 0, .int .i64 0, .slice none 0 0, .slice none 0 0] : List Value).toArray 33)).alloc (.cells #[.string s, .int .i64 a, .bool false] 102)) (ext_alloc (ext_refl _) _) |>.upd hu (by omega)
  have hB2 : Below w.heap.size w w2 := ((Upd.of_ext [w.heap.size + 1] (ext_alloc (ext_alloc (ext_refl w) (.cells ([.string ⟨#[]⟩, .slice none 0 0, .int .i64 0, .int .i64 0, .int .i64 0, .slice none 0 0, .slice none 0 0] : List Value).toArray 33)) (.cells #[.string s, .int .i64 a, .bool false] 102))).trans hu).below (B := w.heap.size) (fun y hy => by simp only [List.mem_singleton] at hy; omega) (Nat.le_refl _)
  have HB := Lib.hid hB2
  have HO := Lib.hid (hO.mono (B' := w.heap.size + 1) (by simp))
  have hR := hO.rd
  obtain ⟨x, n, bad⟩ := q
  dsimp only at *
  obtain ⟨Alabels7, clabels7, Flabels7, Aneeds7, cneeds7, Fneeds7, Atolerances7, ctolerances7, Ftolerances7, hck, hG, hname7, hlabels7, hcpu7, hmem7, hrank7, hneeds7, htolerances7⟩ := rd_Pod hR
  subst hck
  have r0 := RB.cell (i := 0) (u := .string ⟨#[]⟩) rfl
  have r1 := RB.cell (i := 1) (u := .slice none 0 0) rfl
  have r2 := RB.cell (i := 2) (u := .int .i64 0) rfl
  have r3 := RB.cell (i := 3) (u := .int .i64 0) rfl
  have r4 := RB.cell (i := 4) (u := .int .i64 0) rfl
  have r5 := RB.cell (i := 5) (u := .slice none 0 0) rfl
  have r6 := RB.cell (i := 6) (u := .slice none 0 0) rfl
  have rl := RB.lt
  have rf := RB.fz
  have HRB := Lib.hid RB
  have hc1 := hI.c1
  have hc2 := hI.c2
  have hlt := hI.lt
  clear hO hu hI hR hG hlabels7 hneeds7 htolerances7 RB hI0
  have hlli : (x.labels.length : Int) ≤ 1048576 := by omega
  have hnli : (x.needs.length : Int) ≤ 1048576 := by omega
  have htli : (x.tolerances.length : Int) ≤ 1048576 := by omega
  cases bad
  · cases hr : podR x
    · have HRR := Lib.hid hr
      have HF := Lib.hid (show R = (zeroPod, -1) by rw [HR.out]; simp [hr])
      clear hr
      go_wp2_with fail
      refine (PodOkC_spec x _ _ _ (rd_extT HO.out.rd (by repeat (first | with_reducible exact ext_refl _ | with_reducible assumption | with_reducible refine ext_alloc ?_ _ | with_reducible refine ext_trans ?_ (by assumption)))) hnm hlli HLS.out hnli HNS.out htli HTS.out).mono ?_
      rw [HRR.out]
      rintro e w5 ⟨rfl, hb5⟩
      obtain ⟨hc5, hf5⟩ := bcell hb5
      have hz5 : w.heap.size < w5.heap.size := by have := hb5.size; (try simp at this); omega
      have hy5 : w.heap.size + 1 < w5.heap.size := by have := hb5.size; (try simp at this); omega
      have hx5 : w2.heap.size < w5.heap.size := by have := hb5.size; (try simp at this); omega
      dsimp only
      iterate 60 (first | go_step | skip)
      have RB5 : Blk w5 w.heap.size [.string ⟨#[]⟩, .slice none 0 0, .int .i64 0, .int .i64 0, .int .i64 0, .slice none 0 0, .slice none 0 0] := HRB.out.ext (by repeat (first | with_reducible exact ext_refl _ | with_reducible assumption | with_reducible refine ext_alloc ?_ _ | with_reducible refine ext_trans ?_ (by assumption)))
      have t0 := RB5.cell (i := 0) (u := .string ⟨#[]⟩) rfl
      have t1 := RB5.cell (i := 1) (u := .slice none 0 0) rfl
      have t2 := RB5.cell (i := 2) (u := .int .i64 0) rfl
      have t3 := RB5.cell (i := 3) (u := .int .i64 0) rfl
      have t4 := RB5.cell (i := 4) (u := .int .i64 0) rfl
      have t5 := RB5.cell (i := 5) (u := .slice none 0 0) rfl
      have t6 := RB5.cell (i := 6) (u := .slice none 0 0) rfl
      have tl := RB5.lt
      clear RB5
      refine bodyPost_ret (v := .tuple #[.agg #[.string ⟨#[]⟩, .slice none 0 0, .int .i64 0, .int .i64 0, .int .i64 0, .slice none 0 0, .slice none 0 0], .int .i64 (-1)]) (by simp [results, Try.results25, go_sem, *]) rfl ?_
      rw [HF.out]
      have HB9 := HB.out
      first
        | refine ⟨[.string ⟨#[]⟩, .slice none 0 0, .int .i64 0, .int .i64 0, .int .i64 0, .slice none 0 0, .slice none 0 0], [], rfl, ?_, ?_⟩
        | refine ⟨[.string ⟨#[]⟩, .slice none 0 0, .int .i64 0, .int .i64 0, .int .i64 0, .slice none 0 0, .slice none 0 0], rfl, ⟨[], ?_⟩, ?_⟩
      · exact Own.zeroP _ _
      · repeat (first | with_reducible exact HB9 | with_reducible refine ext_drew ?_ | with_reducible refine ext_setCell ?_ (by exact Nat.le_refl _) _ | with_reducible refine ext_alloc ?_ _ | with_reducible refine ext_trans ?_ (by assumption))
    · have HRR := Lib.hid hr
      have HF := Lib.hid (show R = (x, n) by rw [HR.out]; simp [hr])
      clear hr
      go_wp2_with fail
      refine (PodOkC_spec x _ _ _ (rd_extT HO.out.rd (by repeat (first | with_reducible exact ext_refl _ | with_reducible assumption | with_reducible refine ext_alloc ?_ _ | with_reducible refine ext_trans ?_ (by assumption)))) hnm hlli HLS.out hnli HNS.out htli HTS.out).mono ?_
      rw [HRR.out]
      rintro e w5 ⟨rfl, hb5⟩
      obtain ⟨hc5, hf5⟩ := bcell hb5
      have hz5 : w.heap.size < w5.heap.size := by have := hb5.size; (try simp at this); omega
      have hy5 : w.heap.size + 1 < w5.heap.size := by have := hb5.size; (try simp at this); omega
      have hx5 : w2.heap.size < w5.heap.size := by have := hb5.size; (try simp at this); omega
      dsimp only
      iterate 60 (first | go_step | skip)
      go_region_with fail
      all_goals iterate 60 (first | go_step | skip)
      all_goals
        have RB5 : Blk w5 w.heap.size [.string ⟨#[]⟩, .slice none 0 0, .int .i64 0, .int .i64 0, .int .i64 0, .slice none 0 0, .slice none 0 0] := HRB.out.ext (by repeat (first | with_reducible exact ext_refl _ | with_reducible assumption | with_reducible refine ext_alloc ?_ _ | with_reducible refine ext_trans ?_ (by assumption)))
        have t0 := RB5.cell (i := 0) (u := .string ⟨#[]⟩) rfl
        have t1 := RB5.cell (i := 1) (u := .slice none 0 0) rfl
        have t2 := RB5.cell (i := 2) (u := .int .i64 0) rfl
        have t3 := RB5.cell (i := 3) (u := .int .i64 0) rfl
        have t4 := RB5.cell (i := 4) (u := .int .i64 0) rfl
        have t5 := RB5.cell (i := 5) (u := .slice none 0 0) rfl
        have t6 := RB5.cell (i := 6) (u := .slice none 0 0) rfl
        have tl := RB5.lt
        clear RB5
        refine bodyPost_ret (v := .tuple #[.agg #[.string x.name, .slice Alabels7 x.labels.length clabels7, .int .i64 x.cpu, .int .i64 x.mem, .int .i64 x.rank, .slice Aneeds7 x.needs.length cneeds7, .slice Atolerances7 x.tolerances.length ctolerances7], .int .i64 n]) (by simp [results, Try.results25, go_sem, *]) rfl ?_
        rw [HF.out]
        have HB9 := HB.out
        first
          | refine ⟨[.string x.name, .slice Alabels7 x.labels.length clabels7, .int .i64 x.cpu, .int .i64 x.mem, .int .i64 x.rank, .slice Aneeds7 x.needs.length cneeds7, .slice Atolerances7 x.tolerances.length ctolerances7], F2, rfl, ?_, ?_⟩
          | refine ⟨[.string x.name, .slice Alabels7 x.labels.length clabels7, .int .i64 x.cpu, .int .i64 x.mem, .int .i64 x.rank, .slice Aneeds7 x.needs.length cneeds7, .slice Atolerances7 x.tolerances.length ctolerances7], rfl, ⟨F2, ?_⟩, ?_⟩
        · refine Own.mono (B := w.heap.size + 1) ?_ (by omega)
          repeat (first | with_reducible exact HO.out | with_reducible refine Own.drew ?_ | with_reducible refine Own.setCell ?_ (by show w.heap.size < _; omega) _ | with_reducible refine Own.alloc ?_ _ | with_reducible refine Own.ext ?_ (by assumption))
        · repeat (first | with_reducible exact HB9 | with_reducible refine ext_drew ?_ | with_reducible refine ext_setCell ?_ (by exact Nat.le_refl _) _ | with_reducible refine ext_alloc ?_ _ | with_reducible refine ext_trans ?_ (by assumption))
  · have HF := Lib.hid (show R = (zeroPod, -1) by rw [HR.out]; simp)
    iterate 60 (first | go_step | skip)
    refine bodyPost_ret (v := .tuple #[.agg #[.string ⟨#[]⟩, .slice none 0 0, .int .i64 0, .int .i64 0, .int .i64 0, .slice none 0 0, .slice none 0 0], .int .i64 (-1)]) (by simp [results, Try.results25, go_sem, *]) rfl ?_
    rw [HF.out]
    have HB9 := HB.out
    first
      | refine ⟨[.string ⟨#[]⟩, .slice none 0 0, .int .i64 0, .int .i64 0, .int .i64 0, .slice none 0 0, .slice none 0 0], [], rfl, ?_, ?_⟩
      | refine ⟨[.string ⟨#[]⟩, .slice none 0 0, .int .i64 0, .int .i64 0, .int .i64 0, .slice none 0 0, .slice none 0 0], rfl, ⟨[], ?_⟩, ?_⟩
    · exact Own.zeroP _ _
    · repeat (first | with_reducible exact HB9 | with_reducible refine ext_drew ?_ | with_reducible refine ext_setCell ?_ (by exact Nat.le_refl _) _ | with_reducible refine ext_alloc ?_ _ | with_reducible refine ext_trans ?_ (by assumption))

end Go.Proofs.Ytaljcihfkblncaa
