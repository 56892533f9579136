/- NeedMet, of the program and of the reference. No condition. -/
import Derived.Test.YtjoclfenghenjaaGreatLabHas
import Derived.Test.YtjoclfenghenjaaGreatNeedOk
namespace Go.Proofs.YtjoclfenghenjaaGreat
open Go.ChangeShapes Go.WideShapes Go.ChangeAt Go.RowKit
set_option linter.unusedVariables false
set_option linter.unusedSimpArgs false

def metR (labels : List Label) (x : Need) : Bool := needR x &&
  (if x.op = 1 then (labAt x.key labels).2 && hasR (labAt x.key labels).1 x.values
   else if x.op = 2 then !(labAt x.key labels).2 || !hasR (labAt x.key labels).1 x.values
   else if x.op = 3 then (labAt x.key labels).2 else !(labAt x.key labels).2)
theorem metR_no {labels : List Label} {x : Need} (h : needR x = false) : metR labels x = false := by unfold metR; rw [h]; rfl
theorem needR_ops {x : Need} (h : needR x = true) : x.op = 1 ∨ x.op = 2 ∨ x.op = 3 ∨ x.op = 4 := by
  unfold needR at h
  simp only [Bool.and_eq_true, decide_eq_true_eq] at h
  omega
set_option maxRecDepth 100000 in
set_option maxHeartbeats 2000000 in
theorem NeedMet_impl (labels : List Label) (x : Need) (A : Option Addr) (n c : Nat) (F : List Nat) (cs : List Value) (G : List Nat) (w : World) (h : Sl w labels A c F) (hn : n = labels.length) (h' : rd w x cs G) (hll : (labels.length : Int) ≤ 1048576)
    (hks : (x.key.size : Int) ≤ 1048576) (hl : (x.values.length : Int) ≤ 1048576) (hsm : ∀ v ∈ x.values, (v.size : Int) ≤ 1048576) :
    Calls Tryz.prog 199 #[.slice A n c, .agg cs.toArray] w fun e w' => e = .returned (.bool (metR labels x)) ∧ Below w.heap.size w w' := by
  subst hn
  have HSM := Lib.hid hsm
  clear hsm
  have hr := h'
  obtain ⟨Avalues, cvalues, Fvalues, hck, hF0, hkey, hop, hvalues⟩ := rd_Need hr
  subst hck
  clear hF0 hr
  cases hK : needR x with
  | false =>
    have HF := Lib.hid (metR_no (labels := labels) hK)
    have HK := Lib.hid hK
    clear hK
    go_enter Tryz.func199, Tryz.ntmps199
    go_wp2_with fail
    refine (NeedOk_impl x _ _ _ (rd_extT h' (by repeat (first | with_reducible exact ext_refl _ | with_reducible assumption | with_reducible refine ext_alloc ?_ _ | with_reducible refine ext_trans ?_ (by assumption)))) hks hl HSM.out).mono ?_
    rw [HK.out]
    rintro e w2 ⟨rfl, hb2⟩
    go_wp2
    go_ret
    exact ⟨by rw [HF.out]; rfl, (by repeat (first | with_reducible exact ext_refl _ | with_reducible assumption | with_reducible refine ext_alloc ?_ _ | with_reducible refine ext_trans ?_ (by assumption)))⟩
  | true =>
    have hops := needR_ops hK
    have HU := Lib.hid (show metR labels x = (if x.op = 1 then (labAt x.key labels).2 && hasR (labAt x.key labels).1 x.values
   else if x.op = 2 then !(labAt x.key labels).2 || !hasR (labAt x.key labels).1 x.values
   else if x.op = 3 then (labAt x.key labels).2 else !(labAt x.key labels).2) by unfold metR; rw [hK, Bool.true_and])
    have HK := Lib.hid hK
    clear hK
    obtain ⟨v, t, hvt⟩ : ∃ v t, labAt x.key labels = (v, t) := ⟨_, _, rfl⟩
    have hu := HU.out
    rw [hvt] at hu
    have HL := Lib.hid hvt
    clear HU hvt
    go_enter Tryz.func199, Tryz.ntmps199
    go_wp2_with fail
    refine (NeedOk_impl x _ _ _ (rd_extT h' (by repeat (first | with_reducible exact ext_refl _ | with_reducible assumption | with_reducible refine ext_alloc ?_ _ | with_reducible refine ext_trans ?_ (by assumption)))) hks hl HSM.out).mono ?_
    rw [HK.out]
    rintro e w2 ⟨rfl, hb2⟩
    obtain ⟨hc2, hf2⟩ := bcell hb2
    have hz2 : w.heap.size < w2.heap.size := by have := hb2.size; simp at this; omega
    have hq0 : w2.cell? ⟨w.heap.size, 0, none⟩ = some (.string x.key) := by rw [hc2 _ _ (by simp), cell_of_row _ _ _ _ _ _ (heap_alloc_new w _)]; rfl
    have hq1 : w2.cell? ⟨w.heap.size, 1, none⟩ = some (.int .i64 x.op) := by rw [hc2 _ _ (by simp), cell_of_row _ _ _ _ _ _ (heap_alloc_new w _)]; rfl
    have hq2 : w2.cell? ⟨w.heap.size, 2, none⟩ = some (.slice Avalues x.values.length cvalues) := by rw [hc2 _ _ (by simp), cell_of_row _ _ _ _ _ _ (heap_alloc_new w _)]; rfl
    have hB2 : Below w.heap.size w w2 := (by repeat (first | with_reducible exact ext_refl _ | with_reducible assumption | with_reducible refine ext_alloc ?_ _ | with_reducible refine ext_trans ?_ (by assumption)))
    clear hc2 hf2
    go_wp2_with fail
    refine (LabelAt_impl labels x.key _ _ _ _ _ (h.ext hB2) rfl hll).mono ?_
    rw [HL.out]
    rintro e w3 ⟨rfl, hb3⟩
    replace hq1 := ((bcell hb3).1 _ _ hz2).trans hq1
    replace hq2 := ((bcell hb3).1 _ _ hz2).trans hq2
    have hz3 : w.heap.size < w3.heap.size := by have := hb3.size; omega
    have hB3 := ext_trans hB2 hb3
    clear hq0
    have HU := Lib.hid hu
    clear hu
    rcases hops with hop | hop | hop | hop
    all_goals
      have hu := HU.out
      rw [hop] at hu hq1
      simp only [Int.reduceEq, ↓reduceIte] at hu
      cases hh : hasR v x.values <;> cases t
      all_goals
        have hu2 := hu
        try rw [hh] at hu2
        have HU2 := Lib.hid hu2
        have HH := Lib.hid hh
        clear hu2 hu hh hop
        go_wp2_with (go_at_call 211; refine (Contains_any x.values v _ _ _ _ _ (hvalues.ext (by repeat (first | with_reducible exact ext_refl _ | with_reducible assumption | with_reducible refine ext_alloc ?_ _ | with_reducible refine ext_trans ?_ (by assumption)))) rfl hl).mono ?_; rw [HH.out]; rintro e w4 ⟨rfl, hb4⟩)
        go_ret
        exact ⟨by rw [HU2.out]; rfl, (by repeat (first | with_reducible exact ext_refl _ | with_reducible assumption | with_reducible refine ext_alloc ?_ _ | with_reducible refine ext_trans ?_ (by assumption)))⟩
set_option maxRecDepth 100000 in
set_option maxHeartbeats 2000000 in
theorem NeedMet_spec (labels : List Label) (x : Need) (A : Option Addr) (n c : Nat) (F : List Nat) (cs : List Value) (G : List Nat) (w : World) (h : Sl w labels A c F) (hn : n = labels.length) (h' : rd w x cs G) (hll : (labels.length : Int) ≤ 1048576)
    (hks : (x.key.size : Int) ≤ 1048576) (hl : (x.values.length : Int) ≤ 1048576) (hsm : ∀ v ∈ x.values, (v.size : Int) ≤ 1048576) :
    Calls Tryz.prog 198 #[.slice A n c, .agg cs.toArray] w fun e w' => e = .returned (.bool (metR labels x)) ∧ Below w.heap.size w w' := by
  subst hn
  have HSM := Lib.hid hsm
  clear hsm
  have hr := h'
  obtain ⟨Avalues, cvalues, Fvalues, hck, hF0, hkey, hop, hvalues⟩ := rd_Need hr
  subst hck
  clear hF0 hr
  cases hK : needR x with
  | false =>
    have HF := Lib.hid (metR_no (labels := labels) hK)
    have HK := Lib.hid hK
    clear hK
    go_enter Tryz.func198, Tryz.ntmps198
    go_wp2_with fail
    refine (NeedOk_spec x _ _ _ (rd_extT h' (by repeat (first | with_reducible exact ext_refl _ | with_reducible assumption | with_reducible refine ext_alloc ?_ _ | with_reducible refine ext_trans ?_ (by assumption)))) hks hl HSM.out).mono ?_
    rw [HK.out]
    rintro e w2 ⟨rfl, hb2⟩
    go_wp2
    go_ret
    exact ⟨by rw [HF.out]; rfl, (by repeat (first | with_reducible exact ext_refl _ | with_reducible assumption | with_reducible refine ext_alloc ?_ _ | with_reducible refine ext_trans ?_ (by assumption)))⟩
  | true =>
    have hops := needR_ops hK
    have HU := Lib.hid (show metR labels x = (if x.op = 1 then (labAt x.key labels).2 && hasR (labAt x.key labels).1 x.values
   else if x.op = 2 then !(labAt x.key labels).2 || !hasR (labAt x.key labels).1 x.values
   else if x.op = 3 then (labAt x.key labels).2 else !(labAt x.key labels).2) by unfold metR; rw [hK, Bool.true_and])
    have HK := Lib.hid hK
    clear hK
    obtain ⟨v, t, hvt⟩ : ∃ v t, labAt x.key labels = (v, t) := ⟨_, _, rfl⟩
    have hu := HU.out
    rw [hvt] at hu
    have HL := Lib.hid hvt
    clear HU hvt
    go_enter Tryz.func198, Tryz.ntmps198
    go_wp2_with fail
    refine (NeedOk_spec x _ _ _ (rd_extT h' (by repeat (first | with_reducible exact ext_refl _ | with_reducible assumption | with_reducible refine ext_alloc ?_ _ | with_reducible refine ext_trans ?_ (by assumption)))) hks hl HSM.out).mono ?_
    rw [HK.out]
    rintro e w2 ⟨rfl, hb2⟩
    obtain ⟨hc2, hf2⟩ := bcell hb2
    have hz2 : w.heap.size < w2.heap.size := by have := hb2.size; simp at this; omega
    have hq0 : w2.cell? ⟨w.heap.size, 0, none⟩ = some (.string x.key) := by rw [hc2 _ _ (by simp), cell_of_row _ _ _ _ _ _ (heap_alloc_new w _)]; rfl
    have hq1 : w2.cell? ⟨w.heap.size, 1, none⟩ = some (.int .i64 x.op) := by rw [hc2 _ _ (by simp), cell_of_row _ _ _ _ _ _ (heap_alloc_new w _)]; rfl
    have hq2 : w2.cell? ⟨w.heap.size, 2, none⟩ = some (.slice Avalues x.values.length cvalues) := by rw [hc2 _ _ (by simp), cell_of_row _ _ _ _ _ _ (heap_alloc_new w _)]; rfl
    have hB2 : Below w.heap.size w w2 := (by repeat (first | with_reducible exact ext_refl _ | with_reducible assumption | with_reducible refine ext_alloc ?_ _ | with_reducible refine ext_trans ?_ (by assumption)))
    clear hc2 hf2
    go_wp2_with fail
    refine (LabelAt_spec labels x.key _ _ _ _ _ (h.ext hB2) rfl hll).mono ?_
    rw [HL.out]
    rintro e w3 ⟨rfl, hb3⟩
    replace hq1 := ((bcell hb3).1 _ _ hz2).trans hq1
    replace hq2 := ((bcell hb3).1 _ _ hz2).trans hq2
    have hz3 : w.heap.size < w3.heap.size := by have := hb3.size; omega
    have hB3 := ext_trans hB2 hb3
    clear hq0
    have HU := Lib.hid hu
    clear hu
    rcases hops with hop | hop | hop | hop
    all_goals
      have hu := HU.out
      rw [hop] at hu hq1
      simp only [Int.reduceEq, ↓reduceIte] at hu
      cases hh : hasR v x.values <;> cases t
      all_goals
        have hu2 := hu
        try rw [hh] at hu2
        have HU2 := Lib.hid hu2
        have HH := Lib.hid hh
        clear hu2 hu hh hop
        go_wp2_with (go_at_call 209; refine (l15Has_any x.values v _ _ _ _ _ (hvalues.ext (by repeat (first | with_reducible exact ext_refl _ | with_reducible assumption | with_reducible refine ext_alloc ?_ _ | with_reducible refine ext_trans ?_ (by assumption)))) rfl hl).mono ?_; rw [HH.out]; rintro e w4 ⟨rfl, hb4⟩)
        go_ret
        exact ⟨by rw [HU2.out]; rfl, (by repeat (first | with_reducible exact ext_refl _ | with_reducible assumption | with_reducible refine ext_alloc ?_ _ | with_reducible refine ext_trans ?_ (by assumption)))⟩

end Go.Proofs.YtjoclfenghenjaaGreat
