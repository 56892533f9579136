/- compareNeeds and the program's NeedLess. No condition. -/
import Derived.Test.YtjoclfenghenjaaGreatValCmp
namespace Go.Proofs.YtjoclfenghenjaaGreat
open Go.ChangeShapes Go.WideShapes Go.ChangeAt Go.RowKit
set_option linter.unusedVariables false
set_option linter.unusedSimpArgs false

def ncmp (x y : Need) : List Int := [Lib.compareBytes x.key.data.toList y.key.data.toList, Lib.compareInt x.op y.op, cmpVals x.values y.values]
/-- one need stands ahead of another -/
def needLess (x y : Need) : Bool := decide (orI (ncmp x y) < 0)
set_option maxRecDepth 100000 in
set_option maxHeartbeats 1000000 in
theorem compareNeeds_any (x y : Need) (cs ds : List Value) (F G : List Nat) (w : World) (h : rd w x cs F) (h' : rd w y ds G) (hl : (x.values.length : Int) ≤ 1048576) (hl' : (y.values.length : Int) ≤ 1048576) :
    Calls Tryz.prog 196 #[.agg cs.toArray, .agg ds.toArray] w fun e w' => e = .returned (.int .i64 (orI (ncmp x y))) ∧ Below w.heap.size w w' := by
  obtain ⟨Avalues1, cvalues1, Fvalues1, hck, hF1, hkey1, hop1, hvalues1⟩ := rd_Need h
  obtain ⟨Avalues2, cvalues2, Fvalues2, hck2, hF2, hkey2, hop2, hvalues2⟩ := rd_Need h'
  subst hck hck2
  subst hF1 hF2
  have hr1 := compareBytes_range x.key.data.toList y.key.data.toList
  have hr2 := compareInt_range x.op y.op
  have hr3 := cmpVals_range x.values y.values
  go_enter Tryz.func196, Tryz.ntmps196
  go_wp2_with fail
  refine wp_region_ix ((w.alloc (.cells #[.string x.key, .int .i64 x.op, .slice Avalues1 x.values.length cvalues1] 137)).alloc (.cells #[.string y.key, .int .i64 y.op, .slice Avalues2 y.values.length cvalues2] 137)) [0, 1, 2, 3, 5, 6, 7, 8, 10, 11, 12, 13] [4, 9, 14, 15, 16, 17] (by kernel_rfl) (by kernel_rfl) (fun _ _ d _ _ h => by cases d <;> exact h) (ext_refl _) ?_
  simp only [pick, List.getElem?_cons_succ, List.getElem?_cons_zero]
  iterate 12
    (apply headC_step
     case hy =>
       refine Or.inl ⟨rfl, fun wq hq => ?_⟩
       have hcq := (cls_cell hq).1
       go_simp
       try rfl
     simp only [Act.put, List.setIfInBounds_toArray, List.set_cons_zero, List.set_cons_succ])
  refine headC_nil ?_
  have hbx := ext_drew (ext_refl ((w.alloc (.cells #[.string x.key, .int .i64 x.op, .slice Avalues1 x.values.length cvalues1] 137)).alloc (.cells #[.string y.key, .int .i64 y.op, .slice Avalues2 y.values.length cvalues2] 137)))
  refine wpListC_step rfl (fun K hK => ?_)
  go_simp
  refine (Compare_any x.key y.key _).mono ?_
  rintro e wz ⟨rfl, hw⟩
  simp only [hw]
  clear hw wz
  refine hK _ _ hbx (fun _ => ?_)
  try simp only [Act.put, List.setIfInBounds_toArray, List.set_cons_zero, List.set_cons_succ]
  clear hK K
  refine wpListC_step rfl (fun K hK => ?_)
  go_simp
  refine (CompareInt_any x.op y.op _).mono ?_
  rintro e wz ⟨rfl, hw⟩
  simp only [hw]
  clear hw wz
  refine hK _ _ hbx (fun _ => ?_)
  try simp only [Act.put, List.setIfInBounds_toArray, List.set_cons_zero, List.set_cons_succ]
  clear hK K
  have hbw := ext_trans (ext_alloc (ext_alloc (ext_refl w) (.cells #[.string x.key, .int .i64 x.op, .slice Avalues1 x.values.length cvalues1] 137)) (.cells #[.string y.key, .int .i64 y.op, .slice Avalues2 y.values.length cvalues2] 137)) hbx
  refine wpListC_step rfl (fun K hK => ?_)
  go_simp
  refine (CompareVals_any x.values y.values _ _ _ _ _ _ _ _ _ (hvalues1.ext hbw) (hvalues2.ext hbw) rfl rfl hl hl').mono ?_
  rintro e wz ⟨rfl, hw⟩
  simp only [hw]
  clear hw wz
  refine hK _ _ hbx (fun _ => ?_)
  try simp only [Act.put, List.setIfInBounds_toArray, List.set_cons_zero, List.set_cons_succ]
  clear hK K
  refine wpListC_step rfl (fun K hK => ?_)
  go_simp
  replace hbx := ext_alloc hbx (.cells #[.int .i64 (Lib.compareBytes x.key.data.toList y.key.data.toList), .int .i64 (Lib.compareInt x.op y.op), .int .i64 (cmpVals x.values y.values)] 3)
  refine hK _ _ hbx (fun _ => ?_)
  try simp only [Act.put, List.setIfInBounds_toArray, List.set_cons_zero, List.set_cons_succ]
  clear hK K
  have hS := Sl.drewS (Sl.ints3 ((w.alloc (.cells #[.string x.key, .int .i64 x.op, .slice Avalues1 x.values.length cvalues1] 137)).alloc (.cells #[.string y.key, .int .i64 y.op, .slice Avalues2 y.values.length cvalues2] 137)) _ _ _ 3 (I64.small hr1) (I64.small hr2) (I64.small hr3) (w.heap.size + 2) (by simp))
  refine wpListC_step rfl (fun K hK => ?_)
  go_simp
  refine (Or_any _ _ 3 _ _ _ hS rfl (by simp)).mono ?_
  rintro e wz ⟨rfl, hw⟩
  simp only [hw]
  clear hw wz
  refine hK _ _ hbx (fun _ => ?_)
  try simp only [Act.put, List.setIfInBounds_toArray, List.set_cons_zero, List.set_cons_succ]
  clear hK K
  refine wpListC_step rfl (fun K hK => ?_)
  go_simp
  refine hK _ _ hbx (fun _ => ?_)
  try simp only [Act.put, List.setIfInBounds_toArray, List.set_cons_zero, List.set_cons_succ]
  clear hK K
  refine wpListC_nil ?_
  go_wp2
  go_ret
  exact ⟨rfl, ext_trans (ext_alloc (ext_alloc (ext_refl _) _) _) hbx⟩
set_option maxHeartbeats 400000 in
theorem NeedLess_impl (x y : Need) (cs ds : List Value) (F G : List Nat) (w : World) (h : rd w x cs F) (h' : rd w y ds G) (hl : (x.values.length : Int) ≤ 1048576) (hl' : (y.values.length : Int) ≤ 1048576) :
    Calls Tryz.prog 178 #[.agg cs.toArray, .agg ds.toArray] w fun e w' => e = .returned (.bool (needLess x y)) ∧ Below w.heap.size w w' := by
  have hC : ∀ wq, Below w.heap.size w wq → Calls Tryz.prog 196 #[.agg cs.toArray, .agg ds.toArray] wq fun e w' => e = .returned (.int .i64 (orI (ncmp x y))) ∧ Below wq.heap.size wq w' :=
    fun wq hq => compareNeeds_any x y cs ds F G wq (Dat.frame h (fun b hb' => hq.block b (Dat.lt h b hb')) hq.size) (Dat.frame h' (fun b hb' => hq.block b (Dat.lt h' b hb')) hq.size) hl hl'
  have hz : needLess x y = decide (orI (ncmp x y) < 0) := rfl
  generalize orI (ncmp x y) = z at hC hz
  rw [hz]
  clear hz
  obtain ⟨Avalues1, cvalues1, Fvalues1, hck, hF1, hkey1, hop1, hvalues1⟩ := rd_Need h
  obtain ⟨Avalues2, cvalues2, Fvalues2, hck2, hF2, hkey2, hop2, hvalues2⟩ := rd_Need h'
  subst hck hck2
  have HC := Lib.hid hC
  clear hC
  go_enter Tryz.func178, Tryz.ntmps178
  go_wp2_with fail
  refine (HC.out _ (by repeat (first | with_reducible exact ext_refl _ | with_reducible assumption | with_reducible refine ext_alloc ?_ _ | with_reducible refine ext_trans ?_ (by assumption)))).mono ?_
  rintro e w2 ⟨rfl, hb2⟩
  go_wp2
  go_ret
  exact ⟨rfl, (by repeat (first | with_reducible exact ext_refl _ | with_reducible assumption | with_reducible refine ext_alloc ?_ _ | with_reducible refine ext_trans ?_ (by assumption)))⟩

end Go.Proofs.YtjoclfenghenjaaGreat
