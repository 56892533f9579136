/- compareTolerances. No condition. -/
import Derived.Test.YtjoclfenghenjaaGreatCmp2
namespace Go.Proofs.YtjoclfenghenjaaGreat
open Go.ChangeShapes Go.WideShapes Go.ChangeAt Go.RowKit
set_option linter.unusedVariables false
set_option linter.unusedSimpArgs false

/-- false stands ahead of true -/
def flagI (a b : Bool) : Int := if a == b then 0 else if b then -1 else 1
theorem flagI_range (a b : Bool) : -1 ≤ flagI a b ∧ flagI a b ≤ 1 := by cases a <;> cases b <;> decide
theorem compareFlags_any (a b : Bool) (w : World) : Calls Tryz.prog 197 #[.bool a, .bool b] w fun e w' => e = .returned (.int .i64 (flagI a b)) ∧ w' = w := by
  cases a <;> cases b
  all_goals
    go_enter Tryz.func197, Tryz.ntmps197
    go_wp2
    go_ret
    exact ⟨rfl, rfl⟩
theorem Sl.ints4 (W : World) (a b c d : Int) (t : TypeId) (ha : I64 a) (hb : I64 b) (hc : I64 c) (hd : I64 d) (N : Nat) (hN : W.heap.size = N) : Sl (W.alloc (.cells #[.int .i64 a, .int .i64 b, .int .i64 c, .int .i64 d] t)) [a, b, c, d] (some ⟨N, 0, none⟩) 4 [N] := by
  subst hN
  exact Sl.ints_alloc W [a, b, c, d] t (by intro x hx; simp only [List.mem_cons, List.not_mem_nil, or_false] at hx; rcases hx with rfl | rfl | rfl | rfl <;> assumption) (by unfold maxLen; simp)
def vcmp (x y : Tolerance) : List Int := [Lib.compareBytes x.key.data.toList y.key.data.toList, flagI x.equal y.equal, Lib.compareBytes x.value.data.toList y.value.data.toList, Lib.compareInt x.effect y.effect]
set_option maxRecDepth 100000 in
set_option maxHeartbeats 1000000 in
theorem compareTolerances_any (x y : Tolerance) (cs ds : List Value) (F G : List Nat) (w : World) (h : rd w x cs F) (h' : rd w y ds G) :
    Calls Tryz.prog 180 #[.agg cs.toArray, .agg ds.toArray] w fun e w' => e = .returned (.int .i64 (orI (vcmp x y))) ∧ Below w.heap.size w w' := by
  obtain ⟨hck, hF1, hkey1, hvalue1, heffect1⟩ := rd_Tolerance h
  obtain ⟨hck2, hF2, hkey2, hvalue2, heffect2⟩ := rd_Tolerance h'
  subst hck hck2
  subst hF1 hF2
  have hr1 := compareBytes_range x.key.data.toList y.key.data.toList
  have hr4 := flagI_range x.equal y.equal
  have hr2 := compareBytes_range x.value.data.toList y.value.data.toList
  have hr3 := compareInt_range x.effect y.effect
  go_enter Tryz.func180, Tryz.ntmps180
  go_wp2_with fail
  refine wp_region_ix ((w.alloc (.cells #[.string x.key, .bool x.equal, .string x.value, .int .i64 x.effect] 139)).alloc (.cells #[.string y.key, .bool y.equal, .string y.value, .int .i64 y.effect] 139)) [0, 1, 2, 3, 5, 6, 7, 8, 10, 11, 12, 13, 15, 16, 17, 18] [4, 9, 14, 19, 20, 21, 22] (by kernel_rfl) (by kernel_rfl) (fun _ _ d _ _ h => by cases d <;> exact h) (ext_refl _) ?_
  simp only [pick, List.getElem?_cons_succ, List.getElem?_cons_zero]
  iterate 16
    (apply headC_step
     case hy =>
       refine Or.inl ⟨rfl, fun wq hq => ?_⟩
       have hcq := (cls_cell hq).1
       go_simp
       try rfl
     simp only [Act.put, List.setIfInBounds_toArray, List.set_cons_zero, List.set_cons_succ])
  refine headC_nil ?_
  have hbx := ext_drew (ext_refl ((w.alloc (.cells #[.string x.key, .bool x.equal, .string x.value, .int .i64 x.effect] 139)).alloc (.cells #[.string y.key, .bool y.equal, .string y.value, .int .i64 y.effect] 139)))
  refine wpListC_step rfl (fun K hK => ?_)
  go_simp
  refine (Compare_any x.key y.key _).mono ?_
  rintro e wz ⟨rfl, hw⟩
  simp only [hw]
  clear hw wz
  refine hK _ _ hbx (fun _ => ?_)
  try simp only [Act.put, List.setIfInBounds_toArray, List.set_cons_zero, List.set_cons_succ]
  clear hK K
  refine wpListC_step rfl (fun K hK => ?_)
  go_simp
  refine (compareFlags_any x.equal y.equal _).mono ?_
  rintro e wz ⟨rfl, hw⟩
  simp only [hw]
  clear hw wz
  refine hK _ _ hbx (fun _ => ?_)
  try simp only [Act.put, List.setIfInBounds_toArray, List.set_cons_zero, List.set_cons_succ]
  clear hK K
  refine wpListC_step rfl (fun K hK => ?_)
  go_simp
  refine (Compare_any x.value y.value _).mono ?_
  rintro e wz ⟨rfl, hw⟩
  simp only [hw]
  clear hw wz
  refine hK _ _ hbx (fun _ => ?_)
  try simp only [Act.put, List.setIfInBounds_toArray, List.set_cons_zero, List.set_cons_succ]
  clear hK K
  refine wpListC_step rfl (fun K hK => ?_)
  go_simp
  refine (CompareInt_any x.effect y.effect _).mono ?_
  rintro e wz ⟨rfl, hw⟩
  simp only [hw]
  clear hw wz
  refine hK _ _ hbx (fun _ => ?_)
  try simp only [Act.put, List.setIfInBounds_toArray, List.set_cons_zero, List.set_cons_succ]
  clear hK K
  refine wpListC_step rfl (fun K hK => ?_)
  go_simp
  replace hbx := ext_alloc hbx (.cells #[.int .i64 (Lib.compareBytes x.key.data.toList y.key.data.toList), .int .i64 (flagI x.equal y.equal), .int .i64 (Lib.compareBytes x.value.data.toList y.value.data.toList), .int .i64 (Lib.compareInt x.effect y.effect)] 3)
  refine hK _ _ hbx (fun _ => ?_)
  try simp only [Act.put, List.setIfInBounds_toArray, List.set_cons_zero, List.set_cons_succ]
  clear hK K
  have hS := Sl.drewS (Sl.ints4 ((w.alloc (.cells #[.string x.key, .bool x.equal, .string x.value, .int .i64 x.effect] 139)).alloc (.cells #[.string y.key, .bool y.equal, .string y.value, .int .i64 y.effect] 139)) _ _ _ _ 3 (I64.small hr1) (I64.small hr4) (I64.small hr2) (I64.small hr3) (w.heap.size + 2) (by simp))
  refine wpListC_step rfl (fun K hK => ?_)
  go_simp
  refine (Or_any _ _ 4 _ _ _ hS rfl (by simp)).mono ?_
  rintro e wz ⟨rfl, hw⟩
  simp only [hw]
  clear hw wz
  refine hK _ _ hbx (fun _ => ?_)
  try simp only [Act.put, List.setIfInBounds_toArray, List.set_cons_zero, List.set_cons_succ]
  clear hK K
  refine wpListC_step rfl (fun K hK => ?_)
  go_simp
  refine hK _ _ hbx (fun _ => ?_)
  try simp only [Act.put, List.setIfInBounds_toArray, List.set_cons_zero, List.set_cons_succ]
  clear hK K
  refine wpListC_nil ?_
  go_wp2
  go_ret
  exact ⟨rfl, ext_trans (ext_alloc (ext_alloc (ext_refl _) _) _) hbx⟩

end Go.Proofs.YtjoclfenghenjaaGreat
