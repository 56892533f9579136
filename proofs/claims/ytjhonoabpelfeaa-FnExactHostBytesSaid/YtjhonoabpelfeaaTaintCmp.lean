/- compareTaints and l16Less. No condition. -/
import Derived.Test.YtjhonoabpelfeaaCmp
import Derived.Test.YtjhonoabpelfeaaData
import Derived.Test.YtjhonoabpelfeaaAppendAt
import Derived.Test.YtjhonoabpelfeaaRegionIx
namespace Go.Proofs.Ytjhonoabpelfeaa
open Go.ChangeShapes Go.WideShapes Go.ChangeAt Go.RowKit
set_option linter.unusedVariables false
set_option linter.unusedSimpArgs false

theorem compareBytes_range : ∀ a b : List UInt8, -1 ≤ Lib.compareBytes a b ∧ Lib.compareBytes a b ≤ 1
  | [], [] => by decide
  | [], _ :: _ => by simp [Lib.compareBytes]
  | _ :: _, [] => by simp [Lib.compareBytes]
  | x :: a, y :: b => by
    have := compareBytes_range a b
    unfold Lib.compareBytes
    repeat' split
    all_goals omega
theorem compareInt_range (a b : Int) : -1 ≤ Lib.compareInt a b ∧ Lib.compareInt a b ≤ 1 := by
  unfold Lib.compareInt
  repeat' split
  all_goals omega
theorem Sl.ints_alloc (W : World) (xs : List Int) (t : TypeId) (h : ∀ x ∈ xs, I64 x) (hl : xs.length ≤ maxLen) : Sl (W.alloc (.cells (xs.map fun n => Value.int .i64 n).toArray t)) xs (some ⟨W.heap.size, 0, none⟩) xs.length [W.heap.size] :=
  ⟨_, _, [], xs.map fun n => .int .i64 n, rfl, Nat.le_refl _, hl, rdCells_ints _ xs h, .inr ⟨W.heap.size, 0, rfl, rfl, by simp, fun j u hu => by
    rw [Nat.zero_add, cell_of_row _ _ _ _ _ _ (heap_alloc_new W _)]
    simpa using hu⟩⟩
theorem Sl.drewS {α : Type} [Dat α] {w : World} {xs : List α} {A : Option Addr} {c : Nat} {F : List Nat} (h : Sl w xs A c F) : Sl w.drew xs A c F := h.frame (fun _ _ => rfl) (Nat.le_refl _)
theorem I64.small {n : Int} (h : -1 ≤ n ∧ n ≤ 1) : I64 n := by unfold I64; omega
theorem Sl.ints3 (W : World) (a b c : Int) (t : TypeId) (ha : I64 a) (hb : I64 b) (hc : I64 c) (N : Nat) (hN : W.heap.size = N) : Sl (W.alloc (.cells #[.int .i64 a, .int .i64 b, .int .i64 c] t)) [a, b, c] (some ⟨N, 0, none⟩) 3 [N] := by
  subst hN
  exact Sl.ints_alloc W [a, b, c] t (by intro x hx; simp only [List.mem_cons, List.not_mem_nil, or_false] at hx; rcases hx with rfl | rfl | rfl <;> assumption) (by unfold maxLen; simp)
def tcmp (x y : Taint) : List Int := [Lib.compareBytes x.key.data.toList y.key.data.toList, Lib.compareBytes x.value.data.toList y.value.data.toList, Lib.compareInt x.effect y.effect]
set_option maxRecDepth 100000 in
set_option maxHeartbeats 1000000 in
theorem compareTaints_any (x y : Taint) (cs ds : List Value) (F G : List Nat) (w : World) (h : rd w x cs F) (h' : rd w y ds G) :
    Calls Try.prog 115 #[.agg cs.toArray, .agg ds.toArray] w fun e w' => e = .returned (.int .i64 (orI (tcmp x y))) ∧ Below w.heap.size w w' := by
  obtain ⟨hck, hF1, hkey1, hvalue1, heffect1⟩ := rd_Taint h
  obtain ⟨hck2, hF2, hkey2, hvalue2, heffect2⟩ := rd_Taint h'
  subst hck hck2
  subst hF1 hF2
  have hr1 := compareBytes_range x.key.data.toList y.key.data.toList
  have hr2 := compareBytes_range x.value.data.toList y.value.data.toList
  have hr3 := compareInt_range x.effect y.effect
  go_enter Try.func115, Try.ntmps115
  go_wp2_with fail
  refine wp_region_ix ((w.alloc (.cells #[.string x.key, .string x.value, .int .i64 x.effect] 67)).alloc (.cells #[.string y.key, .string y.value, .int .i64 y.effect] 67)) [0, 1, 2, 3, 5, 6, 7, 8, 10, 11, 12, 13] [4, 9, 14, 15, 16, 17] (by kernel_rfl) (by kernel_rfl) (fun _ _ d _ _ h => by cases d <;> exact h) (ext_refl _) ?_
  simp only [pick, List.getElem?_cons_succ, List.getElem?_cons_zero]
  iterate 12
    (apply headC_step
     case hy =>
       refine Or.inl ⟨rfl, fun wq hq => ?_⟩
       have hcq := (cls_cell hq).1
       go_simp
       try rfl
     simp only [Act.put, List.setIfInBounds_toArray, List.set_cons_zero, List.set_cons_succ])
  refine headC_nil ?_
  have hbx := ext_drew (ext_refl ((w.alloc (.cells #[.string x.key, .string x.value, .int .i64 x.effect] 67)).alloc (.cells #[.string y.key, .string y.value, .int .i64 y.effect] 67)))
  refine wpListC_step rfl (fun K hK => ?_)
  go_simp
  refine (Compare_any x.key y.key _).mono ?_
  rintro e wz ⟨rfl, hw⟩
  simp only [hw]
  clear hw wz
  refine hK _ _ hbx (fun _ => ?_)
  try simp only [Act.put, List.setIfInBounds_toArray, List.set_cons_zero, List.set_cons_succ]
  clear hK K
  refine wpListC_step rfl (fun K hK => ?_)
  go_simp
  refine (Compare_any x.value y.value _).mono ?_
  rintro e wz ⟨rfl, hw⟩
  simp only [hw]
  clear hw wz
  refine hK _ _ hbx (fun _ => ?_)
  try simp only [Act.put, List.setIfInBounds_toArray, List.set_cons_zero, List.set_cons_succ]
  clear hK K
  refine wpListC_step rfl (fun K hK => ?_)
  go_simp
  refine (CompareInt_any x.effect y.effect _).mono ?_
  rintro e wz ⟨rfl, hw⟩
  simp only [hw]
  clear hw wz
  refine hK _ _ hbx (fun _ => ?_)
  try simp only [Act.put, List.setIfInBounds_toArray, List.set_cons_zero, List.set_cons_succ]
  clear hK K
  refine wpListC_step rfl (fun K hK => ?_)
  go_simp
  replace hbx := ext_alloc hbx (.cells #[.int .i64 (Lib.compareBytes x.key.data.toList y.key.data.toList), .int .i64 (Lib.compareBytes x.value.data.toList y.value.data.toList), .int .i64 (Lib.compareInt x.effect y.effect)] 3)
  refine hK _ _ hbx (fun _ => ?_)
  try simp only [Act.put, List.setIfInBounds_toArray, List.set_cons_zero, List.set_cons_succ]
  clear hK K
  have hS := Sl.drewS (Sl.ints3 ((w.alloc (.cells #[.string x.key, .string x.value, .int .i64 x.effect] 67)).alloc (.cells #[.string y.key, .string y.value, .int .i64 y.effect] 67)) _ _ _ 3 (I64.small hr1) (I64.small hr2) (I64.small hr3) (w.heap.size + 2) (by simp))
  refine wpListC_step rfl (fun K hK => ?_)
  go_simp
  refine (Or_any _ _ 3 _ _ _ hS rfl (by simp)).mono ?_
  rintro e wz ⟨rfl, hw⟩
  simp only [hw]
  clear hw wz
  refine hK _ _ hbx (fun _ => ?_)
  try simp only [Act.put, List.setIfInBounds_toArray, List.set_cons_zero, List.set_cons_succ]
  clear hK K
  refine wpListC_step rfl (fun K hK => ?_)
  go_simp
  refine hK _ _ hbx (fun _ => ?_)
  try simp only [Act.put, List.setIfInBounds_toArray, List.set_cons_zero, List.set_cons_succ]
  clear hK K
  refine wpListC_nil ?_
  go_wp2
  go_ret
  exact ⟨rfl, ext_trans (ext_alloc (ext_alloc (ext_refl _) _) _) hbx⟩

end Go.Proofs.Ytjhonoabpelfeaa
