/- Waiting of the program. No condition. -/
import Derived.Test.YtjoclfenghenjaaWaitP
import Derived.Test.YtjoclfenghenjaaStabTP
import Derived.Test.YtjoclfenghenjaaInsP
import Derived.Test.YtjoclfenghenjaaRegionIx
namespace Go.Proofs.Ytjoclfenghenjaa
open Go.ChangeShapes Go.WideShapes Go.ChangeAt Go.RowKit
set_option linter.unusedVariables false
set_option linter.unusedSimpArgs false

def prk (r : PRow) : WKey := (r.name, r.rank, r.seq)
def prV (a b : PRow) : Int := wkV (prk a) (prk b)
theorem prV_weak : Weak (ltV prV) := by
  have h := wait_weak
  exact ⟨fun x => h.irr (prk x), fun x y z => h.tr (prk x) (prk y) (prk z), fun x y z => h.neg (prk x) (prk y) (prk z)⟩
theorem prV_sort (rs : List PRow) : (sortB (ltV prV) [] rs).map prk = sortB (ltV wkV) [] (rs.map prk) := sortB_map (lt := ltV wkV) prk rs []
theorem Sl.ints2w (W : World) (a b : Int) (t : TypeId) (ha : I64 a) (hb : I64 b) (N : Nat) (hN : W.heap.size = N) : Sl (W.alloc (.cells #[.int .i64 a, .int .i64 b] t)) [a, b] (some ⟨N, 0, none⟩) 2 [N] := by
  subst hN
  exact Sl.ints_alloc W [a, b] t (by intro x hx; simp only [List.mem_cons, List.not_mem_nil, or_false] at hx; rcases hx with rfl | rfl <;> assumption) (by unfold maxLen; simp)
set_option maxRecDepth 100000 in
set_option maxHeartbeats 4000000 in
theorem Wait_clo (x y : PRow) (w : World) :
    Calls Try.prog 20 #[.agg #[.string x.name, .slice x.la x.ln x.lc, .int .i64 x.cpu, .int .i64 x.mem, .int .i64 x.rank, .slice x.na x.nn x.nc, .slice x.ta x.tn x.tc, .string x.on, .int .i64 x.seq], .agg #[.string y.name, .slice y.la y.ln y.lc, .int .i64 y.cpu, .int .i64 y.mem, .int .i64 y.rank, .slice y.na y.nn y.nc, .slice y.ta y.tn y.tc, .string y.on, .int .i64 y.seq]] w fun e w' => e = .returned (.int .i64 (prV x y)) ∧ Below w.heap.size w w' := by
  have hr1 := compareInt_range y.rank x.rank
  have hr2 := compareInt_range x.seq y.seq
  go_enter Try.func20, Try.ntmps20
  go_wp2_with fail
  refine wp_region_ix ((w.alloc (.cells #[.string x.name, .slice x.la x.ln x.lc, .int .i64 x.cpu, .int .i64 x.mem, .int .i64 x.rank, .slice x.na x.nn x.nc, .slice x.ta x.tn x.tc, .string x.on, .int .i64 x.seq] 51)).alloc (.cells #[.string y.name, .slice y.la y.ln y.lc, .int .i64 y.cpu, .int .i64 y.mem, .int .i64 y.rank, .slice y.na y.nn y.nc, .slice y.ta y.tn y.tc, .string y.on, .int .i64 y.seq] 51)) [0, 1, 2, 3, 4, 5, 7, 8, 9, 10] [6, 11, 12, 13, 14] (by kernel_rfl) (by kernel_rfl) (fun _ _ d _ _ h => by cases d <;> exact h) (ext_refl _) ?_
  simp only [pick, List.getElem?_cons_succ, List.getElem?_cons_zero]
  iterate 10
    (apply headC_step
     case hy =>
       refine Or.inl ⟨rfl, fun wq hq => ?_⟩
       have hcq := (cls_cell hq).1
       go_simp
       try rfl
     simp only [Act.put, List.setIfInBounds_toArray, List.set_cons_zero, List.set_cons_succ])
  refine headC_nil ?_
  have hbx := ext_drew (ext_refl ((w.alloc (.cells #[.string x.name, .slice x.la x.ln x.lc, .int .i64 x.cpu, .int .i64 x.mem, .int .i64 x.rank, .slice x.na x.nn x.nc, .slice x.ta x.tn x.tc, .string x.on, .int .i64 x.seq] 51)).alloc (.cells #[.string y.name, .slice y.la y.ln y.lc, .int .i64 y.cpu, .int .i64 y.mem, .int .i64 y.rank, .slice y.na y.nn y.nc, .slice y.ta y.tn y.tc, .string y.on, .int .i64 y.seq] 51)))
  refine wpListC_step rfl (fun K hK => ?_)
  go_simp
  refine (CompareInt_any y.rank x.rank _).mono ?_
  rintro e wz ⟨rfl, hw⟩
  simp only [hw]
  clear hw wz
  refine hK _ _ hbx (fun _ => ?_)
  try simp only [Act.put, List.setIfInBounds_toArray, List.set_cons_zero, List.set_cons_succ]
  clear hK K
  refine wpListC_step rfl (fun K hK => ?_)
  go_simp
  refine (CompareInt_any x.seq y.seq _).mono ?_
  rintro e wz ⟨rfl, hw⟩
  simp only [hw]
  clear hw wz
  refine hK _ _ hbx (fun _ => ?_)
  try simp only [Act.put, List.setIfInBounds_toArray, List.set_cons_zero, List.set_cons_succ]
  clear hK K
  refine wpListC_step rfl (fun K hK => ?_)
  go_simp
  replace hbx := ext_alloc hbx (.cells #[.int .i64 (Lib.compareInt y.rank x.rank), .int .i64 (Lib.compareInt x.seq y.seq)] 3)
  refine hK _ _ hbx (fun _ => ?_)
  try simp only [Act.put, List.setIfInBounds_toArray, List.set_cons_zero, List.set_cons_succ]
  clear hK K
  have hS := Sl.drewS (Sl.ints2w ((w.alloc (.cells #[.string x.name, .slice x.la x.ln x.lc, .int .i64 x.cpu, .int .i64 x.mem, .int .i64 x.rank, .slice x.na x.nn x.nc, .slice x.ta x.tn x.tc, .string x.on, .int .i64 x.seq] 51)).alloc (.cells #[.string y.name, .slice y.la y.ln y.lc, .int .i64 y.cpu, .int .i64 y.mem, .int .i64 y.rank, .slice y.na y.nn y.nc, .slice y.ta y.tn y.tc, .string y.on, .int .i64 y.seq] 51)) _ _ 3 (I64.small hr1) (I64.small hr2) (w.heap.size + 2) (by simp))
  refine wpListC_step rfl (fun K hK => ?_)
  go_simp
  refine (Or_any _ _ 2 _ _ _ hS rfl (by simp)).mono ?_
  rintro e wz ⟨rfl, hw⟩
  simp only [hw]
  clear hw wz
  refine hK _ _ hbx (fun _ => ?_)
  try simp only [Act.put, List.setIfInBounds_toArray, List.set_cons_zero, List.set_cons_succ]
  clear hK K
  refine wpListC_step rfl (fun K hK => ?_)
  go_simp
  refine hK _ _ hbx (fun _ => ?_)
  try simp only [Act.put, List.setIfInBounds_toArray, List.set_cons_zero, List.set_cons_succ]
  clear hK K
  refine wpListC_nil ?_
  go_wp2
  go_ret
  exact ⟨rfl, ext_trans (ext_alloc (ext_alloc (ext_refl _) _) _) hbx⟩
end Go.Proofs.Ytjoclfenghenjaa
