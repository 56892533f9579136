/- What a snapshot's reading yields is small. No condition. -/
import Derived.Test.YtpgdgcjgompokaaGreatRdSnX
import Derived.Test.YtpgdgcjgompokaaGreatMkDeep
namespace Go.Proofs.YtpgdgcjgompokaaGreat
open Go.ChangeShapes Go.WideShapes Go.ChangeAt Go.RowKit
set_option linter.unusedVariables false
set_option linter.unusedSimpArgs false

theorem cntL_mostB {α : Type} {cnt : α → Nat} {c : Nat} : ∀ xs : List α, (∀ x ∈ xs, cnt x ≤ c) → cntL cnt xs ≤ c * xs.length
  | [], _ => Nat.zero_le _
  | x :: xs, h => by
    have h1 := cntL_mostB xs (fun y hy => h y (List.mem_cons_of_mem _ hy))
    have h2 := h x (List.mem_cons_self ..)
    simp only [cntL, List.map_cons, List.sum_cons, List.length_cons, Nat.mul_add, Nat.mul_one] at h1 ⊢
    omega
theorem manyI_lenB {α : Type} (r : Int → α × Int) (s : ByteArray) (most a : Int) (hm : 0 ≤ most) : ((manyI r s most a).1.length : Int) ≤ most := by
  have h := loopI_len r (countI s most a).1.toNat [] (countI s most a).2
  have := countI_ways s most a hm
  unfold manyI
  rw [h, List.length_nil]
  omega
theorem hostI_cnt (s : ByteArray) (a : Int) : cntHost (hostI s a).1 ≤ 28 := by
  have h1 : (hostI s a).1.labels.length ≤ 6 := labelsI_len s (textI s a).2
  have h2 : (hostI s a).1.taints.length ≤ 4 := by
    have h := loopI_len (taintI s) (countI s 4 (varI s (varI s (varI s (labelsI s (textI s a).2).2).2).2).2).1.toNat [] (countI s 4 (varI s (varI s (varI s (labelsI s (textI s a).2).2).2).2).2).2
    have := countI_ways s 4 (varI s (varI s (varI s (labelsI s (textI s a).2).2).2).2).2 (by decide)
    show (loopI (taintI s) (countI s 4 (varI s (varI s (varI s (labelsI s (textI s a).2).2).2).2).2).1.toNat [] (countI s 4 (varI s (varI s (varI s (labelsI s (textI s a).2).2).2).2).2).2).1.length ≤ 4
    rw [h, List.length_nil]
    omega
  have h3 := cntL_mostB (cnt := cntLabel) (c := 2) (hostI s a).1.labels (fun x _ => by unfold cntLabel; omega)
  have h4 := cntL_mostB (cnt := cntTaint) (c := 3) (hostI s a).1.taints (fun x _ => by unfold cntTaint; omega)
  unfold cntHost
  omega
theorem placedI_cnt (s : ByteArray) (hs : List Host) (a : Int) : cntPlaced (placedI s hs a).1 ≤ 60 := by
  have h1 : (podI s a).1.labels.length ≤ 6 := labelsI_len s (textI s a).2
  have h2 : (podI s a).1.needs.length ≤ 4 := manyI_len4 (needI s) s (varI s (varI s (varI s (labelsI s (textI s a).2).2).2).2).2
  have h3 : (podI s a).1.tolerances.length ≤ 4 := by
    unfold podI podRaw restPI
    dsimp only
    exact manyI_len4 (tolI s) s _
  have h4 : ∀ x ∈ (podI s a).1.needs, cntNeed x ≤ 6 := manyI_all (p := fun x => cntNeed x ≤ 6) (fun st => by
    have h5 : (needI s st).1.values.length ≤ 4 := manyI_len4 _ s _
    have h6 := cntL_mostB (cnt := cntStr) (c := 1) (needI s st).1.values (fun _ _ => Nat.le_refl 1)
    unfold cntNeed
    omega) s 4 (varI s (varI s (varI s (labelsI s (textI s a).2).2).2).2).2
  have h7 := cntL_mostB _ h4
  have h8 := cntL_mostB (cnt := cntTolerance) (c := 4) (podI s a).1.tolerances (fun x _ => by unfold cntTolerance; omega)
  have h9 := cntL_mostB (cnt := cntLabel) (c := 2) (podI s a).1.labels (fun x _ => by unfold cntLabel; omega)
  show 1 + cntL cntLabel (podI s a).1.labels + 1 + 1 + 1 + cntL cntNeed (podI s a).1.needs + cntL cntTolerance (podI s a).1.tolerances + 1 + 1 ≤ 60
  omega
theorem readSnapI_cnt (s : ByteArray) : (cntTopCluster (readSnapI s).1 : Int) ≤ 1048576 := by
  unfold readSnapI
  split
  · dsimp only
    unfold snapI bodyI
    dsimp only
    generalize (varI s (varI s (varI s (varI s 0).2).2).2).2 = a
    have h1 := manyI_lenB (hostI s) s 8 a (by decide)
    have h2 := cntL_mostB (cnt := cntHost) (c := 28) (manyI (hostI s) s 8 a).1 (manyI_all (p := fun x => cntHost x ≤ 28) (fun b => hostI_cnt s b) s 8 a)
    generalize manyI (hostI s) s 8 a = R at *
    have h3 := manyI_lenB (placedI s R.1) s 12 R.2 (by decide)
    have h4 := cntL_mostB (cnt := cntPlaced) (c := 60) (manyI (placedI s R.1) s 12 R.2).1 (manyI_all (p := fun x => cntPlaced x ≤ 60) (fun b => placedI_cnt s R.1 b) s 12 R.2)
    unfold cntTopCluster
    dsimp only
    omega
  · decide

end Go.Proofs.YtpgdgcjgompokaaGreat
