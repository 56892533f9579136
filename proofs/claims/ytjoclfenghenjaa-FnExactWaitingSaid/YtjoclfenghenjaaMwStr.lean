/- How many marks: Str. No condition. -/
import Derived.Test.YtjoclfenghenjaaMkBase
import Derived.Test.YtjoclfenghenjaaSz
namespace Go.Proofs.Ytjoclfenghenjaa
open Go.ChangeShapes Go.WideShapes Go.ChangeAt Go.RowKit
set_option linter.unusedVariables false
set_option linter.unusedSimpArgs false

theorem cntL_wt {α : Type} {cnt f : α → Nat} {a : Nat} (h : ∀ x, cnt x ≤ a * (f x + 1)) : ∀ xs : List α, cntL cnt xs ≤ a * wtL f xs
  | [] => by simp [cntL]
  | x :: xs => by
    have h1 := cntL_wt h xs
    have h2 := h x
    unfold wtL at h1 ⊢
    simp only [cntL, List.length_cons, List.map_cons, List.sum_cons]
    have e : a * (xs.length + 1 + (f x + (xs.map f).sum)) = a * (f x + 1) + a * (xs.length + (xs.map f).sum) := by rw [← Nat.mul_add]; congr 1; omega
    omega
theorem cntStr_le (x : ByteArray) : cntStr x ≤ 1 * (x.size + 1) := by unfold cntStr; omega
theorem cntL_str (xs : List ByteArray) : cntL cntStr xs = xs.length := by
  induction xs with
  | nil => rfl
  | cons x xs ih => simp [cntL, ih, cntStr]; omega
end Go.Proofs.Ytjoclfenghenjaa
