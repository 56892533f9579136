/- PathPlace of the program and of the reference, below 100. No condition. -/
import Derived.Test.YtegekccoincicaaGreatDoorTreeF
import Derived.Test.YtegekccoincicaaGreatDoorLayItoa
namespace Go.Proofs.YtegekccoincicaaGreatDoor
open Dat (rd)
open Go.ChangeShapes Go.WideShapes Go.ChangeAt Go.RowKit
set_option linter.unusedVariables false
set_option linter.unusedSimpArgs false

theorem dd_lt {k : Nat} (h : k < 10) : Lib.decDigits k = [UInt8.ofNat (48 + k)] := by rw [Lib.decDigits, dif_pos h]
theorem dd_ge {k : Nat} (h : ¬ k < 10) : Lib.decDigits k = Lib.decDigits (k / 10) ++ [UInt8.ofNat (48 + k % 10)] := by rw [Lib.decDigits, dif_neg h]
theorem mk_app (a b : List UInt8) : (⟨(a ++ b).toArray⟩ : ByteArray) = ⟨a.toArray⟩ ++ ⟨b.toArray⟩ := by
  apply ByteArray.ext
  simp
theorem mtl_dec : ∀ (n k : Nat), k ≤ n → 0 < k → ∀ out : ByteArray, mtl k out = ⟨(Lib.decDigits k).toArray⟩ ++ out
  | 0, k, h, h0, _ => by omega
  | n + 1, k, h, h0, out => by
    rw [mtl_pos h0]
    have hd : dig k = ⟨[UInt8.ofNat (48 + k % 10)].toArray⟩ := by
      show (⟨#[(k % 10 + 48).toUInt8]⟩ : ByteArray) = ⟨#[UInt8.ofNat (48 + k % 10)]⟩
      rw [Nat.add_comm (k % 10) 48]
    by_cases hk : k < 10
    · rw [show k / 10 = 0 by omega, mtl_zero, dd_lt hk, hd, show k % 10 = k by omega]
    · rw [mtl_dec n (k / 10) (by omega) (by omega), dd_ge hk, mk_app, hd, ByteArray.append_assoc]
theorem decR_dec (k : Nat) : decR k = ⟨(Lib.decDigits k).toArray⟩ := by
  unfold decR
  split
  · rename_i h; subst h; rw [dd_lt (by omega)]; rfl
  · rw [mtl_dec k k (Nat.le_refl _) (by omega)]
    apply ByteArray.ext
    simp
theorem Decimal_impl (k : Nat) (hk : k < 100) (w : World) : Calls Tryz.prog 94 #[.int .i64 k] w fun e w' => e = .returned (.string (decR k)) ∧ w' = w := by
  have HD := Lib.hid (decR_dec k)
  have HI := Lib.hid (show ∀ wq : World, Calls Tryz.prog 126 #[.int .i64 k] wq fun e w' => e = .returned (.string ⟨(Lib.decDigits k).toArray⟩) ∧ w' = wq from fun wq => Any.strconv_Itoa_small layItoa k hk wq)
  go_enter Tryz.func94, Tryz.ntmps94
  go_wp2_with fail
  refine (HI.out _).mono ?_
  rw [← HD.out]
  rintro e w1 ⟨rfl, rfl⟩
  go_wp2
  go_ret
  exact ⟨rfl, rfl⟩
/-- a path's place -/
def placeR (p : ByteArray) (k : Nat) : ByteArray := p ++ ⟨#[91]⟩ ++ decR k ++ ⟨#[93]⟩
theorem placeR_size (p : ByteArray) (k : Nat) : (placeR p k).size ≤ p.size + k + 3 := by
  have h := decR_size k
  unfold placeR
  simp only [ByteArray.size_append]
  show p.size + 1 + (decR k).size + 1 ≤ _
  omega
theorem PathPlace_impl (p : ByteArray) (k : Nat) (hk : k < 100) (w : World) (hp : (p.size : Int) ≤ 2097152) :
    Calls Tryz.prog 54 #[.string p, .int .i64 k] w fun e w' => e = .returned (.string (placeR p k)) ∧ w' = w := by
  have HF := Lib.hid (show placeR p k = p ++ ⟨#[91]⟩ ++ decR k ++ ⟨#[93]⟩ from rfl)
  obtain ⟨d, hd⟩ : ∃ d, d = decR k := ⟨_, rfl⟩
  have HD := Lib.hid hd
  have hds : d.size ≤ 100 := by rw [hd]; have := decR_size k; omega
  rw [← hd] at HF
  clear hd
  have e1 : (p ++ (⟨#[91]⟩ : ByteArray)).size = p.size + 1 := by rw [ByteArray.size_append]; rfl
  have h2 : ((p ++ (⟨#[91]⟩ : ByteArray)).size : Int) ≤ 2097153 := by rw [e1]; omega
  have h3 : ((p ++ (⟨#[91]⟩ : ByteArray) ++ d).size : Int) ≤ 2097253 := by rw [ByteArray.size_append, e1]; omega
  have h4 : (d.size : Int) ≤ 100 := by omega
  clear e1 hds
  go_enter Tryz.func54, Tryz.ntmps54
  go_wp2_with fail
  refine (Decimal_impl k hk _).mono ?_
  rw [← HD.out]
  rintro e w1 ⟨rfl, rfl⟩
  go_wp2
  go_ret
  exact ⟨by rw [HF.out]; rfl, rfl⟩
theorem PathPlace_spec (p : ByteArray) (k : Nat) (hk : k < 100) (w : World) (hp : (p.size : Int) ≤ 2097152) :
    Calls Tryz.prog 43 #[.string p, .int .i64 k] w fun e w' => e = .returned (.string (placeR p k)) ∧ Below w.heap.size w w' := by
  have HF := Lib.hid (show placeR p k = p ++ ⟨#[91]⟩ ++ decR k ++ ⟨#[93]⟩ from rfl)
  obtain ⟨d, hd⟩ : ∃ d, d = decR k := ⟨_, rfl⟩
  have HD := Lib.hid hd
  have hds : d.size ≤ 100 := by rw [hd]; have := decR_size k; omega
  rw [← hd] at HF
  clear hd
  have e1 : (p ++ (⟨#[91]⟩ : ByteArray)).size = p.size + 1 := by rw [ByteArray.size_append]; rfl
  have h2 : ((p ++ (⟨#[91]⟩ : ByteArray)).size : Int) ≤ 2097153 := by rw [e1]; omega
  have h3 : ((p ++ (⟨#[91]⟩ : ByteArray) ++ d).size : Int) ≤ 2097253 := by rw [ByteArray.size_append, e1]; omega
  have h4 : (d.size : Int) ≤ 100 := by omega
  clear e1 hds
  go_enter Tryz.func43, Tryz.ntmps43
  go_wp2_with fail
  refine (Decimal_spec k (by omega) _).mono ?_
  rw [← HD.out]
  rintro e w1 ⟨rfl, hb1⟩
  go_wp2
  go_ret
  exact ⟨by rw [HF.out]; rfl, hb1⟩
end Go.Proofs.YtegekccoincicaaGreatDoor
