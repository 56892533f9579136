/- markText: the letter m and the decimal digits of a number. -/
import Derived.Test.YtkgajoichmnaaaaVarP
namespace Go.Proofs.Ytkgajoichmnaaaa
open Dat (rd)
open Go.ChangeShapes Go.WideShapes Go.ChangeAt Go.RowKit
set_option linter.unusedVariables false
set_option linter.unusedSimpArgs false
def dig (k : Nat) : ByteArray := ⟨#[(k % 10 + 48).toUInt8]⟩
theorem dig_size (k : Nat) : (dig k).size = 1 := rfl
/-- the digits of k ahead of out -/
def mtl (k : Nat) (out : ByteArray) : ByteArray := if h : k = 0 then out else mtl (k / 10) (dig k ++ out)
termination_by k
decreasing_by omega
theorem mtl_zero (out : ByteArray) : mtl 0 out = out := by rw [mtl, dif_pos rfl]
theorem mtl_pos {k : Nat} (h : 0 < k) (out : ByteArray) : mtl k out = mtl (k / 10) (dig k ++ out) := by rw [mtl, dif_neg (by omega)]
theorem mtl_size : ∀ (n k : Nat) (out : ByteArray), k ≤ n → (mtl k out).size ≤ out.size + k
  | 0, k, out, h => by
    obtain rfl : k = 0 := by omega
    rw [mtl_zero]; omega
  | n + 1, k, out, h => by
    by_cases hk : k = 0
    · subst hk; rw [mtl_zero]; omega
    · rw [mtl_pos (by omega)]
      have := mtl_size n (k / 10) (dig k ++ out) (by omega)
      rw [ByteArray.size_append] at this
      have e := dig_size k
      omega
def mtext (k : Int) : ByteArray := if k ≤ 0 then ⟨#[109, 48]⟩ else ⟨#[109]⟩ ++ mtl k.toNat ⟨#[]⟩
theorem mtext_size (k : Int) (hk : k ≤ 1073741824) : (mtext k).size ≤ 1073741828 := by
  unfold mtext
  split
  · decide
  · rw [ByteArray.size_append]
    have := mtl_size k.toNat k.toNat ⟨#[]⟩ (Nat.le_refl _)
    have e1 : (⟨#[109]⟩ : ByteArray).size = 1 := rfl
    have e2 : (⟨#[]⟩ : ByteArray).size = 0 := rfl
    omega
set_option maxRecDepth 100000 in
set_option maxHeartbeats 1000000 in
theorem markText_any (k : Int) (w : World) (hk : k ≤ 1073741824) (hk0 : -9223372036854775808 ≤ k) : Calls Try.prog 43 #[.int .i64 k] w fun e w' => e = .returned (.string (mtext k)) ∧ Below w.heap.size w w' := by
  by_cases hneg : k ≤ 0
  · go_enter Try.func43, Try.ntmps43
    go_wp2
    go_ret
    exact ⟨by unfold mtext; rw [if_pos hneg]; rfl, ext_refl _⟩
  · obtain ⟨m, rfl⟩ := Int.eq_ofNat_of_zero_le (show 0 ≤ k by omega)
    have hfin : mtext (m : Int) = ⟨#[109]⟩ ++ mtl m ⟨#[]⟩ := by unfold mtext; rw [if_neg hneg]; rfl
    have HF := Lib.hid hfin
    have HM := Lib.hid hk
    clear hfin hk hk0 
    go_enter Try.func43, Try.ntmps43
    go_wp2_with fail
    go_loopw [0, 3] (fun x v wr => ∃ (j : Nat) (out : ByteArray), x = .int .i64 j ∧ v = .string out ∧ Hid (mtl j out = mtl m ⟨#[]⟩) ∧ (out.size : Int) + j ≤ m ∧ Below w.heap.size w wr) (fun x _ _ => (intOf x).toNat)
    case atStart => exact ⟨m, ⟨#[]⟩, rfl, rfl, rfl, by show ((0 : Nat) : Int) + m ≤ m; omega, ext_refl _⟩
    case round =>
      obtain ⟨j, out, rfl, rfl, hm, hs, hbl⟩ := hrel
      by_cases hj : (0 : Int) < (j : Int)
      · have hM := HM.out
        have hout : (out.size : Int) ≤ 1073741824 := by omega
        clear hM
        have hd : B8 (j % 10 + 48).toUInt8 = .int .u8 (48 + (j : Int) % 10) := by rw [B8_mk _ (by omega)]; congr 1; omega
        have hconv : (convert 67 9 (.slice (some ⟨wr.heap.size, 0, none⟩) 1 1)).run Try.prog (wr.alloc (.cells #[.int .u8 (48 + (j : Int) % 10)] 5)) = .ok (.string (dig j)) (wr.alloc (.cells #[.int .u8 (48 + (j : Int) % 10)] 5)) :=
          run_convert_bytes_back _ 67 9 5 ⟨wr.heap.size, 0, none⟩ 1 [(j % 10 + 48).toUInt8] Try.underlying67 Try.underlying5 Try.underlying9 (fun i hi => by
            obtain rfl : i = 0 := by simpa using hi
            refine (cell_of_row _ wr.heap.size 0 #[.int .u8 (48 + (j : Int) % 10)] 5 (0, 0) (heap_alloc_new wr _)).trans ?_
            rw [← hd]
            rfl)
        clear hd
        have hds := dig_size j
        have hwr : wrap64 ((j : Int) / 10) = ((j / 10 : Nat) : Int) := by have := HM.out; unfold wrap64; omega
        go_wp2_with fail
        refine ⟨⟨j / 10, _, by rw [hwr], rfl, ?_, ?_, ext_alloc hbl _⟩, ?_⟩
        · show _ = _
          rw [← mtl_pos (by omega)]; exact hm.out
        · rw [ByteArray.size_append, hds]; omega
        · rw [hwr]
          simp only [intOf]; omega
      · have hj0 : j = 0 := by omega
        subst hj0
        have hm2 := hm.out
        rw [mtl_zero] at hm2
        subst hm2
        have hM := HM.out
        have hout : ((mtl m ⟨#[]⟩).size : Int) ≤ 1073741824 := by omega
        clear hM
        go_wp2_with fail
        go_ret
        exact ⟨by rw [HF.out]; rfl, hbl⟩
end Go.Proofs.Ytkgajoichmnaaaa
