/- VarText, of the program and of the reference: the bytes of a number, seven bits a byte. -/
import Derived.Test.YtkgajoichmnaaaaAppend
namespace Go.Proofs.Ytkgajoichmnaaaa
open Dat (rd)
open Go.ChangeShapes Go.WideShapes Go.ChangeAt Go.RowKit
set_option linter.unusedVariables false
set_option linter.unusedSimpArgs false
/-- seven bits a byte, the least first -/
def varB (n : Nat) : List UInt8 := if n < 128 then [n.toUInt8] else (n % 128 + 128).toUInt8 :: varB (n / 128)
termination_by n
theorem varB_small {n : Nat} (h : n < 128) : varB n = [n.toUInt8] := by rw [varB, if_pos h]
theorem varB_big {n : Nat} (h : 128 ≤ n) : varB n = (n % 128 + 128).toUInt8 :: varB (n / 128) := by rw [varB, if_neg (by omega)]
def varText (n : Int) : ByteArray := if n < 0 then ⟨#[]⟩ else ⟨(varB n.toNat).toArray⟩
theorem varB_len : ∀ (k n : Nat), n < 128 ^ (k + 1) → (varB n).length ≤ k + 1
  | 0, n, h => by rw [varB_small (by simpa using h)]; simp
  | k + 1, n, h => by
    by_cases hn : n < 128
    · rw [varB_small hn]; simp
    · rw [varB_big (by omega), List.length_cons]
      have := varB_len k (n / 128) (by rw [Nat.pow_succ] at h; exact Nat.div_lt_of_lt_mul (by omega))
      omega
theorem pow128 : (128 : Nat) ^ (9 + 1) = 1180591620717411303424 := by decide +kernel
theorem varB_len10 {n : Nat} (h : (n : Int) ≤ 9223372036854775807) : (varB n).length ≤ 10 := by
  have h1 : n < 128 ^ (9 + 1) := by rw [pow128]; omega
  have h2 := varB_len 9 n h1
  omega
theorem infoU8 : (Try.prog.info? 5).map (fun i => (i.zero, i.size, i.bytes)) = some (some (.int .u8 0), 1, 1) := by kernel_rfl
theorem elU8 : ElOk Try.prog 67 5 (.int .u8 0) 1 1 := ⟨Try.underlying67, infoU8, rfl, by omega⟩
theorem or128 (j : Nat) : bits .or .u8 ((j : Int) % 256) 128 = ((j % 128 + 128 : Nat) : Int) := by
  have e : ((j : Int) % 256) = ((j % 256 : Nat) : Int) := by omega
  rw [e, show (128 : Int) = ((128 : Nat) : Int) from rfl, u8_or_nat _ _ (by omega) (by omega)]
  congr 1
  have h : ∀ x : Fin 256, (x.val ||| 128) = x.val % 128 + 128 := by decide +kernel
  have := h ⟨j % 256, by omega⟩
  simp only at this
  rw [this]; omega
theorem B8_mk (n : Nat) (h : n < 256) : B8 n.toUInt8 = .int .u8 (n : Int) := by
  unfold B8
  congr 1
  have : n.toUInt8.toNat = n := by simp [Nat.toUInt8, UInt8.toNat_ofNat']; omega
  rw [this]
/-- the last byte, and the string -/
theorem var_last {p : List UInt8} {j m : Nat} (hp : p ++ varB j = varB m) (hj : j < 128) : p ++ [j.toUInt8] = varB m := by rw [← hp, varB_small hj]
theorem var_next {p : List UInt8} {j m : Nat} (hp : p ++ varB j = varB m) (hj : 128 ≤ j) : (p ++ [(j % 128 + 128).toUInt8]) ++ varB (j / 128) = varB m := by rw [← hp, varB_big hj]; simp
theorem var_len {p : List UInt8} {j m : Nat} (hp : p ++ varB j = varB m) (hm : (varB m).length ≤ 10) : p.length ≤ 9 := by
  have h := congrArg List.length hp
  rw [List.length_append] at h
  have : 1 ≤ (varB j).length := by unfold varB; split <;> simp
  omega
set_option maxHeartbeats 400000 in
theorem VarText_impl (n : Int) (w : World) (hn : I64 n) : Calls Try.prog 34 #[.int .i64 n] w fun e w' => e = .returned (.string (varText n)) ∧ Below w.heap.size w w' := by
  obtain ⟨hn0, hn1⟩ := hn
  by_cases hneg : n < 0
  · go_enter Try.func34, Try.ntmps34
    go_wp2
    go_ret
    exact ⟨by unfold varText; rw [if_pos hneg]; rfl, ext_refl _⟩
  · obtain ⟨m, rfl⟩ := Int.eq_ofNat_of_zero_le (show 0 ≤ n by omega)
    have hfin : varText (m : Int) = ⟨(varB m).toArray⟩ := by unfold varText; rw [if_neg hneg]; rfl
    have HF := Lib.hid hfin
    clear hfin hneg
    have hl10 := varB_len10 (n := m) (by omega)
    clear hn0 hn1
    go_enter Try.func34, Try.ntmps34
    go_wp2_with fail
    go_loopw [0, 3] (fun x v wr => ∃ (p : List UInt8) (j : Nat), x = .int .i64 j ∧ Hid (p ++ varB j = varB m) ∧ p.length ≤ 9 ∧ wr.ownsRow w.heap.size 5 1 v p.length (p.map B8) ∧ Below w.heap.size w wr) (fun x _ _ => (intOf x).toNat)
    case atStart => exact ⟨[], m, rfl, rfl, by simp, by simpa using World.ownsRow_made w #[] 0 (Nat.le_refl _) (by unfold maxLen; omega) rfl, ext_alloc (ext_refl _) _⟩
    case round =>
      obtain ⟨p, j, rfl, hp, hpl, hown, hbl⟩ := hrel
      by_cases hj : (128 : Int) ≤ (j : Int)
      · have hor := or128 j
        go_wp2_with (at_builtin; refine wpList_append1 elU8 rfl _ _ rfl _ _ _ _ _ hown rfl _ rfl rfl (by simp [Value.oneCell']) (by omega) (by omega) (by exact hbl.size) ?_; intro v2 w2 hown2 hg2 hz2)
        clear hor
        have h2 := var_next hp.out (by omega)
        refine ⟨⟨_, j / 128, by go_num, h2, var_len h2 hl10, ?_, grown_ext hown hg2 hbl hbl.size⟩, by simp [intOf]; omega⟩
        rw [List.length_append, List.map_append, List.length_singleton, List.map_singleton, B8_mk _ (by omega)]
        exact hown2
      · have hj2 : (j : Int) < 128 := by omega
        have hj3 : (j : Int) % 256 = j := by omega
        have hl := var_last hp.out (by omega)
        go_wp2_with (at_builtin; refine wpList_append1 elU8 rfl _ _ rfl _ _ _ _ _ hown rfl _ rfl rfl (by simp [Value.oneCell']) (by omega) (by omega) (by exact hbl.size) ?_; intro v2 w2 hown2 hg2 hz2
                     have hcv := run_string_own (dst := 9) (l := p ++ [j.toUInt8]) Try.underlying67 Try.underlying5 Try.underlying9 (by rw [List.map_append, List.map_singleton, B8_mk _ (by omega)]; exact hown2))
        go_ret
        exact ⟨by rw [HF.out, ← hl]; rfl, grown_ext hown hg2 hbl hbl.size⟩

set_option maxHeartbeats 400000 in
theorem VarText_spec (n : Int) (w : World) (hn : I64 n) : Calls Try.prog 31 #[.int .i64 n] w fun e w' => e = .returned (.string (varText n)) ∧ Below w.heap.size w w' := by
  obtain ⟨hn0, hn1⟩ := hn
  by_cases hneg : n < 0
  · have hn127 : n ≤ 127 := by omega
    go_enter Try.func31, Try.ntmps31
    go_wp2_with fail
    go_loopw [0, 3] (fun x v wr => x = .int .i64 n ∧ Below w.heap.size w wr) (fun _ _ _ => 0)
    case atStart => exact ⟨rfl, ext_alloc (ext_refl _) _⟩
    case round =>
      obtain ⟨rfl, hbl⟩ := hrel
      go_wp2
      go_ret
      exact ⟨by unfold varText; rw [if_pos hneg]; rfl, hbl⟩
  · obtain ⟨m, rfl⟩ := Int.eq_ofNat_of_zero_le (show 0 ≤ n by omega)
    have hfin : varText (m : Int) = ⟨(varB m).toArray⟩ := by unfold varText; rw [if_neg hneg]; rfl
    have HF := Lib.hid hfin
    clear hfin hneg
    have hl10 := varB_len10 (n := m) (by omega)
    clear hn0
    go_enter Try.func31, Try.ntmps31
    go_wp2_with fail
    go_loopw [0, 3] (fun x v wr => ∃ (p : List UInt8) (j : Nat), x = .int .i64 j ∧ Hid (p ++ varB j = varB m) ∧ Hid (j ≤ m) ∧ p.length ≤ 9 ∧ wr.ownsRow w.heap.size 5 1 v p.length (p.map B8) ∧ Below w.heap.size w wr) (fun x _ _ => (intOf x).toNat)
    case atStart => exact ⟨[], m, rfl, rfl, Nat.le_refl _, by simp, by simpa using World.ownsRow_made w #[] 0 (Nat.le_refl _) (by unfold maxLen; omega) rfl, ext_alloc (ext_refl _) _⟩
    case round =>
      obtain ⟨p, j, rfl, hp, hjm, hpl, hown, hbl⟩ := hrel
      by_cases hj : (128 : Int) ≤ (j : Int)
      · have hjb : (j : Int) ≤ 9223372036854775807 := by have := hjm.out; omega
        have hj1 : (127 : Int) < (j : Int) := by omega
        have hr0 : (0 : Int) ≤ (j : Int) % 128 := by omega
        have hr1 : (j : Int) % 128 < 128 := by omega
        go_wp2_with (at_builtin; refine wpList_append1 elU8 rfl _ _ rfl _ _ _ _ _ hown rfl _ rfl rfl (by simp [Value.oneCell']) (by omega) (by omega) (by exact hbl.size) ?_; intro v2 w2 hown2 hg2 hz2)
        have h2 := var_next hp.out (by omega)
        refine ⟨⟨_, j / 128, by go_num, h2, Nat.le_trans (Nat.div_le_self ..) hjm.out, var_len h2 hl10, ?_, grown_ext hown hg2 hbl hbl.size⟩, by simp [intOf]; omega⟩
        rw [List.length_append, List.map_append, List.length_singleton, List.map_singleton, B8_mk _ (by omega), show ((j % 128 + 128 : Nat) : Int) = 128 + (j : Int) % 128 by omega]
        exact hown2
      · have hj2 : (j : Int) ≤ 127 := by omega
        have hj3 : (j : Int) % 256 = j := by omega
        have hl := var_last hp.out (by omega)
        go_wp2_with (at_builtin; refine wpList_append1 elU8 rfl _ _ rfl _ _ _ _ _ hown rfl _ rfl rfl (by simp [Value.oneCell']) (by omega) (by omega) (by exact hbl.size) ?_; intro v2 w2 hown2 hg2 hz2
                     have hcv := run_string_own (dst := 9) (l := p ++ [j.toUInt8]) Try.underlying67 Try.underlying5 Try.underlying9 (by rw [List.map_append, List.map_singleton, B8_mk _ (by omega)]; exact hown2))
        go_ret
        exact ⟨by rw [HF.out, ← hl]; rfl, grown_ext hown hg2 hbl hbl.size⟩
/-- a string behind its length -/
def shortText (s : ByteArray) : ByteArray := varText s.size ++ s
theorem varText_size (n : Int) (hn : I64 n) : (varText n).size ≤ 10 := by
  unfold varText
  split
  · exact Nat.zero_le _
  · show (varB n.toNat).toArray.size ≤ 10
    rw [List.size_toArray]
    exact varB_len10 (by have := hn.2; omega)
theorem shortText_size (s : ByteArray) (hs : (s.size : Int) ≤ 1099511627776) : (shortText s).size ≤ s.size + 10 := by
  have := varText_size s.size ⟨by omega, by omega⟩
  unfold shortText
  rw [ByteArray.size_append]
  omega
theorem ShortText_impl (s : ByteArray) (w : World) (hs : (s.size : Int) ≤ 1099511627776) : Calls Try.prog 35 #[.string s] w fun e w' => e = .returned (.string (shortText s)) ∧ Below w.heap.size w w' := by
  have hI : I64 s.size := ⟨by omega, by omega⟩
  have hv := varText_size _ hI
  go_enter Try.func35, Try.ntmps35
  go_wp2_with (go_at_call 34; refine (VarText_impl _ _ hI).mono ?_; rintro e w2 ⟨rfl, hb⟩)
  go_ret
  exact ⟨rfl, hb⟩
theorem ShortText_spec (s : ByteArray) (w : World) (hs : (s.size : Int) ≤ 1099511627776) : Calls Try.prog 32 #[.string s] w fun e w' => e = .returned (.string (shortText s)) ∧ Below w.heap.size w w' := by
  have hI : I64 s.size := ⟨by omega, by omega⟩
  have hv := varText_size _ hI
  go_enter Try.func32, Try.ntmps32
  go_wp2_with (go_at_call 31; refine (VarText_spec _ _ hI).mono ?_; rintro e w2 ⟨rfl, hb⟩)
  go_ret
  exact ⟨rfl, hb⟩
end Go.Proofs.Ytkgajoichmnaaaa
