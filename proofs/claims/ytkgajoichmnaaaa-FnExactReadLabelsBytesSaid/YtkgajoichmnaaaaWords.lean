/- The words of labels and names, of the program and of the reference. No condition. -/
import Derived.Test.YtkgajoichmnaaaaKit
import Derived.Lib.IndexAny
namespace Go.Proofs.Ytkgajoichmnaaaa
open Dat (rd)
open Go.ChangeShapes Go.WideShapes Go.ChangeAt Go.RowKit
set_option linter.unusedVariables false
set_option linter.unusedSimpArgs false

/-- a letter's or a figure's byte -/
def letterI (c : Int) : Bool := decide (97 ≤ c) && decide (c ≤ 122) || decide (65 ≤ c) && decide (c ≤ 90) || decide (48 ≤ c) && decide (c ≤ 57)
def lowerI (c : Int) : Bool := decide (97 ≤ c) && decide (c ≤ 122)
def alphaI (c : Int) : Bool := decide (97 ≤ c) && decide (c ≤ 122) || decide (65 ≤ c) && decide (c ≤ 90)
def digitI (c : Int) : Bool := decide (48 ≤ c) && decide (c ≤ 57)
/-- a byte of a word: a letter, a figure, or one of the others -/
def okB (o : ByteArray) (c : UInt8) : Bool := letterI c.toNat || o.data.toList.contains c
/-- a word: bytes of that kind; the first and the last are letters or figures -/
def wordR (o s : ByteArray) : Bool := decide (0 < s.size) && (letterI (s.data.toList.getD 0 0).toNat && letterI (s.data.toList.getD (s.size - 1) 0).toNat) && s.data.toList.all (okB o)
theorem byte_getD {s : ByteArray} {k : Nat} (h : k < s.size) : s.data.toList.getD k 0 = s[k] := by
  have h' : k < s.data.size := h
  rw [List.getD_eq_getElem?_getD, List.getElem?_eq_getElem (by simpa using h')]
  simp [ByteArray.getElem_eq_getElem_data]
theorem all_bytes {s : ByteArray} {p : UInt8 → Bool} (h : ∀ j (hj : j < s.size), p s[j] = true) : s.data.toList.all p = true := by
  rw [List.all_eq_true]
  intro x hx
  obtain ⟨j, hj, rfl⟩ := List.getElem_of_mem hx
  have hj' : j < s.size := by simpa using hj
  have := h j hj'
  simpa [ByteArray.getElem_eq_getElem_data] using this
theorem not_all_bytes {s : ByteArray} {p : UInt8 → Bool} {k : Nat} (hk : k < s.size) (h : p s[k] = false) : s.data.toList.all p = false := by
  rw [List.all_eq_false]
  have hk' : k < s.data.size := hk
  refine ⟨s.data.toList[k]'(by simpa using hk'), List.getElem_mem _, ?_⟩
  simp only [Array.getElem_toList]
  rw [ByteArray.getElem_eq_getElem_data] at h
  simp [h]
theorem all_next {s : ByteArray} {p : UInt8 → Bool} {k : Nat} (hlt : k < s.size) (h : ∀ j (hj : j < s.size), j < k → p s[j] = true) (hp : p s[k] = true) : ∀ j (hj : j < s.size), j < k + 1 → p s[j] = true := fun j hj hjk => by
  rcases Nat.lt_or_ge j k with h1 | h1
  · exact h j hj h1
  · obtain rfl : j = k := by omega
    exact hp
theorem byte_u8 (c : UInt8) : ((c.toNat : Int)).toNat.toUInt8 = c := by simp
theorem isLower_any (c : Int) (w : World) : Calls Try.prog 69 #[.int .u8 c] w fun e w' => e = .returned (.bool (lowerI c)) ∧ w' = w := by
  go_enter Try.func69, Try.ntmps69
  go_wp2
  all_goals
    go_ret
    refine ⟨?_, rfl⟩
    refine congrArg (fun b => Ending.returned (Value.bool b)) ?_
    show (_ : Bool) = _
    unfold lowerI
    rw [Bool.eq_iff_iff]
    simp only [Bool.or_eq_true, Bool.and_eq_true, decide_eq_true_eq, Bool.false_eq_true, true_iff, false_iff]
    omega
theorem isDigit_any (c : Int) (w : World) : Calls Try.prog 67 #[.int .u8 c] w fun e w' => e = .returned (.bool (digitI c)) ∧ w' = w := by
  go_enter Try.func67, Try.ntmps67
  go_wp2
  all_goals
    go_ret
    refine ⟨?_, rfl⟩
    refine congrArg (fun b => Ending.returned (Value.bool b)) ?_
    show (_ : Bool) = _
    unfold digitI
    rw [Bool.eq_iff_iff]
    simp only [Bool.or_eq_true, Bool.and_eq_true, decide_eq_true_eq, Bool.false_eq_true, true_iff, false_iff]
    omega
theorem isLetter_any (c : Int) (w : World) : Calls Try.prog 66 #[.int .u8 c] w fun e w' => e = .returned (.bool (alphaI c)) ∧ w' = w := by
  go_enter Try.func66, Try.ntmps66
  go_wp2
  all_goals
    go_ret
    refine ⟨?_, rfl⟩
    refine congrArg (fun b => Ending.returned (Value.bool b)) ?_
    show (_ : Bool) = _
    unfold alphaI
    rw [Bool.eq_iff_iff]
    simp only [Bool.or_eq_true, Bool.and_eq_true, decide_eq_true_eq, Bool.false_eq_true, true_iff, false_iff]
    omega
theorem wordOk_1_any (c : Int) (w : World) : Calls Try.prog 65 #[.int .u8 c] w fun e w' => e = .returned (.bool (letterI c)) ∧ w' = w := by
  go_enter Try.func65, Try.ntmps65
  go_wp2
  all_goals
    go_ret
    refine ⟨?_, rfl⟩
    refine congrArg (fun b => Ending.returned (Value.bool b)) ?_
    show (_ : Bool) = _
    unfold letterI
    rw [Bool.eq_iff_iff]
    simp only [Bool.or_eq_true, Bool.and_eq_true, decide_eq_true_eq, Bool.false_eq_true, true_iff, false_iff]
    omega
theorem l14Letter_any (c : Int) (w : World) : Calls Try.prog 62 #[.int .u8 c] w fun e w' => e = .returned (.bool (letterI c)) ∧ w' = w := by
  go_enter Try.func62, Try.ntmps62
  go_wp2
  all_goals
    go_ret
    refine ⟨?_, rfl⟩
    refine congrArg (fun b => Ending.returned (Value.bool b)) ?_
    show (_ : Bool) = _
    unfold letterI
    rw [Bool.eq_iff_iff]
    simp only [Bool.or_eq_true, Bool.and_eq_true, decide_eq_true_eq, Bool.false_eq_true, true_iff, false_iff]
    omega
set_option maxRecDepth 100000 in
theorem stringslite_IndexByte_any (s : ByteArray) (c : Int) (w : World) : Calls Try.prog 70 #[.string s, .int .u8 c] w fun e w' => e = .returned (.int .i64 (Lib.indexByte s.data.toList c.toNat.toUInt8)) ∧ w' = w := by
  go_enter Try.func70, Try.ntmps70
  go_wp2
  rw [run_callFunc_extern Try.func71 (by kernel_rfl) (by kernel_rfl) (by kernel_rfl) (e := Extern.BytealgIndexByte.indexByte) (by kernel_rfl), Lib.run_indexByteString]
  simp only [Result.andThen]
  rw [Oper.upon_value]
  go_wp2
  go_ret
  exact ⟨rfl, rfl⟩
theorem IndexByte_any (s : ByteArray) (c : Int) (w : World) : Calls Try.prog 68 #[.string s, .int .u8 c] w fun e w' => e = .returned (.int .i64 (Lib.indexByte s.data.toList c.toNat.toUInt8)) ∧ w' = w := by
  go_enter Try.func68, Try.ntmps68
  go_wp2_with fail
  refine (stringslite_IndexByte_any s c _).mono ?_
  rintro e w' ⟨rfl, rfl⟩
  go_wp2
  go_ret
  exact ⟨rfl, rfl⟩
set_option maxRecDepth 100000 in
set_option maxHeartbeats 400000 in
theorem wordOk_impl (s o : ByteArray) (w : World) (hs : 0 < s.size) (hs2 : (s.size : Int) ≤ 1048576) : Calls Try.prog 64 #[.string s, .string o] w fun e w' => e = .returned (.bool (wordR o s)) ∧ w' = w := by
  go_enter Try.func64, Try.ntmps64
  go_wp2_with fail
  go_loop [9] (fun v => ∃ (k : Nat), k ≤ s.size ∧ v = .int .i64 k ∧ Hid (∀ j (hj : j < s.size), j < k → okB o s[j] = true)) (fun v => s.size - (intOf v).toNat)
  case atStart => exact ⟨0, Nat.zero_le _, rfl, fun j _ hj => by omega⟩
  case round =>
    obtain ⟨k, hk, rfl, hall⟩ := hrel
    by_cases hlt : k < s.size
    · cases h1 : letterI (s[k].toNat : Int) with
      | true =>
        have hok : okB o s[k] = true := by unfold okB; rw [h1]; rfl
        have H1 := Lib.hid h1
        have HN := Lib.hid (all_next hlt hall.out hok)
        clear h1 hok
        go_wp2_with (go_at_call 65; refine (wordOk_1_any (s[k].toNat : Int) _).mono ?_; rw [H1.out]; rintro e w2 ⟨rfl, rfl⟩)
        exact ⟨⟨k + 1, by omega, by go_num, HN.out⟩, by simp [intOf]; omega⟩
      | false =>
        have hci := Lib.contains_iff_indexByte o.data.toList s[k]
        cases h2 : o.data.toList.contains s[k] with
        | true =>
          rw [h2] at hci
          have hge : 0 ≤ Lib.indexByte o.data.toList ((s[k].toNat : Int)).toNat.toUInt8 := by rw [byte_u8]; simpa using hci.symm
          have hok : okB o s[k] = true := by unfold okB; rw [h2]; simp
          have H1 := Lib.hid h1
          have HN := Lib.hid (all_next hlt hall.out hok)
          clear h1 h2 hci hok
          generalize hgi : Lib.indexByte o.data.toList ((s[k].toNat : Int)).toNat.toUInt8 = gi at *
          have HGI := Lib.hid hgi
          clear hgi
          go_wp2_with (first | (go_at_call 65; refine (wordOk_1_any (s[k].toNat : Int) _).mono ?_; rw [H1.out]; rintro e w2 ⟨rfl, rfl⟩) | (go_at_call 68; refine (IndexByte_any o (s[k].toNat : Int) _).mono ?_; rw [HGI.out]; rintro e w3 ⟨rfl, rfl⟩))
          exact ⟨⟨k + 1, by omega, by go_num, HN.out⟩, by simp [intOf]; omega⟩
        | false =>
          rw [h2] at hci
          have hge : Lib.indexByte o.data.toList ((s[k].toNat : Int)).toNat.toUInt8 < 0 := by rw [byte_u8]; simpa using hci.symm
          have hok : okB o s[k] = false := by unfold okB; rw [h1, h2]; rfl
          have hfin : wordR o s = false := by unfold wordR; rw [not_all_bytes hlt hok]; simp
          have HF := Lib.hid hfin
          have H1 := Lib.hid h1
          clear h1 h2 hci hok hfin
          generalize hgi : Lib.indexByte o.data.toList ((s[k].toNat : Int)).toNat.toUInt8 = gi at *
          have HGI := Lib.hid hgi
          clear hgi
          go_wp2_with (first | (go_at_call 65; refine (wordOk_1_any (s[k].toNat : Int) _).mono ?_; rw [H1.out]; rintro e w2 ⟨rfl, rfl⟩) | (go_at_call 68; refine (IndexByte_any o (s[k].toNat : Int) _).mono ?_; rw [HGI.out]; rintro e w3 ⟨rfl, rfl⟩))
          go_ret
          exact ⟨by rw [HF.out]; rfl, rfl⟩
    · have hkl : k = s.size := by omega
      subst hkl
      have ha := all_bytes (p := okB o) (fun j hj => hall.out j hj hj)
      cases h1 : letterI (s[0].toNat : Int) with
      | false =>
        have hfin : wordR o s = false := by unfold wordR; rw [byte_getD hs, h1]; simp
        have HF := Lib.hid hfin
        have H1 := Lib.hid h1
        clear h1 hfin
        go_wp2_with fail
        refine (wordOk_1_any (s[0].toNat : Int) _).mono ?_
        rw [H1.out]
        rintro e w2 ⟨rfl, rfl⟩
        go_wp2
        go_ret
        exact ⟨by rw [HF.out]; rfl, rfl⟩
      | true =>
        cases h2 : letterI (s[s.size - 1].toNat : Int)
        all_goals
          have hfin : wordR o s = _ := (by unfold wordR; rw [ha, byte_getD hs, byte_getD (show s.size - 1 < s.size by omega), h1, h2])
          simp only [hs, decide_true, Bool.true_and, Bool.and_true, Bool.and_false] at hfin
          have HF := Lib.hid hfin
          have H1 := Lib.hid h1
          have H2 := Lib.hid h2
          clear h1 h2 hfin
          go_wp2_with fail
          refine (wordOk_1_any (s[0].toNat : Int) _).mono ?_
          rw [H1.out]
          rintro e w2 ⟨rfl, rfl⟩
          go_wp2_with fail
          refine (wordOk_1_any (s[s.size - 1].toNat : Int) _).mono ?_
          rw [H2.out]
          rintro e w2 ⟨rfl, rfl⟩
          go_wp2
          go_ret
          exact ⟨by rw [HF.out]; rfl, rfl⟩

end Go.Proofs.Ytkgajoichmnaaaa
