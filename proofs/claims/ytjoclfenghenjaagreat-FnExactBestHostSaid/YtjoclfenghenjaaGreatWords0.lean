/- The words of labels and names, of the program and of the reference. No condition. -/
import Derived.Test.YtjoclfenghenjaaGreatBase0
import Derived.Lib.IndexAny
import Derived.Test.YtjoclfenghenjaaGreatRegion
namespace Go.Proofs.YtjoclfenghenjaaGreat
open Go.ChangeShapes Go.WideShapes Go.ChangeAt Go.RowKit
set_option linter.unusedVariables false
set_option linter.unusedSimpArgs false

/-- a letter's or a figure's byte -/
def letterI (c : Int) : Bool := decide (97 ≤ c) && decide (c ≤ 122) || decide (65 ≤ c) && decide (c ≤ 90) || decide (48 ≤ c) && decide (c ≤ 57)
def lowerI (c : Int) : Bool := decide (97 ≤ c) && decide (c ≤ 122)
def alphaI (c : Int) : Bool := decide (97 ≤ c) && decide (c ≤ 122) || decide (65 ≤ c) && decide (c ≤ 90)
def digitI (c : Int) : Bool := decide (48 ≤ c) && decide (c ≤ 57)
/-- a byte of a word: a letter, a figure, or one of the others -/
def okB (o : ByteArray) (c : UInt8) : Bool := letterI c.toNat || o.data.toList.contains c
/-- a word: bytes of that kind; the first and the last are letters or figures -/
def wordR (o s : ByteArray) : Bool := decide (0 < s.size) && (letterI (s.data.toList.getD 0 0).toNat && letterI (s.data.toList.getD (s.size - 1) 0).toNat) && s.data.toList.all (okB o)
theorem byte_getD {s : ByteArray} {k : Nat} (h : k < s.size) : s.data.toList.getD k 0 = s[k] := by
  have h' : k < s.data.size := h
  rw [List.getD_eq_getElem?_getD, List.getElem?_eq_getElem (by simpa using h')]
  simp [ByteArray.getElem_eq_getElem_data]
theorem all_bytes {s : ByteArray} {p : UInt8 → Bool} (h : ∀ j (hj : j < s.size), p s[j] = true) : s.data.toList.all p = true := by
  rw [List.all_eq_true]
  intro x hx
  obtain ⟨j, hj, rfl⟩ := List.getElem_of_mem hx
  have hj' : j < s.size := by simpa using hj
  have := h j hj'
  simpa [ByteArray.getElem_eq_getElem_data] using this
theorem not_all_bytes {s : ByteArray} {p : UInt8 → Bool} {k : Nat} (hk : k < s.size) (h : p s[k] = false) : s.data.toList.all p = false := by
  rw [List.all_eq_false]
  have hk' : k < s.data.size := hk
  refine ⟨s.data.toList[k]'(by simpa using hk'), List.getElem_mem _, ?_⟩
  simp only [Array.getElem_toList]
  rw [ByteArray.getElem_eq_getElem_data] at h
  simp [h]
theorem all_next {s : ByteArray} {p : UInt8 → Bool} {k : Nat} (hlt : k < s.size) (h : ∀ j (hj : j < s.size), j < k → p s[j] = true) (hp : p s[k] = true) : ∀ j (hj : j < s.size), j < k + 1 → p s[j] = true := fun j hj hjk => by
  rcases Nat.lt_or_ge j k with h1 | h1
  · exact h j hj h1
  · obtain rfl : j = k := by omega
    exact hp
theorem byte_u8 (c : UInt8) : ((c.toNat : Int)).toNat.toUInt8 = c := by simp
theorem isLower_any (c : Int) (w : World) : Calls Tryz.prog 171 #[.int .u8 c] w fun e w' => e = .returned (.bool (lowerI c)) ∧ w' = w := by
  go_enter Tryz.func171, Tryz.ntmps171
  go_wp2
  all_goals
    go_ret
    refine ⟨?_, rfl⟩
    refine congrArg (fun b => Ending.returned (Value.bool b)) ?_
    show (_ : Bool) = _
    unfold lowerI
    rw [Bool.eq_iff_iff]
    simp only [Bool.or_eq_true, Bool.and_eq_true, decide_eq_true_eq, Bool.false_eq_true, true_iff, false_iff]
    omega
theorem isDigit_any (c : Int) (w : World) : Calls Tryz.prog 172 #[.int .u8 c] w fun e w' => e = .returned (.bool (digitI c)) ∧ w' = w := by
  go_enter Tryz.func172, Tryz.ntmps172
  go_wp2
  all_goals
    go_ret
    refine ⟨?_, rfl⟩
    refine congrArg (fun b => Ending.returned (Value.bool b)) ?_
    show (_ : Bool) = _
    unfold digitI
    rw [Bool.eq_iff_iff]
    simp only [Bool.or_eq_true, Bool.and_eq_true, decide_eq_true_eq, Bool.false_eq_true, true_iff, false_iff]
    omega
theorem isLetter_any (c : Int) (w : World) : Calls Tryz.prog 204 #[.int .u8 c] w fun e w' => e = .returned (.bool (alphaI c)) ∧ w' = w := by
  go_enter Tryz.func204, Tryz.ntmps204
  go_wp2
  all_goals
    go_ret
    refine ⟨?_, rfl⟩
    refine congrArg (fun b => Ending.returned (Value.bool b)) ?_
    show (_ : Bool) = _
    unfold alphaI
    rw [Bool.eq_iff_iff]
    simp only [Bool.or_eq_true, Bool.and_eq_true, decide_eq_true_eq, Bool.false_eq_true, true_iff, false_iff]
    omega
theorem wordOk_1_any (c : Int) (w : World) : Calls Tryz.prog 203 #[.int .u8 c] w fun e w' => e = .returned (.bool (letterI c)) ∧ w' = w := by
  go_enter Tryz.func203, Tryz.ntmps203
  go_wp2
  all_goals
    go_ret
    refine ⟨?_, rfl⟩
    refine congrArg (fun b => Ending.returned (Value.bool b)) ?_
    show (_ : Bool) = _
    unfold letterI
    rw [Bool.eq_iff_iff]
    simp only [Bool.or_eq_true, Bool.and_eq_true, decide_eq_true_eq, Bool.false_eq_true, true_iff, false_iff]
    omega
theorem l14Letter_any (c : Int) (w : World) : Calls Tryz.prog 157 #[.int .u8 c] w fun e w' => e = .returned (.bool (letterI c)) ∧ w' = w := by
  go_enter Tryz.func157, Tryz.ntmps157
  go_wp2
  all_goals
    go_ret
    refine ⟨?_, rfl⟩
    refine congrArg (fun b => Ending.returned (Value.bool b)) ?_
    show (_ : Bool) = _
    unfold letterI
    rw [Bool.eq_iff_iff]
    simp only [Bool.or_eq_true, Bool.and_eq_true, decide_eq_true_eq, Bool.false_eq_true, true_iff, false_iff]
    omega
set_option maxRecDepth 100000 in
theorem stringslite_IndexByte_any (s : ByteArray) (c : Int) (w : World) : Calls Tryz.prog 213 #[.string s, .int .u8 c] w fun e w' => e = .returned (.int .i64 (Lib.indexByte s.data.toList c.toNat.toUInt8)) ∧ w' = w := by
  go_enter Tryz.func213, Tryz.ntmps213
  go_wp2
  rw [run_callFunc_extern Tryz.func216 (by kernel_rfl) (by kernel_rfl) (by kernel_rfl) (e := Extern.BytealgIndexByte.indexByte) (by kernel_rfl), Lib.run_indexByteString]
  simp only [Result.andThen]
  rw [Oper.upon_value]
  go_wp2
  go_ret
  exact ⟨rfl, rfl⟩
theorem IndexByte_any (s : ByteArray) (c : Int) (w : World) : Calls Tryz.prog 205 #[.string s, .int .u8 c] w fun e w' => e = .returned (.int .i64 (Lib.indexByte s.data.toList c.toNat.toUInt8)) ∧ w' = w := by
  go_enter Tryz.func205, Tryz.ntmps205
  go_wp2_with fail
  refine (stringslite_IndexByte_any s c _).mono ?_
  rintro e w' ⟨rfl, rfl⟩
  go_wp2
  go_ret
  exact ⟨rfl, rfl⟩
set_option maxRecDepth 100000 in
set_option maxHeartbeats 400000 in
theorem wordOk_impl (s o : ByteArray) (w : World) (hs : 0 < s.size) (hs2 : (s.size : Int) ≤ 1048576) : Calls Tryz.prog 194 #[.string s, .string o] w fun e w' => e = .returned (.bool (wordR o s)) ∧ w' = w := by
  go_enter Tryz.func194, Tryz.ntmps194
  go_wp2_with fail
  go_loop [9] (fun v => ∃ (k : Nat), k ≤ s.size ∧ v = .int .i64 k ∧ Hid (∀ j (hj : j < s.size), j < k → okB o s[j] = true)) (fun v => s.size - (intOf v).toNat)
  case atStart => exact ⟨0, Nat.zero_le _, rfl, fun j _ hj => by omega⟩
  case round =>
    obtain ⟨k, hk, rfl, hall⟩ := hrel
    by_cases hlt : k < s.size
    · cases h1 : letterI (s[k].toNat : Int) with
      | true =>
        have hok : okB o s[k] = true := by unfold okB; rw [h1]; rfl
        have H1 := Lib.hid h1
        have HN := Lib.hid (all_next hlt hall.out hok)
        clear h1 hok
        go_wp2_with (go_at_call 203; refine (wordOk_1_any (s[k].toNat : Int) _).mono ?_; rw [H1.out]; rintro e w2 ⟨rfl, rfl⟩)
        exact ⟨⟨k + 1, by omega, by go_num, HN.out⟩, by simp [intOf]; omega⟩
      | false =>
        have hci := Lib.contains_iff_indexByte o.data.toList s[k]
        cases h2 : o.data.toList.contains s[k] with
        | true =>
          rw [h2] at hci
          have hge : 0 ≤ Lib.indexByte o.data.toList ((s[k].toNat : Int)).toNat.toUInt8 := by rw [byte_u8]; simpa using hci.symm
          have hok : okB o s[k] = true := by unfold okB; rw [h2]; simp
          have H1 := Lib.hid h1
          have HN := Lib.hid (all_next hlt hall.out hok)
          clear h1 h2 hci hok
          generalize hgi : Lib.indexByte o.data.toList ((s[k].toNat : Int)).toNat.toUInt8 = gi at *
          have HGI := Lib.hid hgi
          clear hgi
          go_wp2_with (first | (go_at_call 203; refine (wordOk_1_any (s[k].toNat : Int) _).mono ?_; rw [H1.out]; rintro e w2 ⟨rfl, rfl⟩) | (go_at_call 205; refine (IndexByte_any o (s[k].toNat : Int) _).mono ?_; rw [HGI.out]; rintro e w3 ⟨rfl, rfl⟩))
          exact ⟨⟨k + 1, by omega, by go_num, HN.out⟩, by simp [intOf]; omega⟩
        | false =>
          rw [h2] at hci
          have hge : Lib.indexByte o.data.toList ((s[k].toNat : Int)).toNat.toUInt8 < 0 := by rw [byte_u8]; simpa using hci.symm
          have hok : okB o s[k] = false := by unfold okB; rw [h1, h2]; rfl
          have hfin : wordR o s = false := by unfold wordR; rw [not_all_bytes hlt hok]; simp
          have HF := Lib.hid hfin
          have H1 := Lib.hid h1
          clear h1 h2 hci hok hfin
          generalize hgi : Lib.indexByte o.data.toList ((s[k].toNat : Int)).toNat.toUInt8 = gi at *
          have HGI := Lib.hid hgi
          clear hgi
          go_wp2_with (first | (go_at_call 203; refine (wordOk_1_any (s[k].toNat : Int) _).mono ?_; rw [H1.out]; rintro e w2 ⟨rfl, rfl⟩) | (go_at_call 205; refine (IndexByte_any o (s[k].toNat : Int) _).mono ?_; rw [HGI.out]; rintro e w3 ⟨rfl, rfl⟩))
          go_ret
          exact ⟨by rw [HF.out]; rfl, rfl⟩
    · have hkl : k = s.size := by omega
      subst hkl
      have ha := all_bytes (p := okB o) (fun j hj => hall.out j hj hj)
      cases h1 : letterI (s[0].toNat : Int) with
      | false =>
        have hfin : wordR o s = false := by unfold wordR; rw [byte_getD hs, h1]; simp
        have HF := Lib.hid hfin
        have H1 := Lib.hid h1
        clear h1 hfin
        go_wp2_with fail
        refine (wordOk_1_any (s[0].toNat : Int) _).mono ?_
        rw [H1.out]
        rintro e w2 ⟨rfl, rfl⟩
        go_wp2
        go_ret
        exact ⟨by rw [HF.out]; rfl, rfl⟩
      | true =>
        cases h2 : letterI (s[s.size - 1].toNat : Int)
        all_goals
          have hfin : wordR o s = _ := (by unfold wordR; rw [ha, byte_getD hs, byte_getD (show s.size - 1 < s.size by omega), h1, h2])
          simp only [hs, decide_true, Bool.true_and, Bool.and_true, Bool.and_false] at hfin
          have HF := Lib.hid hfin
          have H1 := Lib.hid h1
          have H2 := Lib.hid h2
          clear h1 h2 hfin
          go_wp2_with fail
          refine (wordOk_1_any (s[0].toNat : Int) _).mono ?_
          rw [H1.out]
          rintro e w2 ⟨rfl, rfl⟩
          go_wp2_with fail
          refine (wordOk_1_any (s[s.size - 1].toNat : Int) _).mono ?_
          rw [H2.out]
          rintro e w2 ⟨rfl, rfl⟩
          go_wp2
          go_ret
          exact ⟨by rw [HF.out]; rfl, rfl⟩

end Go.Proofs.YtjoclfenghenjaaGreat

namespace Go.Proofs.YtjoclfenghenjaaGreat
open Go.ChangeShapes Go.WideShapes Go.ChangeAt Go.RowKit
set_option linter.unusedVariables false
set_option linter.unusedSimpArgs false
/-- what the inner loop gathers -/
def anyTo (o : ByteArray) (c : UInt8) (k : Nat) : Bool := letterI c.toNat || (o.data.toList.take k).contains c
theorem anyTo_zero (o : ByteArray) (c : UInt8) : anyTo o c 0 = letterI c.toNat := by simp [anyTo]
theorem anyTo_full (o : ByteArray) (c : UInt8) : anyTo o c o.size = okB o c := by
  unfold anyTo okB
  rw [List.take_of_length_le (by rw [Array.length_toList]; exact Nat.le_refl _)]
theorem anyTo_succ {o : ByteArray} {c : UInt8} {k : Nat} (hk : k < o.size) : anyTo o c (k + 1) = (anyTo o c k || ((c.toNat : Int) == (o[k].toNat : Int))) := by
  have hk' : k < o.data.toList.length := by simpa using hk
  unfold anyTo
  rw [List.take_succ_eq_append_getElem hk', List.contains_eq_any_beq, List.contains_eq_any_beq, List.any_append, Bool.or_assoc]
  congr 2
  simp only [List.any_cons, List.any_nil, Bool.or_false, Array.getElem_toList]
  rw [Bool.eq_iff_iff, beq_iff_eq, beq_iff_eq, ByteArray.getElem_eq_getElem_data]
  constructor
  · intro h; rw [← h]
  · intro h; exact UInt8.toNat_inj.1 (by omega)
set_option maxRecDepth 100000 in
set_option maxHeartbeats 400000 in
theorem l14Word_spec (s o : ByteArray) (w : World) (hs2 : (s.size : Int) ≤ 1048576) (ho : (o.size : Int) ≤ 1048576) : Calls Tryz.prog 193 #[.string s, .string o] w fun e w' => e = .returned (.bool (wordR o s)) ∧ Below w.heap.size w w' := by
  by_cases hs : 0 < s.size
  · have hz : ((s.size : Int) == 0) = false := by rw [beq_eq_false_iff_ne]; omega
    cases h1 : letterI (s[0].toNat : Int) with
    | false =>
      have hfin : wordR o s = false := by unfold wordR; rw [byte_getD hs, h1]; simp
      have HF := Lib.hid hfin
      have H1 := Lib.hid h1
      clear h1 hfin
      go_enter Tryz.func193, Tryz.ntmps193
      go_wp2_with fail
      refine (l14Letter_any (s[0].toNat : Int) _).mono ?_
      rw [H1.out]
      rintro e w2 ⟨rfl, hw⟩
      rw [hw]
      clear hw w2
      go_wp2
      go_ret
      exact ⟨by rw [HF.out]; rfl, ext_refl _⟩
    | true =>
      cases h2 : letterI (s[s.size - 1].toNat : Int) with
      | false =>
        have hfin : wordR o s = false := by unfold wordR; rw [byte_getD hs, byte_getD (show s.size - 1 < s.size by omega), h1, h2]; simp
        have HF := Lib.hid hfin
        have H1 := Lib.hid h1
        have H2 := Lib.hid h2
        clear h1 h2 hfin
        go_enter Tryz.func193, Tryz.ntmps193
        go_wp2_with fail
        refine (l14Letter_any (s[0].toNat : Int) _).mono ?_
        rw [H1.out]
        rintro e w2 ⟨rfl, hw⟩
        rw [hw]
        clear hw w2
        go_wp2_with fail
        refine (l14Letter_any (s[s.size - 1].toNat : Int) _).mono ?_
        rw [H2.out]
        rintro e w2 ⟨rfl, hw⟩
        rw [hw]
        clear hw w2
        go_wp2
        go_ret
        exact ⟨by rw [HF.out]; rfl, ext_refl _⟩
      | true =>
        have hfin : wordR o s = s.data.toList.all (okB o) := by unfold wordR; rw [byte_getD hs, byte_getD (show s.size - 1 < s.size by omega), h1, h2]; simp [hs]
        have HF := Lib.hid hfin
        have H1 := Lib.hid h1
        have H2 := Lib.hid h2
        clear h1 h2 hfin
        go_enter Tryz.func193, Tryz.ntmps193
        go_wp2_with fail
        refine (l14Letter_any (s[0].toNat : Int) _).mono ?_
        rw [H1.out]
        rintro e w2 ⟨rfl, hw⟩
        rw [hw]
        clear hw w2
        go_wp2_with fail
        refine (l14Letter_any (s[s.size - 1].toNat : Int) _).mono ?_
        rw [H2.out]
        rintro e w2 ⟨rfl, hw⟩
        rw [hw]
        clear hw w2
        go_wp2_with fail
        go_loopw [5] (fun v wr => ∃ (k : Nat), k ≤ s.size ∧ v = .int .i64 k ∧ Hid (∀ j (hj : j < s.size), j < k → okB o s[j] = true) ∧ Below w.heap.size w wr) (fun v _ => s.size - (intOf v).toNat)
        case atStart => exact ⟨0, Nat.zero_le _, rfl, fun j _ hj => by omega, ext_refl _⟩
        case round =>
          obtain ⟨k, hk, rfl, hall, hbl⟩ := hrel
          by_cases hlt : k < s.size
          · go_wp2_with fail
            refine (l14Letter_any (s[k].toNat : Int) _).mono ?_
            rw [← anyTo_zero o s[k]]
            rintro e w2 ⟨rfl, hw⟩
            rw [hw]
            clear hw w2
            go_wp2_with fail
            go_loopw [6, 7] (fun v u wi => ∃ (j : Nat), j ≤ o.size ∧ u = .int .i64 j ∧ v = .bool (anyTo o s[k] j) ∧ Below w.heap.size w wi) (fun _ u _ => o.size - (intOf u).toNat)
            case atStart => exact ⟨0, Nat.zero_le _, rfl, rfl, hbl⟩
            case round =>
              obtain ⟨j, hj, rfl, rfl, hbi⟩ := hrel
              by_cases hjl : j < o.size
              · have HA := Lib.hid (anyTo_succ (c := s[k]) hjl)
                generalize hb : anyTo o s[k] j = b at *
                cases b
                all_goals
                  clear hb
                  go_wp2_with fail
                  refine wp_region_grow _ (by kernel_rfl) (by kernel_rfl) (ext_refl _) ?_
                  repeat (first
                    | (apply inText_skip
                       case hw => rfl
                       simp only [Act.put, List.setIfInBounds_toArray, List.set_cons_zero, List.set_cons_succ])
                    | (apply inText_step
                       case hw => rfl
                       case h =>
                         intro wq hq
                         have hcq := (cls_cell hq).1
                         have hfq := (cls_cell hq).2
                         go_simp
                         first
                           | exact ⟨hq, rfl⟩
                           | exact ⟨cls_alloc hq _, rfl⟩
                           | (fail)
                           | (simp only [↓IntWalk.iteOmega]; exact ⟨hq, rfl⟩)
                       simp only [Act.put, List.setIfInBounds_toArray, List.set_cons_zero, List.set_cons_succ]))
                  refine inText_nil ?_
                  intro wn hn
                  replace hn := hn.out
                  go_wp2
                  exact ⟨⟨j + 1, by omega, by go_num, by rw [HA.out]; rfl, ext_trans hbi hn⟩, by simp [intOf]; omega⟩
              · have hjo : j = o.size := by omega
                subst hjo
                rw [anyTo_full]
                cases hok : okB o s[k] with
                | true =>
                  have HN := Lib.hid (all_next hlt hall.out hok)
                  clear hok
                  go_wp2
                  exact ⟨⟨k + 1, by omega, by go_num, HN.out, hbi⟩, by simp [intOf]; omega⟩
                | false =>
                  have HG := Lib.hid (not_all_bytes hlt hok)
                  clear hok
                  go_wp2
                  go_ret
                  exact ⟨by rw [HF.out, HG.out]; rfl, hbi⟩
          · have hkl : k = s.size := by omega
            subst hkl
            have HG := Lib.hid (all_bytes (p := okB o) (fun j hj => hall.out j hj hj))
            go_wp2
            go_ret
            exact ⟨by rw [HF.out, HG.out]; rfl, hbl⟩
  · have hs0 : s.size = 0 := by omega
    have hfin : wordR o s = false := by unfold wordR; simp [hs0]
    have HF := Lib.hid hfin
    clear hfin
    go_enter Tryz.func193, Tryz.ntmps193
    go_wp2
    go_ret
    exact ⟨by rw [HF.out]; rfl, ext_refl _⟩

end Go.Proofs.YtjoclfenghenjaaGreat

namespace Go.Proofs.YtjoclfenghenjaaGreat
open Go.ChangeShapes Go.WideShapes Go.ChangeAt Go.RowKit
set_option linter.unusedVariables false
set_option linter.unusedSimpArgs false

def oKey : ByteArray := ⟨#[45, 95, 46, 47]⟩
def oVal : ByteArray := ⟨#[45, 95, 46]⟩
def keyR (s : ByteArray) : Bool := decide ((s.size : Int) ≤ 30) && wordR oKey s
def valR (s : ByteArray) : Bool := decide (s.size = 0) || (decide ((s.size : Int) ≤ 20) && wordR oVal s)
theorem wordR_empty {o s : ByteArray} (h : ¬ 0 < s.size) : wordR o s = false := by unfold wordR; simp [h]
theorem size_zero {s : ByteArray} (h : s.size = 0) : s = ⟨#[]⟩ := by
  obtain ⟨d⟩ := s
  congr 1
  exact Array.eq_empty_of_size_eq_zero h
theorem toList_ne {s : ByteArray} (h : 0 < s.size) : (s.toList == []) = false := by
  rw [beq_eq_false_iff_ne]
  intro e
  rw [ByteArray.toList_eq] at e
  have h2 : s.data.toList.length = 0 := by rw [e]; rfl
  rw [Array.length_toList] at h2
  have h3 : s.size = s.data.size := rfl
  omega
set_option maxHeartbeats 400000 in
theorem LabelKeyOk_impl (s : ByteArray) (w : World) (hs2 : (s.size : Int) ≤ 1048576) : Calls Tryz.prog 173 #[.string s] w fun e w' => e = .returned (.bool (keyR s)) ∧ Below w.heap.size w w' := by
  by_cases hs : 0 < s.size
  · have hz : ((s.size : Int) == 0) = false := by rw [beq_eq_false_iff_ne]; omega
    by_cases h30 : (s.size : Int) ≤ 30
    · cases hW : wordR oKey s
      all_goals
        have hfin : keyR s = _ := (by unfold keyR; rw [hW])
        simp only [h30, decide_true, Bool.true_and] at hfin
        have HF := Lib.hid hfin
        have HW := Lib.hid hW
        clear hfin hW
        go_enter Tryz.func173, Tryz.ntmps173
        go_wp2_with (first | (go_at_call 194; refine (wordOk_impl s oKey _ hs (by omega)).mono ?_; rw [HW.out]; rintro e w2 ⟨rfl, hw⟩; rw [hw]; clear hw w2) | go_in)
        go_ret
        exact ⟨by rw [HF.out]; rfl, (by repeat (first | with_reducible exact ext_refl _ | with_reducible assumption | with_reducible refine ext_alloc ?_ _ | with_reducible refine ext_trans ?_ (by assumption)))⟩
    · have hfin : keyR s = false := by unfold keyR; simp [h30]
      have HF := Lib.hid hfin
      clear hfin
      go_enter Tryz.func173, Tryz.ntmps173
      go_wp2
      go_ret
      exact ⟨by rw [HF.out]; rfl, (by repeat (first | with_reducible exact ext_refl _ | with_reducible assumption | with_reducible refine ext_alloc ?_ _ | with_reducible refine ext_trans ?_ (by assumption)))⟩
  · have hfin : keyR s = false := by unfold keyR; rw [wordR_empty hs]; simp
    have HF := Lib.hid hfin
    have hs0 : (s.size : Int) = 0 := by omega
    have HW := Lib.hid (wordR_empty (o := oKey) hs)
    clear hfin
    go_enter Tryz.func173, Tryz.ntmps173
    go_wp2
    go_ret
    exact ⟨by rw [HF.out]; rfl, (by repeat (first | with_reducible exact ext_refl _ | with_reducible assumption | with_reducible refine ext_alloc ?_ _ | with_reducible refine ext_trans ?_ (by assumption)))⟩
set_option maxHeartbeats 400000 in
theorem LabelValueOk_impl (s : ByteArray) (w : World) (hs2 : (s.size : Int) ≤ 1048576) : Calls Tryz.prog 174 #[.string s] w fun e w' => e = .returned (.bool (valR s)) ∧ Below w.heap.size w w' := by
  by_cases hs : 0 < s.size
  · have hz : ((s.size : Int) == 0) = false := by rw [beq_eq_false_iff_ne]; omega
    have hne := toList_ne hs
    have hs0 : ¬ s.size = 0 := by omega
    by_cases h30 : (s.size : Int) ≤ 20
    · cases hW : wordR oVal s
      all_goals
        have hfin : valR s = _ := (by unfold valR; rw [hW])
        simp only [h30, hs0, decide_true, decide_false, Bool.true_and, Bool.false_or] at hfin
        have HF := Lib.hid hfin
        have HW := Lib.hid hW
        clear hfin hW
        go_enter Tryz.func174, Tryz.ntmps174
        go_wp2_with (first | (go_at_call 194; refine (wordOk_impl s oVal _ hs (by omega)).mono ?_; rw [HW.out]; rintro e w2 ⟨rfl, hw⟩; rw [hw]; clear hw w2) | go_in)
        go_ret
        exact ⟨by rw [HF.out]; rfl, (by repeat (first | with_reducible exact ext_refl _ | with_reducible assumption | with_reducible refine ext_alloc ?_ _ | with_reducible refine ext_trans ?_ (by assumption)))⟩
    · have hfin : valR s = false := by unfold valR; simp [h30, hs0]
      have HF := Lib.hid hfin
      clear hfin
      go_enter Tryz.func174, Tryz.ntmps174
      go_wp2
      go_ret
      exact ⟨by rw [HF.out]; rfl, (by repeat (first | with_reducible exact ext_refl _ | with_reducible assumption | with_reducible refine ext_alloc ?_ _ | with_reducible refine ext_trans ?_ (by assumption)))⟩
  · obtain rfl := size_zero (s := s) (by omega)
    go_enter Tryz.func174, Tryz.ntmps174
    go_wp2
    go_ret
    exact ⟨by rfl, (by repeat (first | with_reducible exact ext_refl _ | with_reducible assumption | with_reducible refine ext_alloc ?_ _ | with_reducible refine ext_trans ?_ (by assumption)))⟩
set_option maxHeartbeats 400000 in
theorem LabelKeyOk_spec (s : ByteArray) (w : World) (hs2 : (s.size : Int) ≤ 1048576) : Calls Tryz.prog 158 #[.string s] w fun e w' => e = .returned (.bool (keyR s)) ∧ Below w.heap.size w w' := by
  by_cases hs : 0 < s.size
  · have hz : ((s.size : Int) == 0) = false := by rw [beq_eq_false_iff_ne]; omega
    by_cases h30 : (s.size : Int) ≤ 30
    · cases hW : wordR oKey s
      all_goals
        have hfin : keyR s = _ := (by unfold keyR; rw [hW])
        simp only [h30, decide_true, Bool.true_and] at hfin
        have HF := Lib.hid hfin
        have HW := Lib.hid hW
        clear hfin hW
        go_enter Tryz.func158, Tryz.ntmps158
        go_wp2_with (first | (go_at_call 193; refine (l14Word_spec s oKey _ (by omega) (by decide)).mono ?_; rw [HW.out]; rintro e w2 ⟨rfl, hb2⟩) | go_in)
        go_ret
        exact ⟨by rw [HF.out]; rfl, (by repeat (first | with_reducible exact ext_refl _ | with_reducible assumption | with_reducible refine ext_alloc ?_ _ | with_reducible refine ext_trans ?_ (by assumption)))⟩
    · have hfin : keyR s = false := by unfold keyR; simp [h30]
      have HF := Lib.hid hfin
      clear hfin
      go_enter Tryz.func158, Tryz.ntmps158
      go_wp2
      go_ret
      exact ⟨by rw [HF.out]; rfl, (by repeat (first | with_reducible exact ext_refl _ | with_reducible assumption | with_reducible refine ext_alloc ?_ _ | with_reducible refine ext_trans ?_ (by assumption)))⟩
  · have hfin : keyR s = false := by unfold keyR; rw [wordR_empty hs]; simp
    have HF := Lib.hid hfin
    have hs0 : (s.size : Int) = 0 := by omega
    have HW := Lib.hid (wordR_empty (o := oKey) hs)
    clear hfin
    go_enter Tryz.func158, Tryz.ntmps158
    go_wp2_with (first | (go_at_call 193; refine (l14Word_spec s oKey _ (by omega) (by decide)).mono ?_; rw [HW.out]; rintro e w2 ⟨rfl, hb2⟩) | go_in)
    go_ret
    exact ⟨by rw [HF.out]; rfl, (by repeat (first | with_reducible exact ext_refl _ | with_reducible assumption | with_reducible refine ext_alloc ?_ _ | with_reducible refine ext_trans ?_ (by assumption)))⟩
set_option maxHeartbeats 400000 in
theorem LabelValueOk_spec (s : ByteArray) (w : World) (hs2 : (s.size : Int) ≤ 1048576) : Calls Tryz.prog 159 #[.string s] w fun e w' => e = .returned (.bool (valR s)) ∧ Below w.heap.size w w' := by
  by_cases hs : 0 < s.size
  · have hz : ((s.size : Int) == 0) = false := by rw [beq_eq_false_iff_ne]; omega
    have hne := toList_ne hs
    have hs0 : ¬ s.size = 0 := by omega
    by_cases h30 : (s.size : Int) ≤ 20
    · cases hW : wordR oVal s
      all_goals
        have hfin : valR s = _ := (by unfold valR; rw [hW])
        simp only [h30, hs0, decide_true, decide_false, Bool.true_and, Bool.false_or] at hfin
        have HF := Lib.hid hfin
        have HW := Lib.hid hW
        clear hfin hW
        go_enter Tryz.func159, Tryz.ntmps159
        go_wp2_with (first | (go_at_call 193; refine (l14Word_spec s oVal _ (by omega) (by decide)).mono ?_; rw [HW.out]; rintro e w2 ⟨rfl, hb2⟩) | go_in)
        go_ret
        exact ⟨by rw [HF.out]; rfl, (by repeat (first | with_reducible exact ext_refl _ | with_reducible assumption | with_reducible refine ext_alloc ?_ _ | with_reducible refine ext_trans ?_ (by assumption)))⟩
    · have hfin : valR s = false := by unfold valR; simp [h30, hs0]
      have HF := Lib.hid hfin
      clear hfin
      go_enter Tryz.func159, Tryz.ntmps159
      go_wp2
      go_ret
      exact ⟨by rw [HF.out]; rfl, (by repeat (first | with_reducible exact ext_refl _ | with_reducible assumption | with_reducible refine ext_alloc ?_ _ | with_reducible refine ext_trans ?_ (by assumption)))⟩
  · obtain rfl := size_zero (s := s) (by omega)
    go_enter Tryz.func159, Tryz.ntmps159
    go_wp2
    go_ret
    exact ⟨by rfl, (by repeat (first | with_reducible exact ext_refl _ | with_reducible assumption | with_reducible refine ext_alloc ?_ _ | with_reducible refine ext_trans ?_ (by assumption)))⟩

end Go.Proofs.YtjoclfenghenjaaGreat
