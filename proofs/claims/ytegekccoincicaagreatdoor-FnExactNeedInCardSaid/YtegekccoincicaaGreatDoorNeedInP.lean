/- NeedIn in plain Lean. No condition. -/
import Derived.Test.YtegekccoincicaaGreatDoorTreeL
import Derived.Test.YtegekccoincicaaGreatDoorPathP
import Derived.Test.YtegekccoincicaaGreatDoorL19Key
namespace Go.Proofs.YtegekccoincicaaGreatDoor
open Dat (rd)
open Go.ChangeShapes Go.WideShapes Go.ChangeAt Go.RowKit
set_option linter.unusedVariables false
set_option linter.unusedSimpArgs false

def sOp : ByteArray := ⟨#[111, 112]⟩
def sVals : ByteArray := ⟨#[118, 97, 108, 117, 101, 115]⟩
def zNeed : Need := ⟨⟨#[]⟩, 0, []⟩
def nmKeys : List ByteArray := [sKey, sOp, sVals]
/-- a value read: the fault behind it -/
def kidF (q : ByteArray) (f : Fault) (k : Nat) (t : Tree) : Fault :=
  if valR t.text = false then failR (if t.kind ≠ 4 then failR f 11 (placeR q k) else f) 14 (placeR q k) else (if t.kind ≠ 4 then failR f 11 (placeR q k) else f)
def kidsN (q : ByteArray) (f : Fault) (l : List Tree) : Nat → Fault
  | 0 => f
  | j + 1 => match l[j]? with
    | some t => kidF q (kidsN q f l j) j t
    | none => kidsN q f l j
theorem kidsN_succ {q : ByteArray} {f : Fault} {l : List Tree} {j : Nat} (h : j < l.length) : kidsN q f l (j + 1) = kidF q (kidsN q f l j) j l[j] := by
  rw [kidsN, List.getElem?_eq_getElem h]
theorem failR_bad {f : Fault} {c : Int} {q : ByteArray} (h : f.code ≠ 0) : failR f c q = f := by unfold failR; exact if_neg h
theorem failR_zero {f : Fault} {c : Int} {q : ByteArray} (h : f.code = 0) : failR f c q = fl c q := by unfold failR; exact if_pos h
theorem kidF_bad {q : ByteArray} {f : Fault} {k : Nat} {t : Tree} (h : f.code ≠ 0) : kidF q f k t = f := by
  unfold kidF
  rw [failR_bad h]
  split <;> split <;> first | rfl | exact failR_bad h
theorem kidF_kind {q : ByteArray} {f : Fault} {k : Nat} {t : Tree} (h : f.code = 0) (ht : t.kind ≠ 4) : kidF q f k t = fl 11 (placeR q k) := by
  unfold kidF
  rw [if_pos ht, failR_zero h]
  split
  · exact failR_bad (by show (11 : Int) ≠ 0; decide)
  · rfl
theorem kidF_val {q : ByteArray} {f : Fault} {k : Nat} {t : Tree} (h : f.code = 0) (ht : t.kind = 4) (hv : valR t.text = false) : kidF q f k t = fl 14 (placeR q k) := by
  unfold kidF
  rw [if_pos hv, if_neg (by omega), failR_zero h]
theorem kidF_fine {q : ByteArray} {f : Fault} {k : Nat} {t : Tree} (ht : t.kind = 4) (hv : valR t.text = true) : kidF q f k t = f := by
  unfold kidF
  rw [if_neg (by rw [hv]; simp), if_neg (by omega)]
theorem kidsN_bad {q : ByteArray} {f : Fault} {l : List Tree} {j : Nat} (h : (kidsN q f l j).code ≠ 0) : ∀ n, j ≤ n → kidsN q f l n = kidsN q f l j
  | 0, hn => by rw [show j = 0 by omega]
  | n + 1, hn => by
    rcases Nat.lt_or_ge n j with hj | hj
    · rw [show j = n + 1 by omega]
    · have ih := kidsN_bad h n hj
      rw [kidsN]
      split
      · rw [ih]; exact kidF_bad h
      · exact ih
theorem failR_ok {f : Fault} {c : Int} {q : ByteArray} {n : Nat} (hf : FOk f n) (h0 : 0 ≤ c) (h1 : c ≤ 100) (hq : q.size ≤ n) : FOk (failR f c q) n := by
  unfold failR
  split
  · exact fl_ok h0 h1 hq
  · exact hf
theorem kidF_ok {q : ByteArray} {f : Fault} {k : Nat} {t : Tree} {n : Nat} (hf : FOk f n) (hq : q.size + k + 3 ≤ n) : FOk (kidF q f k t) n := by
  have hp := placeR_size q k
  unfold kidF
  split
  · refine failR_ok ?_ (by omega) (by omega) (by omega)
    split
    · exact failR_ok hf (by omega) (by omega) (by omega)
    · exact hf
  · split
    · exact failR_ok hf (by omega) (by omega) (by omega)
    · exact hf
theorem kidsN_ok {q : ByteArray} {f : Fault} {l : List Tree} {n : Nat} (hf : FOk f n) (hl : l.length ≤ 40) (hq : q.size + 43 ≤ n) : ∀ j, FOk (kidsN q f l j) n
  | 0 => hf
  | j + 1 => by
    rw [kidsN]
    split
    · rename_i t ht
      have hj := (List.getElem?_eq_some_iff.1 ht).1
      exact kidF_ok (kidsN_ok hf hl hq j) (by omega)
    · exact kidsN_ok hf hl hq j
/-! what the program reads -/
def niF (x : Tree) (p : ByteArray) : Fault := knownR x p nmKeys
def niK (x : Tree) (p : ByteArray) : ByteArray × Fault := readT x p (niF x p) sKey keyR
def niW (x : Tree) (p : ByteArray) : ByteArray × Fault := readT x p (niK x p).2 sOp opB
def niL (x : Tree) (p : ByteArray) : List Tree × Fault := readL x p (niW x p).2 sVals
def niG (x : Tree) (p : ByteArray) : Fault := kidsN (pathR p sVals) (niL x p).2 (niL x p).1 (niL x p).1.length
def niV (x : Tree) (p : ByteArray) : List ByteArray := valsR ((niL x p).1.map Tree.text)
/-- has it values exactly if its operation takes some -/
def fitB (op : Int) (n : Nat) : Bool := decide (0 < n) == (op == 1 || op == 2)
def endF (p : ByteArray) (f : Fault) (op : Int) (n : Nat) : Fault :=
  if 4 < n then failR (if fitB op n = false then failR f 14 (pathR p sVals) else f) 16 (pathR p sVals) else (if fitB op n = false then failR f 14 (pathR p sVals) else f)
def niH (x : Tree) (p : ByteArray) : Fault := endF p (niG x p) (opR (niW x p).1) (niV x p).length
def needInR (x : Tree) (p : ByteArray) : Need × Fault := if (niH x p).code = 0 then (⟨(niK x p).1, opR (niW x p).1, niV x p⟩, noF) else (zNeed, niH x p)
theorem endF_bad {p : ByteArray} {f : Fault} {op : Int} {n : Nat} (h : f.code ≠ 0) : endF p f op n = f := by
  unfold endF
  rw [failR_bad h]
  split <;> split <;> first | rfl | exact failR_bad h
/-! what the reference reads -/
def needInS (x : Tree) (p : ByteArray) : Need × Fault :=
  if (knownR x p nmKeys).code = 0 then
    (if (readT x p noF sKey keyR).2.code = 0 then
      (if (oneF x p sOp opWs).2.code = 0 then
        (if (listR x p sVals).2.code = 0 then
          (if (kidsN (pathR p sVals) noF (listR x p sVals).1 (listR x p sVals).1.length).code = 0 then
            (if (endF p noF (oneF x p sOp opWs).1 (valsR ((listR x p sVals).1.map Tree.text)).length).code = 0 then (⟨(readT x p noF sKey keyR).1, (oneF x p sOp opWs).1, valsR ((listR x p sVals).1.map Tree.text)⟩, noF)
            else (zNeed, endF p noF (oneF x p sOp opWs).1 (valsR ((listR x p sVals).1.map Tree.text)).length))
          else (zNeed, kidsN (pathR p sVals) noF (listR x p sVals).1 (listR x p sVals).1.length))
        else (zNeed, (listR x p sVals).2))
      else (zNeed, (oneF x p sOp opWs).2))
    else (zNeed, (readT x p noF sKey keyR).2))
  else (zNeed, knownR x p nmKeys)
theorem listR_zero {x : Tree} {p k : ByteArray} (h : (listR x p k).2.code = 0) : (listR x p k).2 = noF := by
  revert h
  unfold listR
  split
  · exact fun _ => rfl
  · split
    · exact fun h => absurd h (by show (11 : Int) ≠ 0; decide)
    · split
      · exact fun h => absurd h (by show (16 : Int) ≠ 0; decide)
      · exact fun _ => rfl
theorem listR_bad {x : Tree} {p k : ByteArray} (h : (listR x p k).2.code ≠ 0) : (listR x p k).1 = [] := by
  revert h
  unfold listR
  split
  · exact fun h => absurd rfl h
  · split
    · exact fun _ => rfl
    · split
      · exact fun _ => rfl
      · exact fun h => absurd rfl h
theorem readW_one (x : Tree) (p : ByteArray) : (readT x p noF sOp opB).2 = (oneF x p sOp opWs).2 ∧ ((oneF x p sOp opWs).2.code = 0 → opR (readT x p noF sOp opB).1 = (oneF x p sOp opWs).1) := by
  unfold readT oneF
  rw [if_pos (show noF.code = 0 from rfl)]
  by_cases h : (textR x p sOp).2.code = 0
  · rw [if_pos h]
    by_cases h2 : oneR opWs (textR x p sOp).1 = 0
    · rw [if_pos h2, if_pos ⟨h, by unfold opB opR; rw [h2]; rfl⟩]
      exact ⟨rfl, fun hh => by cases hh⟩
    · rw [if_neg h2, if_neg (fun hh => h2 (by have := hh.2; unfold opB opR at this; simpa using this))]
      exact ⟨rfl, fun _ => rfl⟩
  · rw [if_neg h, if_neg (fun hh => h hh.1)]
    exact ⟨rfl, fun hh => absurd hh h⟩
theorem readL_bad {x : Tree} {p : ByteArray} {f : Fault} {k : ByteArray} (h : f.code ≠ 0) : readL x p f k = ([], f) := by unfold readL; exact if_neg h
theorem readL_zero {x : Tree} {p : ByteArray} {f : Fault} {k : ByteArray} (h : f.code = 0) : readL x p f k = listR x p k := by unfold readL; exact if_pos h
theorem niBad {x : Tree} {p : ByteArray} (h : (niL x p).2.code ≠ 0) (hl : (niL x p).1 = []) : needInR x p = (zNeed, (niL x p).2) := by
  have hg : niG x p = (niL x p).2 := by unfold niG; rw [hl]; rfl
  have hh : niH x p = (niL x p).2 := by unfold niH; rw [hg]; exact endF_bad h
  unfold needInR
  rw [hh, if_neg h]
theorem needIn_eq (x : Tree) (p : ByteArray) : needInS x p = needInR x p := by
  unfold needInS
  by_cases h0 : (knownR x p nmKeys).code = 0
  · rw [if_pos h0]
    have eK : niK x p = readT x p noF sKey keyR := by unfold niK niF; exact readT_zero h0
    by_cases h1 : (readT x p noF sKey keyR).2.code = 0
    · rw [if_pos h1]
      have eW : niW x p = readT x p noF sOp opB := by unfold niW; rw [eK]; exact readT_zero h1
      obtain ⟨w1, w2⟩ := readW_one x p
      by_cases h2 : (oneF x p sOp opWs).2.code = 0
      · rw [if_pos h2]
        have eL : niL x p = listR x p sVals := by unfold niL; rw [eW]; exact readL_zero (by rw [w1]; exact h2)
        by_cases h3 : (listR x p sVals).2.code = 0
        · rw [if_pos h3]
          have eG : niG x p = kidsN (pathR p sVals) noF (listR x p sVals).1 (listR x p sVals).1.length := by unfold niG; rw [eL, listR_zero h3]
          have eV : niV x p = valsR ((listR x p sVals).1.map Tree.text) := by unfold niV; rw [eL]
          have eO : opR (niW x p).1 = (oneF x p sOp opWs).1 := by rw [eW]; exact w2 h2
          by_cases h4 : (kidsN (pathR p sVals) noF (listR x p sVals).1 (listR x p sVals).1.length).code = 0
          · rw [if_pos h4]
            have ez : ∀ n, (kidsN (pathR p sVals) noF (listR x p sVals).1 n).code = 0 → kidsN (pathR p sVals) noF (listR x p sVals).1 n = noF := by
              intro n
              induction n with
              | zero => exact fun _ => rfl
              | succ n ih =>
                rw [kidsN]
                split
                · intro hh
                  by_cases hc : (kidsN (pathR p sVals) noF (listR x p sVals).1 n).code = 0
                  · rename_i t _
                    by_cases ht : t.kind = 4
                    · cases hv : valR t.text with
                      | true => rw [kidF_fine ht hv]; exact ih hc
                      | false => rw [kidF_val hc ht hv] at hh; exact absurd hh (by show (14 : Int) ≠ 0; decide)
                    · rw [kidF_kind hc ht] at hh; exact absurd hh (by show (11 : Int) ≠ 0; decide)
                  · rw [kidF_bad hc] at hh; exact absurd hh hc
                · exact ih
            have eH : niH x p = endF p noF (oneF x p sOp opWs).1 (valsR ((listR x p sVals).1.map Tree.text)).length := by unfold niH; rw [eG, ez _ h4, eO, eV]
            unfold needInR
            rw [eH, eK, eO, eV]
          · rw [if_neg h4]
            have eH : niH x p = kidsN (pathR p sVals) noF (listR x p sVals).1 (listR x p sVals).1.length := by unfold niH; rw [eG]; exact endF_bad h4
            unfold needInR
            rw [eH, if_neg h4]
        · rw [if_neg h3, niBad (by rw [eL]; exact h3) (by rw [eL]; exact listR_bad h3), eL]
      · rw [if_neg h2]
        have eL : niL x p = ([], (oneF x p sOp opWs).2) := by unfold niL; rw [eW, w1]; exact readL_bad h2
        rw [niBad (by rw [eL]; exact h2) (by rw [eL]), eL]
    · rw [if_neg h1]
      have eW : niW x p = (⟨#[]⟩, (readT x p noF sKey keyR).2) := by unfold niW; rw [eK]; exact readT_bad h1
      have eL : niL x p = ([], (readT x p noF sKey keyR).2) := by unfold niL; rw [eW]; exact readL_bad h1
      rw [niBad (by rw [eL]; exact h1) (by rw [eL]), eL]
  · rw [if_neg h0]
    have eK : niK x p = (⟨#[]⟩, knownR x p nmKeys) := by unfold niK niF; exact readT_bad h0
    have eW : niW x p = (⟨#[]⟩, knownR x p nmKeys) := by unfold niW; rw [eK]; exact readT_bad h0
    have eL : niL x p = ([], knownR x p nmKeys) := by unfold niL; rw [eW]; exact readL_bad h0
    rw [niBad (by rw [eL]; exact h0) (by rw [eL]), eL]
/-! bounds -/
theorem listR_len (x : Tree) (p k : ByteArray) : (listR x p k).1.length ≤ 40 := by
  unfold listR
  split
  · exact Nat.zero_le _
  · split
    · exact Nat.zero_le _
    · split
      · exact Nat.zero_le _
      · rename_i h; exact Nat.le_of_not_lt h
theorem readL_len (x : Tree) (p : ByteArray) (f : Fault) (k : ByteArray) : (readL x p f k).1.length ≤ 40 := by
  unfold readL
  split
  · exact listR_len x p k
  · exact Nat.zero_le _
theorem listR_text (x : Tree) (p k : ByteArray) : ∀ y ∈ (listR x p k).1, y.text.size ≤ x.wt := by
  unfold listR
  split
  · intro y hy; cases hy
  · rename_i z hz
    have h1 := kidR_wt hz
    split
    · intro y hy; cases hy
    · split
      · intro y hy; cases hy
      · intro y hy
        have h2 := Tree.wt_eq z
        have h3 := wtL_mem (f := Tree.wt) (show y ∈ z.kids from hy)
        have h4 := Tree.wt_eq y
        omega
theorem readL_text (x : Tree) (p : ByteArray) (f : Fault) (k : ByteArray) : ∀ y ∈ (readL x p f k).1, y.text.size ≤ x.wt := by
  unfold readL
  split
  · exact listR_text x p k
  · intro y hy; cases hy
theorem readL_fok {x : Tree} {p : ByteArray} {f : Fault} {k : ByteArray} {n : Nat} (hf : FOk f n) (h : p.size + 1 + k.size ≤ n) : FOk (readL x p f k).2 n := by
  unfold readL
  split
  · obtain ⟨a1, a2, a3, a4⟩ := listR_ok x p k
    exact ⟨a1, a2, a3, by omega⟩
  · exact hf
theorem endF_ok {p : ByteArray} {f : Fault} {op : Int} {n m : Nat} (hf : FOk f m) (hp : (pathR p sVals).size ≤ m) : FOk (endF p f op n) m := by
  have h1 : FOk (if fitB op n = false then failR f 14 (pathR p sVals) else f) m := by
    split
    · exact failR_ok hf (by omega) (by omega) hp
    · exact hf
  unfold endF
  split
  · exact failR_ok h1 (by omega) (by omega) hp
  · exact h1
theorem needInR_ok (x : Tree) (p : ByteArray) (hw : (x.wt : Int) ≤ 1048576) (hp : (p.size : Int) ≤ 1048576) : (needInR x p).1.key.size ≤ x.wt ∧ I64 (needInR x p).1.op ∧ FOk (needInR x p).2 4194304 := by
  have k1 : sKey.size = 3 := rfl
  have k2 : sOp.size = 2 := rfl
  have k3 : sVals.size = 6 := rfl
  have hq := pathR_size p sVals
  have f0 : FOk (niF x p) 4194304 := by unfold niF; obtain ⟨a1, a2, a3, a4⟩ := knownR_ok x p nmKeys; exact ⟨a1, a2, a3, by omega⟩
  have f1 : FOk (niK x p).2 4194304 := readT_ok x p _ sKey keyR f0 (by omega)
  have f2 : FOk (niW x p).2 4194304 := readT_ok x p _ sOp opB f1 (by omega)
  have f3 : FOk (niL x p).2 4194304 := readL_fok f2 (by omega)
  have f4 : FOk (niG x p) 4194304 := kidsN_ok f3 (readL_len x p _ sVals) (by omega) _
  have f5 : FOk (niH x p) 4194304 := endF_ok f4 (by omega)
  have hr := opR_range (niW x p).1
  have s1 : (niK x p).1.size ≤ x.wt := readT_size ..
  unfold needInR
  split
  · exact ⟨s1, ⟨by show _ ≤ opR _; omega, by show opR _ ≤ _; omega⟩, noF_ok _⟩
  · exact ⟨Nat.zero_le _, ⟨by show _ ≤ (0:Int); omega, by show (0:Int) ≤ _; omega⟩, f5⟩
theorem needInR_len (x : Tree) (p : ByteArray) : (needInR x p).1.values.length ≤ 40 := by
  have h1 := readL_len x p (niW x p).2 sVals
  have h2 := valsR_len ((niL x p).1.map Tree.text)
  unfold needInR
  split
  · show (niV x p).length ≤ 40
    unfold niV
    rw [List.length_map] at h2
    unfold niL at h2 ⊢
    omega
  · exact Nat.zero_le _
end Go.Proofs.YtegekccoincicaaGreatDoor
