/- The words of effects. No condition. -/
import Derived.Test.YtffjbbamcflmbaaTreeT
namespace Go.Proofs.Ytffjbbamcflmbaa
open Go.ChangeShapes Go.WideShapes Go.ChangeAt Go.RowKit
set_option linter.unusedVariables false
set_option linter.unusedSimpArgs false

def sKey : ByteArray := ⟨#[107, 101, 121]⟩
def sValue : ByteArray := ⟨#[118, 97, 108, 117, 101]⟩
def sEffect : ByteArray := ⟨#[101, 102, 102, 101, 99, 116]⟩
def sNever : ByteArray := ⟨#[110, 101, 118, 101, 114]⟩
def sSoft : ByteArray := ⟨#[115, 111, 102, 116]⟩
def effR (s : ByteArray) : Int := if s.toList == sNever.toList then 1 else if s.toList == sSoft.toList then 2 else 0
theorem never_l : sNever.toList = [110, 101, 118, 101, 114] := by rw [ByteArray.toList_eq]; rfl
theorem soft_l : sSoft.toList = [115, 111, 102, 116] := by rw [ByteArray.toList_eq]; rfl
theorem effectOf_any (s : ByteArray) (w : World) : Calls Try.prog 29 #[.string s] w fun e w' => e = .returned (.int .i64 (effR s)) ∧ w = w' := by
  cases h1 : (s.toList == sNever.toList) with
  | true =>
    have HF := Lib.hid (show effR s = 1 by unfold effR; rw [h1]; rfl)
    rw [never_l] at h1
    go_enter Try.func29, Try.ntmps29
    go_wp2
    go_ret
    exact ⟨by rw [HF.out]; rfl, rfl⟩
  | false =>
    cases h2 : (s.toList == sSoft.toList) with
    | true =>
      have HF := Lib.hid (show effR s = 2 by unfold effR; rw [h1, h2]; rfl)
      rw [never_l] at h1
      rw [soft_l] at h2
      go_enter Try.func29, Try.ntmps29
      go_wp2
      go_ret
      exact ⟨by rw [HF.out]; rfl, rfl⟩
    | false =>
      have HF := Lib.hid (show effR s = 0 by unfold effR; rw [h1, h2]; rfl)
      rw [never_l] at h1
      rw [soft_l] at h2
      go_enter Try.func29, Try.ntmps29
      go_wp2
      go_ret
      exact ⟨by rw [HF.out]; rfl, rfl⟩
def effB (s : ByteArray) : Bool := effR s != 0
theorem effR_range (s : ByteArray) : 0 ≤ effR s ∧ effR s ≤ 2 := by unfold effR; split; omega; split <;> omega
theorem isEffect_any (s : ByteArray) (w : World) : Calls Try.prog 30 #[.string s] w fun e w' => e = .returned (.bool (effB s)) ∧ Below w.heap.size w w' := by
  have hE := effectOf_any s w
  unfold effB
  generalize effR s = r at *
  go_enter Try.func30, Try.ntmps30
  go_wp2_with fail
  refine hE.mono ?_
  rintro e w1 ⟨rfl, rfl⟩
  go_wp2
  go_ret
  exact ⟨rfl, ext_refl _⟩
/-- a row of strings reads as these -/
theorem Sl.strs {w : World} {N : Nat} {ss : List ByteArray} (h : Blk w N (ss.map fun s => .string s)) (hs : ∀ s ∈ ss, s.size ≤ maxLen) (hl : ss.length ≤ maxLen) : Sl w ss (some ⟨N, 0, none⟩) ss.length [N] := by
  refine ⟨_, _, [], ss.map fun s => .string s, rfl, Nat.le_refl _, hl, ?_, .inr ⟨N, 0, rfl, rfl, h.lt, fun j u hu => by have := h.cell hu; simpa using this⟩⟩
  clear h hl
  induction ss with
  | nil => exact ⟨rfl, rfl⟩
  | cons s ss ih => exact ⟨[.string s], _, [], [], rfl, rfl, ⟨rfl, rfl, hs s (List.mem_cons_self ..)⟩, ih fun x hx => hs x (List.mem_cons_of_mem _ hx)⟩
theorem readT_bad {x : Tree} {p : ByteArray} {f : Fault} {k : ByteArray} {fine : ByteArray → Bool} (h : f.code ≠ 0) : readT x p f k fine = (⟨#[]⟩, f) := by unfold readT; exact if_neg h
end Go.Proofs.Ytffjbbamcflmbaa
