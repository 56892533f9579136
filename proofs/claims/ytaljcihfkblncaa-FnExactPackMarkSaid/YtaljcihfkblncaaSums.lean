/- AddInt, SumInts, SumsOf, of the program and of the reference. No condition. -/
import Derived.Test.YtaljcihfkblncaaAppendAt
import Derived.Test.YtaljcihfkblncaaData
import Derived.Test.YtaljcihfkblncaaRegion
namespace Go.Proofs.Ytaljcihfkblncaa
open Go.ChangeShapes Go.WideShapes Go.ChangeAt Go.RowKit
set_option linter.unusedVariables false
set_option linter.unusedSimpArgs false

/-- a sum of two numbers that aren't less than 0, where it's an int -/
def addI (a b : Int) : Option Int := if a < 0 ∨ b < 0 ∨ 9223372036854775807 - b < a then none else some (a + b)
theorem addI_I64 {a b t : Int} (h : addI a b = some t) (ha : I64 a) (hb : I64 b) : I64 t := by
  unfold addI at h
  split at h
  · cases h
  · cases h
    unfold I64 at *
    omega
def sumI : List Int → Int → Option Int
  | [], s => some s
  | x :: xs, s => match addI s x with | none => none | some m => sumI xs m
theorem AddInt_impl (a b : Int) (w : World) (ha : I64 a) (hb : I64 b) : Calls Try.prog 140 #[.int .i64 a, .int .i64 b] w fun e w' => e = .returned (.tuple #[.int .i64 ((addI a b).getD 0), .bool (addI a b).isSome]) ∧ Below w.heap.size w w' := by
  obtain ⟨ha0, ha1⟩ := ha
  obtain ⟨hb0, hb1⟩ := hb
  by_cases h1 : a < 0
  · have e : addI a b = none := by unfold addI; rw [if_pos (by omega)]
    rw [e]
    go_enter Try.func140, Try.ntmps140
    go_wp2
    go_returns
    exact ⟨rfl, ext_refl _⟩
  by_cases h2 : b < 0
  · have e : addI a b = none := by unfold addI; rw [if_pos (by omega)]
    rw [e]
    go_enter Try.func140, Try.ntmps140
    go_wp2
    go_returns
    exact ⟨rfl, ext_refl _⟩
  by_cases h3 : 9223372036854775807 - b < a
  · have e : addI a b = none := by unfold addI; rw [if_pos (by omega)]
    rw [e]
    go_enter Try.func140, Try.ntmps140
    go_wp2
    go_returns
    exact ⟨rfl, ext_refl _⟩
  · have e : addI a b = some (a + b) := by unfold addI; rw [if_neg (by omega)]
    rw [e]
    go_enter Try.func140, Try.ntmps140
    go_wp2
    go_returns
    exact ⟨rfl, ext_refl _⟩
theorem AddInt_spec (a b : Int) (w : World) (ha : I64 a) (hb : I64 b) : Calls Try.prog 84 #[.int .i64 a, .int .i64 b] w fun e w' => e = .returned (.tuple #[.int .i64 ((addI a b).getD 0), .bool (addI a b).isSome]) ∧ Below w.heap.size w w' := by
  obtain ⟨ha0, ha1⟩ := ha
  obtain ⟨hb0, hb1⟩ := hb
  by_cases h1 : a < 0
  · have e : addI a b = none := by unfold addI; rw [if_pos (by omega)]
    rw [e]
    go_enter Try.func84, Try.ntmps84
    go_wp2
    go_returns
    exact ⟨rfl, ext_refl _⟩
  by_cases h2 : b < 0
  · have e : addI a b = none := by unfold addI; rw [if_pos (by omega)]
    rw [e]
    go_enter Try.func84, Try.ntmps84
    go_wp2
    go_returns
    exact ⟨rfl, ext_refl _⟩
  by_cases h3 : 9223372036854775807 - b < a
  · have e : addI a b = none := by unfold addI; rw [if_pos (by omega)]
    rw [e]
    go_enter Try.func84, Try.ntmps84
    go_wp2
    go_returns
    exact ⟨rfl, ext_refl _⟩
  · have e : addI a b = some (a + b) := by unfold addI; rw [if_neg (by omega)]
    rw [e]
    go_enter Try.func84, Try.ntmps84
    go_wp2
    go_returns
    exact ⟨rfl, ext_refl _⟩
set_option maxHeartbeats 400000 in
theorem SumInts_impl (xs : List Int) (A : Option Addr) (n c : Nat) (F : List Nat) (w : World) (h : Sl w xs A c F) (hn : n = xs.length) (hl : (xs.length : Int) ≤ 1048576) :
    Calls Try.prog 173 #[.slice A n c] w fun e w' => e = .returned (.tuple #[.int .i64 ((sumI xs 0).getD 0), .bool (sumI xs 0).isSome]) ∧ Below w.heap.size w w' := by
  subst hn
  go_enter Try.func173, Try.ntmps173
  go_wp2_with fail

  go_loopw [4, 11] (fun x i wr => ∃ (k : Nat) (s : Int), k ≤ xs.length ∧ i = .int .i64 k ∧ x = .int .i64 s ∧ I64 s ∧ Hid (sumI xs 0 = sumI (xs.drop k) s) ∧ Below w.heap.size w wr) (fun _ i _ => xs.length - (intOf i).toNat)
  case atStart => exact ⟨0, 0, Nat.zero_le _, rfl, rfl, ⟨by decide, by decide⟩, rfl, ext_refl _⟩
  case round =>
    obtain ⟨k, s, hk, rfl, rfl, hs, HS, hbl⟩ := hrel
    by_cases hlt : k < xs.length
    · obtain ⟨b, o, ck, Fk, rfl, hbF, hbs, hr, hsub, hc⟩ := (Sl.ext (w' := wr) (A := A) (c := c) h hbl).get hlt
      obtain ⟨hck, hFk, hI⟩ := hr
      subst hck hFk
      have q0 : wr.cell? ⟨b, o + k, none⟩ = some (.int .i64 xs[k]) := by have := hc 0 _ rfl; rwa [show o + (k * Dat.size Int + 0) = o + k from by show o + (k * 1 + 0) = _; omega] at this
      clear hc
      have hdr : sumI (xs.drop k) s = sumI (xs[k] :: xs.drop (k + 1)) s := by rw [List.getElem_cons_drop]
      have hsI := hs
      have hxI := hI
      generalize hxk : xs[k] = y at *
      cases ha : addI s y with
      | none =>
        have hf : sumI xs 0 = none := by rw [HS.out, hdr, sumI, ha]
        have HF := Lib.hid hf
        clear hf hdr
        have HA := Lib.hid ha
        clear ha
        go_wp2_with (go_at_call 140; refine (AddInt_impl s y _ hsI hxI).mono ?_; rw [HA.out]; rintro e w2 ⟨rfl, hb2⟩)
        go_returns
        exact ⟨by rw [HF.out]; rfl, ext_trans hbl hb2⟩
      | some t =>
        have hf : sumI xs 0 = sumI (xs.drop (k + 1)) t := by rw [HS.out, hdr, sumI, ha]
        have HF := Lib.hid hf
        have htI := addI_I64 ha hsI hxI
        clear hf hdr
        have HA := Lib.hid ha
        clear ha
        go_wp2_with (go_at_call 140; refine (AddInt_impl s y _ hsI hxI).mono ?_; rw [HA.out]; rintro e w2 ⟨rfl, hb2⟩)
        exact ⟨⟨k + 1, t, by omega, by go_num, rfl, htI, HF.out, ext_trans hbl hb2⟩, by simp [intOf]; omega⟩
    · have hkl : k = xs.length := by omega
      subst hkl
      have hf : sumI xs 0 = some s := by rw [HS.out, List.drop_length]; rfl
      have HF := Lib.hid hf
      clear hf
      go_wp2
      go_returns
      exact ⟨by rw [HF.out]; rfl, hbl⟩
set_option maxHeartbeats 400000 in
theorem SumInts_spec (xs : List Int) (A : Option Addr) (n c : Nat) (F : List Nat) (w : World) (h : Sl w xs A c F) (hn : n = xs.length) (hl : (xs.length : Int) ≤ 1048576) :
    Calls Try.prog 172 #[.slice A n c] w fun e w' => e = .returned (.tuple #[.int .i64 ((sumI xs 0).getD 0), .bool (sumI xs 0).isSome]) ∧ Below w.heap.size w w' := by
  subst hn
  go_enter Try.func172, Try.ntmps172
  go_wp2_with fail

  go_loopw [4, 5] (fun x i wr => ∃ (k : Nat) (s : Int), k ≤ xs.length ∧ i = .int .i64 k ∧ x = .int .i64 s ∧ I64 s ∧ Hid (sumI xs 0 = sumI (xs.drop k) s) ∧ Below w.heap.size w wr) (fun _ i _ => xs.length - (intOf i).toNat)
  case atStart => exact ⟨0, 0, Nat.zero_le _, rfl, rfl, ⟨by decide, by decide⟩, rfl, ext_refl _⟩
  case round =>
    obtain ⟨k, s, hk, rfl, rfl, hs, HS, hbl⟩ := hrel
    by_cases hlt : k < xs.length
    · obtain ⟨b, o, ck, Fk, rfl, hbF, hbs, hr, hsub, hc⟩ := (Sl.ext (w' := wr) (A := A) (c := c) h hbl).get hlt
      obtain ⟨hck, hFk, hI⟩ := hr
      subst hck hFk
      have q0 : wr.cell? ⟨b, o + k, none⟩ = some (.int .i64 xs[k]) := by have := hc 0 _ rfl; rwa [show o + (k * Dat.size Int + 0) = o + k from by show o + (k * 1 + 0) = _; omega] at this
      clear hc
      have hdr : sumI (xs.drop k) s = sumI (xs[k] :: xs.drop (k + 1)) s := by rw [List.getElem_cons_drop]
      have hsI := hs
      have hxI := hI
      generalize hxk : xs[k] = y at *
      cases ha : addI s y with
      | none =>
        have hf : sumI xs 0 = none := by rw [HS.out, hdr, sumI, ha]
        have HF := Lib.hid hf
        clear hf hdr
        have HA := Lib.hid ha
        clear ha
        go_wp2_with (go_at_call 84; refine (AddInt_spec s y _ hsI hxI).mono ?_; rw [HA.out]; rintro e w2 ⟨rfl, hb2⟩)
        go_returns
        exact ⟨by rw [HF.out]; rfl, ext_trans hbl hb2⟩
      | some t =>
        have hf : sumI xs 0 = sumI (xs.drop (k + 1)) t := by rw [HS.out, hdr, sumI, ha]
        have HF := Lib.hid hf
        have htI := addI_I64 ha hsI hxI
        clear hf hdr
        have HA := Lib.hid ha
        clear ha
        go_wp2_with (go_at_call 84; refine (AddInt_spec s y _ hsI hxI).mono ?_; rw [HA.out]; rintro e w2 ⟨rfl, hb2⟩)
        exact ⟨⟨k + 1, t, by omega, by go_num, rfl, htI, HF.out, ext_trans hbl hb2⟩, by simp [intOf]; omega⟩
    · have hkl : k = xs.length := by omega
      subst hkl
      have hf : sumI xs 0 = some s := by rw [HS.out, List.drop_length]; rfl
      have HF := Lib.hid hf
      clear hf
      go_wp2
      go_returns
      exact ⟨by rw [HF.out]; rfl, hbl⟩

end Go.Proofs.Ytaljcihfkblncaa
