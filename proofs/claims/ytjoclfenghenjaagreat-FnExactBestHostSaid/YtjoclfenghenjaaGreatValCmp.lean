/- cmp.Compare and slices.Compare of strings. No condition. -/
import Derived.Test.YtjoclfenghenjaaGreatCmp2
import Derived.Laws.Cover1
namespace Go.Proofs.YtjoclfenghenjaaGreat
open Go.ChangeShapes Go.WideShapes Go.ChangeAt Go.RowKit
set_option linter.unusedVariables false
set_option linter.unusedSimpArgs false

theorem cb_gt (a b : List UInt8) (h1 : Op.bytesLess a b = false) (h2 : (a == b) = false) : Lib.compareBytes a b = 1 := by
  have h3 := compareBytes_range a b
  have h4 : ¬ Lib.compareBytes a b < 0 := fun h => by rw [cb_lt, h1] at h; cases h
  have h5 : Lib.compareBytes a b ≠ 0 := fun h => by rw [cb_eq] at h; simp [h] at h2
  omega
theorem cb_neg (a b : List UInt8) (h1 : Op.bytesLess a b = true) : Lib.compareBytes a b = -1 := by
  have h3 := compareBytes_range a b
  have h4 := (cb_lt a b).2 h1
  omega
theorem cb_swap : ∀ a b : List UInt8, Lib.compareBytes b a = - Lib.compareBytes a b
  | [], [] => rfl
  | [], _ :: _ => rfl
  | _ :: _, [] => rfl
  | x :: a, y :: b => by
    have ih := cb_swap a b
    unfold Lib.compareBytes
    by_cases h1 : x < y
    · have h2 : ¬ y < x := fun h => absurd (UInt8.lt_trans h1 h) (UInt8.lt_irrefl _)
      rw [if_pos h1, if_neg h2, if_pos h1]
      rfl
    · by_cases h2 : y < x
      · rw [if_pos h2, if_neg h1, if_pos h2]
      · rw [if_neg h1, if_neg h2, if_neg h2, if_neg h1]
        exact ih
set_option maxHeartbeats 400000 in
theorem CompareStr_any (a b : ByteArray) (w : World) : Calls Tryz.prog 68 #[.string a, .string b] w fun e w' => e = .returned (.int .i64 (Lib.compareBytes a.data.toList b.data.toList)) ∧ w' = w := by
  have haa : (a.toList == a.toList) = true := by simp
  have hbb : (b.toList == b.toList) = true := by simp
  cases h1 : Op.bytesLess a.toList b.toList with
  | true =>
    have hf := cb_neg _ _ h1
    rw [ByteArray.toList_eq, ByteArray.toList_eq] at hf
    rw [hf]
    go_enter Tryz.func68, Tryz.ntmps68
    go_wp2
    go_ret
    exact ⟨rfl, rfl⟩
  | false =>
    cases h2 : Op.bytesLess b.toList a.toList with
    | true =>
      have hf := cb_neg _ _ h2
      rw [cb_swap, ByteArray.toList_eq, ByteArray.toList_eq] at hf
      have h9 : (a.toList == b.toList) = false := by
        rw [beq_eq_false_iff_ne]
        intro e
        rw [ByteArray.toList_eq, ByteArray.toList_eq, ← cb_eq] at e
        omega
      rw [show Lib.compareBytes a.data.toList b.data.toList = 1 by omega]
      go_enter Tryz.func68, Tryz.ntmps68
      go_wp2
      go_ret
      exact ⟨rfl, rfl⟩
    | false =>
      have h3 : ¬ Lib.compareBytes a.toList b.toList < 0 := fun h => by rw [cb_lt, h1] at h; cases h
      have h4 : ¬ Lib.compareBytes b.toList a.toList < 0 := fun h => by rw [cb_lt, h2] at h; cases h
      rw [cb_swap] at h4
      rw [ByteArray.toList_eq, ByteArray.toList_eq] at h3 h4
      have h8 : Lib.compareBytes a.data.toList b.data.toList = 0 := by omega
      have h9 : (a.toList == b.toList) = true := by
        rw [beq_iff_eq, ByteArray.toList_eq, ByteArray.toList_eq]
        exact (cb_eq _ _).1 h8
      rw [h8]
      go_enter Tryz.func68, Tryz.ntmps68
      go_wp2
      go_ret
      exact ⟨rfl, rfl⟩
/-- lists of strings, in order -/
def cmpVals : List ByteArray → List ByteArray → Int
  | [], [] => 0
  | [], _ :: _ => -1
  | _ :: _, [] => 1
  | x :: xs, y :: ys => if Lib.compareBytes x.data.toList y.data.toList = 0 then cmpVals xs ys else Lib.compareBytes x.data.toList y.data.toList
theorem cmpVals_drop {xs ys : List ByteArray} {k : Nat} (h : k < xs.length) (h' : k < ys.length) : cmpVals (xs.drop k) (ys.drop k) = if Lib.compareBytes xs[k].data.toList ys[k].data.toList = 0 then cmpVals (xs.drop (k + 1)) (ys.drop (k + 1)) else Lib.compareBytes xs[k].data.toList ys[k].data.toList := by
  rw [← List.getElem_cons_drop h, ← List.getElem_cons_drop h']; rfl
theorem cmpVals_long {xs ys : List ByteArray} {k : Nat} (h : k < xs.length) (h' : ys.length ≤ k) : cmpVals (xs.drop k) (ys.drop k) = 1 := by
  rw [← List.getElem_cons_drop h, List.drop_eq_nil_of_le h']; rfl
theorem cmpVals_end {xs ys : List ByteArray} {k : Nat} (h : xs.length ≤ k) : cmpVals (xs.drop k) (ys.drop k) = if k < ys.length then -1 else 0 := by
  rw [List.drop_eq_nil_of_le h]
  by_cases h' : k < ys.length
  · rw [if_pos h', ← List.getElem_cons_drop h']; rfl
  · rw [if_neg h', List.drop_eq_nil_of_le (by omega)]; rfl
theorem cmpVals_range : ∀ xs ys : List ByteArray, -1 ≤ cmpVals xs ys ∧ cmpVals xs ys ≤ 1
  | [], [] => by simp [cmpVals]
  | [], _ :: _ => by simp [cmpVals]
  | _ :: _, [] => by simp [cmpVals]
  | x :: xs, y :: ys => by
    have h1 := cmpVals_range xs ys
    have h2 := compareBytes_range x.data.toList y.data.toList
    unfold cmpVals
    split <;> omega
set_option maxRecDepth 100000 in
set_option maxHeartbeats 1000000 in
theorem CompareVals_any (xs ys : List ByteArray) (A B : Option Addr) (n m c d : Nat) (F G : List Nat) (w : World) (h : Sl w xs A c F) (h' : Sl w ys B d G) (hn : n = xs.length) (hm : m = ys.length) (hl : (xs.length : Int) ≤ 1048576) (hl' : (ys.length : Int) ≤ 1048576) :
    Calls Tryz.prog 207 #[.slice A n c, .slice B m d] w fun e w' => e = .returned (.int .i64 (cmpVals xs ys)) ∧ w' = w := by
  subst hn hm
  go_enter Tryz.func207, Tryz.ntmps207
  go_wp2_with fail

  go_loop [11] (fun i => ∃ k : Nat, k ≤ xs.length ∧ i = .int .i64 k ∧ Hid (k ≤ ys.length) ∧ Hid (cmpVals xs ys = cmpVals (xs.drop k) (ys.drop k))) (fun i => xs.length - (intOf i).toNat)
  case atStart => exact ⟨0, Nat.zero_le _, rfl, Nat.zero_le _, rfl⟩
  case round =>
    obtain ⟨k, hk, rfl, HK, HO⟩ := hrel
    have hky := HK.out
    by_cases hlt : k < xs.length
    · obtain ⟨b, o, ck, Fk, rfl, hbF, hbs, hr, hsub, hc⟩ := h.get hlt
      obtain ⟨hck, hFk, hsz⟩ := hr
      subst hck hFk
      have q0 : w.cell? ⟨b, o + k, none⟩ = some (.string xs[k]) := by have := hc 0 _ rfl; rwa [show o + (k * Dat.size ByteArray + 0) = o + k from by show o + (k * 1 + 0) = _; omega] at this
      clear hc
      by_cases hly : k < ys.length
      · obtain ⟨b2, o2, ck2, Fk2, rfl, hbF2, hbs2, hr2, hsub2, hc2⟩ := h'.get hly
        obtain ⟨hck, hFk, hsz2⟩ := hr2
        subst hck hFk
        have p0 : w.cell? ⟨b2, o2 + k, none⟩ = some (.string ys[k]) := by have := hc2 0 _ rfl; rwa [show o2 + (k * Dat.size ByteArray + 0) = o2 + k from by show o2 + (k * 1 + 0) = _; omega] at this
        clear hc2
        have hd := cmpVals_drop hlt hly
        have hC := CompareStr_any xs[k] ys[k] w
        generalize hz : Lib.compareBytes xs[k].data.toList ys[k].data.toList = z at hd hC
        by_cases h0 : z = 0
        · rw [if_pos h0] at hd
          have HN := Lib.hid (HO.out.trans hd)
          have HC := Lib.hid hC
          clear hd hC hz
          subst h0
          go_wp2_with (go_at_call 68; refine HC.out.mono ?_; rintro e w2 ⟨rfl, rfl⟩)
          exact ⟨⟨k + 1, by omega, by go_num, by show k + 1 ≤ ys.length; omega, HN.out⟩, by simp [intOf]; omega⟩
        · rw [if_neg h0] at hd
          have HN := Lib.hid (HO.out.trans hd)
          have HC := Lib.hid hC
          have hb0 : (z == 0) = false := by simp [h0]
          have hb1 : (z != 0) = true := by simp [h0]
          clear hd hC hz
          go_wp2_with (go_at_call 68; refine HC.out.mono ?_; rintro e w2 ⟨rfl, rfl⟩)
          go_ret
          exact ⟨by rw [HN.out]; rfl, rfl⟩
      · have HN := Lib.hid (HO.out.trans (cmpVals_long hlt (by omega)))
        have hge : (ys.length : Int) ≤ k := by omega
        go_wp2
        go_ret
        exact ⟨by rw [HN.out]; rfl, rfl⟩
    · have hkl : k = xs.length := by omega
      subst hkl
      have he := HO.out.trans (cmpVals_end (Nat.le_refl _))
      by_cases hly : xs.length < ys.length
      · rw [if_pos hly] at he
        have HN := Lib.hid he
        clear he
        have hlyi : (xs.length : Int) < ys.length := by omega
        go_wp2
        go_ret
        exact ⟨by rw [HN.out]; rfl, rfl⟩
      · rw [if_neg hly] at he
        have HN := Lib.hid he
        clear he
        have hlyi : ¬ (xs.length : Int) < ys.length := by omega
        go_wp2
        go_ret
        exact ⟨by rw [HN.out]; rfl, rfl⟩

end Go.Proofs.YtjoclfenghenjaaGreat
