/- The words of effects. No condition. -/
import Derived.Test.YtegekccoincicaaGreatDoorTreeT
import Derived.Test.YtegekccoincicaaGreatDoorL19One
namespace Go.Proofs.YtegekccoincicaaGreatDoor
open Dat (rd)
open Go.ChangeShapes Go.WideShapes Go.ChangeAt Go.RowKit
set_option linter.unusedVariables false
set_option linter.unusedSimpArgs false

def sKey : ByteArray := ⟨#[107, 101, 121]⟩
/-- a row of strings reads as these -/
theorem Sl.strs {w : World} {N : Nat} {ss : List ByteArray} (h : Blk w N (ss.map fun s => .string s)) (hs : ∀ s ∈ ss, s.size ≤ maxLen) (hl : ss.length ≤ maxLen) : Sl w ss (some ⟨N, 0, none⟩) ss.length [N] := by
  refine ⟨_, _, [], ss.map fun s => .string s, rfl, Nat.le_refl _, hl, ?_, .inr ⟨N, 0, rfl, rfl, h.lt, fun j u hu => by have := h.cell hu; simpa using this⟩⟩
  clear h hl
  induction ss with
  | nil => exact ⟨rfl, rfl⟩
  | cons s ss ih => exact ⟨[.string s], _, [], [], rfl, rfl, ⟨rfl, rfl, hs s (List.mem_cons_self ..)⟩, ih fun x hx => hs x (List.mem_cons_of_mem _ hx)⟩
theorem readT_bad {x : Tree} {p : ByteArray} {f : Fault} {k : ByteArray} {fine : ByteArray → Bool} (h : f.code ≠ 0) : readT x p f k fine = (⟨#[]⟩, f) := by unfold readT; exact if_neg h
end Go.Proofs.YtegekccoincicaaGreatDoor
namespace Go.Proofs.YtegekccoincicaaGreatDoor
open Dat (rd)
open Go.ChangeShapes Go.WideShapes Go.ChangeAt Go.RowKit
set_option linter.unusedVariables false
set_option linter.unusedSimpArgs false

theorem RS.far {w : World} {g : Nat} {x : Tree} {Ak Ac : Option Addr} {ck cc : Nat} {F : List Nat} {p : ByteArray} {f : Fault} (h : RS w g x Ak Ac ck cc F p f) {c : Nat} (hc : c ≠ g) (hF : ∀ b ∈ F, b < c) (i : Nat) (u : Value) : RS (w.setCell ⟨c, i, none⟩ u) g x Ak Ac ck cc F p f :=
  ⟨h.blk.far hc i u, Dat.frame h.rd (fun b hb => Below.heap_setCell _ _ _ _ (by have := hF b hb; dsimp only; omega)) (by simp [World.setCell]), h.nin, h.fi⟩
end Go.Proofs.YtegekccoincicaaGreatDoor
namespace Go.Proofs.YtegekccoincicaaGreatDoor
open Dat (rd)
open Go.ChangeShapes Go.WideShapes Go.ChangeAt Go.RowKit
set_option linter.unusedVariables false
set_option linter.unusedSimpArgs false

def opWs : List ByteArray := [⟨#[]⟩, ⟨#[105, 110]⟩, ⟨#[110, 111, 116, 105, 110]⟩, ⟨#[104, 97, 115]⟩, ⟨#[104, 97, 115, 110, 111, 116]⟩]
theorem needWord_any (j : Nat) (hj : j + 1 < 5) (w : World) : Calls Tryz.prog 92 #[.int .i64 ((j + 1 : Nat) : Int)] w fun e w' => e = .returned (.string (opWs[j + 1]'hj)) ∧ w = w' := by
  obtain rfl | rfl | rfl | rfl : j = 0 ∨ j = 1 ∨ j = 2 ∨ j = 3 := by omega
  all_goals
    go_enter Tryz.func92, Tryz.ntmps92
    go_wp2
    go_ret
    exact ⟨rfl, rfl⟩
def opR (s : ByteArray) : Int := oneR opWs s
def opB (s : ByteArray) : Bool := opR s != 0
theorem opR_range (s : ByteArray) : 0 ≤ opR s ∧ opR s ≤ 4 := by
  unfold opR oneR opWs
  have := idxI_lt (p := fun v : ByteArray => v.toList == s.toList) [⟨#[105, 110]⟩, ⟨#[110, 111, 116, 105, 110]⟩, ⟨#[104, 97, 115]⟩, ⟨#[104, 97, 115, 110, 111, 116]⟩]
  simp only [List.drop_succ_cons, List.drop_zero]
  simp only [List.length_cons, List.length_nil] at this
  omega
theorem opOf_any (s : ByteArray) (w : World) : Calls Tryz.prog 52 #[.string s] w fun e w' => e = .returned (.int .i64 (opR s)) ∧ w = w' := by
  go_enter Tryz.func52, Tryz.ntmps52
  go_wp2_with fail
  go_loop [3] (fun i => ∃ j : Nat, j + 1 ≤ 5 ∧ i = .int .i64 ((j + 1 : Nat) : Int) ∧ Hid (∀ v ∈ (opWs.drop 1).take j, (v.toList == s.toList) = false)) (fun i => 5 - (intOf i).toNat)
  case atStart => exact ⟨0, by omega, rfl, by show ∀ _, _; simp⟩
  case round =>
    obtain ⟨j, hj, rfl, HN⟩ := hrel
    by_cases hlt : j + 1 < 5
    · have HW := Lib.hid (fun wq => needWord_any j hlt wq)
      obtain ⟨v, hv⟩ : ∃ v, opWs[j + 1]'hlt = v := ⟨_, rfl⟩
      rw [hv] at HW
      cases hp1 : (v.toList == s.toList) with
      | true =>
        have HF := Lib.hid (show opR s = ((j + 1 : Nat) : Int) by unfold opR; exact oneR_at hlt HN.out (by rw [hv]; exact hp1))
        go_wp2_with fail
        refine (HW.out _).mono ?_
        rintro e w1 ⟨rfl, rfl⟩
        go_wp2
        go_ret
        exact ⟨by rw [HF.out]; try rfl, rfl⟩
      | false =>
        have HN2 := Lib.hid (show ∀ v ∈ (opWs.drop 1).take (j + 1), (v.toList == s.toList) = false from by
          have hl : j < (opWs.drop 1).length := by show j < 4; omega
          exact take_none (p := fun v : ByteArray => v.toList == s.toList) hl HN.out (by have e : (opWs.drop 1)[j]'hl = v := (by rw [← hv]; first | rfl | (simp only [List.getElem_drop, Nat.add_comm]; done) | (rw [List.getElem_drop]; congr 1; omega)); show ((opWs.drop 1)[j].toList == s.toList) = false; rw [e]; exact hp1))
        go_wp2_with fail
        refine (HW.out _).mono ?_
        rintro e w1 ⟨rfl, rfl⟩
        go_wp2
        go_round
        case rel => exact ⟨j + 1, by omega, by go_num, HN2.out⟩
        case measure => simp [intOf]; omega
    · have hkl : j = 4 := by omega
      subst hkl
      have HF := Lib.hid (show opR s = 0 by unfold opR; exact oneR_none HN.out)
      go_wp2
      go_ret
      exact ⟨by rw [HF.out]; try rfl, rfl⟩
theorem l15Ops_any (w : World) : Calls Tryz.prog 39 #[] w fun e w' => e = .returned (.slice (some ⟨w.heap.size, 0, none⟩) 5 5) ∧ w' = w.alloc (.cells #[.string ⟨#[]⟩, .string ⟨#[105, 110]⟩, .string ⟨#[110, 111, 116, 105, 110]⟩, .string ⟨#[104, 97, 115]⟩, .string ⟨#[104, 97, 115, 110, 111, 116]⟩] 9) := by
  go_enter Tryz.func39, Tryz.ntmps39
  go_wp2
  go_ret
  exact ⟨rfl, rfl⟩
end Go.Proofs.YtegekccoincicaaGreatDoor
