/- Marks on strings and on a pod's lists that are made stay. No condition. -/
import Derived.Test.YtegekccoincicaaGreatDoorRowK
namespace Go.Proofs.YtegekccoincicaaGreatDoor
open Dat (rd)
open Go.ChangeShapes Go.WideShapes Go.ChangeAt Go.RowKit
set_option linter.unusedVariables false
set_option linter.unusedSimpArgs false

theorem cntStr_mk (x : ByteArray) (k : Int) : cntStr (mkStr x k) = cntStr x := rfl
theorem mkStr_idem (x : ByteArray) (k : Int) : mkStr (mkStr x k) k = mkStr x k := rfl
end Go.Proofs.YtegekccoincicaaGreatDoor
namespace Go.Proofs.YtegekccoincicaaGreatDoor
open Dat (rd)
open Go.ChangeShapes Go.WideShapes Go.ChangeAt Go.RowKit
set_option linter.unusedVariables false
set_option linter.unusedSimpArgs false

theorem cntL_str (xs : List ByteArray) : cntL cntStr xs = xs.length := by
  induction xs with
  | nil => rfl
  | cons x xs ih => simp [cntL, ih, cntStr]; omega
end Go.Proofs.YtegekccoincicaaGreatDoor
namespace Go.Proofs.YtegekccoincicaaGreatDoor
open Dat (rd)
open Go.ChangeShapes Go.WideShapes Go.ChangeAt Go.RowKit
set_option linter.unusedVariables false
set_option linter.unusedSimpArgs false
theorem row_upd {w w' : World} {B e size n b : Nat} {v : Value} {xs : List Value} (h : w.ownsRow B e size v n xs) (hu : Upd [b] w w') (hb : b < B) : w'.ownsRow B e size v n xs :=
  h.kept (row := some b) ⟨hu.os, hu.tape, hu.output, hu.size, fun k hk hne => hu.block k hk (by simpa using fun e => hne (by rw [e]))⟩ (by
    by_cases hv : v.ownBlock = some b
    · have := (h.lt b hv).1
      omega
    · exact .inr hv)
theorem Upd.alloc {F : List Nat} {w w1 : World} (h : Upd F w w1) (o : Obj) : Upd F w (w1.alloc o) := h.trans (Upd.of_ext F (ext_alloc (ext_refl _) o))
end Go.Proofs.YtegekccoincicaaGreatDoor
namespace Go.Proofs.YtegekccoincicaaGreatDoor
open Dat (rd)
open Go.ChangeShapes Go.WideShapes Go.ChangeAt Go.RowKit
set_option linter.unusedVariables false
set_option linter.unusedSimpArgs false

def mkTopNeed (x : Need) (k : Int) : Need := { x with values := mkL mkStr cntStr x.values (k) }
def cntTopNeed (x : Need) : Nat := cntL cntStr x.values
theorem cntTopNeed_mk (x : Need) (k : Int) : cntTopNeed (mkTopNeed x k) = cntTopNeed x := by simp [cntTopNeed, mkTopNeed, cntL_mkL cntStr_mk]
theorem mkTopNeed_idem (x : Need) (k : Int) : mkTopNeed (mkTopNeed x k) k = mkTopNeed x k := by simp [mkTopNeed, mkL_idem cntStr_mk mkStr_idem, cntL_mkL cntStr_mk]
set_option maxRecDepth 100000 in
set_option maxHeartbeats 2000000 in
theorem markNeed_any (x : Need) (cs : List Value) (F : List Nat) (B : Nat) (k : Int) (w : World) (h : Own w B x cs F) (hk0 : 0 ≤ k) (hk : k + cntTopNeed x ≤ 1073741823) :
    Calls Tryz.prog 13 #[.agg cs.toArray, .int .i64 k] w fun e w' => e = .returned (.int .i64 (k + cntTopNeed x)) ∧ Own w' B (mkTopNeed x k) cs F ∧ Upd F w w' := by
  have hr := h.rd
  obtain ⟨Avalues, cvalues, Fvalues, hck, hFk, hkey, hop, hvalues⟩ := rd_Need hr
  clear hr
  subst hck hFk
  simp only [cntTopNeed] at hk ⊢
  push_cast at hk ⊢
  have hOvalues : Own w B x.values [.slice Avalues x.values.length cvalues] F := ⟨hvalues, h.nodup, fun y hy => h.base y (by simp [hy]), fun y hy => h.plain y (by simp [hy])⟩
  go_enter Tryz.func13, Tryz.ntmps13
  go_wp2_with fail
  generalize hwa : World.alloc w _ = wa
  have hUa : Upd (F) w wa := hwa ▸ Upd.of_ext _ (ext_alloc (ext_refl w) _)
  have hz : w.heap.size < wa.heap.size := by rw [← hwa]; simp
  replace hOvalues : Own wa B x.values [.slice Avalues x.values.length cvalues] F := hwa ▸ hOvalues.alloc _
  have hgvalues : w.heap.size ∉ F := fun hy => Nat.lt_irrefl _ (h.lt _ (by simp [hy]))
  have qvalues : wa.cell? ⟨w.heap.size, 2, none⟩ = some (.slice Avalues x.values.length cvalues) := by rw [← hwa, cell_of_row _ _ _ _ _ _ (heap_alloc_new w _)]; rfl
  clear hwa
  refine (markStringS_any x.values _ _ _ _ _ (k) _ hOvalues rfl (by omega) (by omega)).mono ?_
  rintro e w1 ⟨rfl, hNvalues, hUvalues⟩
  replace qvalues := (World.cell?_of_block (a := ⟨w.heap.size, 2, none⟩) (hUvalues.block _ hz hgvalues)).trans qvalues
  replace hz := Nat.lt_of_lt_of_le hz hUvalues.size
  replace hOvalues := hNvalues
  go_wp2_with fail
  go_ret
  refine ⟨by first | rfl | (simp only [Int.add_assoc, Int.natCast_add]; rfl), ?_, (hUa.trans (hUvalues.mono (G := F) (fun y hy => by simp [hy])))⟩
  exact ⟨(by have := (rd_pair (rdStr w1 (x.key) (sz63 hkey)) (rd_pair (rdInt w1 (x.op) hop) (hOvalues.rd))); simp only [List.nil_append, List.append_nil, List.append_assoc, List.cons_append, mkL_len] at this; exact this), h.nodup, h.base, (by intro y hy; exact hOvalues.plain y hy)⟩
set_option maxRecDepth 100000 in
set_option maxHeartbeats 2000000 in
theorem heldNeed_any (x : Need) (cs : List Value) (F : List Nat) (k : Int) (w : World) (h : rd w x cs F) (hm : mkTopNeed x k = x) (hk0 : 0 ≤ k) (hk : k + cntTopNeed x ≤ 1073741823) :
    Calls Tryz.prog 14 #[.agg cs.toArray, .int .i64 k] w fun e w' => e = .returned (.int .i64 (k + cntTopNeed x)) ∧ Below w.heap.size w w' := by
  obtain ⟨Avalues, cvalues, Fvalues, hck, hFk, hkey, hop, hvalues⟩ := rd_Need h
  clear h
  subst hck
  simp only [cntTopNeed] at hk ⊢
  push_cast at hk ⊢
  have e0 : mkL mkStr cntStr x.values (k) = x.values := congrArg (fun z : Need => z.values) hm
  clear hm
  have hbl := ext_refl w
  go_enter Tryz.func14, Tryz.ntmps14
  go_wp2_with fail
  generalize hwa : World.alloc w _ = wa
  replace hbl : Below w.heap.size w wa := hwa ▸ ext_alloc (ext_refl w) _
  have hz : w.heap.size < wa.heap.size := by rw [← hwa]; simp
  replace hvalues : Sl wa x.values Avalues cvalues Fvalues := Sl.ext hvalues hbl
  have qvalues : wa.cell? ⟨w.heap.size, 2, none⟩ = some (.slice Avalues x.values.length cvalues) := by rw [← hwa, cell_of_row _ _ _ _ _ _ (heap_alloc_new w _)]; rfl
  clear hwa
  refine (heldStringS_any x.values _ _ _ _ (k) _ hvalues rfl e0 (by omega) (by omega)).mono ?_
  rintro e w1 ⟨rfl, hn⟩
  replace hvalues := Sl.ext hvalues hn
  replace qvalues := ((bcell hn).1 _ _ hz).trans qvalues
  replace hz := Nat.lt_of_lt_of_le hz hn.size
  replace hbl := ext_trans hbl hn
  clear hn
  go_wp2_with fail
  go_ret
  exact ⟨by first | rfl | (simp only [Int.add_assoc, Int.natCast_add]; rfl), hbl⟩
end Go.Proofs.YtegekccoincicaaGreatDoor
namespace Go.Proofs.YtegekccoincicaaGreatDoor
open Dat (rd)
open Go.ChangeShapes Go.WideShapes Go.ChangeAt Go.RowKit
set_option linter.unusedVariables false
set_option linter.unusedSimpArgs false
def RoomS (w : World) (B : Nat) (e : TypeId) (size : Nat) (A : Option Addr) (c : Nat) : Prop :=
  (A = none ∧ c = 0) ∨ ∃ g cur, A = some ⟨g, 0, none⟩ ∧ B ≤ g ∧ w.heap[g]? = some (.cells cur e (0, 0)) ∧ c ≤ maxLen ∧ cur.size = c * size
section
variable {w w' : World} {B size c : Nat} {e : TypeId} {A : Option Addr}
theorem RoomS.of_row {B' n m : Nat} {xs : List Value} (h : w.ownsRow B' e size (.slice A n c) m xs) (hB : B ≤ B') : RoomS w B e size A c := by
  rcases h.2 with ⟨h1, _⟩ | ⟨g, cap, cur, h1, h2, h3, h4, h5, h6, _⟩
  · simp only [Value.slice.injEq] at h1
    exact .inl ⟨h1.1, h1.2.2⟩
  · simp only [Value.slice.injEq] at h1
    obtain ⟨rfl, _, rfl⟩ := h1
    exact .inr ⟨g, cur, rfl, Nat.le_trans hB h2, h3, h5, h6⟩
theorem RoomS.ext (h : RoomS w B e size A c) (hb : Below w.heap.size w w') : RoomS w' B e size A c := by
  rcases h with h | ⟨g, cur, h1, h2, h3, h4⟩
  · exact .inl h
  · have hg : g < w.heap.size := by
      rcases Nat.lt_or_ge g w.heap.size with h5 | h5
      · exact h5
      · rw [Array.getElem?_eq_none h5] at h3; cases h3
    exact .inr ⟨g, cur, h1, h2, (hb.block g hg).trans h3, h4⟩
theorem RoomS.mono {B' : Nat} (h : RoomS w B e size A c) (hB : B' ≤ B) : RoomS w B' e size A c := by
  rcases h with h | ⟨g, cur, h1, h2, h3⟩
  · exact .inl h
  · exact .inr ⟨g, cur, h1, Nat.le_trans hB h2, h3⟩
theorem RoomS.lt (h : RoomS w B e size A c) : ∀ g, A = some ⟨g, 0, none⟩ → g < w.heap.size := by
  rintro g rfl
  rcases h with ⟨h, _⟩ | ⟨g, cur, h1, h2, h3, h4⟩
  · cases h
  · simp only [Option.some.injEq, Addr.mk.injEq, and_true] at h1
    subst h1
    rcases Nat.lt_or_ge g w.heap.size with h5 | h5
    · exact h5
    · rw [Array.getElem?_eq_none h5] at h3; cases h3
theorem RoomS.keep (h : RoomS w B e size A c) (hk : ∀ g, A = some ⟨g, 0, none⟩ → w'.heap[g]? = w.heap[g]?) : RoomS w' B e size A c := by
  rcases h with h | ⟨g, cur, h1, h2, h3, h4⟩
  · exact .inl h
  · exact .inr ⟨g, cur, h1, h2, (hk g h1).trans h3, h4⟩
theorem RoomS.far {b : Nat} (h : RoomS w B e size A c) (hb : b < B) (j : Nat) (v : Value) : RoomS (w.setCell ⟨b, j, none⟩ v) B e size A c := by
  rcases h with h | ⟨g, cur, h1, h2, h3, h4⟩
  · exact .inl h
  · exact .inr ⟨g, cur, h1, h2, (Below.heap_setCell _ _ _ _ (by dsimp only; omega)).trans h3, h4⟩
end
end Go.Proofs.YtegekccoincicaaGreatDoor
