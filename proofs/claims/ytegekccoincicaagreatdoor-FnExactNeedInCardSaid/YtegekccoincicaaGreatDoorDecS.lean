/- Decimal of the reference, of numbers not below 0. No condition. -/
import Derived.Test.YtegekccoincicaaGreatDoorVarP
namespace Go.Proofs.YtegekccoincicaaGreatDoor
open Dat (rd)
open Go.ChangeShapes Go.WideShapes Go.ChangeAt Go.RowKit
set_option linter.unusedVariables false
set_option linter.unusedSimpArgs false

theorem Figure_any (d : Nat) (hd : d < 10) (w : World) : Calls Tryz.prog 119 #[.int .i64 d] w fun e w' => e = .returned (.int .u8 ((48 : Int) + d)) ∧ w = w' := by
  have h1 : (d : Int) < 10 := by omega
  go_enter Tryz.func119, Tryz.ntmps119
  go_wp2
  go_ret
  exact ⟨by have : (48 + (d : Int)) % 256 = 48 + d := by omega
            simp [this], rfl⟩
set_option maxRecDepth 100000 in
set_option maxHeartbeats 2000000 in
theorem Decimal_spec (k : Nat) (hk : (k : Int) ≤ 1048576) (w : World) : Calls Tryz.prog 86 #[.int .i64 k] w fun e w' => e = .returned (.string (decR k)) ∧ Below w.heap.size w w' := by
  by_cases h0 : k = 0
  · subst h0
    go_enter Tryz.func86, Tryz.ntmps86
    go_wp2
    go_ret
    exact ⟨rfl, ext_refl _⟩
  · have hk0 : (0 : Int) < k := by omega
    have HK := Lib.hid hk
    have hkn : ¬ (k : Int) < 0 := by omega
    have HD := Lib.hid (show mtl k ⟨#[]⟩ = decR k by unfold decR; rw [if_neg h0])
    clear hk h0
    go_enter Tryz.func86, Tryz.ntmps86
    go_wp2_with fail
    go_loopw [0, 4] (fun x s wr => ∃ (j : Nat) (out : ByteArray), x = .int .i64 j ∧ s = .string out ∧ j ≤ k ∧ Hid (mtl j out = decR k) ∧ (out.size : Int) + j ≤ k ∧ Below w.heap.size w wr) (fun x _ _ => (intOf x).toNat)
    case atStart => exact ⟨k, ⟨#[]⟩, rfl, rfl, Nat.le_refl _, HD, by show ((0 : Nat) : Int) + k ≤ k; omega, ext_refl _⟩
    case round =>
      obtain ⟨j, out, rfl, rfl, hjk, hm, hs, hbl⟩ := hrel
      have hjm : (j : Int) ≤ 1048576 := by have := HK.out; omega
      by_cases hj : 0 < j
      · have hji : ((j : Int) != 0) = true := by simp; omega
        have hout : (out.size : Int) ≤ 1048576 := by have := HK.out; omega
        have hd : B8 (j % 10 + 48).toUInt8 = .int .u8 ((48 : Int) + (j : Int) % 10) := by rw [B8_mk _ (by omega)]; congr 1; omega
        have hconv : (convert 43 9 (.slice (some ⟨wr.heap.size, 0, none⟩) 1 1)).run Tryz.prog (wr.alloc (.cells #[.int .u8 ((48 : Int) + (j : Int) % 10)] 5)) = .ok (.string (dig j)) (wr.alloc (.cells #[.int .u8 ((48 : Int) + (j : Int) % 10)] 5)) :=
          run_convert_bytes_back _ 43 9 5 ⟨wr.heap.size, 0, none⟩ 1 [(j % 10 + 48).toUInt8] Tryz.underlying43 Tryz.underlying5 Tryz.underlying9 (fun i hi => by
            obtain rfl : i = 0 := by simpa using hi
            refine (cell_of_row _ wr.heap.size 0 #[.int .u8 ((48 : Int) + (j : Int) % 10)] 5 (0, 0) (heap_alloc_new wr _)).trans ?_
            rw [← hd]
            rfl)
        clear hd
        have hds := dig_size j
        have hge : ¬ (j : Int) % 10 < 0 := by omega
        have HF := Lib.hid (show ∀ wq : World, Calls Tryz.prog 119 #[.int .i64 ((j : Int) % 10)] wq fun e w' => e = .returned (.int .u8 ((48 : Int) + (j : Int) % 10)) ∧ wq = w' from fun wq => by
          have := Figure_any (j % 10) (Nat.mod_lt _ (by decide)) wq
          rwa [show ((j % 10 : Nat) : Int) = (j : Int) % 10 by omega] at this)
        have hwq : wrap64 ((j : Int) / 10) = ((j / 10 : Nat) : Int) := by unfold wrap64; omega
        go_wp2_with fail
        refine (HF.out wr).mono ?_
        rintro e w1 ⟨rfl, rfl⟩
        go_wp2
        exact ⟨⟨j / 10, dig j ++ out, (by congr 1), rfl, by omega, Lib.hid (by rw [← mtl_pos hj]; exact hm.out), (by rw [ByteArray.size_append, hds]; omega), ext_alloc hbl _⟩, by simp only [intOf]; omega⟩
      · obtain rfl : j = 0 := by omega
        have HO := Lib.hid (show out = decR k by have := hm.out; rwa [mtl_zero] at this)
        clear hm
        go_wp2
        go_ret
        exact ⟨by rw [← HO.out]; rfl, hbl⟩

end Go.Proofs.YtegekccoincicaaGreatDoor
namespace Go.Proofs.YtegekccoincicaaGreatDoor
open Dat (rd)
open Go.ChangeShapes Go.WideShapes Go.ChangeAt Go.RowKit
set_option linter.unusedVariables false
set_option linter.unusedSimpArgs false

theorem row_ext {w w' : World} {B e size n : Nat} {v : Value} {xs : List Value} (h : w.ownsRow B e size v n xs) (hb : Below w.heap.size w w') : w'.ownsRow B e size v n xs :=
  h.kept (row := none) ⟨hb.os, hb.tape, hb.output, hb.size, fun k hk _ => hb.block k hk⟩ (by cases hv : v.ownBlock <;> simp)
theorem row_mono {w : World} {B B' e size n : Nat} {v : Value} {xs : List Value} (h : w.ownsRow B e size v n xs) (hB : B' ≤ B) : w.ownsRow B' e size v n xs := by
  refine ⟨h.1, ?_⟩
  rcases h.2 with h | ⟨g, cap, cur, h1, h2, h3⟩
  · exact .inl h
  · exact .inr ⟨g, cap, cur, h1, Nat.le_trans hB h2, h3⟩
/-- two rows that do not share a block -/
def RowsApart (u v : Value) : Prop := u.ownBlock = none ∨ u.ownBlock ≠ v.ownBlock
theorem RowsApart.symm {u v : Value} (h : RowsApart u v) : RowsApart v u := by
  unfold RowsApart at *
  rcases h with h | h
  · cases hv : v.ownBlock with
    | none => exact .inl rfl
    | some k => right; rw [h]; simp
  · exact .inr (Ne.symm h)
/-- u grew: it lies where it lay, or in a new block -/
theorem RowsApart.grow {u u' v : Value} {w : World} {B e size n : Nat} {xs : List Value} (h : RowsApart u v) (hv : w.ownsRow B e size v n xs) {N : Nat} (hN : w.heap.size ≤ N) (hat : u'.ownBlock = u.ownBlock ∨ u'.ownBlock = some N) : RowsApart u' v := by
  rcases hat with hat | hat
  · unfold RowsApart at *; rw [hat]; exact h
  · right
    rw [hat]
    intro e
    have := hv.lt N e.symm
    omega
section
variable {P : Program} {t e : TypeId} {z : Value} {size bytes : Nat}
theorem wpList_append2 (hE : ElOk P t e z size bytes) {ops : Array Oper} {rest : List Oper} {o : Oper} {a : Act} {Q : Exit → Act → World → Prop} (hgd : o.guard = none) (s x : Operand)
    (ho : o.op = .call { callee := .builtin .append, args := #[s, x], argTypes := #[t, t] })
    (w : World) (base : Nat) (v : Value) (n : Nat) (xs : List Value) (hown : w.ownsRow base e size v n xs) (hs : a.eval s = v)
    (cs : List Value) (hx : a.eval x = .slice (some ⟨w.heap.size, 0, none⟩) 1 1) (hl : cs.length = size) (h1 : ∀ u ∈ cs, u.oneCell' = true)
    (hn : n ≤ 2097152) (hby : bytes ≤ 4096) (hbase : base ≤ w.heap.size)
    (h : ∀ v' w', w'.ownsRow base e size v' (n + 1) (xs ++ cs) → w.grownBy w' v.ownBlock → w.heap.size + 1 ≤ w'.heap.size → (v'.ownBlock = v.ownBlock ∨ v'.ownBlock = some (w.heap.size + 1)) → wpList P ops Q rest (a.put o.dst v') w') : wpList P ops Q (o :: rest) a (w.alloc (.cells cs.toArray e)) := by
  obtain ⟨ht, hi0, hzs, hsz⟩ := hE
  obtain ⟨i, hi, hz, hsize, hb⟩ := info_parts hi0
  have hbb : (n + 1) * bytes ≤ 2097153 * 4096 := Nat.mul_le_mul (by omega) hby
  refine wpList_append_own_at (w.alloc (.cells cs.toArray e)) hgd s x t ho base e i z size bytes ht hi hz hsize hb hzs hsz v n xs hs (hown.alloc _) ⟨w.heap.size, 0, none⟩ 1 1 cs hx (by omega) ?_ h1 (by unfold maxLen; omega) (by omega) (by simp; omega) ?_
  · intro j u hu
    rw [Addr.add]
    have hc := cell_of_row (w.alloc (.cells cs.toArray e)) w.heap.size j cs.toArray e (0, 0) (heap_alloc_new w _)
    split
    · rename_i hj; subst hj; rw [hc]; simpa using hu
    · simp only [Nat.zero_add]; rw [hc]; simpa using hu
  · intro v' w' hown' hg _ hat
    refine h v' w' hown' ⟨hg.os, hg.tape, hg.output, Nat.le_trans (by simp) hg.size, fun k hk hne => ?_⟩ (by have := hg.size; simpa using this) (by simpa using hat)
    rw [hg.block k (by simp; omega) hne]
    exact Below.heap_alloc _ _ _ hk
end
/-- a row of the call's own, whose cells read as xs, is a slice that reads as xs -/
theorem Sl.of_row {α : Type} [Dat α] {w : World} {B : Nat} {e : TypeId} {v : Value} {xs : List α} {ds : List Value} {F : List Nat} (h0 : w.ownsRow B e (Dat.size α) v xs.length ds) (h : rdCells w xs ds F) : ∃ A c G, v = .slice A xs.length c ∧ Sl w xs A c G := by
  rcases h0 with ⟨hl, ⟨rfl, hn⟩ | ⟨g, cap, cur, rfl, hb, hh, hle, hm, hcs, ht⟩⟩
  · obtain rfl : xs = [] := List.eq_nil_of_length_eq_zero hn
    exact ⟨none, 0, [], rfl, Sl.nil w none 0 (Nat.zero_le _)⟩
  · have hg : g < w.heap.size := by
      rcases Nat.lt_or_ge g w.heap.size with hlt | hge
      · exact hlt
      · rw [Array.getElem?_eq_none hge] at hh; cases hh
    refine ⟨_, cap, g :: F, rfl, ⟨_, cap, F, ds, rfl, hle, hm, h, .inr ⟨g, 0, rfl, rfl, hg, fun j u hu => ?_⟩⟩⟩
    rw [Nat.zero_add, cell_of_row w g j cur e (0, 0) hh]
    have hj := (List.getElem?_eq_some_iff.1 hu).1
    rw [← ht, List.getElem?_take] at hu
    split at hu
    · simpa using hu
    · cases hu
end Go.Proofs.YtegekccoincicaaGreatDoor
