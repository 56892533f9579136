/- append of one element, and where the new row lies; several rows of the call's own side by side; a row read as a slice. No condition. -/
import Derived.Test.YtjoclfenghenjaaGreatAppend
import Derived.Maps.AppendAt
import Derived.Test.YtjoclfenghenjaaGreatBase0
import Derived.Test.YtjoclfenghenjaaGreatRegion
namespace Go.Proofs.YtjoclfenghenjaaGreat
open Go.ChangeShapes Go.WideShapes Go.ChangeAt Go.RowKit
set_option linter.unusedVariables false
set_option linter.unusedSimpArgs false

theorem row_ext {w w' : World} {B e size n : Nat} {v : Value} {xs : List Value} (h : w.ownsRow B e size v n xs) (hb : Below w.heap.size w w') : w'.ownsRow B e size v n xs :=
  h.kept (row := none) ⟨hb.os, hb.tape, hb.output, hb.size, fun k hk _ => hb.block k hk⟩ (by cases hv : v.ownBlock <;> simp)
theorem row_mono {w : World} {B B' e size n : Nat} {v : Value} {xs : List Value} (h : w.ownsRow B e size v n xs) (hB : B' ≤ B) : w.ownsRow B' e size v n xs := by
  refine ⟨h.1, ?_⟩
  rcases h.2 with h | ⟨g, cap, cur, h1, h2, h3⟩
  · exact .inl h
  · exact .inr ⟨g, cap, cur, h1, Nat.le_trans hB h2, h3⟩
/-- two rows that do not share a block -/
def RowsApart (u v : Value) : Prop := u.ownBlock = none ∨ u.ownBlock ≠ v.ownBlock
theorem RowsApart.symm {u v : Value} (h : RowsApart u v) : RowsApart v u := by
  unfold RowsApart at *
  rcases h with h | h
  · cases hv : v.ownBlock with
    | none => exact .inl rfl
    | some k => right; rw [h]; simp
  · exact .inr (Ne.symm h)
/-- u grew: it lies where it lay, or in a new block -/
theorem RowsApart.grow {u u' v : Value} {w : World} {B e size n : Nat} {xs : List Value} (h : RowsApart u v) (hv : w.ownsRow B e size v n xs) {N : Nat} (hN : w.heap.size ≤ N) (hat : u'.ownBlock = u.ownBlock ∨ u'.ownBlock = some N) : RowsApart u' v := by
  rcases hat with hat | hat
  · unfold RowsApart at *; rw [hat]; exact h
  · right
    rw [hat]
    intro e
    have := hv.lt N e.symm
    omega
section
variable {P : Program} {t e : TypeId} {z : Value} {size bytes : Nat}
theorem wpList_append2 (hE : ElOk P t e z size bytes) {ops : Array Oper} {rest : List Oper} {o : Oper} {a : Act} {Q : Exit → Act → World → Prop} (hgd : o.guard = none) (s x : Operand)
    (ho : o.op = .call { callee := .builtin .append, args := #[s, x], argTypes := #[t, t] })
    (w : World) (base : Nat) (v : Value) (n : Nat) (xs : List Value) (hown : w.ownsRow base e size v n xs) (hs : a.eval s = v)
    (cs : List Value) (hx : a.eval x = .slice (some ⟨w.heap.size, 0, none⟩) 1 1) (hl : cs.length = size) (h1 : ∀ u ∈ cs, u.oneCell' = true)
    (hn : n ≤ 2097152) (hby : bytes ≤ 4096) (hbase : base ≤ w.heap.size)
    (h : ∀ v' w', w'.ownsRow base e size v' (n + 1) (xs ++ cs) → w.grownBy w' v.ownBlock → w.heap.size + 1 ≤ w'.heap.size → (v'.ownBlock = v.ownBlock ∨ v'.ownBlock = some (w.heap.size + 1)) → wpList P ops Q rest (a.put o.dst v') w') : wpList P ops Q (o :: rest) a (w.alloc (.cells cs.toArray e)) := by
  obtain ⟨ht, hi0, hzs, hsz⟩ := hE
  obtain ⟨i, hi, hz, hsize, hb⟩ := info_parts hi0
  have hbb : (n + 1) * bytes ≤ 2097153 * 4096 := Nat.mul_le_mul (by omega) hby
  refine wpList_append_own_at (w.alloc (.cells cs.toArray e)) hgd s x t ho base e i z size bytes ht hi hz hsize hb hzs hsz v n xs hs (hown.alloc _) ⟨w.heap.size, 0, none⟩ 1 1 cs hx (by omega) ?_ h1 (by unfold maxLen; omega) (by omega) (by simp; omega) ?_
  · intro j u hu
    rw [Addr.add]
    have hc := cell_of_row (w.alloc (.cells cs.toArray e)) w.heap.size j cs.toArray e (0, 0) (heap_alloc_new w _)
    split
    · rename_i hj; subst hj; rw [hc]; simpa using hu
    · simp only [Nat.zero_add]; rw [hc]; simpa using hu
  · intro v' w' hown' hg _ hat
    refine h v' w' hown' ⟨hg.os, hg.tape, hg.output, Nat.le_trans (by simp) hg.size, fun k hk hne => ?_⟩ (by have := hg.size; simpa using this) (by simpa using hat)
    rw [hg.block k (by simp; omega) hne]
    exact Below.heap_alloc _ _ _ hk
end
/-- a row of the call's own, whose cells read as xs, is a slice that reads as xs -/
theorem Sl.of_row {α : Type} [Dat α] {w : World} {B : Nat} {e : TypeId} {v : Value} {xs : List α} {ds : List Value} {F : List Nat} (h0 : w.ownsRow B e (Dat.size α) v xs.length ds) (h : rdCells w xs ds F) : ∃ A c G, v = .slice A xs.length c ∧ Sl w xs A c G := by
  rcases h0 with ⟨hl, ⟨rfl, hn⟩ | ⟨g, cap, cur, rfl, hb, hh, hle, hm, hcs, ht⟩⟩
  · obtain rfl : xs = [] := List.eq_nil_of_length_eq_zero hn
    exact ⟨none, 0, [], rfl, Sl.nil w none 0 (Nat.zero_le _)⟩
  · have hg : g < w.heap.size := by
      rcases Nat.lt_or_ge g w.heap.size with hlt | hge
      · exact hlt
      · rw [Array.getElem?_eq_none hge] at hh; cases hh
    refine ⟨_, cap, g :: F, rfl, ⟨_, cap, F, ds, rfl, hle, hm, h, .inr ⟨g, 0, rfl, rfl, hg, fun j u hu => ?_⟩⟩⟩
    rw [Nat.zero_add, cell_of_row w g j cur e (0, 0) hh]
    have hj := (List.getElem?_eq_some_iff.1 hu).1
    rw [← ht, List.getElem?_take] at hu
    split at hu
    · simpa using hu
    · cases hu
/-- ints that stand side by side -/
theorem rdCells_ints (w : World) : ∀ (xs : List Int), (∀ x ∈ xs, I64 x) → rdCells w xs (xs.map fun n => .int .i64 n) []
  | [], _ => ⟨rfl, rfl⟩
  | x :: xs, h => ⟨[.int .i64 x], _, [], [], rfl, rfl, rdInt w x (h x (List.mem_cons_self ..)), rdCells_ints w xs fun y hy => h y (List.mem_cons_of_mem _ hy)⟩
theorem infoInt : (Tryz.prog.info? 3).map (fun i => (i.zero, i.size, i.bytes)) = some (some (.int .i64 0), 1, 8) := by kernel_rfl
theorem elInt : ElOk Tryz.prog 142 3 (.int .i64 0) 1 8 := ⟨Tryz.underlying142, infoInt, rfl, by omega⟩
end Go.Proofs.YtjoclfenghenjaaGreat

namespace Go.Proofs.YtjoclfenghenjaaGreat
open Go.ChangeShapes Go.WideShapes Go.ChangeAt Go.RowKit
set_option linter.unusedVariables false
set_option linter.unusedSimpArgs false

/-- a sum of two numbers that aren't less than 0, where it's an int -/
def addI (a b : Int) : Option Int := if a < 0 ∨ b < 0 ∨ 9223372036854775807 - b < a then none else some (a + b)
theorem addI_I64 {a b t : Int} (h : addI a b = some t) (ha : I64 a) (hb : I64 b) : I64 t := by
  unfold addI at h
  split at h
  · cases h
  · cases h
    unfold I64 at *
    omega
def sumI : List Int → Int → Option Int
  | [], s => some s
  | x :: xs, s => match addI s x with | none => none | some m => sumI xs m
theorem AddInt_impl (a b : Int) (w : World) (ha : I64 a) (hb : I64 b) : Calls Tryz.prog 189 #[.int .i64 a, .int .i64 b] w fun e w' => e = .returned (.tuple #[.int .i64 ((addI a b).getD 0), .bool (addI a b).isSome]) ∧ Below w.heap.size w w' := by
  obtain ⟨ha0, ha1⟩ := ha
  obtain ⟨hb0, hb1⟩ := hb
  by_cases h1 : a < 0
  · have e : addI a b = none := by unfold addI; rw [if_pos (by omega)]
    rw [e]
    go_enter Tryz.func189, Tryz.ntmps189
    go_wp2
    go_returns
    exact ⟨rfl, ext_refl _⟩
  by_cases h2 : b < 0
  · have e : addI a b = none := by unfold addI; rw [if_pos (by omega)]
    rw [e]
    go_enter Tryz.func189, Tryz.ntmps189
    go_wp2
    go_returns
    exact ⟨rfl, ext_refl _⟩
  by_cases h3 : 9223372036854775807 - b < a
  · have e : addI a b = none := by unfold addI; rw [if_pos (by omega)]
    rw [e]
    go_enter Tryz.func189, Tryz.ntmps189
    go_wp2
    go_returns
    exact ⟨rfl, ext_refl _⟩
  · have e : addI a b = some (a + b) := by unfold addI; rw [if_neg (by omega)]
    rw [e]
    go_enter Tryz.func189, Tryz.ntmps189
    go_wp2
    go_returns
    exact ⟨rfl, ext_refl _⟩
theorem AddInt_spec (a b : Int) (w : World) (ha : I64 a) (hb : I64 b) : Calls Tryz.prog 145 #[.int .i64 a, .int .i64 b] w fun e w' => e = .returned (.tuple #[.int .i64 ((addI a b).getD 0), .bool (addI a b).isSome]) ∧ Below w.heap.size w w' := by
  obtain ⟨ha0, ha1⟩ := ha
  obtain ⟨hb0, hb1⟩ := hb
  by_cases h1 : a < 0
  · have e : addI a b = none := by unfold addI; rw [if_pos (by omega)]
    rw [e]
    go_enter Tryz.func145, Tryz.ntmps145
    go_wp2
    go_returns
    exact ⟨rfl, ext_refl _⟩
  by_cases h2 : b < 0
  · have e : addI a b = none := by unfold addI; rw [if_pos (by omega)]
    rw [e]
    go_enter Tryz.func145, Tryz.ntmps145
    go_wp2
    go_returns
    exact ⟨rfl, ext_refl _⟩
  by_cases h3 : 9223372036854775807 - b < a
  · have e : addI a b = none := by unfold addI; rw [if_pos (by omega)]
    rw [e]
    go_enter Tryz.func145, Tryz.ntmps145
    go_wp2
    go_returns
    exact ⟨rfl, ext_refl _⟩
  · have e : addI a b = some (a + b) := by unfold addI; rw [if_neg (by omega)]
    rw [e]
    go_enter Tryz.func145, Tryz.ntmps145
    go_wp2
    go_returns
    exact ⟨rfl, ext_refl _⟩
set_option maxHeartbeats 400000 in
theorem SumInts_impl (xs : List Int) (A : Option Addr) (n c : Nat) (F : List Nat) (w : World) (h : Sl w xs A c F) (hn : n = xs.length) (hl : (xs.length : Int) ≤ 1048576) :
    Calls Tryz.prog 170 #[.slice A n c] w fun e w' => e = .returned (.tuple #[.int .i64 ((sumI xs 0).getD 0), .bool (sumI xs 0).isSome]) ∧ Below w.heap.size w w' := by
  subst hn
  go_enter Tryz.func170, Tryz.ntmps170
  go_wp2_with fail

  go_loopw [4, 11] (fun x i wr => ∃ (k : Nat) (s : Int), k ≤ xs.length ∧ i = .int .i64 k ∧ x = .int .i64 s ∧ I64 s ∧ Hid (sumI xs 0 = sumI (xs.drop k) s) ∧ Below w.heap.size w wr) (fun _ i _ => xs.length - (intOf i).toNat)
  case atStart => exact ⟨0, 0, Nat.zero_le _, rfl, rfl, ⟨by decide, by decide⟩, rfl, ext_refl _⟩
  case round =>
    obtain ⟨k, s, hk, rfl, rfl, hs, HS, hbl⟩ := hrel
    by_cases hlt : k < xs.length
    · obtain ⟨b, o, ck, Fk, rfl, hbF, hbs, hr, hsub, hc⟩ := (Sl.ext (w' := wr) (A := A) (c := c) h hbl).get hlt
      obtain ⟨hck, hFk, hI⟩ := hr
      subst hck hFk
      have q0 : wr.cell? ⟨b, o + k, none⟩ = some (.int .i64 xs[k]) := by have := hc 0 _ rfl; rwa [show o + (k * Dat.size Int + 0) = o + k from by show o + (k * 1 + 0) = _; omega] at this
      clear hc
      have hdr : sumI (xs.drop k) s = sumI (xs[k] :: xs.drop (k + 1)) s := by rw [List.getElem_cons_drop]
      have hsI := hs
      have hxI := hI
      generalize hxk : xs[k] = y at *
      cases ha : addI s y with
      | none =>
        have hf : sumI xs 0 = none := by rw [HS.out, hdr, sumI, ha]
        have HF := Lib.hid hf
        clear hf hdr
        have HA := Lib.hid ha
        clear ha
        go_wp2_with (go_at_call 189; refine (AddInt_impl s y _ hsI hxI).mono ?_; rw [HA.out]; rintro e w2 ⟨rfl, hb2⟩)
        go_returns
        exact ⟨by rw [HF.out]; rfl, ext_trans hbl hb2⟩
      | some t =>
        have hf : sumI xs 0 = sumI (xs.drop (k + 1)) t := by rw [HS.out, hdr, sumI, ha]
        have HF := Lib.hid hf
        have htI := addI_I64 ha hsI hxI
        clear hf hdr
        have HA := Lib.hid ha
        clear ha
        go_wp2_with (go_at_call 189; refine (AddInt_impl s y _ hsI hxI).mono ?_; rw [HA.out]; rintro e w2 ⟨rfl, hb2⟩)
        exact ⟨⟨k + 1, t, by omega, by go_num, rfl, htI, HF.out, ext_trans hbl hb2⟩, by simp [intOf]; omega⟩
    · have hkl : k = xs.length := by omega
      subst hkl
      have hf : sumI xs 0 = some s := by rw [HS.out, List.drop_length]; rfl
      have HF := Lib.hid hf
      clear hf
      go_wp2
      go_returns
      exact ⟨by rw [HF.out]; rfl, hbl⟩
set_option maxHeartbeats 400000 in
theorem SumInts_spec (xs : List Int) (A : Option Addr) (n c : Nat) (F : List Nat) (w : World) (h : Sl w xs A c F) (hn : n = xs.length) (hl : (xs.length : Int) ≤ 1048576) :
    Calls Tryz.prog 166 #[.slice A n c] w fun e w' => e = .returned (.tuple #[.int .i64 ((sumI xs 0).getD 0), .bool (sumI xs 0).isSome]) ∧ Below w.heap.size w w' := by
  subst hn
  go_enter Tryz.func166, Tryz.ntmps166
  go_wp2_with fail

  go_loopw [4, 5] (fun x i wr => ∃ (k : Nat) (s : Int), k ≤ xs.length ∧ i = .int .i64 k ∧ x = .int .i64 s ∧ I64 s ∧ Hid (sumI xs 0 = sumI (xs.drop k) s) ∧ Below w.heap.size w wr) (fun _ i _ => xs.length - (intOf i).toNat)
  case atStart => exact ⟨0, 0, Nat.zero_le _, rfl, rfl, ⟨by decide, by decide⟩, rfl, ext_refl _⟩
  case round =>
    obtain ⟨k, s, hk, rfl, rfl, hs, HS, hbl⟩ := hrel
    by_cases hlt : k < xs.length
    · obtain ⟨b, o, ck, Fk, rfl, hbF, hbs, hr, hsub, hc⟩ := (Sl.ext (w' := wr) (A := A) (c := c) h hbl).get hlt
      obtain ⟨hck, hFk, hI⟩ := hr
      subst hck hFk
      have q0 : wr.cell? ⟨b, o + k, none⟩ = some (.int .i64 xs[k]) := by have := hc 0 _ rfl; rwa [show o + (k * Dat.size Int + 0) = o + k from by show o + (k * 1 + 0) = _; omega] at this
      clear hc
      have hdr : sumI (xs.drop k) s = sumI (xs[k] :: xs.drop (k + 1)) s := by rw [List.getElem_cons_drop]
      have hsI := hs
      have hxI := hI
      generalize hxk : xs[k] = y at *
      cases ha : addI s y with
      | none =>
        have hf : sumI xs 0 = none := by rw [HS.out, hdr, sumI, ha]
        have HF := Lib.hid hf
        clear hf hdr
        have HA := Lib.hid ha
        clear ha
        go_wp2_with (go_at_call 145; refine (AddInt_spec s y _ hsI hxI).mono ?_; rw [HA.out]; rintro e w2 ⟨rfl, hb2⟩)
        go_returns
        exact ⟨by rw [HF.out]; rfl, ext_trans hbl hb2⟩
      | some t =>
        have hf : sumI xs 0 = sumI (xs.drop (k + 1)) t := by rw [HS.out, hdr, sumI, ha]
        have HF := Lib.hid hf
        have htI := addI_I64 ha hsI hxI
        clear hf hdr
        have HA := Lib.hid ha
        clear ha
        go_wp2_with (go_at_call 145; refine (AddInt_spec s y _ hsI hxI).mono ?_; rw [HA.out]; rintro e w2 ⟨rfl, hb2⟩)
        exact ⟨⟨k + 1, t, by omega, by go_num, rfl, htI, HF.out, ext_trans hbl hb2⟩, by simp [intOf]; omega⟩
    · have hkl : k = xs.length := by omega
      subst hkl
      have hf : sumI xs 0 = some s := by rw [HS.out, List.drop_length]; rfl
      have HF := Lib.hid hf
      clear hf
      go_wp2
      go_returns
      exact ⟨by rw [HF.out]; rfl, hbl⟩

end Go.Proofs.YtjoclfenghenjaaGreat

namespace Go.Proofs.YtjoclfenghenjaaGreat
open Go.ChangeShapes Go.WideShapes Go.ChangeAt Go.RowKit
set_option linter.unusedVariables false
set_option linter.unusedSimpArgs false

/-- the sums of the pods' cpu and mem, where both are ints -/
def sumsR (xs : List Pod) : Option (Int × Int) :=
  match sumI (xs.map Pod.cpu) 0, sumI (xs.map Pod.mem) 0 with
  | some a, some b => some (a, b)
  | _, _ => none
def sumsV : Option (Int × Int) → Value
  | some (a, b) => .tuple #[.int .i64 a, .int .i64 b, .bool true]
  | none => .tuple #[.int .i64 0, .int .i64 0, .bool false]
def iv (xs : List Int) : List Value := xs.map fun n => .int .i64 n
theorem iv_take {α : Type} (f : α → Int) (xs : List α) (k : Nat) (h : k < xs.length) : iv ((xs.take (k + 1)).map f) = iv ((xs.take k).map f) ++ [.int .i64 (f xs[k])] := by
  unfold iv; rw [List.take_succ_eq_append_getElem h, List.map_append, List.map_append]; rfl
theorem map_take_len {α β : Type} (f : α → β) (xs : List α) (k : Nat) (h : k ≤ xs.length) : ((xs.take k).map f).length = k := by simp; omega
theorem Sl.pod_I64 {w : World} {xs : List Pod} {A : Option Addr} {c : Nat} {F : List Nat} (h : Sl w xs A c F) : ∀ p ∈ xs, I64 p.cpu ∧ I64 p.mem ∧ I64 p.rank := by
  intro p hp
  obtain ⟨k, hk, rfl⟩ := List.getElem_of_mem hp
  obtain ⟨b, o, ck, Fk, _, _, _, hr, _, _⟩ := h.get hk
  obtain ⟨Alabels, clabels, Flabels, Aneeds, cneeds, Fneeds, Atolerances, ctolerances, Ftolerances, rfl, rfl, hname, hlabels, hcpu, hmem, hrank, hneeds, htolerances⟩ := rd_Pod hr
  exact ⟨hcpu, hmem, hrank⟩
set_option maxRecDepth 100000 in
set_option maxHeartbeats 1000000 in
theorem SumsOf_impl (xs : List Pod) (A : Option Addr) (n c : Nat) (F : List Nat) (w : World) (h : Sl w xs A c F) (hn : n = xs.length) (hl : (xs.length : Int) ≤ 1048576) :
    Calls Tryz.prog 136 #[.slice A n c] w fun e w' => e = .returned (sumsV (sumsR xs)) ∧ Below w.heap.size w w' := by
  subst hn
  have hI := Lib.hid h.pod_I64
  go_enter Tryz.func136, Tryz.ntmps136
  go_wp2_with fail
  go_loopw [5, 6, 17] (fun u v i wr => ∃ (k : Nat), k ≤ xs.length ∧ i = .int .i64 k ∧ wr.ownsRow w.heap.size 3 1 u k (iv ((xs.take k).map Pod.cpu)) ∧ wr.ownsRow w.heap.size 3 1 v k (iv ((xs.take k).map Pod.mem)) ∧ RowsApart u v ∧ Below w.heap.size w wr) (fun _ _ i _ => xs.length - (intOf i).toNat)
  case atStart =>
    refine ⟨0, Nat.zero_le _, rfl, ?_, ?_, ?_, ext_alloc (ext_alloc (ext_refl _) _) _⟩
    · exact (World.ownsRow_made w #[] 0 (Nat.le_refl _) (by unfold maxLen; omega) rfl).alloc _
    · have := World.ownsRow_made (base := w.heap.size) (e := 3) (size := 1) (w.alloc (.cells #[] 3)) #[] 0 (by simp) (by unfold maxLen; omega) rfl
      simpa [iv] using this
    · right; simp [Value.ownBlock]
  case round =>
    obtain ⟨k, hk, rfl, hu, hv, hap, hbl⟩ := hrel
    have hlts := hu.lt
    by_cases hlt : k < xs.length
    · obtain ⟨b, o, ck, Fk, rfl, hbF, hbs, hr, hsub, hc⟩ := (Sl.ext (w' := wr) (A := A) (c := c) h hbl).get hlt
      have hbw := h.lt b hbF
      obtain ⟨Alabels, clabels, Flabels, Aneeds, cneeds, Fneeds, Atolerances, ctolerances, Ftolerances, hck, hFk, hname, hlabels, hcpu, hmem, hrank, hneeds, htolerances⟩ := rd_Pod hr
      subst hck
      have q0 : wr.cell? ⟨b, o + k * 7, none⟩ = some (.string xs[k].name) := by exact hc 0 _ rfl
      have q1 : wr.cell? ⟨b, o + k * 7 + 1, none⟩ = some (.slice Alabels xs[k].labels.length clabels) := by rw [Nat.add_assoc]; exact hc 1 _ rfl
      have q2 : wr.cell? ⟨b, o + k * 7 + 2, none⟩ = some (.int .i64 xs[k].cpu) := by rw [Nat.add_assoc]; exact hc 2 _ rfl
      have q3 : wr.cell? ⟨b, o + k * 7 + 3, none⟩ = some (.int .i64 xs[k].mem) := by rw [Nat.add_assoc]; exact hc 3 _ rfl
      have q4 : wr.cell? ⟨b, o + k * 7 + 4, none⟩ = some (.int .i64 xs[k].rank) := by rw [Nat.add_assoc]; exact hc 4 _ rfl
      have q5 : wr.cell? ⟨b, o + k * 7 + 5, none⟩ = some (.slice Aneeds xs[k].needs.length cneeds) := by rw [Nat.add_assoc]; exact hc 5 _ rfl
      have q6 : wr.cell? ⟨b, o + k * 7 + 6, none⟩ = some (.slice Atolerances xs[k].tolerances.length ctolerances) := by rw [Nat.add_assoc]; exact hc 6 _ rfl
      clear hc
      go_wp2_with (first
        | (at_builtin
           refine wpList_append2 elInt (by rfl) _ _ (by rfl) _ _ _ _ _ (hu.alloc _) (by rfl) [.int .i64 xs[k].cpu] (by first | rfl | (simp; rfl)) (by rfl) (by simp [Value.oneCell']) (by omega) (by omega) (by have := hbl.size; simp; omega) ?_
           intro u2 w2 hu2 hg2 hz2 hat2
           have hne : some wr.heap.size ≠ u5.ownBlock := by intro e; have := hu.lt _ e.symm; omega
           have p3 : w2.cell? ⟨wr.heap.size, 3, none⟩ = some (.int .i64 xs[k].mem) := hg2.cell (by rw [cell_of_row _ _ _ _ _ _ (heap_alloc_new wr _)]; rfl) hne
           have hb2 : Below w.heap.size w w2 := grown_ext (hu.alloc _) hg2 (ext_alloc hbl _) (by have := hbl.size; simp; omega)
           have hv2 := (hv.alloc _).kept hg2 hap.symm
           have hap2 := hap.grow (N := _) hv (by simp; omega) hat2)
        | (at_builtin
           refine wpList_append2 elInt (by rfl) _ _ (by rfl) _ _ _ _ _ hv2 (by rfl) [.int .i64 xs[k].mem] (by first | rfl | (simp; rfl)) (by rfl) (by simp [Value.oneCell']) (by omega) (by omega) (hb2.size) ?_
           intro v2 w3 hv3 hg3 hz3 hat3
           have hu3 := hu2.kept hg3 hap2
           have hap3 : RowsApart v2 u2 := hap2.symm.grow (N := _) hu2 (by omega) hat3
           have hb3 := grown_ext hv2 hg3 hb2 hb2.size))
      refine ⟨⟨k + 1, by omega, by go_num, by rw [iv_take _ _ _ hlt]; exact hu3, by rw [iv_take _ _ _ hlt]; exact hv3, hap3.symm, hb3⟩, by simp [intOf]; omega⟩
    · have hkl : k = xs.length := by omega
      subst hkl
      rw [List.take_length] at hu hv
      obtain ⟨Au, cu, Gu, rfl, hsu⟩ := Sl.of_row (xs := xs.map Pod.cpu) (by rw [List.length_map]; exact hu) (rdCells_ints wr _ (by intro y hy; obtain ⟨p, hp, rfl⟩ := List.mem_map.1 hy; exact (hI.out p hp).1))
      obtain ⟨Av, cv, Gv, rfl, hsv⟩ := Sl.of_row (xs := xs.map Pod.mem) (by rw [List.length_map]; exact hv) (rdCells_ints wr _ (by intro y hy; obtain ⟨p, hp, rfl⟩ := List.mem_map.1 hy; exact (hI.out p hp).2.1))
      clear hu hv hap
      rcases hr1 : sumI (xs.map Pod.cpu) 0 with _ | a <;> rcases hr2 : sumI (xs.map Pod.mem) 0 with _ | b
      all_goals
        have hfin : sumsR xs = _ := (by unfold sumsR; rw [hr1, hr2])
        have HF := Lib.hid hfin
        have R1 := Lib.hid hr1
        have R2 := Lib.hid hr2
        clear hr1 hr2 hfin
        go_wp2_with fail
        refine (SumInts_impl (xs.map Pod.cpu) Au _ cu Gu _ hsu (by simp) (by rw [List.length_map]; exact hl)).mono ?_
        rw [R1.out]
        rintro e w2 ⟨rfl, hb2⟩
        go_wp2_with fail
        refine (SumInts_impl (xs.map Pod.mem) Av _ cv Gv _ (hsv.ext hb2) (by simp) (by rw [List.length_map]; exact hl)).mono ?_
        rw [R2.out]
        rintro e w3 ⟨rfl, hb3⟩
        go_wp2
        go_returns
        exact ⟨by rw [HF.out]; rfl, ext_trans (ext_trans hbl hb2) hb3⟩
set_option maxRecDepth 100000 in
set_option maxHeartbeats 1000000 in
theorem SumsOf_spec (xs : List Pod) (A : Option Addr) (n c : Nat) (F : List Nat) (w : World) (h : Sl w xs A c F) (hn : n = xs.length) (hl : (xs.length : Int) ≤ 1048576) :
    Calls Tryz.prog 130 #[.slice A n c] w fun e w' => e = .returned (sumsV (sumsR xs)) ∧ Below w.heap.size w w' := by
  subst hn
  have hI := Lib.hid h.pod_I64
  go_enter Tryz.func130, Tryz.ntmps130
  go_wp2_with fail
  go_loopw [5, 6, 7] (fun u v i wr => ∃ (k : Nat), k ≤ xs.length ∧ i = .int .i64 k ∧ wr.ownsRow w.heap.size 3 1 u k (iv ((xs.take k).map Pod.cpu)) ∧ wr.ownsRow w.heap.size 3 1 v k (iv ((xs.take k).map Pod.mem)) ∧ RowsApart u v ∧ Below w.heap.size w wr) (fun _ _ i _ => xs.length - (intOf i).toNat)
  case atStart =>
    refine ⟨0, Nat.zero_le _, rfl, ?_, ?_, ?_, ext_alloc (ext_alloc (ext_refl _) _) _⟩
    · exact (World.ownsRow_made w #[] 0 (Nat.le_refl _) (by unfold maxLen; omega) rfl).alloc _
    · have := World.ownsRow_made (base := w.heap.size) (e := 3) (size := 1) (w.alloc (.cells #[] 3)) #[] 0 (by simp) (by unfold maxLen; omega) rfl
      simpa [iv] using this
    · right; simp [Value.ownBlock]
  case round =>
    obtain ⟨k, hk, rfl, hu, hv, hap, hbl⟩ := hrel
    have hlts := hu.lt
    by_cases hlt : k < xs.length
    · obtain ⟨b, o, ck, Fk, rfl, hbF, hbs, hr, hsub, hc⟩ := (Sl.ext (w' := wr) (A := A) (c := c) h hbl).get hlt
      have hbw := h.lt b hbF
      obtain ⟨Alabels, clabels, Flabels, Aneeds, cneeds, Fneeds, Atolerances, ctolerances, Ftolerances, hck, hFk, hname, hlabels, hcpu, hmem, hrank, hneeds, htolerances⟩ := rd_Pod hr
      subst hck
      have q0 : wr.cell? ⟨b, o + k * 7, none⟩ = some (.string xs[k].name) := by exact hc 0 _ rfl
      have q1 : wr.cell? ⟨b, o + k * 7 + 1, none⟩ = some (.slice Alabels xs[k].labels.length clabels) := by rw [Nat.add_assoc]; exact hc 1 _ rfl
      have q2 : wr.cell? ⟨b, o + k * 7 + 2, none⟩ = some (.int .i64 xs[k].cpu) := by rw [Nat.add_assoc]; exact hc 2 _ rfl
      have q3 : wr.cell? ⟨b, o + k * 7 + 3, none⟩ = some (.int .i64 xs[k].mem) := by rw [Nat.add_assoc]; exact hc 3 _ rfl
      have q4 : wr.cell? ⟨b, o + k * 7 + 4, none⟩ = some (.int .i64 xs[k].rank) := by rw [Nat.add_assoc]; exact hc 4 _ rfl
      have q5 : wr.cell? ⟨b, o + k * 7 + 5, none⟩ = some (.slice Aneeds xs[k].needs.length cneeds) := by rw [Nat.add_assoc]; exact hc 5 _ rfl
      have q6 : wr.cell? ⟨b, o + k * 7 + 6, none⟩ = some (.slice Atolerances xs[k].tolerances.length ctolerances) := by rw [Nat.add_assoc]; exact hc 6 _ rfl
      clear hc
      go_wp2_with (first
        | (at_builtin
           refine wpList_append2 elInt (by rfl) _ _ (by rfl) _ _ _ _ _ hu (by rfl) [.int .i64 xs[k].cpu] (by first | rfl | (simp; rfl)) (by rfl) (by simp [Value.oneCell']) (by omega) (by omega) (hbl.size) ?_
           intro u2 w2 hu2 hg2 hz2 hat2
           have hne : some b ≠ u5.ownBlock := by intro e; have := hu.lt _ e.symm; omega
           replace q3 := hg2.cell q3 hne
           have hb2 : Below w.heap.size w w2 := grown_ext hu hg2 hbl hbl.size
           have hv2 := hv.kept hg2 hap.symm
           have hap2 := hap.grow (N := _) hv (by omega) hat2)
        | (at_builtin
           refine wpList_append2 elInt (by rfl) _ _ (by rfl) _ _ _ _ _ hv2 (by rfl) [.int .i64 xs[k].mem] (by first | rfl | (simp; rfl)) (by rfl) (by simp [Value.oneCell']) (by omega) (by omega) (hb2.size) ?_
           intro v2 w3 hv3 hg3 hz3 hat3
           have hu3 := hu2.kept hg3 hap2
           have hap3 : RowsApart v2 u2 := hap2.symm.grow (N := _) hu2 (by omega) hat3
           have hb3 := grown_ext hv2 hg3 hb2 hb2.size))
      refine ⟨⟨k + 1, by omega, by go_num, by rw [iv_take _ _ _ hlt]; exact hu3, by rw [iv_take _ _ _ hlt]; exact hv3, hap3.symm, hb3⟩, by simp [intOf]; omega⟩
    · have hkl : k = xs.length := by omega
      subst hkl
      rw [List.take_length] at hu hv
      obtain ⟨Au, cu, Gu, rfl, hsu⟩ := Sl.of_row (xs := xs.map Pod.cpu) (by rw [List.length_map]; exact hu) (rdCells_ints wr _ (by intro y hy; obtain ⟨p, hp, rfl⟩ := List.mem_map.1 hy; exact (hI.out p hp).1))
      obtain ⟨Av, cv, Gv, rfl, hsv⟩ := Sl.of_row (xs := xs.map Pod.mem) (by rw [List.length_map]; exact hv) (rdCells_ints wr _ (by intro y hy; obtain ⟨p, hp, rfl⟩ := List.mem_map.1 hy; exact (hI.out p hp).2.1))
      clear hu hv hap
      rcases hr1 : sumI (xs.map Pod.cpu) 0 with _ | a <;> rcases hr2 : sumI (xs.map Pod.mem) 0 with _ | b
      all_goals
        have hfin : sumsR xs = _ := (by unfold sumsR; rw [hr1, hr2])
        have HF := Lib.hid hfin
        have R1 := Lib.hid hr1
        have R2 := Lib.hid hr2
        clear hr1 hr2 hfin
        go_wp2_with fail
        refine (SumInts_spec (xs.map Pod.cpu) Au _ cu Gu _ hsu (by simp) (by rw [List.length_map]; exact hl)).mono ?_
        rw [R1.out]
        rintro e w2 ⟨rfl, hb2⟩
        go_wp2_with fail
        refine (SumInts_spec (xs.map Pod.mem) Av _ cv Gv _ (hsv.ext hb2) (by simp) (by rw [List.length_map]; exact hl)).mono ?_
        rw [R2.out]
        rintro e w3 ⟨rfl, hb3⟩
        go_wp2
        go_returns
        exact ⟨by rw [HF.out]; rfl, ext_trans (ext_trans hbl hb2) hb3⟩

end Go.Proofs.YtjoclfenghenjaaGreat
