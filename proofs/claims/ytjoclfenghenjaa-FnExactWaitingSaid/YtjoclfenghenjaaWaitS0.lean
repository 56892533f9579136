/- Waiting of the reference. No condition. -/
import Derived.Test.YtjoclfenghenjaaWaitI
namespace Go.Proofs.Ytjoclfenghenjaa
open Go.ChangeShapes Go.WideShapes Go.ChangeAt Go.RowKit
set_option linter.unusedVariables false
set_option linter.unusedSimpArgs false

theorem infoIntW : (Try.prog.info? 3).map (fun i => (i.zero, i.size, i.bytes)) = some (some (.int .i64 0), 1, 8) := by kernel_rfl
theorem elIntW : ElOk Try.prog 44 3 (.int .i64 0) 1 8 := ⟨Try.underlying44, infoIntW, rfl, by omega⟩
theorem bool_ret {a b : Bool} (h : a = b) : Ending.returned (.bool a) = .returned (.bool b) := by rw [h]
set_option maxRecDepth 100000 in
set_option maxHeartbeats 4000000 in
theorem First_any (x y : PRow) (w : World) :
    Calls Try.prog 15 #[.agg #[.string x.name, .slice x.la x.ln x.lc, .int .i64 x.cpu, .int .i64 x.mem, .int .i64 x.rank, .slice x.na x.nn x.nc, .slice x.ta x.tn x.tc, .string x.on, .int .i64 x.seq], .agg #[.string y.name, .slice y.la y.ln y.lc, .int .i64 y.cpu, .int .i64 y.mem, .int .i64 y.rank, .slice y.na y.nn y.nc, .slice y.ta y.tn y.tc, .string y.on, .int .i64 y.seq]] w fun e w' => e = .returned (.bool (ltV wkV (prk x) (prk y))) ∧ Below w.heap.size w w' := by
  have hlt := wait_lt (prk x) (prk y)
  have e1 : (prk x).2.1 = x.rank := rfl
  have e2 : (prk y).2.1 = y.rank := rfl
  have e3 : (prk x).2.2 = x.seq := rfl
  have e4 : (prk y).2.2 = y.seq := rfl
  rw [e1, e2, e3, e4] at hlt
  clear e1 e2 e3 e4
  generalize ltV wkV (prk x) (prk y) = L at *
  cases h1 : decide (y.rank < x.rank) <;> cases h2 : (x.rank == y.rank) <;> cases h3 : decide (x.seq < y.seq)
  all_goals
    have HL := Lib.hid hlt
    have H1 := Lib.hid h1
    have H2 := Lib.hid h2
    have H3 := Lib.hid h3
    clear hlt
    go_enter Try.func15, Try.ntmps15
    go_wp2
    go_ret
    refine ⟨bool_ret ?_, ext_alloc (ext_alloc (ext_refl _) _) _⟩
    have a1 := H1.out
    have a2 := H2.out
    have a3 := H3.out
    have a4 := HL.out
    simp at a1 a2 a3
    cases L
    · simp at a4 ⊢
      try omega
    · simp at a4 ⊢
      try omega
def kAt (ps : List Placed) (i : Nat) : WKey := match ps[i]? with | some p => keyOf p | none => (⟨#[]⟩, 0, 0)
theorem kAt_at {ps : List Placed} {i : Nat} (h : i < ps.length) : kAt ps i = keyOf ps[i] := by unfold kAt; rw [List.getElem?_eq_getElem h]
/-- the cells of a pod that stands in a list -/
theorem pods_cells {w : World} {ps : List Placed} {A : Option Addr} {c : Nat} {F : List Nat} (h : Sl w ps A c F) (hne : 0 < ps.length) : ∃ b o, A = some ⟨b, o, none⟩ ∧ b < w.heap.size ∧
    ∀ z (hz : z < ps.length), ∃ r : PRow, prk r = keyOf ps[z] ∧ r.on = ps[z].on ∧ r.name.size ≤ maxLen ∧ ∀ j u, (prow r)[j]? = some u → w.cell? ⟨b, o + z * 9 + j, none⟩ = some u := by
  obtain ⟨b, o, _, _, hA, _, hbs, _⟩ := Sl.get (α := Placed) h hne
  subst hA
  refine ⟨b, o, rfl, hbs, fun z hz => ?_⟩
  obtain ⟨b', o', ck, Fk, hA, hbF, _, hr, hsub, hc⟩ := Sl.get (α := Placed) h hz
  simp only [Option.some.injEq, Addr.mk.injEq, and_true] at hA
  obtain ⟨rfl, rfl⟩ := hA
  obtain ⟨c1, c2, F1, F2, rfl, rfl, hrp, _, _, _, _, rfl, rfl, ⟨rfl, rfl, hon⟩, ⟨rfl, rfl, hseq⟩⟩ := hr
  obtain ⟨Al, cl, Fl, An, cn, Fn, At, ct, Ft, hck, hFk, hpn, _⟩ := rd_Pod hrp
  subst hck
  refine ⟨⟨ps[z].pod.name, Al, ps[z].pod.labels.length, cl, ps[z].pod.cpu, ps[z].pod.mem, ps[z].pod.rank, An, ps[z].pod.needs.length, cn, At, ps[z].pod.tolerances.length, ct, ps[z].on, ps[z].seq⟩, rfl, rfl, hpn, fun j u hu => ?_⟩
  have := hc j u hu
  rw [show o + (z * Dat.size Placed + j) = o + z * 9 + j from by show o + (z * 9 + j) = _; omega] at this
  exact this
end Go.Proofs.Ytjoclfenghenjaa
