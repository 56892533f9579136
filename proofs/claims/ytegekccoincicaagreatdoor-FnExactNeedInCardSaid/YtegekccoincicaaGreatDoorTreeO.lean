/- A tree that comes in, opened. -/
import Derived.Test.YtegekccoincicaaGreatDoorTreeD
namespace Go.Proofs.YtegekccoincicaaGreatDoor
open Dat (rd)
open Go.ChangeShapes Go.WideShapes Go.ChangeAt Go.RowKit
set_option linter.unusedVariables false
set_option linter.unusedSimpArgs false
/-- cells of type t, trod to a depth of at most N, read as some x -/
def OpensTo (N : Nat) (P : Program) (t : TypeId) (α : Type) [Dat α] : Prop := ∀ (H : Type) (enc : TypeId × Value → H) (w : World) (base fuel : Nat) (spare : Nat → Bool) (held : Bool) (cs : List Value) (d : DataW H × List MemPlace),
  fuel ≤ N → DataW.trod enc P w base spare held fuel t cs = some d → ∃ (x : α) (F : List Nat), rd w x cs F
theorem Opens.to {P : Program} {t : TypeId} {α : Type} [Dat α] (h : Opens P t α) (N : Nat) : OpensTo N P t α := fun H enc w base fuel spare held cs d _ hd => h H enc w base fuel spare held cs d hd
theorem opensTo_slice {N : Nat} {P : Program} {t e : TypeId} {α : Type} [Dat α] (ht : P.underlying t = some (.slice e)) (hC : P.cellsOf e = Dat.size α) (h : ∀ M, M < N → OpensTo M P e α) : OpensTo N P t (List α) := by
  intro H enc w base fuel spare held cs d hN hd
  rcases DataW.trod_slice ht hd with ⟨rfl, _⟩ | ⟨a, len, cap, elems, rest, n, hf, rfl, rfl, hb, hl, hm, hlen, hel, _, _⟩
  · exact ⟨[], [], Sl.nil w none 0 (Nat.zero_le _)⟩
  · rcases Nat.eq_zero_or_pos len with rfl | hpos
    · exact ⟨[], [], Sl.nil w (some a) cap hm⟩
    · have hpos' := Dat.pos (α := α)
      have hi : ∀ i, i < len → ∃ cs' q, w.cells? base (a.add (i * P.cellsOf e)) (P.cellsOf e) = some cs' ∧ DataW.trod enc P w base spare held n e cs' = some q := by
        intro i hi
        have key := hel i hi
        rw [List.getElem?_eq_getElem (by omega)] at key
        obtain ⟨cs', h1, h2⟩ := Option.bind_eq_some_iff.1 key
        exact ⟨cs', _, h1, h2⟩
      have hsp : a.spot = none ∧ a.block < w.heap.size := by
        obtain ⟨cs', q, hc, _⟩ := hi 0 (by omega)
        obtain ⟨_, hcl, hat⟩ := World.cells?_some hc
        have h0 := hat (i := 0) (by omega)
        simp only [Nat.zero_mul] at h0
        have e0 : (a.add 0).add 0 = a := by simp [Addr.add]
        rw [e0] at h0
        rw [List.getElem?_eq_getElem (by omega)] at h0
        refine ⟨?_, World.block_lt_of_cell? w a h0⟩
        unfold World.cell? at h0
        split at h0
        · split at h0
          · cases h0
          · rename_i hs; simpa using hs
        · cases h0
      obtain ⟨b, o, sp⟩ := a
      obtain ⟨rfl, hblt⟩ := hsp
      have step : ∀ k, k ≤ len → ∃ (xs : List α) (ds : List Value) (G : List Nat), xs.length = k ∧ rdCells w xs ds G ∧ ∀ j u, ds[j]? = some u → w.cell? ⟨b, o + j, none⟩ = some u := by
        intro k
        induction k with
        | zero => exact fun _ => ⟨[], [], [], rfl, ⟨rfl, rfl⟩, fun j u hu => by simp at hu⟩
        | succ k ih =>
          intro hk
          obtain ⟨xs, ds, G, hxl, hr, hc⟩ := ih (by omega)
          obtain ⟨cs', q, hcs, htr⟩ := hi k (by omega)
          obtain ⟨x, F, hxr⟩ := h n (by omega) H enc w base n spare held cs' _ (Nat.le_refl _) htr
          obtain ⟨_, hcl, hat⟩ := World.cells?_some hcs
          refine ⟨xs ++ [x], ds ++ cs', G ++ F, by simp [hxl], hr.append (.single hxr), fun j u hu => ?_⟩
          have hdl := hr.len
          rw [hxl] at hdl
          by_cases hj : j < ds.length
          · exact hc j u (by rwa [List.getElem?_append_left hj] at hu)
          · rw [List.getElem?_append_right (by omega)] at hu
            have hj' := (List.getElem?_eq_some_iff.1 hu).1
            have h1 := hat (i := j - ds.length) (by omega)
            rw [hu, hC] at h1
            have e1 : ((⟨b, o, none⟩ : Addr).add (k * Dat.size α)).add (j - ds.length) = ⟨b, o + j, none⟩ := by
              rw [Deep.add_add]
              unfold Addr.add
              split
              · simp <;> omega
              · simp <;> omega
            rw [e1] at h1
            exact h1
      obtain ⟨xs, ds, G, hxl, hr, hc⟩ := step len (Nat.le_refl _)
      subst hxl
      exact ⟨xs, b :: G, _, cap, G, ds, rfl, hl, hm, hr, .inr ⟨b, o, rfl, rfl, hblt, hc⟩⟩
/-- the fields from one on, trod to a depth of at most N -/
def FOTo (N : Nat) (P : Program) (fs : List Field) (off : Nat) (β : Type) [Dat β] : Prop := ∀ (H : Type) (enc : TypeId × Value → H) (w : World) (base n : Nat) (spare : Nat → Bool) (held : Bool) (cs : List Value) (xs : List (DataW H × List MemPlace)),
  n ≤ N → cs.length = off + Dat.size β → xs.length = fs.length → (∀ (i : Nat) (f : Field), fs[i]? = some f → DataW.trod enc P w base spare held n f.type ((cs.drop f.offset).take (P.cellsOf f.type)) = xs[i]?) → ∃ (x : β) (F : List Nat), rd w x (cs.drop off) F
theorem foTo_one {N : Nat} {P : Program} {f : Field} {off : Nat} {β : Type} [Dat β] (ho : f.offset = off) (hc : P.cellsOf f.type = Dat.size β) (h : OpensTo N P f.type β) : FOTo N P [f] off β := by
  intro H enc w base n spare held cs xs hn hl hx hf
  have h0 := hf 0 f rfl
  have hlt : 0 < xs.length := by rw [hx]; simp
  rw [List.getElem?_eq_getElem hlt, ho, hc, List.take_of_length_le (by simp; omega)] at h0
  exact h H enc w base n spare held _ _ hn h0
theorem foTo_cons {N : Nat} {P : Program} {f : Field} {fs : List Field} {off : Nat} {α β : Type} [Dat α] [Dat β] (ho : f.offset = off) (hc : P.cellsOf f.type = Dat.size α) (h : OpensTo N P f.type α) (hr : FOTo N P fs (off + Dat.size α) β) : FOTo N P (f :: fs) off (α × β) := by
  intro H enc w base n spare held cs xs hn hl hx hf
  have hl' : cs.length = off + (Dat.size α + Dat.size β) := hl
  match xs, hx with
  | y :: ys, hx =>
    have h0 := hf 0 f rfl
    simp only [List.getElem?_cons_zero] at h0
    rw [ho, hc] at h0
    obtain ⟨x1, F1, h1⟩ := h H enc w base n spare held _ _ hn h0
    obtain ⟨x2, F2, h2⟩ := hr H enc w base n spare held cs ys hn (by omega) (by simpa using hx) (fun i f' hi => by
      have := hf (i + 1) f' (by simpa using hi)
      simpa using this)
    refine ⟨(x1, x2), F1 ++ F2, _, _, F1, F2, ?_, rfl, h1, h2⟩
    conv => lhs; rw [← List.take_append_drop (Dat.size α) (cs.drop off)]
    rw [List.drop_drop]
theorem opensTo_struct {N : Nat} {P : Program} {t : TypeId} {fs : List Field} {β : Type} [Dat β] (ht : P.underlying t = some (.struct fs.toArray)) (hC : P.cellsOf t = Dat.size β) (hf : ∀ M, M < N → FOTo M P fs 0 β) : OpensTo N P t β := by
  intro H enc w base fuel spare held cs d hN h
  obtain ⟨xs, n, hn, _, hl, hx, hg⟩ := DataW.trod_struct ht h
  have := hf n (by omega) H enc w base n spare held cs xs (Nat.le_refl _) (by omega) (by simpa using hx) (fun i f hi => hg i f (by simpa using hi))
  simpa using this
end Go.Proofs.YtegekccoincicaaGreatDoor
namespace Go.Proofs.YtegekccoincicaaGreatDoor
open Dat (rd)
open Go.ChangeShapes Go.WideShapes Go.ChangeAt Go.RowKit
set_option linter.unusedVariables false
set_option linter.unusedSimpArgs false
theorem opens_TreeTo (N : Nat) : OpensTo N Tryz.prog 25 Tree ∧ OpensTo N Tryz.prog 23 (List Tree) := by
  induction N using Nat.strongRecOn with
  | _ N ih =>
    refine ⟨?_, opensTo_slice Tryz.underlying23 (by kernel_rfl) (fun M hM => (ih M hM).1)⟩
    have hf : OpensTo N Tryz.prog 25 (Int × Bool × Int × ByteArray × List ByteArray × List Tree) := opensTo_struct Tryz.underlying25 (by kernel_rfl) fun M hM =>
      foTo_cons rfl (by kernel_rfl) ((opens_int Tryz.underlying3).to M) (foTo_cons rfl (by kernel_rfl) ((opens_bool Tryz.underlying4).to M) (foTo_cons rfl (by kernel_rfl) ((opens_int Tryz.underlying3).to M)
        (foTo_cons rfl (by kernel_rfl) ((opens_string Tryz.underlying9).to M) (foTo_cons rfl (by kernel_rfl) (opens_StringS.to M) (foTo_one rfl (by kernel_rfl) (ih M hM).2)))))
    intro H enc w base fuel spare held cs d hN hd
    obtain ⟨x, F, hx⟩ := hf H enc w base fuel spare held cs d hN hd
    exact ⟨Tree.mk x.1 x.2.1 x.2.2.1 x.2.2.2.1 x.2.2.2.2.1 x.2.2.2.2.2, F, rd_tree_mk hx⟩
theorem opens_Tree : Opens Tryz.prog 25 Tree := fun H enc w base fuel spare held cs d h => (opens_TreeTo fuel).1 H enc w base fuel spare held cs d (Nat.le_refl _) h
end Go.Proofs.YtegekccoincicaaGreatDoor
