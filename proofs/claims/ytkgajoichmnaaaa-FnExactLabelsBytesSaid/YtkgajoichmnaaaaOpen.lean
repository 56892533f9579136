/- An argument that reads as data, opened: the readings of Kit out of the form's own. -/
import Derived.Test.YtkgajoichmnaaaaData
namespace Go.Proofs.Ytkgajoichmnaaaa
open Dat (rd)
open Go.ChangeShapes Go.WideShapes Go.ChangeAt Go.RowKit
set_option linter.unusedVariables false
set_option linter.unusedSimpArgs false
/-- cells of type t read as some x, through blocks of w -/
def Opens (P : Program) (t : TypeId) (α : Type) [Dat α] : Prop := ∀ (H : Type) (enc : TypeId × Value → H) (w : World) (base fuel : Nat) (spare : Nat → Bool) (held : Bool) (cs : List Value) (d : DataW H × List MemPlace),
  DataW.trod enc P w base spare held fuel t cs = some d → ∃ (x : α) (F : List Nat), rd w x cs F
theorem opens_int {P : Program} {t : TypeId} (ht : P.underlying t = some (.int .i64)) : Opens P t Int := by
  intro H enc w base fuel spare held cs d h
  obtain ⟨n, rfl, _, hw⟩ := DataW.trod_int ht h
  refine ⟨n, [], rfl, rfl, ?_⟩
  have := hw
  simp [Lit.wf, IntKind.min, IntKind.max, IntKind.signed, IntKind.bits] at this
  exact this
theorem opens_bool {P : Program} {t : TypeId} (ht : P.underlying t = some .bool) : Opens P t Bool := by
  intro H enc w base fuel spare held cs d h
  obtain ⟨n, rfl, _⟩ := DataW.trod_bool ht h
  exact ⟨n, [], rfl, rfl⟩
theorem opens_string {P : Program} {t : TypeId} (ht : P.underlying t = some .string) : Opens P t ByteArray := by
  intro H enc w base fuel spare held cs d h
  obtain ⟨n, rfl, _, hs⟩ := DataW.trod_string ht h
  exact ⟨n, [], rfl, rfl, hs⟩
/-- the fields from one on -/
def FO (P : Program) (fs : List Field) (off : Nat) (β : Type) [Dat β] : Prop := ∀ (H : Type) (enc : TypeId × Value → H) (w : World) (base n : Nat) (spare : Nat → Bool) (held : Bool) (cs : List Value) (xs : List (DataW H × List MemPlace)),
  cs.length = off + Dat.size β → xs.length = fs.length → (∀ (i : Nat) (f : Field), fs[i]? = some f → DataW.trod enc P w base spare held n f.type ((cs.drop f.offset).take (P.cellsOf f.type)) = xs[i]?) → ∃ (x : β) (F : List Nat), rd w x (cs.drop off) F
theorem fo_one {P : Program} {f : Field} {off : Nat} {β : Type} [Dat β] (ho : f.offset = off) (hc : P.cellsOf f.type = Dat.size β) (h : Opens P f.type β) : FO P [f] off β := by
  intro H enc w base n spare held cs xs hl hx hf
  have h0 := hf 0 f rfl
  have hlt : 0 < xs.length := by rw [hx]; simp
  rw [List.getElem?_eq_getElem hlt, ho, hc, List.take_of_length_le (by simp; omega)] at h0
  exact h H enc w base n spare held _ _ h0
theorem fo_cons {P : Program} {f : Field} {fs : List Field} {off : Nat} {α β : Type} [Dat α] [Dat β] (ho : f.offset = off) (hc : P.cellsOf f.type = Dat.size α) (h : Opens P f.type α) (hr : FO P fs (off + Dat.size α) β) : FO P (f :: fs) off (α × β) := by
  intro H enc w base n spare held cs xs hl hx hf
  have hl' : cs.length = off + (Dat.size α + Dat.size β) := hl
  match xs, hx with
  | y :: ys, hx =>
    have h0 := hf 0 f rfl
    simp only [List.getElem?_cons_zero] at h0
    rw [ho, hc] at h0
    obtain ⟨x1, F1, h1⟩ := h H enc w base n spare held _ _ h0
    obtain ⟨x2, F2, h2⟩ := hr H enc w base n spare held cs ys (by omega) (by simpa using hx) (fun i f' hi => by
      have := hf (i + 1) f' (by simpa using hi)
      simpa using this)
    refine ⟨(x1, x2), F1 ++ F2, _, _, F1, F2, ?_, rfl, h1, h2⟩
    conv => lhs; rw [← List.take_append_drop (Dat.size α) (cs.drop off)]
    rw [List.drop_drop]
theorem opens_struct {P : Program} {t : TypeId} {fs : List Field} {β : Type} [Dat β] (ht : P.underlying t = some (.struct fs.toArray)) (hC : P.cellsOf t = Dat.size β) (hf : FO P fs 0 β) : Opens P t β := by
  intro H enc w base fuel spare held cs d h
  obtain ⟨xs, n, _, _, hl, hx, hg⟩ := DataW.trod_struct ht h
  have := hf H enc w base n spare held cs xs (by omega) (by simpa using hx) (fun i f hi => hg i f (by simpa using hi))
  simpa using this
theorem opens_iso {P : Program} {t : TypeId} {α β : Type} [Dat β] (f : α → β) (g : β → α) (hfg : ∀ b, f (g b) = b) (h : Opens P t β) : @Opens P t α (Dat.iso f) := by
  intro H enc w base fuel spare held cs d hd
  obtain ⟨x, F, hx⟩ := h H enc w base fuel spare held cs d hd
  exact ⟨g x, F, by show rd w (f (g x)) cs F; rw [hfg]; exact hx⟩
theorem opens_slice {P : Program} {t e : TypeId} {α : Type} [Dat α] (ht : P.underlying t = some (.slice e)) (hC : P.cellsOf e = Dat.size α) (h : Opens P e α) : Opens P t (List α) := by
  intro H enc w base fuel spare held cs d hd
  rcases Deep.open_slice ht hd with ⟨rfl, _⟩ | ⟨a, len, cap, m, n, D, Pl, rfl, hb, hl, hm, hmm, hx, hi⟩
  · exact ⟨[], [], Sl.nil w none 0 (Nat.zero_le _)⟩
  · rcases Nat.eq_zero_or_pos len with rfl | hpos
    · exact ⟨[], [], Sl.nil w (some a) cap hm⟩
    · have hlm : len ≤ m := by rw [hmm]; split <;> omega
      have hpos' := Dat.pos (α := α)
      -- the address is a plain one
      have hsp : a.spot = none ∧ a.block < w.heap.size := by
        obtain ⟨cs', hc, _⟩ := hi 0 (by omega)
        obtain ⟨_, hcl, hat⟩ := World.cells?_some hc
        have h0 := hat (i := 0) (by omega)
        simp only [Nat.zero_mul] at h0
        have e0 : (a.add 0).add 0 = a := by simp [Addr.add]
        rw [e0] at h0
        rw [List.getElem?_eq_getElem (by omega)] at h0
        refine ⟨?_, World.block_lt_of_cell? w a h0⟩
        unfold World.cell? at h0
        split at h0
        · split at h0
          · cases h0
          · rename_i hs; simpa using hs
        · cases h0
      obtain ⟨b, o, sp⟩ := a
      obtain ⟨rfl, hblt⟩ := hsp
      have step : ∀ k, k ≤ len → ∃ (xs : List α) (ds : List Value) (G : List Nat), xs.length = k ∧ rdCells w xs ds G ∧ ∀ j u, ds[j]? = some u → w.cell? ⟨b, o + j, none⟩ = some u := by
        intro k
        induction k with
        | zero => exact fun _ => ⟨[], [], [], rfl, ⟨rfl, rfl⟩, fun j u hu => by simp at hu⟩
        | succ k ih =>
          intro hk
          obtain ⟨xs, ds, G, hxl, hr, hc⟩ := ih (by omega)
          obtain ⟨cs', hcs, htr⟩ := hi k (by omega)
          obtain ⟨x, F, hxr⟩ := h H enc w base n spare held cs' _ htr
          obtain ⟨_, hcl, hat⟩ := World.cells?_some hcs
          refine ⟨xs ++ [x], ds ++ cs', G ++ F, by simp [hxl], hr.append (.single hxr), fun j u hu => ?_⟩
          have hdl := hr.len
          rw [hxl] at hdl
          by_cases hj : j < ds.length
          · exact hc j u (by rwa [List.getElem?_append_left hj] at hu)
          · rw [List.getElem?_append_right (by omega)] at hu
            have hj' := (List.getElem?_eq_some_iff.1 hu).1
            have h1 := hat (i := j - ds.length) (by omega)
            rw [hu, hC] at h1
            have e1 : ((⟨b, o, none⟩ : Addr).add (k * Dat.size α)).add (j - ds.length) = ⟨b, o + j, none⟩ := by
              rw [Deep.add_add]
              unfold Addr.add
              split
              · simp <;> omega
              · simp <;> omega
            rw [e1] at h1
            exact h1
      obtain ⟨xs, ds, G, hxl, hr, hc⟩ := step len (Nat.le_refl _)
      subst hxl
      exact ⟨xs, b :: G, _, cap, G, ds, rfl, hl, hm, hr, .inr ⟨b, o, rfl, rfl, hblt, hc⟩⟩
end Go.Proofs.Ytkgajoichmnaaaa
