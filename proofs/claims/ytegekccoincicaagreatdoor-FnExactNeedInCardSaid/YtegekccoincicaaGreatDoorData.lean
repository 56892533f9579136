/- The program's data, and how each reads. No condition. -/
import Derived.Test.YtegekccoincicaaGreatDoorKit
namespace Go.Proofs.YtegekccoincicaaGreatDoor
open Dat (rd)
open Go.ChangeShapes Go.WideShapes Go.ChangeAt Go.RowKit
set_option linter.unusedVariables false
set_option linter.unusedSimpArgs false

structure Need where
  key : ByteArray
  op : Int
  values : List ByteArray
instance : Dat Need := Dat.iso fun x => (x.key, x.op, x.values)
theorem rd_Need {w : World} {x : Need} {cs : List Value} {F : List Nat} (h : rd w x cs F) : ∃ (Avalues : Option Addr) (cvalues : Nat) (Fvalues : List Nat), cs = [.string x.key, .int .i64 x.op, .slice Avalues x.values.length cvalues] ∧ F = Fvalues ∧ x.key.size ≤ maxLen ∧ I64 x.op ∧ Sl w x.values Avalues cvalues Fvalues := by
  obtain ⟨_, _, _, _, rfl, rfl, ⟨rfl, rfl, hkey⟩, _, _, _, _, rfl, rfl, ⟨rfl, rfl, hop⟩, hvalues⟩ := h
  obtain ⟨Avalues, cvalues, rfl, hvalues⟩ := rd_list hvalues
  exact ⟨Avalues, cvalues, _, rfl, by simp, hkey, hop, hvalues⟩
structure Taint where
  key : ByteArray
  value : ByteArray
  effect : Int
instance : Dat Taint := Dat.iso fun x => (x.key, x.value, x.effect)
structure Tolerance where
  key : ByteArray
  equal : Bool
  value : ByteArray
  effect : Int
instance : Dat Tolerance := Dat.iso fun x => (x.key, x.equal, x.value, x.effect)
structure Pod where
  name : ByteArray
  labels : List Label
  cpu : Int
  mem : Int
  rank : Int
  needs : List Need
  tolerances : List Tolerance
instance : Dat Pod := Dat.iso fun x => (x.name, x.labels, x.cpu, x.mem, x.rank, x.needs, x.tolerances)
structure Host where
  name : ByteArray
  labels : List Label
  cpu : Int
  mem : Int
  slots : Int
  taints : List Taint
instance : Dat Host := Dat.iso fun x => (x.name, x.labels, x.cpu, x.mem, x.slots, x.taints)
structure Weights where
  pack : Int
  spread : Int
  soft : Int
instance : Dat Weights := Dat.iso fun x => (x.pack, x.spread, x.soft)
structure Placed where
  pod : Pod
  on : ByteArray
  seq : Int
instance : Dat Placed := Dat.iso fun x => (x.pod, x.on, x.seq)
structure Cluster where
  hosts : List Host
  pods : List Placed
  next : Int
  weights : Weights
instance : Dat Cluster := Dat.iso fun x => (x.hosts, x.pods, x.next, x.weights)
structure Manifest where
  kind : Int
  pod : Pod
  host : Host
instance : Dat Manifest := Dat.iso fun x => (x.kind, x.pod, x.host)
structure Fault where
  code : Int
  at_ : Int
  path : ByteArray
instance : Dat Fault := Dat.iso fun x => (x.code, x.at_, x.path)
theorem rd_Fault_mk (w : World) (x : Fault) (hcode : I64 x.code) (hat_ : I64 x.at_) (hpath : x.path.size ≤ maxLen) : rd w x [.int .i64 x.code, .int .i64 x.at_, .string x.path] [] := ⟨_, _, _, _, rfl, rfl, ⟨rfl, rfl, hcode⟩, _, _, _, _, rfl, rfl, ⟨rfl, rfl, hat_⟩, ⟨rfl, rfl, hpath⟩⟩
end Go.Proofs.YtegekccoincicaaGreatDoor
namespace Go.Proofs.YtegekccoincicaaGreatDoor
open Dat (rd)
open Go.ChangeShapes Go.WideShapes Go.ChangeAt Go.RowKit
set_option linter.unusedVariables false
set_option linter.unusedSimpArgs false
/-- cells of type t read as some x, through blocks of w -/
def Opens (P : Program) (t : TypeId) (α : Type) [Dat α] : Prop := ∀ (H : Type) (enc : TypeId × Value → H) (w : World) (base fuel : Nat) (spare : Nat → Bool) (held : Bool) (cs : List Value) (d : DataW H × List MemPlace),
  DataW.trod enc P w base spare held fuel t cs = some d → ∃ (x : α) (F : List Nat), rd w x cs F
theorem opens_int {P : Program} {t : TypeId} (ht : P.underlying t = some (.int .i64)) : Opens P t Int := by
  intro H enc w base fuel spare held cs d h
  obtain ⟨n, rfl, _, hw⟩ := DataW.trod_int ht h
  refine ⟨n, [], rfl, rfl, ?_⟩
  have := hw
  simp [Lit.wf, IntKind.min, IntKind.max, IntKind.signed, IntKind.bits] at this
  exact this
theorem opens_bool {P : Program} {t : TypeId} (ht : P.underlying t = some .bool) : Opens P t Bool := by
  intro H enc w base fuel spare held cs d h
  obtain ⟨n, rfl, _⟩ := DataW.trod_bool ht h
  exact ⟨n, [], rfl, rfl⟩
theorem opens_string {P : Program} {t : TypeId} (ht : P.underlying t = some .string) : Opens P t ByteArray := by
  intro H enc w base fuel spare held cs d h
  obtain ⟨n, rfl, _, hs⟩ := DataW.trod_string ht h
  exact ⟨n, [], rfl, rfl, hs⟩
theorem opens_slice {P : Program} {t e : TypeId} {α : Type} [Dat α] (ht : P.underlying t = some (.slice e)) (hC : P.cellsOf e = Dat.size α) (h : Opens P e α) : Opens P t (List α) := by
  intro H enc w base fuel spare held cs d hd
  rcases Deep.open_slice ht hd with ⟨rfl, _⟩ | ⟨a, len, cap, m, n, D, Pl, rfl, hb, hl, hm, hmm, hx, hi⟩
  · exact ⟨[], [], Sl.nil w none 0 (Nat.zero_le _)⟩
  · rcases Nat.eq_zero_or_pos len with rfl | hpos
    · exact ⟨[], [], Sl.nil w (some a) cap hm⟩
    · have hlm : len ≤ m := by rw [hmm]; split <;> omega
      have hpos' := Dat.pos (α := α)
      -- the address is a plain one
      have hsp : a.spot = none ∧ a.block < w.heap.size := by
        obtain ⟨cs', hc, _⟩ := hi 0 (by omega)
        obtain ⟨_, hcl, hat⟩ := World.cells?_some hc
        have h0 := hat (i := 0) (by omega)
        simp only [Nat.zero_mul] at h0
        have e0 : (a.add 0).add 0 = a := by simp [Addr.add]
        rw [e0] at h0
        rw [List.getElem?_eq_getElem (by omega)] at h0
        refine ⟨?_, World.block_lt_of_cell? w a h0⟩
        unfold World.cell? at h0
        split at h0
        · split at h0
          · cases h0
          · rename_i hs; simpa using hs
        · cases h0
      obtain ⟨b, o, sp⟩ := a
      obtain ⟨rfl, hblt⟩ := hsp
      have step : ∀ k, k ≤ len → ∃ (xs : List α) (ds : List Value) (G : List Nat), xs.length = k ∧ rdCells w xs ds G ∧ ∀ j u, ds[j]? = some u → w.cell? ⟨b, o + j, none⟩ = some u := by
        intro k
        induction k with
        | zero => exact fun _ => ⟨[], [], [], rfl, ⟨rfl, rfl⟩, fun j u hu => by simp at hu⟩
        | succ k ih =>
          intro hk
          obtain ⟨xs, ds, G, hxl, hr, hc⟩ := ih (by omega)
          obtain ⟨cs', hcs, htr⟩ := hi k (by omega)
          obtain ⟨x, F, hxr⟩ := h H enc w base n spare held cs' _ htr
          obtain ⟨_, hcl, hat⟩ := World.cells?_some hcs
          refine ⟨xs ++ [x], ds ++ cs', G ++ F, by simp [hxl], hr.append (.single hxr), fun j u hu => ?_⟩
          have hdl := hr.len
          rw [hxl] at hdl
          by_cases hj : j < ds.length
          · exact hc j u (by rwa [List.getElem?_append_left hj] at hu)
          · rw [List.getElem?_append_right (by omega)] at hu
            have hj' := (List.getElem?_eq_some_iff.1 hu).1
            have h1 := hat (i := j - ds.length) (by omega)
            rw [hu, hC] at h1
            have e1 : ((⟨b, o, none⟩ : Addr).add (k * Dat.size α)).add (j - ds.length) = ⟨b, o + j, none⟩ := by
              rw [Deep.add_add]
              unfold Addr.add
              split
              · simp <;> omega
              · simp <;> omega
            rw [e1] at h1
            exact h1
      obtain ⟨xs, ds, G, hxl, hr, hc⟩ := step len (Nat.le_refl _)
      subst hxl
      exact ⟨xs, b :: G, _, cap, G, ds, rfl, hl, hm, hr, .inr ⟨b, o, rfl, rfl, hblt, hc⟩⟩
end Go.Proofs.YtegekccoincicaaGreatDoor
namespace Go.Proofs.YtegekccoincicaaGreatDoor
open Dat (rd)
open Go.ChangeShapes Go.WideShapes Go.ChangeAt Go.RowKit
set_option linter.unusedVariables false
set_option linter.unusedSimpArgs false

theorem opens_StringS : Opens Tryz.prog 22 (List ByteArray) := opens_slice Tryz.underlying22 (by kernel_rfl) (opens_string Tryz.underlying9)
end Go.Proofs.YtegekccoincicaaGreatDoor
