/- Rows: append of a whole slice; a row as a full block. No condition. -/
import Derived.Test.YtegekccoincicaaGreatDoorDecS
import Derived.Test.YtegekccoincicaaGreatDoorBlk
import Derived.Deep.Upon
namespace Go.Proofs.YtegekccoincicaaGreatDoor
open Dat (rd)
open Go.ChangeShapes Go.WideShapes Go.ChangeAt Go.RowKit
set_option linter.unusedVariables false
set_option linter.unusedSimpArgs false
theorem row_sliceK {w : World} {B e size n : Nat} {v : Value} {xs : List Value} (h : w.ownsRow B e size v n xs) : ∃ A c, v = .slice A n c := by
  rcases h.2 with ⟨rfl, hn⟩ | ⟨g, cap, cur, rfl, _⟩
  · subst hn; exact ⟨none, 0, rfl⟩
  · exact ⟨_, _, rfl⟩
theorem row_setK {w : World} {B e size n c i : Nat} {v u : Value} {xs : List Value} (h : w.ownsRow B e size v n xs) (hc : ∀ g, v.ownBlock = some g → g ≠ c) : (w.setCell ⟨c, i, none⟩ u).ownsRow B e size v n xs :=
  h.kept (row := some c) ⟨rfl, rfl, rfl, by simp [World.setCell], fun k hk hne => Below.heap_setCell _ _ _ _ (by intro e; apply hne; rw [e])⟩ (by
    by_cases hv : v.ownBlock = some c
    · exact absurd rfl (hc c hv)
    · exact .inr hv)
section
variable {α : Type} [Dat α]
theorem OwnCells.pushK {w w' : World} {B B5 e size n : Nat} {v v' : Value} {xs : List α} {ds us cs : List Value} {F G : List Nat} {x : α} (row : w.ownsRow B e size v n us) (hcs : OwnCells w B xs ds F) (hne : ∀ g, v.ownBlock = some g → g ∉ F)
    (hx : Own w B5 x cs G) (h5 : B ≤ B5) (hv5 : ∀ g, v.ownBlock = some g → g < B5) (hF : ∀ y ∈ F, y < B5) (hg : w.grownBy w' v.ownBlock) (hat : v'.ownBlock = v.ownBlock ∨ v'.ownBlock = some (w.heap.size + 1)) :
    OwnCells w' B (xs ++ [x]) (ds ++ cs) (F ++ G) ∧ ∀ g, v'.ownBlock = some g → g ∉ F ++ G := by
  have h1 := hcs.push hx h5 hF
  have hno : ∀ g, v.ownBlock = some g → g ∉ F ++ G := fun g hv hm => by
    rcases List.mem_append.1 hm with hm | hm
    · exact hne g hv hm
    · have := hx.base g hm; have := hv5 g hv; omega
  refine ⟨h1.keep (fun y hy => hg.block y (h1.lt y hy) (fun hv => hno y hv.symm hy)) hg.size, fun g hv hm => ?_⟩
  rcases hat with hat | hat
  · exact hno g (hat.symm.trans hv) hm
  · have h2 := h1.lt g hm
    rw [hat] at hv
    injection hv with hv
    omega
end
theorem wp_appendK {P : Program} {t e : TypeId} {z : Value} {size bytes : Nat} (hE : ElOk P t e z size bytes) {o : Oper} {a : Act} {K : Act → World → Prop} {Q : Exit → Act → World → Prop} (s x : Operand)
    (ho : o.op = .call { callee := .builtin .append, args := #[s, x], argTypes := #[t, t] })
    (w : World) (base : Nat) (v : Value) (n : Nat) (xs : List Value) (hown : w.ownsRow base e size v n xs) (hs : a.eval s = v)
    (cs : List Value) (hx : a.eval x = .slice (some ⟨w.heap.size, 0, none⟩) 1 1) (hl : cs.length = size) (h1 : ∀ u ∈ cs, u.oneCell' = true)
    (hn : n ≤ 2097152) (hby : bytes ≤ 4096) (hbase : base ≤ w.heap.size)
    (h : ∀ v' w', w'.ownsRow base e size v' (n + 1) (xs ++ cs) → w.grownBy w' v.ownBlock → w.heap.size + 1 ≤ w'.heap.size → (v'.ownBlock = v.ownBlock ∨ v'.ownBlock = some (w.heap.size + 1)) → K (a.put o.dst v') w') : o.wp P a (w.alloc (.cells cs.toArray e)) K Q := by
  obtain ⟨ht, hi0, hzs, hsz⟩ := hE
  obtain ⟨i, hi, hz, hsize, hb⟩ := info_parts hi0
  have hbb : (n + 1) * bytes ≤ 2097153 * 4096 := Nat.mul_le_mul (by omega) hby
  have hnews : ∀ j u, cs[j]? = some u → (w.alloc (.cells cs.toArray e)).cell? ((⟨w.heap.size, 0, none⟩ : Addr).add j) = some u := by
    intro j u hu
    rw [Addr.add]
    have hc := cell_of_row (w.alloc (.cells cs.toArray e)) w.heap.size j cs.toArray e (0, 0) (heap_alloc_new w _)
    split
    · rename_i hj; subst hj; rw [hc]; simpa using hu
    · simp only [Nat.zero_add]; rw [hc]; simpa using hu
  obtain ⟨v', w', hr, h2, h3, h4, h5⟩ := run_append_own_at (P := P) (w.alloc (.cells cs.toArray e)) base t o.type e i z size bytes ht hi hz hsize hb hzs hsz v n xs (hown.alloc _) ⟨w.heap.size, 0, none⟩ 1 1 cs (by omega) hnews h1 (by unfold maxLen; omega) (by omega) (by simp; omega)
  unfold Oper.wp execOp
  simp only [ho, resolve, invoke, builtin, Sem.run_bind, Sem.run_pure, Result.andThen_ok, List.map_toArray, List.map_cons, List.map_nil, hs, hx, hr]
  refine h v' w' h2 ⟨h3.os, h3.tape, h3.output, Nat.le_trans (by simp) h3.size, fun k hk hne => ?_⟩ (by have := h3.size; simpa using this) (by simpa using h5)
  rw [h3.block k (by simp; omega) hne]
  exact Below.heap_alloc _ _ _ hk

/-- append of a whole slice to a row of the call's own -/
theorem wpList_appendN {α : Type} [Dat α] {P : Program} {t e : TypeId} {z : Value} {size bytes : Nat} (hE : ElOk P t e z size bytes) (hd : Dat.size α = size) {ops : Array Oper} {rest : List Oper} {o : Oper} {a : Act} {Q : Exit → Act → World → Prop} (hgd : o.guard = none) (s x : Operand)
    (ho : o.op = .call { callee := .builtin .append, args := #[s, x], argTypes := #[t, t] })
    (w : World) (base : Nat) (v : Value) (n : Nat) (xs : List Value) (hown : w.ownsRow base e size v n xs) (hs : a.eval s = v)
    (ys : List α) (A : Option Addr) (c : Nat) (F : List Nat) (hsl : Sl w ys A c F) (hx : a.eval x = .slice A ys.length c)
    (hn : n + ys.length ≤ 2097152) (hby : bytes ≤ 4096) (hbase : base ≤ w.heap.size)
    (h : ∀ v' w' ds G, rdCells w ys ds G → (∀ b ∈ G, b ∈ F) → w'.ownsRow base e size v' (n + ys.length) (xs ++ ds) → w.grownBy w' v.ownBlock → (v'.ownBlock = v.ownBlock ∨ v'.ownBlock = some w.heap.size) → wpList P ops Q rest (a.put o.dst v') w') : wpList P ops Q (o :: rest) a w := by
  subst hd
  obtain ⟨ht, hi0, hzs, hsz⟩ := hE
  obtain ⟨i, hi, hz, hsize, hb⟩ := info_parts hi0
  have hbb : (n + ys.length) * bytes ≤ 2097152 * 4096 := Nat.mul_le_mul hn hby
  obtain ⟨A', c', G, ds, e0, h1, h2, hc, h0⟩ := hsl
  simp only [List.cons.injEq, Value.slice.injEq, and_true, true_and] at e0
  obtain ⟨rfl, rfl⟩ := e0
  have some_ : ∀ (ad : Addr), A = some ad → (∀ j u, ds[j]? = some u → w.cell? (ad.add j) = some u) → wpList P ops Q (o :: rest) a w := by
    intro ad hA hcell
    subst hA
    have hG : ∀ b ∈ G, b ∈ F := by
      rcases h0 with ⟨rfl, rfl⟩ | ⟨b, o', _, rfl, _⟩
      · rw [hc.2]; intro b hb; cases hb
      · intro x hx; exact List.mem_cons_of_mem _ hx
    exact wpList_append_own_at w hgd s x t ho base e i z (Dat.size α) bytes ht hi hz hsize hb hzs hsz v n xs hs hown ad ys.length c ds hx hc.len hcell hc.one (by unfold maxLen; omega) (by omega) hbase (fun v' w' hown' hg _ hat => h v' w' ds G hc hG hown' hg hat)
  rcases h0 with ⟨rfl, rfl⟩ | ⟨b, o', hA, rfl, hb, hcell⟩
  · obtain ⟨rfl, rfl⟩ := hc
    cases A with
    | some ad => exact some_ ad rfl (fun j u hu => by simp at hu)
    | none =>
      have fin : ∀ (A2 : Option Addr) (cap : Nat), v = .slice A2 n cap → n ≤ cap → wpList P ops Q (o :: rest) a w := by
        intro A2 cap hv hle
        refine wpList_plain hgd fun K hK => ?_
        have hr := run_append_nothing (P := P) w t t o.type e i ht hi A2 n cap hle (.slice none 0 c) (Src.ofNil w ht c)
        unfold Oper.wp execOp
        simp only [ho, resolve, invoke, builtin, Sem.run_bind, Sem.run_pure, Result.andThen_ok, List.map_toArray, List.map_cons, List.map_nil, hs, hv, hx, List.length_nil, hr]
        refine hK _ _ ?_
        subst hv
        exact h _ w [] [] ⟨rfl, rfl⟩ (fun b hb => hb) (by simpa using hown) ⟨rfl, rfl, rfl, Nat.le_refl _, fun _ _ _ => rfl⟩ (.inl rfl)
      rcases hown.2 with ⟨hv, hn0⟩ | ⟨g, cap, cur, hv, _, _, hle, _⟩
      · exact fin none 0 (by rw [hv, hn0]) (by omega)
      · exact fin _ cap hv hle
  · refine some_ _ hA fun j u hu => ?_
    rw [show (⟨b, o', none⟩ : Addr).add j = ⟨b, o' + j, none⟩ from by unfold Addr.add; split <;> simp_all]
    exact hcell j u hu
section
variable {α : Type} [Dat α] {w : World}
theorem rdCells_flat (hf : ∀ {w : World} {x : α} {cs : List Value} {F : List Nat}, rd w x cs F → F = []) : ∀ {xs : List α} {ds : List Value} {F : List Nat}, rdCells w xs ds F → F = []
  | [], _, _, h => h.2
  | x :: xs, _, _, ⟨c1, c2, F1, F2, _, rfl, h1, h2⟩ => by rw [hf h1, rdCells_flat hf h2]; rfl
/-- a row of the call's own whose elements have no blocks -/
theorem Own.of_flat {B : Nat} {e : TypeId} {v : Value} {xs : List α} {ds : List Value} {F : List Nat} (hf : ∀ {w : World} {x : α} {cs : List Value} {F : List Nat}, Go.Proofs.YtegekccoincicaaGreatDoor.Dat.rd w x cs F → F = []) (h0 : w.ownsRow B e (Dat.size α) v xs.length ds) (h : rdCells w xs ds F) :
    ∃ A c G, v = .slice A xs.length c ∧ Own w B xs [.slice A xs.length c] G := by
  obtain rfl := rdCells_flat hf h
  exact Own.of_row h0 ⟨h, List.nodup_nil, (fun b hb => by cases hb), (fun b hb => by cases hb)⟩ (fun g _ hm => by cases hm)
end
theorem Fill.of_row {w : World} {B e size n : Nat} {v : Value} {ds : List Value} (h : w.ownsRow B e size v n ds) : (v = .slice none 0 0 ∧ n = 0) ∨ ∃ g cap N, v = .slice (some ⟨g, 0, none⟩) n cap ∧ B ≤ g ∧ Fill w g e N ds ∧ n ≤ cap ∧ cap ≤ maxLen := by
  rcases h with ⟨hl, h | ⟨g, cap, cur, rfl, hb, hh, hle, hm, hcs, ht⟩⟩
  · exact .inl h
  · refine .inr ⟨g, cap, cur.size, rfl, hb, ⟨cur, hh, rfl, ?_, fun j u hu => ?_⟩, hle, hm⟩
    · rw [hl, hcs]; exact Nat.mul_le_mul_right _ hle
    · have hj := (List.getElem?_eq_some_iff.1 hu).1
      rw [← ht, List.getElem?_take] at hu
      split at hu
      · simpa using hu
      · cases hu
theorem Fill.set {w : World} {g : Nat} {t : TypeId} {N : Nat} {ds : List Value} (h : Fill w g t N ds) {i : Nat} (hi : i < ds.length) (u : Value) : Fill (w.setCell ⟨g, i, none⟩ u) g t N (ds.set i u) := by
  obtain ⟨cs, h, rfl, hl, hc⟩ := h
  refine ⟨cs.setIfInBounds i u, ?_, by simp, by simpa using hl, fun j v hv => ?_⟩
  · simp [World.setCell, Array.getElem?_modify, h]
  · by_cases hj : i = j
    · subst hj
      rw [List.getElem?_set_self hi] at hv
      cases hv
      rw [Array.getElem?_setIfInBounds_self_of_lt (by omega)]
    · rw [List.getElem?_set_ne hj] at hv
      rw [Array.getElem?_setIfInBounds_ne hj]
      exact hc j v hv
theorem Fill.at_ {w : World} {g : Nat} {t : TypeId} {N : Nat} {ds : List Value} (h : Fill w g t N ds) {j : Nat} {u : Value} (hj : ds[j]? = some u) : w.cell? ⟨g, j, none⟩ = some u := by have := h.cells j u hj; simpa using this

end Go.Proofs.YtegekccoincicaaGreatDoor
