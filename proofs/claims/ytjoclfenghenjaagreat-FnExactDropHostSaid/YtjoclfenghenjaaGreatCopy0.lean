/- Blocks with given cells. No condition. -/
import Derived.Test.YtjoclfenghenjaaGreatMarks0
import Derived.Test.YtjoclfenghenjaaGreatSums0
import Derived.Deep.Upon
import Derived.Deep.AppendSrc
import Derived.Test.YtjoclfenghenjaaGreatBase0
import Derived.Lib.SliceRun
import Derived.Test.YtjoclfenghenjaaGreatToFlat
namespace Go.Proofs.YtjoclfenghenjaaGreat
open Go.ChangeShapes Go.WideShapes Go.ChangeAt Go.RowKit
set_option linter.unusedVariables false
set_option linter.unusedSimpArgs false

/-- block g holds these cells -/
def Blk (w : World) (g : Nat) (cs : List Value) : Prop := ∃ t, w.heap[g]? = some (.cells cs.toArray t (0, 0))
section
variable {w w' : World} {g : Nat} {cs : List Value}
theorem Blk.lt (h : Blk w g cs) : g < w.heap.size := by
  obtain ⟨t, h⟩ := h
  rcases Nat.lt_or_ge g w.heap.size with hlt | hge
  · exact hlt
  · rw [Array.getElem?_eq_none hge] at h; cases h
theorem Blk.cell (h : Blk w g cs) {i : Nat} {u : Value} (hi : cs[i]? = some u) : w.cell? ⟨g, i, none⟩ = some u := by
  obtain ⟨t, h⟩ := h
  rw [cell_of_row w g i _ t (0, 0) h]
  simpa using hi
theorem Blk.fz (h : Blk w g cs) (i : Nat) : w.frozen? ⟨g, i, none⟩ = false := by obtain ⟨t, h⟩ := h; simp [World.frozen?, h]
theorem Blk.keep (h : Blk w g cs) (hk : w'.heap[g]? = w.heap[g]?) : Blk w' g cs := by obtain ⟨t, h⟩ := h; exact ⟨t, hk.trans h⟩
theorem Blk.put (h : Blk w g cs) (i : Nat) (u : Value) : Blk (w.setCell ⟨g, i, none⟩ u) g (cs.set i u) := by
  obtain ⟨t, h⟩ := h
  exact ⟨t, by simp [World.setCell, Array.getElem?_modify, h]⟩
theorem Blk.far (h : Blk w g cs) {c : Nat} (hc : c ≠ g) (i : Nat) (u : Value) : Blk (w.setCell ⟨c, i, none⟩ u) g cs := h.keep (Below.heap_setCell _ _ _ _ (by dsimp only; omega))
theorem Blk.new (w : World) (cs : List Value) (t : TypeId) : Blk (w.alloc (.cells cs.toArray t)) w.heap.size cs := ⟨t, heap_alloc_new w _⟩
theorem Blk.ext (h : Blk w g cs) (hb : Below w.heap.size w w') : Blk w' g cs := h.keep (hb.block g h.lt)
theorem Blk.upd {b : Nat} (h : Blk w g cs) (hu : Upd [b] w w') (hg : g ≠ b) : Blk w' g cs := h.keep (hu.block g h.lt (by simpa using hg))
end

end Go.Proofs.YtjoclfenghenjaaGreat

namespace Go.Proofs.YtjoclfenghenjaaGreat
open Go.ChangeShapes Go.WideShapes Go.ChangeAt Go.RowKit
set_option linter.unusedVariables false
set_option linter.unusedSimpArgs false
theorem row_sliceK {w : World} {B e size n : Nat} {v : Value} {xs : List Value} (h : w.ownsRow B e size v n xs) : ∃ A c, v = .slice A n c := by
  rcases h.2 with ⟨rfl, hn⟩ | ⟨g, cap, cur, rfl, _⟩
  · subst hn; exact ⟨none, 0, rfl⟩
  · exact ⟨_, _, rfl⟩
theorem row_setK {w : World} {B e size n c i : Nat} {v u : Value} {xs : List Value} (h : w.ownsRow B e size v n xs) (hc : ∀ g, v.ownBlock = some g → g ≠ c) : (w.setCell ⟨c, i, none⟩ u).ownsRow B e size v n xs :=
  h.kept (row := some c) ⟨rfl, rfl, rfl, by simp [World.setCell], fun k hk hne => Below.heap_setCell _ _ _ _ (by intro e; apply hne; rw [e])⟩ (by
    by_cases hv : v.ownBlock = some c
    · exact absurd rfl (hc c hv)
    · exact .inr hv)
section
variable {α : Type} [Dat α]
theorem OwnCells.pushK {w w' : World} {B B5 e size n : Nat} {v v' : Value} {xs : List α} {ds us cs : List Value} {F G : List Nat} {x : α} (row : w.ownsRow B e size v n us) (hcs : OwnCells w B xs ds F) (hne : ∀ g, v.ownBlock = some g → g ∉ F)
    (hx : Own w B5 x cs G) (h5 : B ≤ B5) (hv5 : ∀ g, v.ownBlock = some g → g < B5) (hF : ∀ y ∈ F, y < B5) (hg : w.grownBy w' v.ownBlock) (hat : v'.ownBlock = v.ownBlock ∨ v'.ownBlock = some (w.heap.size + 1)) :
    OwnCells w' B (xs ++ [x]) (ds ++ cs) (F ++ G) ∧ ∀ g, v'.ownBlock = some g → g ∉ F ++ G := by
  have h1 := hcs.push hx h5 hF
  have hno : ∀ g, v.ownBlock = some g → g ∉ F ++ G := fun g hv hm => by
    rcases List.mem_append.1 hm with hm | hm
    · exact hne g hv hm
    · have := hx.base g hm; have := hv5 g hv; omega
  refine ⟨h1.keep (fun y hy => hg.block y (h1.lt y hy) (fun hv => hno y hv.symm hy)) hg.size, fun g hv hm => ?_⟩
  rcases hat with hat | hat
  · exact hno g (hat.symm.trans hv) hm
  · have h2 := h1.lt g hm
    rw [hat] at hv
    injection hv with hv
    omega
end
theorem wp_appendK {P : Program} {t e : TypeId} {z : Value} {size bytes : Nat} (hE : ElOk P t e z size bytes) {o : Oper} {a : Act} {K : Act → World → Prop} {Q : Exit → Act → World → Prop} (s x : Operand)
    (ho : o.op = .call { callee := .builtin .append, args := #[s, x], argTypes := #[t, t] })
    (w : World) (base : Nat) (v : Value) (n : Nat) (xs : List Value) (hown : w.ownsRow base e size v n xs) (hs : a.eval s = v)
    (cs : List Value) (hx : a.eval x = .slice (some ⟨w.heap.size, 0, none⟩) 1 1) (hl : cs.length = size) (h1 : ∀ u ∈ cs, u.oneCell' = true)
    (hn : n ≤ 2097152) (hby : bytes ≤ 4096) (hbase : base ≤ w.heap.size)
    (h : ∀ v' w', w'.ownsRow base e size v' (n + 1) (xs ++ cs) → w.grownBy w' v.ownBlock → w.heap.size + 1 ≤ w'.heap.size → (v'.ownBlock = v.ownBlock ∨ v'.ownBlock = some (w.heap.size + 1)) → K (a.put o.dst v') w') : o.wp P a (w.alloc (.cells cs.toArray e)) K Q := by
  obtain ⟨ht, hi0, hzs, hsz⟩ := hE
  obtain ⟨i, hi, hz, hsize, hb⟩ := info_parts hi0
  have hbb : (n + 1) * bytes ≤ 2097153 * 4096 := Nat.mul_le_mul (by omega) hby
  have hnews : ∀ j u, cs[j]? = some u → (w.alloc (.cells cs.toArray e)).cell? ((⟨w.heap.size, 0, none⟩ : Addr).add j) = some u := by
    intro j u hu
    rw [Addr.add]
    have hc := cell_of_row (w.alloc (.cells cs.toArray e)) w.heap.size j cs.toArray e (0, 0) (heap_alloc_new w _)
    split
    · rename_i hj; subst hj; rw [hc]; simpa using hu
    · simp only [Nat.zero_add]; rw [hc]; simpa using hu
  obtain ⟨v', w', hr, h2, h3, h4, h5⟩ := run_append_own_at (P := P) (w.alloc (.cells cs.toArray e)) base t o.type e i z size bytes ht hi hz hsize hb hzs hsz v n xs (hown.alloc _) ⟨w.heap.size, 0, none⟩ 1 1 cs (by omega) hnews h1 (by unfold maxLen; omega) (by omega) (by simp; omega)
  unfold Oper.wp execOp
  simp only [ho, resolve, invoke, builtin, Sem.run_bind, Sem.run_pure, Result.andThen_ok, List.map_toArray, List.map_cons, List.map_nil, hs, hx, hr]
  refine h v' w' h2 ⟨h3.os, h3.tape, h3.output, Nat.le_trans (by simp) h3.size, fun k hk hne => ?_⟩ (by have := h3.size; simpa using this) (by simpa using h5)
  rw [h3.block k (by simp; omega) hne]
  exact Below.heap_alloc _ _ _ hk

/-- append of a whole slice to a row of the call's own -/
theorem wpList_appendN {α : Type} [Dat α] {P : Program} {t e : TypeId} {z : Value} {size bytes : Nat} (hE : ElOk P t e z size bytes) (hd : Dat.size α = size) {ops : Array Oper} {rest : List Oper} {o : Oper} {a : Act} {Q : Exit → Act → World → Prop} (hgd : o.guard = none) (s x : Operand)
    (ho : o.op = .call { callee := .builtin .append, args := #[s, x], argTypes := #[t, t] })
    (w : World) (base : Nat) (v : Value) (n : Nat) (xs : List Value) (hown : w.ownsRow base e size v n xs) (hs : a.eval s = v)
    (ys : List α) (A : Option Addr) (c : Nat) (F : List Nat) (hsl : Sl w ys A c F) (hx : a.eval x = .slice A ys.length c)
    (hn : n + ys.length ≤ 2097152) (hby : bytes ≤ 4096) (hbase : base ≤ w.heap.size)
    (h : ∀ v' w' ds G, rdCells w ys ds G → (∀ b ∈ G, b ∈ F) → w'.ownsRow base e size v' (n + ys.length) (xs ++ ds) → w.grownBy w' v.ownBlock → (v'.ownBlock = v.ownBlock ∨ v'.ownBlock = some w.heap.size) → wpList P ops Q rest (a.put o.dst v') w') : wpList P ops Q (o :: rest) a w := by
  subst hd
  obtain ⟨ht, hi0, hzs, hsz⟩ := hE
  obtain ⟨i, hi, hz, hsize, hb⟩ := info_parts hi0
  have hbb : (n + ys.length) * bytes ≤ 2097152 * 4096 := Nat.mul_le_mul hn hby
  obtain ⟨A', c', G, ds, e0, h1, h2, hc, h0⟩ := hsl
  simp only [List.cons.injEq, Value.slice.injEq, and_true, true_and] at e0
  obtain ⟨rfl, rfl⟩ := e0
  have some_ : ∀ (ad : Addr), A = some ad → (∀ j u, ds[j]? = some u → w.cell? (ad.add j) = some u) → wpList P ops Q (o :: rest) a w := by
    intro ad hA hcell
    subst hA
    have hG : ∀ b ∈ G, b ∈ F := by
      rcases h0 with ⟨rfl, rfl⟩ | ⟨b, o', _, rfl, _⟩
      · rw [hc.2]; intro b hb; cases hb
      · intro x hx; exact List.mem_cons_of_mem _ hx
    exact wpList_append_own_at w hgd s x t ho base e i z (Dat.size α) bytes ht hi hz hsize hb hzs hsz v n xs hs hown ad ys.length c ds hx hc.len hcell hc.one (by unfold maxLen; omega) (by omega) hbase (fun v' w' hown' hg _ hat => h v' w' ds G hc hG hown' hg hat)
  rcases h0 with ⟨rfl, rfl⟩ | ⟨b, o', hA, rfl, hb, hcell⟩
  · obtain ⟨rfl, rfl⟩ := hc
    cases A with
    | some ad => exact some_ ad rfl (fun j u hu => by simp at hu)
    | none =>
      have fin : ∀ (A2 : Option Addr) (cap : Nat), v = .slice A2 n cap → n ≤ cap → wpList P ops Q (o :: rest) a w := by
        intro A2 cap hv hle
        refine wpList_plain hgd fun K hK => ?_
        have hr := run_append_nothing (P := P) w t t o.type e i ht hi A2 n cap hle (.slice none 0 c) (Src.ofNil w ht c)
        unfold Oper.wp execOp
        simp only [ho, resolve, invoke, builtin, Sem.run_bind, Sem.run_pure, Result.andThen_ok, List.map_toArray, List.map_cons, List.map_nil, hs, hv, hx, List.length_nil, hr]
        refine hK _ _ ?_
        subst hv
        exact h _ w [] [] ⟨rfl, rfl⟩ (fun b hb => hb) (by simpa using hown) ⟨rfl, rfl, rfl, Nat.le_refl _, fun _ _ _ => rfl⟩ (.inl rfl)
      rcases hown.2 with ⟨hv, hn0⟩ | ⟨g, cap, cur, hv, _, _, hle, _⟩
      · exact fin none 0 (by rw [hv, hn0]) (by omega)
      · exact fin _ cap hv hle
  · refine some_ _ hA fun j u hu => ?_
    rw [show (⟨b, o', none⟩ : Addr).add j = ⟨b, o' + j, none⟩ from by unfold Addr.add; split <;> simp_all]
    exact hcell j u hu
section
variable {α : Type} [Dat α] {w : World}
theorem rdCells_flat (hf : ∀ {w : World} {x : α} {cs : List Value} {F : List Nat}, rd w x cs F → F = []) : ∀ {xs : List α} {ds : List Value} {F : List Nat}, rdCells w xs ds F → F = []
  | [], _, _, h => h.2
  | x :: xs, _, _, ⟨c1, c2, F1, F2, _, rfl, h1, h2⟩ => by rw [hf h1, rdCells_flat hf h2]; rfl
/-- a row of the call's own whose elements have no blocks -/
theorem Own.of_flat {B : Nat} {e : TypeId} {v : Value} {xs : List α} {ds : List Value} {F : List Nat} (hf : ∀ {w : World} {x : α} {cs : List Value} {F : List Nat}, Go.Proofs.YtjoclfenghenjaaGreat.Dat.rd w x cs F → F = []) (h0 : w.ownsRow B e (Dat.size α) v xs.length ds) (h : rdCells w xs ds F) :
    ∃ A c G, v = .slice A xs.length c ∧ Own w B xs [.slice A xs.length c] G := by
  obtain rfl := rdCells_flat hf h
  exact Own.of_row h0 ⟨h, List.nodup_nil, (fun b hb => by cases hb), (fun b hb => by cases hb)⟩ (fun g _ hm => by cases hm)
end
theorem Fill.of_row {w : World} {B e size n : Nat} {v : Value} {ds : List Value} (h : w.ownsRow B e size v n ds) : (v = .slice none 0 0 ∧ n = 0) ∨ ∃ g cap N, v = .slice (some ⟨g, 0, none⟩) n cap ∧ B ≤ g ∧ Fill w g e N ds ∧ n ≤ cap ∧ cap ≤ maxLen := by
  rcases h with ⟨hl, h | ⟨g, cap, cur, rfl, hb, hh, hle, hm, hcs, ht⟩⟩
  · exact .inl h
  · refine .inr ⟨g, cap, cur.size, rfl, hb, ⟨cur, hh, rfl, ?_, fun j u hu => ?_⟩, hle, hm⟩
    · rw [hl, hcs]; exact Nat.mul_le_mul_right _ hle
    · have hj := (List.getElem?_eq_some_iff.1 hu).1
      rw [← ht, List.getElem?_take] at hu
      split at hu
      · simpa using hu
      · cases hu
theorem Fill.set {w : World} {g : Nat} {t : TypeId} {N : Nat} {ds : List Value} (h : Fill w g t N ds) {i : Nat} (hi : i < ds.length) (u : Value) : Fill (w.setCell ⟨g, i, none⟩ u) g t N (ds.set i u) := by
  obtain ⟨cs, h, rfl, hl, hc⟩ := h
  refine ⟨cs.setIfInBounds i u, ?_, by simp, by simpa using hl, fun j v hv => ?_⟩
  · simp [World.setCell, Array.getElem?_modify, h]
  · by_cases hj : i = j
    · subst hj
      rw [List.getElem?_set_self hi] at hv
      cases hv
      rw [Array.getElem?_setIfInBounds_self_of_lt (by omega)]
    · rw [List.getElem?_set_ne hj] at hv
      rw [Array.getElem?_setIfInBounds_ne hj]
      exact hc j v hv
theorem Fill.at_ {w : World} {g : Nat} {t : TypeId} {N : Nat} {ds : List Value} (h : Fill w g t N ds) {j : Nat} {u : Value} (hj : ds[j]? = some u) : w.cell? ⟨g, j, none⟩ = some u := by have := h.cells j u hj; simpa using this

end Go.Proofs.YtjoclfenghenjaaGreat

namespace Go.Proofs.YtjoclfenghenjaaGreat
open Go.ChangeShapes Go.WideShapes Go.ChangeAt Go.RowKit
set_option linter.unusedVariables false
set_option linter.unusedSimpArgs false
theorem infoCLabel : (Tryz.prog.info? 135).map (fun i => (i.zero, i.size, i.bytes)) = some (some ((.agg #[.string ⟨#[]⟩, .string ⟨#[]⟩])), 2, 32) := by kernel_rfl
theorem elCLabel : ElOk Tryz.prog 51 135 ((.agg #[.string ⟨#[]⟩, .string ⟨#[]⟩])) 2 32 := ⟨Tryz.underlying51, infoCLabel, rfl, by omega⟩
set_option maxRecDepth 100000 in
set_option maxHeartbeats 1000000 in
theorem cloneLabel_rows (xs : List Label) (A : Option Addr) (c : Nat) (F : List Nat) (w : World) (h : Sl w xs A c F) (hl : (xs.length : Int) ≤ 1048576) :
    Calls Tryz.prog 132 #[.slice A xs.length c] w fun e w' => ∃ A' c' ds G, e = .returned (.slice A' xs.length c') ∧ w'.ownsRow w.heap.size 135 2 (.slice A' xs.length c') xs.length ds ∧ rdCells w' xs ds G ∧ (∀ b ∈ G, b ∈ F) ∧ Below w.heap.size w w' := by
  cases A with
  | none =>
    obtain rfl : xs = [] := by
      obtain ⟨A', c', G, ds, e0, _, _, _, h0⟩ := h
      simp only [List.cons.injEq, Value.slice.injEq, and_true, true_and] at e0
      rcases h0 with h0 | ⟨b, o, hA, _⟩
      · exact h0.1
      · rw [← e0.1] at hA; cases hA
    have q22 : ∀ (w : World) (a : Option Addr) (n c n' c' : Nat), (binOp .eql 51 (.slice a n c) (.slice none n' c')).run Tryz.prog w = .ok (.bool a.isNone) w := fun w a n c n' c' => Lib.run_eql_slice_nil w _ _ a n c n' c' Tryz.underlying51
    go_enter Tryz.func132, Tryz.ntmps132
    go_wp2
    go_ret
    exact ⟨none, 0, [], [], rfl, World.ownsRow_nil w _ _ _, ⟨rfl, rfl⟩, (fun b hb => by cases hb), ext_refl _⟩
  | some ad =>
    have H := Lib.hid h
    clear h
    have q22 : ∀ (w : World) (a : Option Addr) (n c n' c' : Nat), (binOp .eql 51 (.slice a n c) (.slice none n' c')).run Tryz.prog w = .ok (.bool a.isNone) w := fun w a n c n' c' => Lib.run_eql_slice_nil w _ _ a n c n' c' Tryz.underlying51
    go_enter Tryz.func132, Tryz.ntmps132
    go_wp2_with (
      at_builtin
      go_must (refine wpList_appendN elCLabel (by rfl) (by rfl) _ _ (by rfl) _ w.heap.size _ 0 [] (World.ownsRow_made (size := 2) w #[] 0 (Nat.le_refl _) (Nat.zero_le _) (by simp)) (by rfl) xs (some ad) c F (H.out.ext (ext_alloc (ext_refl _) _)) (by rfl) (by omega) (by omega) (by simp) ?_)
      intro v2 w2 ds G hrc hsub hown hg hat
      go_must (obtain ⟨A2, c2, hv2⟩ := row_sliceK hown)
      go_must (subst hv2))
    simp only [Nat.zero_add, List.nil_append] at hown
    go_ret
    refine ⟨A2, c2, ds, G, by simp, hown, hrc.frame (fun b hb => hg.block b (hrc.lt b hb) (fun e => ?_)) hg.size, hsub, grown_ext (World.ownsRow_made (e := 135) (size := 2) w #[] 0 (Nat.le_refl _) (Nat.zero_le _) (by simp)) hg (ext_alloc (ext_refl _) _) (by simp)⟩
    have h1 := H.out.lt b (hsub b hb)
    simp [Value.ownBlock] at e
    omega
theorem flatLabel {w : World} {x : Label} {cs : List Value} {F : List Nat} (h : rd w x cs F) : F = [] := by obtain ⟨_, hF, _⟩ := rd_Label h; exact hF
theorem cloneLabel_any (xs : List Label) (A : Option Addr) (c : Nat) (F : List Nat) (w : World) (h : Sl w xs A c F) (hl : (xs.length : Int) ≤ 1048576) :
    Calls Tryz.prog 132 #[.slice A xs.length c] w fun e w' => ∃ A' c' F', e = .returned (.slice A' xs.length c') ∧ Own w' w.heap.size xs [.slice A' xs.length c'] F' ∧ Below w.heap.size w w' := by
  refine (cloneLabel_rows xs A c F w h hl).mono ?_
  rintro e w' ⟨A', c', ds, G, rfl, hown, hrc, _, hb⟩
  obtain ⟨A2, c2, G2, hv, hO⟩ := Own.of_flat flatLabel hown hrc
  simp only [Value.slice.injEq, true_and] at hv
  obtain ⟨rfl, rfl⟩ := hv
  exact ⟨A', c', G2, rfl, hO, hb⟩

theorem infoCTaint : (Tryz.prog.info? 162).map (fun i => (i.zero, i.size, i.bytes)) = some (some ((.agg #[.string ⟨#[]⟩, .string ⟨#[]⟩, .int .i64 0])), 3, 40) := by kernel_rfl
theorem elCTaint : ElOk Tryz.prog 80 162 ((.agg #[.string ⟨#[]⟩, .string ⟨#[]⟩, .int .i64 0])) 3 40 := ⟨Tryz.underlying80, infoCTaint, rfl, by omega⟩
set_option maxRecDepth 100000 in
set_option maxHeartbeats 1000000 in
theorem cloneTaint_rows (xs : List Taint) (A : Option Addr) (c : Nat) (F : List Nat) (w : World) (h : Sl w xs A c F) (hl : (xs.length : Int) ≤ 1048576) :
    Calls Tryz.prog 133 #[.slice A xs.length c] w fun e w' => ∃ A' c' ds G, e = .returned (.slice A' xs.length c') ∧ w'.ownsRow w.heap.size 162 3 (.slice A' xs.length c') xs.length ds ∧ rdCells w' xs ds G ∧ (∀ b ∈ G, b ∈ F) ∧ Below w.heap.size w w' := by
  cases A with
  | none =>
    obtain rfl : xs = [] := by
      obtain ⟨A', c', G, ds, e0, _, _, _, h0⟩ := h
      simp only [List.cons.injEq, Value.slice.injEq, and_true, true_and] at e0
      rcases h0 with h0 | ⟨b, o, hA, _⟩
      · exact h0.1
      · rw [← e0.1] at hA; cases hA
    have q22 : ∀ (w : World) (a : Option Addr) (n c n' c' : Nat), (binOp .eql 80 (.slice a n c) (.slice none n' c')).run Tryz.prog w = .ok (.bool a.isNone) w := fun w a n c n' c' => Lib.run_eql_slice_nil w _ _ a n c n' c' Tryz.underlying80
    go_enter Tryz.func133, Tryz.ntmps133
    go_wp2
    go_ret
    exact ⟨none, 0, [], [], rfl, World.ownsRow_nil w _ _ _, ⟨rfl, rfl⟩, (fun b hb => by cases hb), ext_refl _⟩
  | some ad =>
    have H := Lib.hid h
    clear h
    have q22 : ∀ (w : World) (a : Option Addr) (n c n' c' : Nat), (binOp .eql 80 (.slice a n c) (.slice none n' c')).run Tryz.prog w = .ok (.bool a.isNone) w := fun w a n c n' c' => Lib.run_eql_slice_nil w _ _ a n c n' c' Tryz.underlying80
    go_enter Tryz.func133, Tryz.ntmps133
    go_wp2_with (
      at_builtin
      go_must (refine wpList_appendN elCTaint (by rfl) (by rfl) _ _ (by rfl) _ w.heap.size _ 0 [] (World.ownsRow_made (size := 3) w #[] 0 (Nat.le_refl _) (Nat.zero_le _) (by simp)) (by rfl) xs (some ad) c F (H.out.ext (ext_alloc (ext_refl _) _)) (by rfl) (by omega) (by omega) (by simp) ?_)
      intro v2 w2 ds G hrc hsub hown hg hat
      go_must (obtain ⟨A2, c2, hv2⟩ := row_sliceK hown)
      go_must (subst hv2))
    simp only [Nat.zero_add, List.nil_append] at hown
    go_ret
    refine ⟨A2, c2, ds, G, by simp, hown, hrc.frame (fun b hb => hg.block b (hrc.lt b hb) (fun e => ?_)) hg.size, hsub, grown_ext (World.ownsRow_made (e := 162) (size := 3) w #[] 0 (Nat.le_refl _) (Nat.zero_le _) (by simp)) hg (ext_alloc (ext_refl _) _) (by simp)⟩
    have h1 := H.out.lt b (hsub b hb)
    simp [Value.ownBlock] at e
    omega
theorem flatTaint {w : World} {x : Taint} {cs : List Value} {F : List Nat} (h : rd w x cs F) : F = [] := by obtain ⟨_, hF, _⟩ := rd_Taint h; exact hF
theorem cloneTaint_any (xs : List Taint) (A : Option Addr) (c : Nat) (F : List Nat) (w : World) (h : Sl w xs A c F) (hl : (xs.length : Int) ≤ 1048576) :
    Calls Tryz.prog 133 #[.slice A xs.length c] w fun e w' => ∃ A' c' F', e = .returned (.slice A' xs.length c') ∧ Own w' w.heap.size xs [.slice A' xs.length c'] F' ∧ Below w.heap.size w w' := by
  refine (cloneTaint_rows xs A c F w h hl).mono ?_
  rintro e w' ⟨A', c', ds, G, rfl, hown, hrc, _, hb⟩
  obtain ⟨A2, c2, G2, hv, hO⟩ := Own.of_flat flatTaint hown hrc
  simp only [Value.slice.injEq, true_and] at hv
  obtain ⟨rfl, rfl⟩ := hv
  exact ⟨A', c', G2, rfl, hO, hb⟩

theorem infoCTolerance : (Tryz.prog.info? 139).map (fun i => (i.zero, i.size, i.bytes)) = some (some ((.agg #[.string ⟨#[]⟩, .bool false, .string ⟨#[]⟩, .int .i64 0])), 4, 48) := by kernel_rfl
theorem elCTolerance : ElOk Tryz.prog 53 139 ((.agg #[.string ⟨#[]⟩, .bool false, .string ⟨#[]⟩, .int .i64 0])) 4 48 := ⟨Tryz.underlying53, infoCTolerance, rfl, by omega⟩
set_option maxRecDepth 100000 in
set_option maxHeartbeats 1000000 in
theorem cloneTolerance_rows (xs : List Tolerance) (A : Option Addr) (c : Nat) (F : List Nat) (w : World) (h : Sl w xs A c F) (hl : (xs.length : Int) ≤ 1048576) :
    Calls Tryz.prog 135 #[.slice A xs.length c] w fun e w' => ∃ A' c' ds G, e = .returned (.slice A' xs.length c') ∧ w'.ownsRow w.heap.size 139 4 (.slice A' xs.length c') xs.length ds ∧ rdCells w' xs ds G ∧ (∀ b ∈ G, b ∈ F) ∧ Below w.heap.size w w' := by
  cases A with
  | none =>
    obtain rfl : xs = [] := by
      obtain ⟨A', c', G, ds, e0, _, _, _, h0⟩ := h
      simp only [List.cons.injEq, Value.slice.injEq, and_true, true_and] at e0
      rcases h0 with h0 | ⟨b, o, hA, _⟩
      · exact h0.1
      · rw [← e0.1] at hA; cases hA
    have q22 : ∀ (w : World) (a : Option Addr) (n c n' c' : Nat), (binOp .eql 53 (.slice a n c) (.slice none n' c')).run Tryz.prog w = .ok (.bool a.isNone) w := fun w a n c n' c' => Lib.run_eql_slice_nil w _ _ a n c n' c' Tryz.underlying53
    go_enter Tryz.func135, Tryz.ntmps135
    go_wp2
    go_ret
    exact ⟨none, 0, [], [], rfl, World.ownsRow_nil w _ _ _, ⟨rfl, rfl⟩, (fun b hb => by cases hb), ext_refl _⟩
  | some ad =>
    have H := Lib.hid h
    clear h
    have q22 : ∀ (w : World) (a : Option Addr) (n c n' c' : Nat), (binOp .eql 53 (.slice a n c) (.slice none n' c')).run Tryz.prog w = .ok (.bool a.isNone) w := fun w a n c n' c' => Lib.run_eql_slice_nil w _ _ a n c n' c' Tryz.underlying53
    go_enter Tryz.func135, Tryz.ntmps135
    go_wp2_with (
      at_builtin
      go_must (refine wpList_appendN elCTolerance (by rfl) (by rfl) _ _ (by rfl) _ w.heap.size _ 0 [] (World.ownsRow_made (size := 4) w #[] 0 (Nat.le_refl _) (Nat.zero_le _) (by simp)) (by rfl) xs (some ad) c F (H.out.ext (ext_alloc (ext_refl _) _)) (by rfl) (by omega) (by omega) (by simp) ?_)
      intro v2 w2 ds G hrc hsub hown hg hat
      go_must (obtain ⟨A2, c2, hv2⟩ := row_sliceK hown)
      go_must (subst hv2))
    simp only [Nat.zero_add, List.nil_append] at hown
    go_ret
    refine ⟨A2, c2, ds, G, by simp, hown, hrc.frame (fun b hb => hg.block b (hrc.lt b hb) (fun e => ?_)) hg.size, hsub, grown_ext (World.ownsRow_made (e := 139) (size := 4) w #[] 0 (Nat.le_refl _) (Nat.zero_le _) (by simp)) hg (ext_alloc (ext_refl _) _) (by simp)⟩
    have h1 := H.out.lt b (hsub b hb)
    simp [Value.ownBlock] at e
    omega
theorem flatTolerance {w : World} {x : Tolerance} {cs : List Value} {F : List Nat} (h : rd w x cs F) : F = [] := by obtain ⟨_, hF, _⟩ := rd_Tolerance h; exact hF
theorem cloneTolerance_any (xs : List Tolerance) (A : Option Addr) (c : Nat) (F : List Nat) (w : World) (h : Sl w xs A c F) (hl : (xs.length : Int) ≤ 1048576) :
    Calls Tryz.prog 135 #[.slice A xs.length c] w fun e w' => ∃ A' c' F', e = .returned (.slice A' xs.length c') ∧ Own w' w.heap.size xs [.slice A' xs.length c'] F' ∧ Below w.heap.size w w' := by
  refine (cloneTolerance_rows xs A c F w h hl).mono ?_
  rintro e w' ⟨A', c', ds, G, rfl, hown, hrc, _, hb⟩
  obtain ⟨A2, c2, G2, hv, hO⟩ := Own.of_flat flatTolerance hown hrc
  simp only [Value.slice.injEq, true_and] at hv
  obtain ⟨rfl, rfl⟩ := hv
  exact ⟨A', c', G2, rfl, hO, hb⟩

theorem infoCString : (Tryz.prog.info? 9).map (fun i => (i.zero, i.size, i.bytes)) = some (some (.string ⟨#[]⟩), 1, 16) := by kernel_rfl
theorem elCString : ElOk Tryz.prog 49 9 (.string ⟨#[]⟩) 1 16 := ⟨Tryz.underlying49, infoCString, rfl, by omega⟩
set_option maxRecDepth 100000 in
set_option maxHeartbeats 1000000 in
theorem cloneString_rows (xs : List ByteArray) (A : Option Addr) (c : Nat) (F : List Nat) (w : World) (h : Sl w xs A c F) (hl : (xs.length : Int) ≤ 1048576) :
    Calls Tryz.prog 169 #[.slice A xs.length c] w fun e w' => ∃ A' c' ds G, e = .returned (.slice A' xs.length c') ∧ w'.ownsRow w.heap.size 9 1 (.slice A' xs.length c') xs.length ds ∧ rdCells w' xs ds G ∧ (∀ b ∈ G, b ∈ F) ∧ Below w.heap.size w w' := by
  cases A with
  | none =>
    obtain rfl : xs = [] := by
      obtain ⟨A', c', G, ds, e0, _, _, _, h0⟩ := h
      simp only [List.cons.injEq, Value.slice.injEq, and_true, true_and] at e0
      rcases h0 with h0 | ⟨b, o, hA, _⟩
      · exact h0.1
      · rw [← e0.1] at hA; cases hA
    have q22 : ∀ (w : World) (a : Option Addr) (n c n' c' : Nat), (binOp .eql 49 (.slice a n c) (.slice none n' c')).run Tryz.prog w = .ok (.bool a.isNone) w := fun w a n c n' c' => Lib.run_eql_slice_nil w _ _ a n c n' c' Tryz.underlying49
    go_enter Tryz.func169, Tryz.ntmps169
    go_wp2
    go_ret
    exact ⟨none, 0, [], [], rfl, World.ownsRow_nil w _ _ _, ⟨rfl, rfl⟩, (fun b hb => by cases hb), ext_refl _⟩
  | some ad =>
    have H := Lib.hid h
    clear h
    have q22 : ∀ (w : World) (a : Option Addr) (n c n' c' : Nat), (binOp .eql 49 (.slice a n c) (.slice none n' c')).run Tryz.prog w = .ok (.bool a.isNone) w := fun w a n c n' c' => Lib.run_eql_slice_nil w _ _ a n c n' c' Tryz.underlying49
    go_enter Tryz.func169, Tryz.ntmps169
    go_wp2_with (
      at_builtin
      go_must (refine wpList_appendN elCString (by rfl) (by rfl) _ _ (by rfl) _ w.heap.size _ 0 [] (World.ownsRow_made (size := 1) w #[] 0 (Nat.le_refl _) (Nat.zero_le _) (by simp)) (by rfl) xs (some ad) c F (H.out.ext (ext_alloc (ext_refl _) _)) (by rfl) (by omega) (by omega) (by simp) ?_)
      intro v2 w2 ds G hrc hsub hown hg hat
      go_must (obtain ⟨A2, c2, hv2⟩ := row_sliceK hown)
      go_must (subst hv2))
    simp only [Nat.zero_add, List.nil_append] at hown
    go_ret
    refine ⟨A2, c2, ds, G, by simp, hown, hrc.frame (fun b hb => hg.block b (hrc.lt b hb) (fun e => ?_)) hg.size, hsub, grown_ext (World.ownsRow_made (e := 9) (size := 1) w #[] 0 (Nat.le_refl _) (Nat.zero_le _) (by simp)) hg (ext_alloc (ext_refl _) _) (by simp)⟩
    have h1 := H.out.lt b (hsub b hb)
    simp [Value.ownBlock] at e
    omega
theorem flatString {w : World} {x : ByteArray} {cs : List Value} {F : List Nat} (h : rd w x cs F) : F = [] := h.2.1
theorem cloneString_any (xs : List ByteArray) (A : Option Addr) (c : Nat) (F : List Nat) (w : World) (h : Sl w xs A c F) (hl : (xs.length : Int) ≤ 1048576) :
    Calls Tryz.prog 169 #[.slice A xs.length c] w fun e w' => ∃ A' c' F', e = .returned (.slice A' xs.length c') ∧ Own w' w.heap.size xs [.slice A' xs.length c'] F' ∧ Below w.heap.size w w' := by
  refine (cloneString_rows xs A c F w h hl).mono ?_
  rintro e w' ⟨A', c', ds, G, rfl, hown, hrc, _, hb⟩
  obtain ⟨A2, c2, G2, hv, hO⟩ := Own.of_flat flatString hown hrc
  simp only [Value.slice.injEq, true_and] at hv
  obtain ⟨rfl, rfl⟩ := hv
  exact ⟨A', c', G2, rfl, hO, hb⟩

theorem infoCNeed : (Tryz.prog.info? 137).map (fun i => (i.zero, i.size, i.bytes)) = some (some ((.agg #[.string ⟨#[]⟩, .int .i64 0, .slice none 0 0])), 3, 48) := by kernel_rfl
theorem elCNeed : ElOk Tryz.prog 52 137 ((.agg #[.string ⟨#[]⟩, .int .i64 0, .slice none 0 0])) 3 48 := ⟨Tryz.underlying52, infoCNeed, rfl, by omega⟩
set_option maxRecDepth 100000 in
set_option maxHeartbeats 1000000 in
theorem cloneNeed_rows (xs : List Need) (A : Option Addr) (c : Nat) (F : List Nat) (w : World) (h : Sl w xs A c F) (hl : (xs.length : Int) ≤ 1048576) :
    Calls Tryz.prog 168 #[.slice A xs.length c] w fun e w' => ∃ A' c' ds G, e = .returned (.slice A' xs.length c') ∧ w'.ownsRow w.heap.size 137 3 (.slice A' xs.length c') xs.length ds ∧ rdCells w' xs ds G ∧ (∀ b ∈ G, b ∈ F) ∧ Below w.heap.size w w' := by
  cases A with
  | none =>
    obtain rfl : xs = [] := by
      obtain ⟨A', c', G, ds, e0, _, _, _, h0⟩ := h
      simp only [List.cons.injEq, Value.slice.injEq, and_true, true_and] at e0
      rcases h0 with h0 | ⟨b, o, hA, _⟩
      · exact h0.1
      · rw [← e0.1] at hA; cases hA
    have q22 : ∀ (w : World) (a : Option Addr) (n c n' c' : Nat), (binOp .eql 52 (.slice a n c) (.slice none n' c')).run Tryz.prog w = .ok (.bool a.isNone) w := fun w a n c n' c' => Lib.run_eql_slice_nil w _ _ a n c n' c' Tryz.underlying52
    go_enter Tryz.func168, Tryz.ntmps168
    go_wp2
    go_ret
    exact ⟨none, 0, [], [], rfl, World.ownsRow_nil w _ _ _, ⟨rfl, rfl⟩, (fun b hb => by cases hb), ext_refl _⟩
  | some ad =>
    have H := Lib.hid h
    clear h
    have q22 : ∀ (w : World) (a : Option Addr) (n c n' c' : Nat), (binOp .eql 52 (.slice a n c) (.slice none n' c')).run Tryz.prog w = .ok (.bool a.isNone) w := fun w a n c n' c' => Lib.run_eql_slice_nil w _ _ a n c n' c' Tryz.underlying52
    go_enter Tryz.func168, Tryz.ntmps168
    go_wp2_with (
      at_builtin
      go_must (refine wpList_appendN elCNeed (by rfl) (by rfl) _ _ (by rfl) _ w.heap.size _ 0 [] (World.ownsRow_made (size := 3) w #[] 0 (Nat.le_refl _) (Nat.zero_le _) (by simp)) (by rfl) xs (some ad) c F (H.out.ext (ext_alloc (ext_refl _) _)) (by rfl) (by omega) (by omega) (by simp) ?_)
      intro v2 w2 ds G hrc hsub hown hg hat
      go_must (obtain ⟨A2, c2, hv2⟩ := row_sliceK hown)
      go_must (subst hv2))
    simp only [Nat.zero_add, List.nil_append] at hown
    go_ret
    refine ⟨A2, c2, ds, G, by simp, hown, hrc.frame (fun b hb => hg.block b (hrc.lt b hb) (fun e => ?_)) hg.size, hsub, grown_ext (World.ownsRow_made (e := 137) (size := 3) w #[] 0 (Nat.le_refl _) (Nat.zero_le _) (by simp)) hg (ext_alloc (ext_refl _) _) (by simp)⟩
    have h1 := H.out.lt b (hsub b hb)
    simp [Value.ownBlock] at e
    omega

end Go.Proofs.YtjoclfenghenjaaGreat

namespace Go.Proofs.YtjoclfenghenjaaGreat
open Go.ChangeShapes Go.WideShapes Go.ChangeAt Go.RowKit
set_option linter.unusedVariables false
set_option linter.unusedSimpArgs false
set_option maxRecDepth 100000 in
set_option maxHeartbeats 2000000 in
/-- copyNeeds: the same needs, in memory of their own -/
theorem copyNeeds_any (xs : List Need) (A : Option Addr) (c : Nat) (F : List Nat) (w : World) (h : Sl w xs A c F) (hl : (xs.length : Int) ≤ 1048576) (hv : ∀ x ∈ xs, (x.values.length : Int) ≤ 1048576) :
    Calls Tryz.prog 134 #[.slice A xs.length c] w fun e w' => ∃ A' c' F', e = .returned (.slice A' xs.length c') ∧ Own w' w.heap.size xs [.slice A' xs.length c'] F' ∧ Below w.heap.size w w' := by
  have HV := Lib.hid hv
  clear hv
  go_enter Tryz.func134, Tryz.ntmps134
  go_wp2_with fail
  refine (cloneNeed_rows xs A c F w h hl).mono ?_
  rintro e w1 ⟨A', c', ds, G, rfl, hown, hrc, hsub, hb1⟩
  rcases Fill.of_row hown with ⟨hv, hn⟩ | ⟨g, cap, N, hv, hg, hfill, hcap, hmx⟩
  · obtain rfl := List.eq_nil_of_length_eq_zero hn
    simp only [Value.slice.injEq] at hv
    obtain ⟨rfl, _, rfl⟩ := hv
    clear hown hrc
    simp only [List.length_nil] at *
    have hlt : (0 : Int) < 0 ↔ False := by simp
    go_wp2_with fail
    go_loopw [10] (fun i wr => i = .int .i64 0 ∧ wr = w1) (fun _ _ => 0)
    case atStart => exact ⟨rfl, rfl⟩
    case round =>
      obtain ⟨rfl, rfl⟩ := hrel
      go_wp2
      go_ret
      exact ⟨_, _, _, rfl, ⟨Sl.nil _ none 0 (Nat.zero_le _), List.nodup_nil, (fun b hb => by cases hb), (fun b hb => by cases hb)⟩, hb1⟩
  · simp only [Value.slice.injEq, true_and] at hv
    obtain ⟨rfl, rfl⟩ := hv
    clear hown
    go_wp2_with fail
    go_loopw [10] (fun i wr => ∃ (k : Nat) (es d2 : List Value) (G2 F' : List Nat), k ≤ xs.length ∧ i = .int .i64 k ∧ Hid (es.length = k * 3) ∧ Fill wr g 137 N (es ++ d2) ∧ rdCells w1 (xs.drop k) d2 G2 ∧ OwnCells wr (g + 1) (xs.take k) es F' ∧ Below w.heap.size w wr) (fun i _ => xs.length - (intOf i).toNat)
    case atStart => exact ⟨0, [], ds, G, [], Nat.zero_le _, rfl, by show _ = _; simp, by simpa using hfill, by simpa using hrc, OwnCells.nil _ _, hb1⟩
    case round =>
      obtain ⟨k, es, d2, G2, F', hk, rfl, hd, hf, hr2, hO, hbl⟩ := hrel
      by_cases hlt : k < xs.length
      · have hdk : xs.drop k = xs[k] :: xs.drop (k + 1) := (List.getElem_cons_drop ..).symm
        rw [hdk] at hr2
        obtain ⟨c1, d3, F1, F3, rfl, _, hr3, hr4⟩ := hr2
        obtain ⟨Avalues3, cvalues3, Fvalues3, hck, hF3, hkey3, hop3, hvalues3⟩ := rd_Need hr3
        subst hck
        clear hF3 hr3 hdk
        obtain ⟨b, o, ck, Fk, rfl, hbF, hbs, hr, hsub2, hc⟩ := (h.ext hbl).get hlt
        obtain ⟨Avalues1, cvalues1, Fvalues1, hck, hF1, hkey1, hop1, hvalues1⟩ := rd_Need hr
        subst hck
        clear hF1 hr
        have q0 : wr.cell? ⟨b, o + k * 3, none⟩ = some (.string xs[k].key) := by exact hc 0 _ rfl
        have q1 : wr.cell? ⟨b, o + k * 3 + 1, none⟩ = some (.int .i64 xs[k].op) := by rw [Nat.add_assoc]; exact hc 1 _ rfl
        have q2 : wr.cell? ⟨b, o + k * 3 + 2, none⟩ = some (.slice Avalues1 xs[k].values.length cvalues1) := by rw [Nat.add_assoc]; exact hc 2 _ rfl
        clear hc
        have hvl := HV.out xs[k] (List.getElem_mem hlt)
        have hfl := hf.lt
        have hlf : (es ++ (([.string xs[k].key, .int .i64 xs[k].op, .slice Avalues3 xs[k].values.length cvalues3] : List Value) ++ d3)).length ≤ N := by obtain ⟨_, _, _, h3, _⟩ := hf; exact h3
        simp only [List.length_append, List.length_cons, List.length_nil] at hlf
        go_wp2_with fail
        refine (cloneString_any xs[k].values _ _ _ _ (hvalues1.ext (by repeat (first | with_reducible exact ext_refl _ | with_reducible assumption | with_reducible refine ext_alloc ?_ _ | with_reducible refine ext_trans ?_ (by assumption)))) hvl).mono ?_
        rintro e w2 ⟨A2, c2, G2', rfl, hO2, hb2⟩
        have hb12 : Below wr.heap.size wr w2 := ext_trans (ext_alloc (ext_refl _) _) hb2
        have hfW := hf.keep (hb12.block _ hfl)
        have hfz := hfW.frozen (k * 3 + 2)
        obtain ⟨u2, hu2⟩ : ∃ u, w2.cell? ⟨g, k * 3 + 2, none⟩ = some u := hfW.cell (i := k * 3 + 2) (by have := hd.out; omega)
        have hzz : wr.heap.size < w2.heap.size := by have := hb2.size; simp at this; omega
        go_wp2_with fail
        have hF := hfW.set (i := k * 3 + 2) (by have := hd.out; simp; omega) (.slice A2 xs[k].values.length c2)
        have hset : (es ++ (([.string xs[k].key, .int .i64 xs[k].op, .slice Avalues3 xs[k].values.length cvalues3] : List Value) ++ d3)).set (k * 3 + 2) (.slice A2 xs[k].values.length c2) = (es ++ [.string xs[k].key, .int .i64 xs[k].op, .slice A2 xs[k].values.length c2]) ++ d3 := by
          rw [List.set_append_right _ _ (show es.length ≤ k * 3 + 2 from by have := hd.out; omega), show k * 3 + 2 - es.length = 2 from by have := hd.out; omega]
          simp
        rw [hset] at hF
        have hOn : Own w2 (g + 1) xs[k] [.string xs[k].key, .int .i64 xs[k].op, .slice A2 xs[k].values.length c2] G2' := by
          refine Own.up (B' := g + 1) (fun x : Need => (x.key, x.op, x.values)) ?_ (Nat.le_refl _)
          refine Own.cons (c1 := [.string xs[k].key]) (rdStr _ _ (sz63 hkey1)) ?_
          refine Own.cons (c1 := [.int .i64 xs[k].op]) (rdInt _ _ hop1) ?_
          exact hO2.mono (by simp; omega)
        have hP := (hO.ext hb12).push (B' := wr.heap.size) (x := xs[k]) ⟨hOn.rd, hOn.nodup, fun b hb => by have := hO2.base b hb; simp at this; omega, hOn.plain⟩ hfl hO.lt
        rw [← List.take_succ_eq_append_getElem hlt] at hP
        exact ⟨⟨k + 1, es ++ [.string xs[k].key, .int .i64 xs[k].op, .slice A2 xs[k].values.length c2], d3, F3, _, by omega, by go_num, by show _ = _; (simp [hd.out]) <;> omega, hF, hr4, hP.setCell (p := ⟨g, k * 3 + 2, none⟩) (Nat.lt_succ_self _) _, ext_setCell (ext_trans hbl hb12) hg _⟩, by simp [intOf]; omega⟩
      · have hkl : k = xs.length := by omega
        subst hkl
        rw [List.drop_length] at hr2
        obtain ⟨rfl, _⟩ := hr2
        rw [List.append_nil] at hf
        rw [List.take_length] at hO
        go_wp2
        go_ret
        exact ⟨_, _, _, rfl, (Own.of_fill hf hO hcap hmx).mono hg, hbl⟩
set_option maxRecDepth 100000 in
set_option maxHeartbeats 2000000 in
/-- l15Copy: the same needs, in memory of their own -/
theorem l15Copy_any (xs : List Need) (A : Option Addr) (c : Nat) (F : List Nat) (w : World) (h : Sl w xs A c F) (hl : (xs.length : Int) ≤ 1048576) (hv : ∀ x ∈ xs, (x.values.length : Int) ≤ 1048576) :
    Calls Tryz.prog 124 #[.slice A xs.length c] w fun e w' => ∃ A' c' F', e = .returned (.slice A' xs.length c') ∧ Own w' w.heap.size xs [.slice A' xs.length c'] F' ∧ Below w.heap.size w w' := by
  have HV := Lib.hid hv
  clear hv
  go_enter Tryz.func124, Tryz.ntmps124
  go_wp2_with fail
  go_loopw [3, 4] (fun v i wr => ∃ (k : Nat) (ds : List Value) (F' : List Nat), k ≤ xs.length ∧ i = .int .i64 k ∧ wr.ownsRow w.heap.size 137 3 v k ds ∧ OwnCells wr w.heap.size (xs.take k) ds F' ∧ (∀ g, v.ownBlock = some g → g ∉ F') ∧ Below w.heap.size w wr) (fun _ i _ => xs.length - (intOf i).toNat)
  case atStart => exact ⟨0, [], [], Nat.zero_le _, rfl, World.ownsRow_made (size := 3) w #[] 0 (Nat.le_refl _) (Nat.zero_le _) (by simp), OwnCells.nil _ _, (fun g _ hm => by cases hm), ext_alloc (ext_refl _) _⟩
  case round =>
    obtain ⟨k, ds, F', hk, rfl, hown, hO, hne, hbl⟩ := hrel
    by_cases hlt : k < xs.length
    · obtain ⟨b, o, ck, Fk, rfl, hbF, hbs, hr, hsub2, hc⟩ := (h.ext hbl).get hlt
      obtain ⟨Avalues1, cvalues1, Fvalues1, hck, hF1, hkey1, hop1, hvalues1⟩ := rd_Need hr
      subst hck
      clear hF1 hr
      have q0 : wr.cell? ⟨b, o + k * 3, none⟩ = some (.string xs[k].key) := by exact hc 0 _ rfl
      have q1 : wr.cell? ⟨b, o + k * 3 + 1, none⟩ = some (.int .i64 xs[k].op) := by rw [Nat.add_assoc]; exact hc 1 _ rfl
      have q2 : wr.cell? ⟨b, o + k * 3 + 2, none⟩ = some (.slice Avalues1 xs[k].values.length cvalues1) := by rw [Nat.add_assoc]; exact hc 2 _ rfl
      clear hc
      have hvl := HV.out xs[k] (List.getElem_mem hlt)
      obtain ⟨Av, cv, hv0⟩ := row_sliceK hown
      subst hv0
      have HO := Lib.hid hown
      have HN := Lib.hid hne
      have HBL := Lib.hid hbl
      have HLT := Lib.hid hO.lt
      clear hown hne hbl
      have hbox := Blk.new wr [.string xs[k].key, .int .i64 xs[k].op, .slice Avalues1 xs[k].values.length cvalues1] 137
      have HM := Lib.hid (show ((wr.alloc (.cells ([.string xs[k].key, .int .i64 xs[k].op, .slice Avalues1 xs[k].values.length cvalues1] : List Value).toArray 137)).alloc (.cells #[] 9)).ownsRow (wr.heap.size + 1) 9 1 (.slice (some ⟨wr.heap.size + 1, 0, none⟩) 0 0) 0 [] from by
        have := World.ownsRow_made (base := wr.heap.size + 1) (e := 9) (size := 1) (wr.alloc (.cells ([.string xs[k].key, .int .i64 xs[k].op, .slice Avalues1 xs[k].values.length cvalues1] : List Value).toArray 137)) #[] 0 (by simp) (Nat.zero_le _) (by simp)
        rw [World.size_alloc] at this
        exact this)
      go_wp2_with (first
        | (at_builtin
           refine wpList_appendN (o := ⟨some 20, _, _, _, _, _⟩) elCString (by rfl) (by rfl) _ _ (by rfl) _ (wr.heap.size + 1) _ 0 [] HM.out (by rfl) xs[k].values Avalues1 cvalues1 _ (hvalues1.ext (ext_alloc (ext_alloc (ext_refl _) _) _)) (by rfl) (by omega) (by omega) (by simp) ?_
           intro v2 w2 ds2 G hrc hsub hown2 hg hat
           go_must (obtain ⟨A2, c2, hv2⟩ := row_sliceK hown2)
           go_must (subst hv2)
           go_must (simp only [Nat.zero_add, List.nil_append] at hown2)
           go_must (have hb2 : Below wr.heap.size wr w2 := grown_ext (row_mono HM.out (Nat.le_succ _)) hg (ext_alloc (ext_alloc (ext_refl _) _) _) (by simp; omega))
           go_must (have hbox2 : Blk w2 wr.heap.size [.string xs[k].key, .int .i64 xs[k].op, .slice Avalues1 xs[k].values.length cvalues1] := hbox.keep ((hg.block _ (by simp; omega) (by simp [Value.ownBlock])).trans (heap_alloc_old _ _ (by simp))))
           go_must (have hrc2 : rdCells w2 xs[k].values ds2 G := hrc.frame (fun b hb => hg.block b (hrc.lt b hb) (fun e => by have := (hvalues1.lt b (hsub b hb)); simp [Value.ownBlock] at e; omega)) hg.size)
           go_must (obtain ⟨A3, c3, G3, hv3, hO2⟩ := Own.of_flat flatString hown2 hrc2)
           go_must (simp only [Value.slice.injEq, true_and] at hv3)
           go_must (obtain ⟨rfl, rfl⟩ := hv3)
           go_must (have k0 := hbox2.cell (i := 0) (u := .string xs[k].key) rfl)
           go_must (have k1 := hbox2.cell (i := 1) (u := .int .i64 xs[k].op) rfl)
           go_must (have k2 := hbox2.cell (i := 2) (u := .slice Avalues1 xs[k].values.length cvalues1) rfl)
           go_must (have kl := hbox2.lt)
           go_must (have kf := hbox2.fz 2)
           go_must (have hOn : Own w2 (wr.heap.size + 1) xs[k] [.string xs[k].key, .int .i64 xs[k].op, .slice A2 xs[k].values.length c2] G3 := Own.up (B' := wr.heap.size + 1) (fun x : Need => (x.key, x.op, x.values)) (Own.cons (c1 := [.string xs[k].key]) (rdStr _ _ (sz63 hkey1)) (Own.cons (c1 := [.int .i64 xs[k].op]) (rdInt _ _ hop1) hO2)) (Nat.le_refl _))
           go_must (have hOs := hOn.setCell (p := ⟨wr.heap.size, 2, none⟩) (Nat.lt_succ_self _) (.slice A2 xs[k].values.length c2))
           go_must (have hrow : (w2.setCell ⟨wr.heap.size, 2, none⟩ (.slice A2 xs[k].values.length c2)).ownsRow w.heap.size 137 3 (.slice Av k cv) k ds := row_setK (row_ext HO.out hb2) (fun g hg => by have := (HO.out.lt g hg).2; omega))
           go_must (have hcs : OwnCells (w2.setCell ⟨wr.heap.size, 2, none⟩ (.slice A2 xs[k].values.length c2)) w.heap.size (xs.take k) ds F' := (hO.ext hb2).keep (fun y hy => Below.heap_setCell _ _ _ _ (by have := hO.lt y hy; dsimp only; omega)) (by simp [World.setCell]))
           go_must (have hbS : Below wr.heap.size wr (w2.setCell ⟨wr.heap.size, 2, none⟩ (.slice A2 xs[k].values.length c2)) := ext_setCell hb2 (Nat.le_refl _) _)
           go_must (have hbx := hbox2.put 2 (.slice A2 xs[k].values.length c2))
           go_must (have HOS := Lib.hid hOs)
           go_must (have HR := Lib.hid hrow)
           go_must (have HC := Lib.hid hcs)
           go_must (have HBS := Lib.hid hbS)
           go_must (have hzz := hbS.size)
           go_must (clear hOn hO2 hrc hrc2 hown2 hO hbox hbox2 hg hat hb2 hOs hcs hbS))
        | (at_builtin
           refine wpList_append2 (o := ⟨some 25, _, _, _, _, _⟩) elCNeed (by rfl) _ _ (by rfl) _ _ _ _ _ hrow (by rfl) [.string xs[k].key, .int .i64 xs[k].op, .slice A2 xs[k].values.length c2] (by first | rfl | (simp; rfl)) (by rfl) (by simp [Value.oneCell']) (by omega) (by omega) (by have := HBL.out.size; omega) ?_
           intro v4 w4 hown4 hg4 hz4 hat4))
      have hbl := HBL.out
      obtain ⟨hcs4, hne4⟩ := OwnCells.pushK (v' := v4) HR.out HC.out HN.out HOS.out (by have := hbl.size; omega) (fun g hg => by have := (HO.out.lt g hg).2; omega) (fun y hy => by have := HLT.out y hy; omega) hg4 hat4
      rw [← List.take_succ_eq_append_getElem hlt] at hcs4
      exact ⟨⟨k + 1, _, _, by omega, by go_num, hown4, hcs4, hne4, grown_ext (row_mono HR.out (Nat.le_refl _)) hg4 (ext_trans hbl HBS.out) (by have := hbl.size; omega)⟩, by simp [intOf]; omega⟩
    · have hkl : k = xs.length := by omega
      subst hkl
      rw [List.take_length] at hO
      obtain ⟨Ah, ch, Gh, rfl, hOh⟩ := Own.of_row hown hO hne
      go_wp2
      go_ret
      exact ⟨_, _, _, rfl, hOh, hbl⟩

end Go.Proofs.YtjoclfenghenjaaGreat

namespace Go.Proofs.YtjoclfenghenjaaGreat
open Go.ChangeShapes Go.WideShapes Go.ChangeAt Go.RowKit
set_option linter.unusedVariables false
set_option linter.unusedSimpArgs false

theorem row_new (W : World) (e : TypeId) (size N : Nat) (hN : W.heap.size = N) : (W.alloc (.cells #[] e)).ownsRow N e size (.slice (some ⟨N, 0, none⟩) 0 0) 0 [] := by
  subst hN
  exact World.ownsRow_made W #[] 0 (Nat.le_refl _) (Nat.zero_le _) (by simp)
/-- a copying call's state: the argument's box, the result's box behind it; all else is new -/
structure Cp (w wk : World) (cs zs : List Value) : Prop where
  box : Blk wk w.heap.size cs
  rb : Blk wk (w.heap.size + 1) zs
  below : Below w.heap.size w wk
section
variable {w wk w' : World} {cs zs : List Value}
theorem Cp.new (w : World) (cs zs : List Value) (t t2 : TypeId) : Cp w ((w.alloc (.cells cs.toArray t)).alloc (.cells zs.toArray t2)) cs zs :=
  ⟨(Blk.new w cs t).ext (ext_alloc (ext_refl _) _), (by have := Blk.new (w.alloc (.cells cs.toArray t)) zs t2; rw [World.size_alloc] at this; exact this), ext_alloc (ext_alloc (ext_refl _) _) _⟩
theorem Cp.ext (h : Cp w wk cs zs) (hb : Below wk.heap.size wk w') : Cp w w' cs zs := ⟨h.box.ext hb, h.rb.ext hb, ext_trans h.below hb⟩
theorem Cp.put (h : Cp w wk cs zs) (i : Nat) (u : Value) : Cp w (wk.setCell ⟨w.heap.size, i, none⟩ u) (cs.set i u) zs := ⟨h.box.put i u, h.rb.far (by omega) i u, ext_setCell h.below (Nat.le_refl _) u⟩
theorem Cp.lt (h : Cp w wk cs zs) : w.heap.size + 1 < wk.heap.size := h.rb.lt
end
set_option maxRecDepth 100000 in
set_option maxHeartbeats 4000000 in
theorem copyHost_any (x : Host) (cs : List Value) (F : List Nat) (w : World) (h : rd w x cs F) (hl1 : (x.labels.length : Int) ≤ 1048576) (hl2 : (x.taints.length : Int) ≤ 1048576) :
    Calls Tryz.prog 86 #[.agg cs.toArray] w fun e w' => ∃ cs F, e = .returned (.agg cs.toArray) ∧ Own w' w.heap.size x cs F ∧ Below w.heap.size w w' := by
  obtain ⟨Alabels, clabels, Flabels, Ataints, ctaints, Ftaints, hck, hF0, hname, hlabels, hcpu, hmem, hslots, htaints⟩ := rd_Host h
  subst hck
  clear hF0 h
  go_enter Tryz.func86, Tryz.ntmps86
  have S0 := Cp.new w [.string x.name, .slice Alabels x.labels.length clabels, .int .i64 x.cpu, .int .i64 x.mem, .int .i64 x.slots, .slice Ataints x.taints.length ctaints] [.string ⟨#[]⟩, .slice none 0 0, .int .i64 0, .int .i64 0, .int .i64 0, .slice none 0 0] 82 82
  go_wp2_with fail
  refine (cloneLabel_any x.labels _ _ _ _ (hlabels.ext S0.below) hl1).mono ?_
  rintro e w1 ⟨A1, c1, G1, rfl, hO1, hb1⟩
  have S1' := S0.ext hb1
  replace hO1 := hO1.mono (B' := w.heap.size + 1 + 1) (by first | exact Nat.le_refl _ | (simp [World.setCell]; done) | (simp [World.setCell]; omega))
  have k1 := S1'.box.cell (i := 1) (u := .slice Alabels x.labels.length clabels) rfl
  have f1 := S1'.box.fz 1
  have l1 := S1'.box.lt
  have HLT1 := Lib.hid (show ∀ b ∈ G1, b < w1.heap.size from hO1.lt)
  have S1 := S1'.put 1 (.slice A1 x.labels.length c1)
  replace hO1 := hO1.setCell (p := ⟨w.heap.size, 1, none⟩) (by dsimp only; first | omega | (have := S1'.lt; omega)) (.slice A1 x.labels.length c1)
  have m1 := S1.box.cell (i := 5) (u := .slice Ataints x.taints.length ctaints) rfl
  have z1 := S1'.lt
  go_wp2_with fail
  refine (cloneTaint_any x.taints _ _ _ _ (htaints.ext S1.below) hl2).mono ?_
  rintro e w2 ⟨A2, c2, G2, rfl, hO2, hb2⟩
  have S2' := S1.ext hb2
  replace hO2 := hO2.mono (B' := w1.heap.size) (by first | exact Nat.le_refl _ | (simp [World.setCell]; done) | (simp [World.setCell]; omega))
  have k2 := S2'.box.cell (i := 5) (u := .slice Ataints x.taints.length ctaints) rfl
  have f2 := S2'.box.fz 5
  have l2 := S2'.box.lt
  have S2 := S2'.put 5 (.slice A2 x.taints.length c2)
  replace hO1 := hO1.ext hb2
  replace hO1 := hO1.setCell (p := ⟨w.heap.size, 5, none⟩) (by dsimp only; first | omega | (have := S2'.lt; omega)) (.slice A2 x.taints.length c2)
  replace hO2 := hO2.setCell (p := ⟨w.heap.size, 5, none⟩) (by dsimp only; first | omega | (have := S2'.lt; omega)) (.slice A2 x.taints.length c2)
  have q0 := S2.box.cell (i := 0) (u := .string x.name) rfl
  have q1 := S2.box.cell (i := 1) (u := .slice A1 x.labels.length c1) rfl
  have q2 := S2.box.cell (i := 2) (u := .int .i64 x.cpu) rfl
  have q3 := S2.box.cell (i := 3) (u := .int .i64 x.mem) rfl
  have q4 := S2.box.cell (i := 4) (u := .int .i64 x.slots) rfl
  have q5 := S2.box.cell (i := 5) (u := .slice A2 x.taints.length c2) rfl
  have r0 := S2.rb.cell (i := 0) (u := .string ⟨#[]⟩) rfl
  have r1 := S2.rb.cell (i := 1) (u := .slice none 0 0) rfl
  have r2 := S2.rb.cell (i := 2) (u := .int .i64 0) rfl
  have r3 := S2.rb.cell (i := 3) (u := .int .i64 0) rfl
  have r4 := S2.rb.cell (i := 4) (u := .int .i64 0) rfl
  have r5 := S2.rb.cell (i := 5) (u := .slice none 0 0) rfl
  have rf := S2.rb.fz
  have rl := S2.rb.lt
  have z2 := S2'.lt
  have y2 : w1.heap.size ≤ w2.heap.size := by have := hb2.size; (try simp [World.setCell] at this); omega
  have HO1 := Lib.hid hO1
  have HO2 := Lib.hid hO2
  have HS := Lib.hid S2
  clear hO1 hO2 S1 S1' S2 S2' S0
  try dsimp only
  iterate 200 (first | go_step | skip)
  refine bodyPost_ret (v := .agg #[.string x.name, .slice A1 x.labels.length c1, .int .i64 x.cpu, .int .i64 x.mem, .int .i64 x.slots, .slice A2 x.taints.length c2]) (by simp [results, Tryz.results86, go_sem, *]) rfl ⟨[.string x.name, .slice A1 x.labels.length c1, .int .i64 x.cpu, .int .i64 x.mem, .int .i64 x.slots, .slice A2 x.taints.length c2], (G1 ++ G2), rfl, ?_, ?_⟩
  rotate_left
  · repeat (first | with_reducible exact HS.out.below | with_reducible refine ext_setCell ?_ (by first | exact Nat.le_refl _ | (dsimp only; omega)) _)
  refine Own.up (B' := w.heap.size + 1 + 1) (fun x : Host => (x.name, x.labels, x.cpu, x.mem, x.slots, x.taints)) ?_ (by omega)
  refine Own.cons (c1 := [.string x.name]) (rdStr _ x.name (sz63 hname)) ?_
  refine Own.pair (B2 := w1.heap.size) (c1 := [.slice A1 x.labels.length c1]) (F1 := G1) ?_ ?_ (by omega) HLT1.out
  · repeat (first | with_reducible exact HO1.out | with_reducible refine Own.setCell ?_ (by dsimp only; have := HS.out.lt; omega) _)
  refine Own.cons (c1 := [.int .i64 x.cpu]) (rdInt _ x.cpu hcpu) ?_
  refine Own.cons (c1 := [.int .i64 x.mem]) (rdInt _ x.mem hmem) ?_
  refine Own.cons (c1 := [.int .i64 x.slots]) (rdInt _ x.slots hslots) ?_
  repeat (first | with_reducible exact HO2.out | with_reducible refine Own.setCell ?_ (by dsimp only; have := HS.out.lt; omega) _)
set_option maxRecDepth 100000 in
set_option maxHeartbeats 4000000 in
theorem copyPod_any (x : Pod) (cs : List Value) (F : List Nat) (w : World) (h : rd w x cs F) (hl1 : (x.labels.length : Int) ≤ 1048576) (hl2 : (x.needs.length : Int) ≤ 1048576) (hl3 : (x.tolerances.length : Int) ≤ 1048576) (hv : ∀ y ∈ x.needs, (y.values.length : Int) ≤ 1048576) :
    Calls Tryz.prog 87 #[.agg cs.toArray] w fun e w' => ∃ cs F, e = .returned (.agg cs.toArray) ∧ Own w' w.heap.size x cs F ∧ Below w.heap.size w w' := by
  have HV := Lib.hid hv
  clear hv
  obtain ⟨Alabels, clabels, Flabels, Aneeds, cneeds, Fneeds, Atolerances, ctolerances, Ftolerances, hck, hF0, hname, hlabels, hcpu, hmem, hrank, hneeds, htolerances⟩ := rd_Pod h
  subst hck
  clear hF0 h
  go_enter Tryz.func87, Tryz.ntmps87
  have S0 := Cp.new w [.string x.name, .slice Alabels x.labels.length clabels, .int .i64 x.cpu, .int .i64 x.mem, .int .i64 x.rank, .slice Aneeds x.needs.length cneeds, .slice Atolerances x.tolerances.length ctolerances] [.string ⟨#[]⟩, .slice none 0 0, .int .i64 0, .int .i64 0, .int .i64 0, .slice none 0 0, .slice none 0 0] 55 55
  go_wp2_with fail
  refine (cloneLabel_any x.labels _ _ _ _ (hlabels.ext S0.below) hl1).mono ?_
  rintro e w1 ⟨A1, c1, G1, rfl, hO1, hb1⟩
  have S1' := S0.ext hb1
  replace hO1 := hO1.mono (B' := w.heap.size + 1 + 1) (by first | exact Nat.le_refl _ | (simp [World.setCell]; done) | (simp [World.setCell]; omega))
  have k1 := S1'.box.cell (i := 1) (u := .slice Alabels x.labels.length clabels) rfl
  have f1 := S1'.box.fz 1
  have l1 := S1'.box.lt
  have HLT1 := Lib.hid (show ∀ b ∈ G1, b < w1.heap.size from hO1.lt)
  have S1 := S1'.put 1 (.slice A1 x.labels.length c1)
  replace hO1 := hO1.setCell (p := ⟨w.heap.size, 1, none⟩) (by dsimp only; first | omega | (have := S1'.lt; omega)) (.slice A1 x.labels.length c1)
  have m1 := S1.box.cell (i := 5) (u := .slice Aneeds x.needs.length cneeds) rfl
  have z1 := S1'.lt
  go_wp2_with fail
  refine (copyNeeds_any x.needs _ _ _ _ (hneeds.ext S1.below) hl2 HV.out).mono ?_
  rintro e w2 ⟨A2, c2, G2, rfl, hO2, hb2⟩
  have S2' := S1.ext hb2
  replace hO2 := hO2.mono (B' := w1.heap.size) (by first | exact Nat.le_refl _ | (simp [World.setCell]; done) | (simp [World.setCell]; omega))
  have k2 := S2'.box.cell (i := 5) (u := .slice Aneeds x.needs.length cneeds) rfl
  have f2 := S2'.box.fz 5
  have l2 := S2'.box.lt
  have HLT2 := Lib.hid (show ∀ b ∈ G2, b < w2.heap.size from hO2.lt)
  have S2 := S2'.put 5 (.slice A2 x.needs.length c2)
  replace hO1 := hO1.ext hb2
  replace hO1 := hO1.setCell (p := ⟨w.heap.size, 5, none⟩) (by dsimp only; first | omega | (have := S2'.lt; omega)) (.slice A2 x.needs.length c2)
  replace hO2 := hO2.setCell (p := ⟨w.heap.size, 5, none⟩) (by dsimp only; first | omega | (have := S2'.lt; omega)) (.slice A2 x.needs.length c2)
  have m2 := S2.box.cell (i := 6) (u := .slice Atolerances x.tolerances.length ctolerances) rfl
  have z2 := S2'.lt
  have y2 : w1.heap.size ≤ w2.heap.size := by have := hb2.size; (try simp [World.setCell] at this); omega
  go_wp2_with fail
  refine (cloneTolerance_any x.tolerances _ _ _ _ (htolerances.ext S2.below) hl3).mono ?_
  rintro e w3 ⟨A3, c3, G3, rfl, hO3, hb3⟩
  have S3' := S2.ext hb3
  replace hO3 := hO3.mono (B' := w2.heap.size) (by first | exact Nat.le_refl _ | (simp [World.setCell]; done) | (simp [World.setCell]; omega))
  have k3 := S3'.box.cell (i := 6) (u := .slice Atolerances x.tolerances.length ctolerances) rfl
  have f3 := S3'.box.fz 6
  have l3 := S3'.box.lt
  have S3 := S3'.put 6 (.slice A3 x.tolerances.length c3)
  replace hO1 := hO1.ext hb3
  replace hO2 := hO2.ext hb3
  replace hO1 := hO1.setCell (p := ⟨w.heap.size, 6, none⟩) (by dsimp only; first | omega | (have := S3'.lt; omega)) (.slice A3 x.tolerances.length c3)
  replace hO2 := hO2.setCell (p := ⟨w.heap.size, 6, none⟩) (by dsimp only; first | omega | (have := S3'.lt; omega)) (.slice A3 x.tolerances.length c3)
  replace hO3 := hO3.setCell (p := ⟨w.heap.size, 6, none⟩) (by dsimp only; first | omega | (have := S3'.lt; omega)) (.slice A3 x.tolerances.length c3)
  have q0 := S3.box.cell (i := 0) (u := .string x.name) rfl
  have q1 := S3.box.cell (i := 1) (u := .slice A1 x.labels.length c1) rfl
  have q2 := S3.box.cell (i := 2) (u := .int .i64 x.cpu) rfl
  have q3 := S3.box.cell (i := 3) (u := .int .i64 x.mem) rfl
  have q4 := S3.box.cell (i := 4) (u := .int .i64 x.rank) rfl
  have q5 := S3.box.cell (i := 5) (u := .slice A2 x.needs.length c2) rfl
  have q6 := S3.box.cell (i := 6) (u := .slice A3 x.tolerances.length c3) rfl
  have r0 := S3.rb.cell (i := 0) (u := .string ⟨#[]⟩) rfl
  have r1 := S3.rb.cell (i := 1) (u := .slice none 0 0) rfl
  have r2 := S3.rb.cell (i := 2) (u := .int .i64 0) rfl
  have r3 := S3.rb.cell (i := 3) (u := .int .i64 0) rfl
  have r4 := S3.rb.cell (i := 4) (u := .int .i64 0) rfl
  have r5 := S3.rb.cell (i := 5) (u := .slice none 0 0) rfl
  have r6 := S3.rb.cell (i := 6) (u := .slice none 0 0) rfl
  have rf := S3.rb.fz
  have rl := S3.rb.lt
  have z3 := S3'.lt
  have y3 : w2.heap.size ≤ w3.heap.size := by have := hb3.size; (try simp [World.setCell] at this); omega
  have HO1 := Lib.hid hO1
  have HO2 := Lib.hid hO2
  have HO3 := Lib.hid hO3
  have HS := Lib.hid S3
  clear hO1 hO2 hO3 S1 S1' S2 S2' S3 S3' S0
  try dsimp only
  iterate 200 (first | go_step | skip)
  refine bodyPost_ret (v := .agg #[.string x.name, .slice A1 x.labels.length c1, .int .i64 x.cpu, .int .i64 x.mem, .int .i64 x.rank, .slice A2 x.needs.length c2, .slice A3 x.tolerances.length c3]) (by simp [results, Tryz.results87, go_sem, *]) rfl ⟨[.string x.name, .slice A1 x.labels.length c1, .int .i64 x.cpu, .int .i64 x.mem, .int .i64 x.rank, .slice A2 x.needs.length c2, .slice A3 x.tolerances.length c3], (G1 ++ (G2 ++ G3)), rfl, ?_, ?_⟩
  rotate_left
  · repeat (first | with_reducible exact HS.out.below | with_reducible refine ext_setCell ?_ (by first | exact Nat.le_refl _ | (dsimp only; omega)) _)
  refine Own.up (B' := w.heap.size + 1 + 1) (fun x : Pod => (x.name, x.labels, x.cpu, x.mem, x.rank, x.needs, x.tolerances)) ?_ (by omega)
  refine Own.cons (c1 := [.string x.name]) (rdStr _ x.name (sz63 hname)) ?_
  refine Own.pair (B2 := w1.heap.size) (c1 := [.slice A1 x.labels.length c1]) (F1 := G1) ?_ ?_ (by omega) HLT1.out
  · repeat (first | with_reducible exact HO1.out | with_reducible refine Own.setCell ?_ (by dsimp only; have := HS.out.lt; omega) _)
  refine Own.cons (c1 := [.int .i64 x.cpu]) (rdInt _ x.cpu hcpu) ?_
  refine Own.cons (c1 := [.int .i64 x.mem]) (rdInt _ x.mem hmem) ?_
  refine Own.cons (c1 := [.int .i64 x.rank]) (rdInt _ x.rank hrank) ?_
  refine Own.pair (B2 := w2.heap.size) (c1 := [.slice A2 x.needs.length c2]) (F1 := G2) ?_ ?_ (by omega) HLT2.out
  · repeat (first | with_reducible exact HO2.out | with_reducible refine Own.setCell ?_ (by dsimp only; have := HS.out.lt; omega) _)
  repeat (first | with_reducible exact HO3.out | with_reducible refine Own.setCell ?_ (by dsimp only; have := HS.out.lt; omega) _)
set_option maxRecDepth 100000 in
set_option maxHeartbeats 4000000 in
theorem l17Host_any (x : Host) (cs : List Value) (F : List Nat) (w : World) (h : rd w x cs F) (hl1 : (x.labels.length : Int) ≤ 1048576) (hl2 : (x.taints.length : Int) ≤ 1048576) :
    Calls Tryz.prog 78 #[.agg cs.toArray] w fun e w' => ∃ cs F, e = .returned (.agg cs.toArray) ∧ Own w' w.heap.size x cs F ∧ Below w.heap.size w w' := by
  obtain ⟨Alabels, clabels, Flabels, Ataints, ctaints, Ftaints, hck, hF0, hname, hlabels, hcpu, hmem, hslots, htaints⟩ := rd_Host h
  subst hck
  clear hF0 h
  go_enter Tryz.func78, Tryz.ntmps78
  have S0 := Cp.new w [.string x.name, .slice Alabels x.labels.length clabels, .int .i64 x.cpu, .int .i64 x.mem, .int .i64 x.slots, .slice Ataints x.taints.length ctaints] [.string ⟨#[]⟩, .slice none 0 0, .int .i64 0, .int .i64 0, .int .i64 0, .slice none 0 0] 82 82
  have HM1 := Lib.hid (row_new ((w.alloc (.cells ([.string x.name, .slice Alabels x.labels.length clabels, .int .i64 x.cpu, .int .i64 x.mem, .int .i64 x.slots, .slice Ataints x.taints.length ctaints] : List Value).toArray 82)).alloc (.cells ([.string ⟨#[]⟩, .slice none 0 0, .int .i64 0, .int .i64 0, .int .i64 0, .slice none 0 0] : List Value).toArray 82)) 135 2 (w.heap.size + 1 + 1) (by simp [World.setCell]))
  go_wp2_with (
  first
    | (at_builtin
       refine wpList_appendN (o := ⟨some 6, _, _, _, _, _⟩) elCLabel (by rfl) (by rfl) _ _ (by rfl) _ (w.heap.size + 1 + 1) _ 0 [] HM1.out (by rfl) x.labels Alabels clabels _ (hlabels.ext (ext_alloc S0.below _)) (by rfl) (by omega) (by omega) (by simp [World.setCell]) ?_
       intro v1 w1 ds1 E1 hrc1 hsub1 hown1 hg1 hat1
       go_must (obtain ⟨A1, c1, hv1⟩ := row_sliceK hown1)
       go_must (subst hv1)
       go_must (simp only [Nat.zero_add, List.nil_append] at hown1)
       go_must (have hb1 : Below (w.heap.size + 1 + 1) ((w.alloc (.cells ([.string x.name, .slice Alabels x.labels.length clabels, .int .i64 x.cpu, .int .i64 x.mem, .int .i64 x.slots, .slice Ataints x.taints.length ctaints] : List Value).toArray 82)).alloc (.cells ([.string ⟨#[]⟩, .slice none 0 0, .int .i64 0, .int .i64 0, .int .i64 0, .slice none 0 0] : List Value).toArray 82)) w1 := grown_ext HM1.out hg1 ((Below.refl _ _).alloc (by simp [World.setCell]) _) (by simp [World.setCell]))
       go_must (have S1' := Cp.ext S0 (hb1.mono (by simp [World.setCell])))
       go_must (have hrd1 : rdCells w1 x.labels ds1 E1 := hrc1.frame (fun b hb => hg1.block b (hrc1.lt b hb) (fun e => by have h1 := hlabels.lt b (hsub1 b hb); have h2 := S0.below.size; simp [Value.ownBlock, World.setCell] at e h2; omega)) hg1.size)
       go_must (obtain ⟨A0, c0, G1, hv0, hO1⟩ := Own.of_flat flatLabel hown1 hrd1)
       go_must (simp only [Value.slice.injEq, true_and] at hv0)
       go_must (obtain ⟨rfl, rfl⟩ := hv0)
       go_must (have k1 := S1'.box.cell (i := 1) (u := .slice Alabels x.labels.length clabels) rfl)
       go_must (have f1 := S1'.box.fz 1)
       go_must (have l1 := S1'.box.lt)
       go_must (have HLT1 := Lib.hid (show ∀ b ∈ G1, b < w1.heap.size from hO1.lt))
       go_must (have S1 := S1'.put 1 (.slice A1 x.labels.length c1))
       go_must (replace hO1 := hO1.setCell (p := ⟨w.heap.size, 1, none⟩) (by dsimp only; first | omega | (have := S1'.lt; omega)) (.slice A1 x.labels.length c1))
       go_must (have m1 := S1.box.cell (i := 5) (u := .slice Ataints x.taints.length ctaints) rfl)
       go_must (have z1 := S1'.lt)
       go_must (have HM2 := Lib.hid (row_new (w1.setCell ⟨w.heap.size, 1, none⟩ (.slice A1 x.labels.length c1)) 162 3 (w1.heap.size) (by simp [World.setCell]))))
    | (at_builtin
       refine wpList_appendN (o := ⟨some 11, _, _, _, _, _⟩) elCTaint (by rfl) (by rfl) _ _ (by rfl) _ (w1.heap.size) _ 0 [] HM2.out (by rfl) x.taints Ataints ctaints _ (htaints.ext (ext_alloc S1.below _)) (by rfl) (by omega) (by omega) (by simp [World.setCell]) ?_
       intro v2 w2 ds2 E2 hrc2 hsub2 hown2 hg2 hat2
       go_must (obtain ⟨A2, c2, hv2⟩ := row_sliceK hown2)
       go_must (subst hv2)
       go_must (simp only [Nat.zero_add, List.nil_append] at hown2)
       go_must (have hb2 : Below (w1.heap.size) (w1.setCell ⟨w.heap.size, 1, none⟩ (.slice A1 x.labels.length c1)) w2 := grown_ext HM2.out hg2 ((Below.refl _ _).alloc (by simp [World.setCell]) _) (by simp [World.setCell]))
       go_must (have S2' := Cp.ext S1 (hb2.mono (by simp [World.setCell])))
       go_must (have hrd2 : rdCells w2 x.taints ds2 E2 := hrc2.frame (fun b hb => hg2.block b (hrc2.lt b hb) (fun e => by have h1 := htaints.lt b (hsub2 b hb); have h2 := S1.below.size; simp [Value.ownBlock, World.setCell] at e h2; omega)) hg2.size)
       go_must (obtain ⟨A0, c0, G2, hv0, hO2⟩ := Own.of_flat flatTaint hown2 hrd2)
       go_must (simp only [Value.slice.injEq, true_and] at hv0)
       go_must (obtain ⟨rfl, rfl⟩ := hv0)
       go_must (have k2 := S2'.box.cell (i := 5) (u := .slice Ataints x.taints.length ctaints) rfl)
       go_must (have f2 := S2'.box.fz 5)
       go_must (have l2 := S2'.box.lt)
       go_must (have S2 := S2'.put 5 (.slice A2 x.taints.length c2))
       go_must (replace hO1 := hO1.ext (hb2.mono (by simp [World.setCell])))
       go_must (replace hO1 := hO1.setCell (p := ⟨w.heap.size, 5, none⟩) (by dsimp only; first | omega | (have := S2'.lt; omega)) (.slice A2 x.taints.length c2))
       go_must (replace hO2 := hO2.setCell (p := ⟨w.heap.size, 5, none⟩) (by dsimp only; first | omega | (have := S2'.lt; omega)) (.slice A2 x.taints.length c2))
       go_must (have q0 := S2.box.cell (i := 0) (u := .string x.name) rfl)
       go_must (have q1 := S2.box.cell (i := 1) (u := .slice A1 x.labels.length c1) rfl)
       go_must (have q2 := S2.box.cell (i := 2) (u := .int .i64 x.cpu) rfl)
       go_must (have q3 := S2.box.cell (i := 3) (u := .int .i64 x.mem) rfl)
       go_must (have q4 := S2.box.cell (i := 4) (u := .int .i64 x.slots) rfl)
       go_must (have q5 := S2.box.cell (i := 5) (u := .slice A2 x.taints.length c2) rfl)
       go_must (have r0 := S2.rb.cell (i := 0) (u := .string ⟨#[]⟩) rfl)
       go_must (have r1 := S2.rb.cell (i := 1) (u := .slice none 0 0) rfl)
       go_must (have r2 := S2.rb.cell (i := 2) (u := .int .i64 0) rfl)
       go_must (have r3 := S2.rb.cell (i := 3) (u := .int .i64 0) rfl)
       go_must (have r4 := S2.rb.cell (i := 4) (u := .int .i64 0) rfl)
       go_must (have r5 := S2.rb.cell (i := 5) (u := .slice none 0 0) rfl)
       go_must (have rf := S2.rb.fz)
       go_must (have rl := S2.rb.lt)
       go_must (have z2 := S2'.lt)
       go_must (have y2 : w1.heap.size ≤ w2.heap.size := by have := hb2.size; (try simp [World.setCell] at this); omega)))
  have HO1 := Lib.hid hO1
  have HO2 := Lib.hid hO2
  have HS := Lib.hid S2
  clear hO1 hO2 S1 S1' S2 S2' S0
  try dsimp only
  iterate 200 (first | go_step | skip)
  refine bodyPost_ret (v := .agg #[.string x.name, .slice A1 x.labels.length c1, .int .i64 x.cpu, .int .i64 x.mem, .int .i64 x.slots, .slice A2 x.taints.length c2]) (by simp [results, Tryz.results78, go_sem, *]) rfl ⟨[.string x.name, .slice A1 x.labels.length c1, .int .i64 x.cpu, .int .i64 x.mem, .int .i64 x.slots, .slice A2 x.taints.length c2], (G1 ++ G2), rfl, ?_, ?_⟩
  rotate_left
  · repeat (first | with_reducible exact HS.out.below | with_reducible refine ext_setCell ?_ (by first | exact Nat.le_refl _ | (dsimp only; omega)) _)
  refine Own.up (B' := w.heap.size + 1 + 1) (fun x : Host => (x.name, x.labels, x.cpu, x.mem, x.slots, x.taints)) ?_ (by omega)
  refine Own.cons (c1 := [.string x.name]) (rdStr _ x.name (sz63 hname)) ?_
  refine Own.pair (B2 := w1.heap.size) (c1 := [.slice A1 x.labels.length c1]) (F1 := G1) ?_ ?_ (by omega) HLT1.out
  · repeat (first | with_reducible exact HO1.out | with_reducible refine Own.setCell ?_ (by dsimp only; have := HS.out.lt; omega) _)
  refine Own.cons (c1 := [.int .i64 x.cpu]) (rdInt _ x.cpu hcpu) ?_
  refine Own.cons (c1 := [.int .i64 x.mem]) (rdInt _ x.mem hmem) ?_
  refine Own.cons (c1 := [.int .i64 x.slots]) (rdInt _ x.slots hslots) ?_
  repeat (first | with_reducible exact HO2.out | with_reducible refine Own.setCell ?_ (by dsimp only; have := HS.out.lt; omega) _)
set_option maxRecDepth 100000 in
set_option maxHeartbeats 4000000 in
theorem l17Pod_any (x : Pod) (cs : List Value) (F : List Nat) (w : World) (h : rd w x cs F) (hl1 : (x.labels.length : Int) ≤ 1048576) (hl2 : (x.needs.length : Int) ≤ 1048576) (hl3 : (x.tolerances.length : Int) ≤ 1048576) (hv : ∀ y ∈ x.needs, (y.values.length : Int) ≤ 1048576) :
    Calls Tryz.prog 79 #[.agg cs.toArray] w fun e w' => ∃ cs F, e = .returned (.agg cs.toArray) ∧ Own w' w.heap.size x cs F ∧ Below w.heap.size w w' := by
  have HV := Lib.hid hv
  clear hv
  obtain ⟨Alabels, clabels, Flabels, Aneeds, cneeds, Fneeds, Atolerances, ctolerances, Ftolerances, hck, hF0, hname, hlabels, hcpu, hmem, hrank, hneeds, htolerances⟩ := rd_Pod h
  subst hck
  clear hF0 h
  go_enter Tryz.func79, Tryz.ntmps79
  have S0 := Cp.new w [.string x.name, .slice Alabels x.labels.length clabels, .int .i64 x.cpu, .int .i64 x.mem, .int .i64 x.rank, .slice Aneeds x.needs.length cneeds, .slice Atolerances x.tolerances.length ctolerances] [.string ⟨#[]⟩, .slice none 0 0, .int .i64 0, .int .i64 0, .int .i64 0, .slice none 0 0, .slice none 0 0] 55 55
  have HM1 := Lib.hid (row_new ((w.alloc (.cells ([.string x.name, .slice Alabels x.labels.length clabels, .int .i64 x.cpu, .int .i64 x.mem, .int .i64 x.rank, .slice Aneeds x.needs.length cneeds, .slice Atolerances x.tolerances.length ctolerances] : List Value).toArray 55)).alloc (.cells ([.string ⟨#[]⟩, .slice none 0 0, .int .i64 0, .int .i64 0, .int .i64 0, .slice none 0 0, .slice none 0 0] : List Value).toArray 55)) 135 2 (w.heap.size + 1 + 1) (by simp [World.setCell]))
  go_wp2_with (
    at_builtin
    refine wpList_appendN (o := ⟨some 6, _, _, _, _, _⟩) elCLabel (by rfl) (by rfl) _ _ (by rfl) _ (w.heap.size + 1 + 1) _ 0 [] HM1.out (by rfl) x.labels Alabels clabels _ (hlabels.ext (ext_alloc S0.below _)) (by rfl) (by omega) (by omega) (by simp [World.setCell]) ?_
    intro v1 w1 ds1 E1 hrc1 hsub1 hown1 hg1 hat1
    go_must (obtain ⟨A1, c1, hv1⟩ := row_sliceK hown1)
    go_must (subst hv1)
    go_must (simp only [Nat.zero_add, List.nil_append] at hown1)
    go_must (have hb1 : Below (w.heap.size + 1 + 1) ((w.alloc (.cells ([.string x.name, .slice Alabels x.labels.length clabels, .int .i64 x.cpu, .int .i64 x.mem, .int .i64 x.rank, .slice Aneeds x.needs.length cneeds, .slice Atolerances x.tolerances.length ctolerances] : List Value).toArray 55)).alloc (.cells ([.string ⟨#[]⟩, .slice none 0 0, .int .i64 0, .int .i64 0, .int .i64 0, .slice none 0 0, .slice none 0 0] : List Value).toArray 55)) w1 := grown_ext HM1.out hg1 ((Below.refl _ _).alloc (by simp [World.setCell]) _) (by simp [World.setCell]))
    go_must (have S1' := Cp.ext S0 (hb1.mono (by simp [World.setCell])))
    go_must (have hrd1 : rdCells w1 x.labels ds1 E1 := hrc1.frame (fun b hb => hg1.block b (hrc1.lt b hb) (fun e => by have h1 := hlabels.lt b (hsub1 b hb); have h2 := S0.below.size; simp [Value.ownBlock, World.setCell] at e h2; omega)) hg1.size)
    go_must (obtain ⟨A0, c0, G1, hv0, hO1⟩ := Own.of_flat flatLabel hown1 hrd1)
    go_must (simp only [Value.slice.injEq, true_and] at hv0)
    go_must (obtain ⟨rfl, rfl⟩ := hv0)
    go_must (have k1 := S1'.box.cell (i := 1) (u := .slice Alabels x.labels.length clabels) rfl)
    go_must (have f1 := S1'.box.fz 1)
    go_must (have l1 := S1'.box.lt)
    go_must (have HLT1 := Lib.hid (show ∀ b ∈ G1, b < w1.heap.size from hO1.lt))
    go_must (have S1 := S1'.put 1 (.slice A1 x.labels.length c1))
    go_must (replace hO1 := hO1.setCell (p := ⟨w.heap.size, 1, none⟩) (by dsimp only; first | omega | (have := S1'.lt; omega)) (.slice A1 x.labels.length c1))
    go_must (have m1 := S1.box.cell (i := 5) (u := .slice Aneeds x.needs.length cneeds) rfl)
    go_must (have z1 := S1'.lt))
  go_wp2_with fail
  refine (l15Copy_any x.needs _ _ _ _ (hneeds.ext S1.below) hl2 HV.out).mono ?_
  rintro e w2 ⟨A2, c2, G2, rfl, hO2, hb2⟩
  have S2' := S1.ext hb2
  replace hO2 := hO2.mono (B' := w1.heap.size) (by first | exact Nat.le_refl _ | (simp [World.setCell]; done) | (simp [World.setCell]; omega))
  have k2 := S2'.box.cell (i := 5) (u := .slice Aneeds x.needs.length cneeds) rfl
  have f2 := S2'.box.fz 5
  have l2 := S2'.box.lt
  have HLT2 := Lib.hid (show ∀ b ∈ G2, b < w2.heap.size from hO2.lt)
  have S2 := S2'.put 5 (.slice A2 x.needs.length c2)
  replace hO1 := hO1.ext hb2
  replace hO1 := hO1.setCell (p := ⟨w.heap.size, 5, none⟩) (by dsimp only; first | omega | (have := S2'.lt; omega)) (.slice A2 x.needs.length c2)
  replace hO2 := hO2.setCell (p := ⟨w.heap.size, 5, none⟩) (by dsimp only; first | omega | (have := S2'.lt; omega)) (.slice A2 x.needs.length c2)
  have m2 := S2.box.cell (i := 6) (u := .slice Atolerances x.tolerances.length ctolerances) rfl
  have z2 := S2'.lt
  have y2 : w1.heap.size ≤ w2.heap.size := by have := hb2.size; (try simp [World.setCell] at this); omega
  have HM3 := Lib.hid (row_new (w2.setCell ⟨w.heap.size, 5, none⟩ (.slice A2 x.needs.length c2)) 139 4 (w2.heap.size) (by simp [World.setCell]))
  go_wp2_with (
    at_builtin
    refine wpList_appendN (o := ⟨some 15, _, _, _, _, _⟩) elCTolerance (by rfl) (by rfl) _ _ (by rfl) _ (w2.heap.size) _ 0 [] HM3.out (by rfl) x.tolerances Atolerances ctolerances _ (htolerances.ext (ext_alloc S2.below _)) (by rfl) (by omega) (by omega) (by simp [World.setCell]) ?_
    intro v3 w3 ds3 E3 hrc3 hsub3 hown3 hg3 hat3
    go_must (obtain ⟨A3, c3, hv3⟩ := row_sliceK hown3)
    go_must (subst hv3)
    go_must (simp only [Nat.zero_add, List.nil_append] at hown3)
    go_must (have hb3 : Below (w2.heap.size) (w2.setCell ⟨w.heap.size, 5, none⟩ (.slice A2 x.needs.length c2)) w3 := grown_ext HM3.out hg3 ((Below.refl _ _).alloc (by simp [World.setCell]) _) (by simp [World.setCell]))
    go_must (have S3' := Cp.ext S2 (hb3.mono (by simp [World.setCell])))
    go_must (have hrd3 : rdCells w3 x.tolerances ds3 E3 := hrc3.frame (fun b hb => hg3.block b (hrc3.lt b hb) (fun e => by have h1 := htolerances.lt b (hsub3 b hb); have h2 := S2.below.size; simp [Value.ownBlock, World.setCell] at e h2; omega)) hg3.size)
    go_must (obtain ⟨A0, c0, G3, hv0, hO3⟩ := Own.of_flat flatTolerance hown3 hrd3)
    go_must (simp only [Value.slice.injEq, true_and] at hv0)
    go_must (obtain ⟨rfl, rfl⟩ := hv0)
    go_must (have k3 := S3'.box.cell (i := 6) (u := .slice Atolerances x.tolerances.length ctolerances) rfl)
    go_must (have f3 := S3'.box.fz 6)
    go_must (have l3 := S3'.box.lt)
    go_must (have S3 := S3'.put 6 (.slice A3 x.tolerances.length c3))
    go_must (replace hO1 := hO1.ext (hb3.mono (by simp [World.setCell])))
    go_must (replace hO2 := hO2.ext (hb3.mono (by simp [World.setCell])))
    go_must (replace hO1 := hO1.setCell (p := ⟨w.heap.size, 6, none⟩) (by dsimp only; first | omega | (have := S3'.lt; omega)) (.slice A3 x.tolerances.length c3))
    go_must (replace hO2 := hO2.setCell (p := ⟨w.heap.size, 6, none⟩) (by dsimp only; first | omega | (have := S3'.lt; omega)) (.slice A3 x.tolerances.length c3))
    go_must (replace hO3 := hO3.setCell (p := ⟨w.heap.size, 6, none⟩) (by dsimp only; first | omega | (have := S3'.lt; omega)) (.slice A3 x.tolerances.length c3))
    go_must (have q0 := S3.box.cell (i := 0) (u := .string x.name) rfl)
    go_must (have q1 := S3.box.cell (i := 1) (u := .slice A1 x.labels.length c1) rfl)
    go_must (have q2 := S3.box.cell (i := 2) (u := .int .i64 x.cpu) rfl)
    go_must (have q3 := S3.box.cell (i := 3) (u := .int .i64 x.mem) rfl)
    go_must (have q4 := S3.box.cell (i := 4) (u := .int .i64 x.rank) rfl)
    go_must (have q5 := S3.box.cell (i := 5) (u := .slice A2 x.needs.length c2) rfl)
    go_must (have q6 := S3.box.cell (i := 6) (u := .slice A3 x.tolerances.length c3) rfl)
    go_must (have r0 := S3.rb.cell (i := 0) (u := .string ⟨#[]⟩) rfl)
    go_must (have r1 := S3.rb.cell (i := 1) (u := .slice none 0 0) rfl)
    go_must (have r2 := S3.rb.cell (i := 2) (u := .int .i64 0) rfl)
    go_must (have r3 := S3.rb.cell (i := 3) (u := .int .i64 0) rfl)
    go_must (have r4 := S3.rb.cell (i := 4) (u := .int .i64 0) rfl)
    go_must (have r5 := S3.rb.cell (i := 5) (u := .slice none 0 0) rfl)
    go_must (have r6 := S3.rb.cell (i := 6) (u := .slice none 0 0) rfl)
    go_must (have rf := S3.rb.fz)
    go_must (have rl := S3.rb.lt)
    go_must (have z3 := S3'.lt)
    go_must (have y3 : w2.heap.size ≤ w3.heap.size := by have := hb3.size; (try simp [World.setCell] at this); omega))
  have HO1 := Lib.hid hO1
  have HO2 := Lib.hid hO2
  have HO3 := Lib.hid hO3
  have HS := Lib.hid S3
  clear hO1 hO2 hO3 S1 S1' S2 S2' S3 S3' S0
  try dsimp only
  iterate 200 (first | go_step | skip)
  refine bodyPost_ret (v := .agg #[.string x.name, .slice A1 x.labels.length c1, .int .i64 x.cpu, .int .i64 x.mem, .int .i64 x.rank, .slice A2 x.needs.length c2, .slice A3 x.tolerances.length c3]) (by simp [results, Tryz.results79, go_sem, *]) rfl ⟨[.string x.name, .slice A1 x.labels.length c1, .int .i64 x.cpu, .int .i64 x.mem, .int .i64 x.rank, .slice A2 x.needs.length c2, .slice A3 x.tolerances.length c3], (G1 ++ (G2 ++ G3)), rfl, ?_, ?_⟩
  rotate_left
  · repeat (first | with_reducible exact HS.out.below | with_reducible refine ext_setCell ?_ (by first | exact Nat.le_refl _ | (dsimp only; omega)) _)
  refine Own.up (B' := w.heap.size + 1 + 1) (fun x : Pod => (x.name, x.labels, x.cpu, x.mem, x.rank, x.needs, x.tolerances)) ?_ (by omega)
  refine Own.cons (c1 := [.string x.name]) (rdStr _ x.name (sz63 hname)) ?_
  refine Own.pair (B2 := w1.heap.size) (c1 := [.slice A1 x.labels.length c1]) (F1 := G1) ?_ ?_ (by omega) HLT1.out
  · repeat (first | with_reducible exact HO1.out | with_reducible refine Own.setCell ?_ (by dsimp only; have := HS.out.lt; omega) _)
  refine Own.cons (c1 := [.int .i64 x.cpu]) (rdInt _ x.cpu hcpu) ?_
  refine Own.cons (c1 := [.int .i64 x.mem]) (rdInt _ x.mem hmem) ?_
  refine Own.cons (c1 := [.int .i64 x.rank]) (rdInt _ x.rank hrank) ?_
  refine Own.pair (B2 := w2.heap.size) (c1 := [.slice A2 x.needs.length c2]) (F1 := G2) ?_ ?_ (by omega) HLT2.out
  · repeat (first | with_reducible exact HO2.out | with_reducible refine Own.setCell ?_ (by dsimp only; have := HS.out.lt; omega) _)
  repeat (first | with_reducible exact HO3.out | with_reducible refine Own.setCell ?_ (by dsimp only; have := HS.out.lt; omega) _)

end Go.Proofs.YtjoclfenghenjaaGreat
