/- Rows of taints. No condition. -/
import Derived.Test.YtpgdgcjgompokaaGreatRdSt0
import Derived.Test.YtpgdgcjgompokaaGreatSums0
import Derived.Test.YtpgdgcjgompokaaGreatRdPod0
namespace Go.Proofs.YtpgdgcjgompokaaGreat
open Go.ChangeShapes Go.WideShapes Go.ChangeAt Go.RowKit
set_option linter.unusedVariables false
set_option linter.unusedSimpArgs false
theorem infoTaint : (Tryz.prog.info? 69).map (fun i => (i.zero, i.size, i.bytes)) = some (some (.agg #[.string ⟨#[]⟩, .string ⟨#[]⟩, .int .i64 0]), 3, 40) := by kernel_rfl
theorem elTaint : ElOk Tryz.prog 39 69 (.agg #[.string ⟨#[]⟩, .string ⟨#[]⟩, .int .i64 0]) 3 40 := ⟨Tryz.underlying39, infoTaint, rfl, by omega⟩
theorem OwnCells.tnt {w w' : World} {B : Nat} {xs : List Taint} {ds : List Value} (h : OwnCells w B xs ds []) (hs : w.heap.size ≤ w'.heap.size) {l : Taint} (h1 : (l.key.size : Int) ≤ 1048576) (h2 : (l.value.size : Int) ≤ 1048576) (h3 : I64 l.effect) : OwnCells w' B (xs ++ [l]) (ds ++ [.string l.key, .string l.value, .int .i64 l.effect]) [] :=
  ⟨(h.rd.frame (fun b hb => by cases hb) hs).append (.single (rd_Taint_mk w' l (by unfold maxLen; omega) (by unfold maxLen; omega) h3)), List.nodup_nil, (fun b hb => by cases hb), (fun b hb => by cases hb)⟩

end Go.Proofs.YtpgdgcjgompokaaGreat

namespace Go.Proofs.YtpgdgcjgompokaaGreat
open Go.ChangeShapes Go.WideShapes Go.ChangeAt Go.RowKit
set_option linter.unusedVariables false
set_option linter.unusedSimpArgs false

theorem infoNeedR : (Tryz.prog.info? 72).map (fun i => (i.zero, i.size, i.bytes)) = some (some (.agg #[.string ⟨#[]⟩, .int .i64 0, .slice none 0 0]), 3, 48) := by kernel_rfl
theorem elNeedR : ElOk Tryz.prog 43 72 (.agg #[.string ⟨#[]⟩, .int .i64 0, .slice none 0 0]) 3 48 := ⟨Tryz.underlying43, infoNeedR, rfl, by omega⟩
theorem infoTolR : (Tryz.prog.info? 74).map (fun i => (i.zero, i.size, i.bytes)) = some (some (.agg #[.string ⟨#[]⟩, .bool false, .string ⟨#[]⟩, .int .i64 0]), 4, 48) := by kernel_rfl
theorem elTolR : ElOk Tryz.prog 44 74 (.agg #[.string ⟨#[]⟩, .bool false, .string ⟨#[]⟩, .int .i64 0]) 4 48 := ⟨Tryz.underlying44, infoTolR, rfl, by omega⟩
section
variable {α : Type} [Dat α]
theorem OwnCells.upd {w w' : World} {B b : Nat} {xs : List α} {ds : List Value} {F : List Nat} (h : OwnCells w B xs ds F) (hu : Upd [b] w w') (hb : b < B) : OwnCells w' B xs ds F :=
  h.keep (fun y hy => hu.block y (h.lt y hy) (by have := h.base y hy; simp only [List.mem_singleton]; omega)) hu.size
/-- a flat element at the end of a row -/
theorem ownFlat {w w' : World} {B : Nat} {xs : List α} {ds : List Value} (h : OwnCells w B xs ds []) (hs : w.heap.size ≤ w'.heap.size) {l : α} {cs : List Value} (hr : rd w' l cs []) : OwnCells w' B (xs ++ [l]) (ds ++ cs) [] :=
  ⟨(h.rd.frame (fun b hb => by cases hb) hs).append (.single hr), List.nodup_nil, (fun b hb => by cases hb), (fun b hb => by cases hb)⟩
/-- an element in blocks of its own, at the end of a row that grew -/
theorem OwnCells.pushG {w w' : World} {B B5 e size n : Nat} {v v' : Value} {xs : List α} {ds us cs : List Value} {F G : List Nat} {x : α} (row : w.ownsRow B e size v n us) (hcs : OwnCells w B xs ds F) (hne : ∀ g, v.ownBlock = some g → g ∉ F)
    (hx : Own w B5 x cs G) (h5 : B ≤ B5) (hv5 : ∀ g, v.ownBlock = some g → g < B5) (hF : ∀ y ∈ F, y < B5) (hg : w.grownBy w' v.ownBlock) (hat : v'.ownBlock = v.ownBlock ∨ v'.ownBlock = some (w.heap.size + 1)) :
    OwnCells w' B (xs ++ [x]) (ds ++ cs) (F ++ G) ∧ ∀ g, v'.ownBlock = some g → g ∉ F ++ G := by
  have h1 := hcs.push hx h5 hF
  have hno : ∀ g, v.ownBlock = some g → g ∉ F ++ G := fun g hv hm => by
    rcases List.mem_append.1 hm with hm | hm
    · exact hne g hv hm
    · have := hx.base g hm; have := hv5 g hv; omega
  refine ⟨h1.keep (fun y hy => hg.block y (h1.lt y hy) (fun hv => hno y hv.symm hy)) hg.size, fun g hv hm => ?_⟩
  rcases hat with hat | hat
  · exact hno g (hat.symm.trans hv) hm
  · have h2 := h1.lt g hm
    rw [hat] at hv
    injection hv with hv
    omega
end
theorem wp_append1K {P : Program} {t e : TypeId} {z : Value} {size bytes : Nat} (hE : ElOk P t e z size bytes) {o : Oper} {a : Act} {K : Act → World → Prop} {Q : Exit → Act → World → Prop} (s x : Operand)
    (ho : o.op = .call { callee := .builtin .append, args := #[s, x], argTypes := #[t, t] })
    (w : World) (base : Nat) (v : Value) (n : Nat) (xs : List Value) (hown : w.ownsRow base e size v n xs) (hs : a.eval s = v)
    (cs : List Value) (hx : a.eval x = .slice (some ⟨w.heap.size, 0, none⟩) 1 1) (hl : cs.length = size) (h1 : ∀ u ∈ cs, u.oneCell' = true)
    (hn : n ≤ 2097152) (hby : bytes ≤ 4096) (hbase : base ≤ w.heap.size)
    (h : ∀ v' w', w'.ownsRow base e size v' (n + 1) (xs ++ cs) → w.grownBy w' v.ownBlock → w.heap.size + 1 ≤ w'.heap.size → K (a.put o.dst v') w') : o.wp P a (w.alloc (.cells cs.toArray e)) K Q := by
  obtain ⟨ht, hi0, hzs, hsz⟩ := hE
  obtain ⟨i, hi, hz, hsize, hb⟩ := info_parts hi0
  have hbb : (n + 1) * bytes ≤ 2097153 * 4096 := Nat.mul_le_mul (by omega) hby
  refine wp_append_own (w.alloc (.cells cs.toArray e)) s x t ho base e i z size bytes ht hi hz hsize hb hzs hsz v n xs hs (hown.alloc _) ⟨w.heap.size, 0, none⟩ 1 1 cs hx (by omega) ?_ h1 (by unfold maxLen; omega) (by omega) (by simp; omega) ?_
  · intro j u hu
    rw [Addr.add]
    have hc := cell_of_row (w.alloc (.cells cs.toArray e)) w.heap.size j cs.toArray e (0, 0) (heap_alloc_new w _)
    split
    · rename_i hj; subst hj; rw [hc]; simpa using hu
    · simp only [Nat.zero_add]; rw [hc]; simpa using hu
  · intro v' w' hown' hg _
    refine h v' w' hown' ⟨hg.os, hg.tape, hg.output, Nat.le_trans (by simp) hg.size, fun k hk hne => ?_⟩ (by have := hg.size; simpa using this)
    rw [hg.block k (by simp; omega) hne]
    exact Below.heap_alloc _ _ _ hk
/-- rows of strings: no blocks but the row's own -/
theorem rd_strR (w : World) (s : ByteArray) (h : (s.size : Int) ≤ 1048576) : rd w s [.string s] [] := rdStr w s (by omega)
theorem Own.zeroP (w : World) (B : Nat) : Own w B zeroPod [.string ⟨#[]⟩, .slice none 0 0, .int .i64 0, .int .i64 0, .int .i64 0, .slice none 0 0, .slice none 0 0] [] := by
  have h := @Own.up (ByteArray × List Label × Int × Int × Int × List Need × List Tolerance) _ w B Pod zeroPod [.string ⟨#[]⟩, .slice none 0 0, .int .i64 0, .int .i64 0, .int .i64 0, .slice none 0 0, .slice none 0 0] [] B (fun x : Pod => (x.name, x.labels, x.cpu, x.mem, x.rank, x.needs, x.tolerances)) ?_ (Nat.le_refl _)
  · exact h
  · refine Own.cons (c1 := [.string ⟨#[]⟩]) (rdStr _ _ (by decide)) ?_
    refine Own.cons (c1 := [.slice none 0 0]) (Sl.nil _ none 0 (Nat.zero_le _)) ?_
    refine Own.cons (c1 := [.int .i64 0]) (rdInt _ 0 ⟨by omega, by omega⟩) ?_
    refine Own.cons (c1 := [.int .i64 0]) (rdInt _ 0 ⟨by omega, by omega⟩) ?_
    refine Own.cons (c1 := [.int .i64 0]) (rdInt _ 0 ⟨by omega, by omega⟩) ?_
    refine Own.cons (c1 := [.slice none 0 0]) (Sl.nil _ none 0 (Nat.zero_le _)) ?_
    exact Own.flat (Sl.nil _ none 0 (Nat.zero_le _))
theorem needI_small (s : ByteArray) (a : Int) (hs : (s.size : Int) ≤ 1048576) : SmallN (needI s a).1 := by
  refine ⟨textI_size s a hs, ?_, loopI_all (fun a => textI_size s a hs) _ _ _ (fun l hl => by cases hl)⟩
  have h := loopI_len (textI s) (countI s 4 (varI s (textI s a).2).2).1.toNat [] (countI s 4 (varI s (textI s a).2).2).2
  have := countI_ways s 4 (varI s (textI s a).2).2 (by decide)
  show ((loopI (textI s) (countI s 4 (varI s (textI s a).2).2).1.toNat [] (countI s 4 (varI s (textI s a).2).2).2).1.length : Int) ≤ 1048576
  rw [h, List.length_nil]
  omega
theorem needS_small (s : ByteArray) (a : Int × Bool) (hs : (s.size : Int) ≤ 1048576) : SmallN (needS s a).1 := by
  refine ⟨textS_size s a hs, ?_, loopS_all (fun a => textS_size s a hs) _ _ _ (fun l hl => by cases hl)⟩
  have h := loopS_len (textS s) (manyS s 4 (numS s (textS s a).2).2).1.toNat [] (manyS s 4 (numS s (textS s a).2).2).2
  have := manyS_ways s 4 (numS s (textS s a).2).2 (by decide)
  show ((loopS (textS s) (manyS s 4 (numS s (textS s a).2).2).1.toNat [] (manyS s 4 (numS s (textS s a).2).2).2).1.length : Int) ≤ 1048576
  rw [List.length_nil] at h
  omega
theorem tolI_small (s : ByteArray) (a : Int) (hs : (s.size : Int) ≤ 1048576) : SmallT (tolI s a).1 := ⟨textI_size s _ hs, textI_size s _ hs⟩
theorem tolS_small (s : ByteArray) (a : Int × Bool) (hs : (s.size : Int) ≤ 1048576) : SmallT (tolS s a).1 := ⟨textS_size s _ hs, textS_size s _ hs⟩

end Go.Proofs.YtpgdgcjgompokaaGreat
