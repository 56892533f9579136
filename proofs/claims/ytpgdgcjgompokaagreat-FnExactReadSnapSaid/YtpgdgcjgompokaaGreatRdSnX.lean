/- What the readers of snapshots share: rows, the call's state, small parts. No condition. -/
import Derived.Test.YtpgdgcjgompokaaGreatRdSnP
import Derived.Test.YtpgdgcjgompokaaGreatRowsX
import Derived.Test.YtpgdgcjgompokaaGreatSmallHP
namespace Go.Proofs.YtpgdgcjgompokaaGreat
open Go.ChangeShapes Go.WideShapes Go.ChangeAt Go.RowKit
set_option linter.unusedVariables false
set_option linter.unusedSimpArgs false

theorem wp_append2K {P : Program} {t e : TypeId} {z : Value} {size bytes : Nat} (hE : ElOk P t e z size bytes) {o : Oper} {a : Act} {K : Act → World → Prop} {Q : Exit → Act → World → Prop} (s x : Operand)
    (ho : o.op = .call { callee := .builtin .append, args := #[s, x], argTypes := #[t, t] })
    (w : World) (base : Nat) (v : Value) (n : Nat) (xs : List Value) (hown : w.ownsRow base e size v n xs) (hs : a.eval s = v)
    (cs : List Value) (hx : a.eval x = .slice (some ⟨w.heap.size, 0, none⟩) 1 1) (hl : cs.length = size) (h1 : ∀ u ∈ cs, u.oneCell' = true)
    (hn : n ≤ 2097152) (hby : bytes ≤ 4096) (hbase : base ≤ w.heap.size)
    (h : ∀ v' w', w'.ownsRow base e size v' (n + 1) (xs ++ cs) → w.grownBy w' v.ownBlock → w.heap.size + 1 ≤ w'.heap.size → (v'.ownBlock = v.ownBlock ∨ v'.ownBlock = some (w.heap.size + 1)) → K (a.put o.dst v') w') : o.wp P a (w.alloc (.cells cs.toArray e)) K Q := by
  obtain ⟨ht, hi0, hzs, hsz⟩ := hE
  obtain ⟨i, hi, hz, hsize, hb⟩ := info_parts hi0
  have hbb : (n + 1) * bytes ≤ 2097153 * 4096 := Nat.mul_le_mul (by omega) hby
  have hnews : ∀ j u, cs[j]? = some u → (w.alloc (.cells cs.toArray e)).cell? ((⟨w.heap.size, 0, none⟩ : Addr).add j) = some u := by
    intro j u hu
    rw [Addr.add]
    have hc := cell_of_row (w.alloc (.cells cs.toArray e)) w.heap.size j cs.toArray e (0, 0) (heap_alloc_new w _)
    split
    · rename_i hj; subst hj; rw [hc]; simpa using hu
    · simp only [Nat.zero_add]; rw [hc]; simpa using hu
  obtain ⟨v', w', hr, h2, h3, h4, h5⟩ := run_append_own_at (P := P) (w.alloc (.cells cs.toArray e)) base t o.type e i z size bytes ht hi hz hsize hb hzs hsz v n xs (hown.alloc _) ⟨w.heap.size, 0, none⟩ 1 1 cs (by omega) hnews h1 (by unfold maxLen; omega) (by omega) (by simp; omega)
  unfold Oper.wp execOp
  simp only [ho, resolve, invoke, builtin, Sem.run_bind, Sem.run_pure, Result.andThen_ok, List.map_toArray, List.map_cons, List.map_nil, hs, hx, hr]
  refine h v' w' h2 ⟨h3.os, h3.tape, h3.output, Nat.le_trans (by simp) h3.size, fun k hk hne => ?_⟩ (by have := h3.size; simpa using this) (by simpa using h5)
  rw [h3.block k (by simp; omega) hne]
  exact Below.heap_alloc _ _ _ hk
theorem infoHostR : (Tryz.prog.info? 41).map (fun i => (i.zero, i.size, i.bytes)) = some (some (.agg #[.string ⟨#[]⟩, .slice none 0 0, .int .i64 0, .int .i64 0, .int .i64 0, .slice none 0 0]), 6, 88) := by kernel_rfl
theorem elHostR : ElOk Tryz.prog 22 41 (.agg #[.string ⟨#[]⟩, .slice none 0 0, .int .i64 0, .int .i64 0, .int .i64 0, .slice none 0 0]) 6 88 := ⟨Tryz.underlying22, infoHostR, rfl, by omega⟩
theorem infoPlacedR : (Tryz.prog.info? 49).map (fun i => (i.zero, i.size, i.bytes)) = some (some (.agg #[.string ⟨#[]⟩, .slice none 0 0, .int .i64 0, .int .i64 0, .int .i64 0, .slice none 0 0, .slice none 0 0, .string ⟨#[]⟩, .int .i64 0]), 9, 136) := by kernel_rfl
theorem elPlacedR : ElOk Tryz.prog 23 49 (.agg #[.string ⟨#[]⟩, .slice none 0 0, .int .i64 0, .int .i64 0, .int .i64 0, .slice none 0 0, .slice none 0 0, .string ⟨#[]⟩, .int .i64 0]) 9 136 := ⟨Tryz.underlying23, infoPlacedR, rfl, by omega⟩
def ZCL : List Value := [.slice none 0 0, .slice none 0 0, .int .i64 0, .int .i64 0, .int .i64 0, .int .i64 0]
/-- the call's state: the reader's place (its box lies behind the result's), the cluster's box behind it; all that changed is new -/
structure Sn (w wk : World) (s : ByteArray) (a : Int) (cs : List Value) : Prop where
  cur : ICur wk (w.heap.size + 1) s a
  box : Blk wk (w.heap.size + 1 + 1) cs
  rb : Blk wk w.heap.size ZCL
  below : Below w.heap.size w wk
section
variable {w wk w' : World} {s : ByteArray} {a a' : Int} {cs : List Value}
theorem Sn.call (h : Sn w wk s a cs) (hc : ICur w' (w.heap.size + 1) s a') (hu : Upd [w.heap.size + 1] wk w') : Sn w w' s a' cs :=
  ⟨hc, h.box.upd hu (by omega), h.rb.upd hu (by omega), h.below.trans (hu.below (fun y hy => by simp only [List.mem_singleton] at hy; omega) (by have := h.below.size; omega))⟩
theorem Sn.put (h : Sn w wk s a cs) (i : Nat) (u : Value) : Sn w (wk.setCell ⟨w.heap.size + 1 + 1, i, none⟩ u) s a (cs.set i u) :=
  ⟨h.cur.far (by omega) i u, h.box.put i u, h.rb.far (by omega) i u, ext_setCell h.below (by dsimp only; omega) u⟩
theorem Sn.ext (h : Sn w wk s a cs) (hb : Below wk.heap.size wk w') : Sn w w' s a cs := ⟨h.cur.ext hb, h.box.ext hb, h.rb.ext hb, ext_trans h.below hb⟩
theorem Sn.far (h : Sn w wk s a cs) {c : Nat} (hc : w.heap.size + 1 + 1 < c) (i : Nat) (u : Value) : Sn w (wk.setCell ⟨c, i, none⟩ u) s a cs :=
  ⟨h.cur.far (by omega) i u, h.box.far (by omega) i u, h.rb.far (by omega) i u, ext_setCell h.below (by dsimp only; omega) u⟩
theorem Sn.grown {row : Option Nat} (h : Sn w wk s a cs) (hg : wk.grownBy w' row) (hr : ∀ q, row = some q → w.heap.size + 1 + 1 < q) : Sn w w' s a cs :=
  ⟨h.cur.keep (hg.block _ h.cur.lt (by intro e; have := hr _ e.symm; omega)), h.box.keep (hg.block _ h.box.lt (by intro e; have := hr _ e.symm; omega)), h.rb.keep (hg.block _ h.rb.lt (by intro e; have := hr _ e.symm; omega)),
   ⟨hg.os.trans h.below.os, hg.tape.trans h.below.tape, hg.output.trans h.below.output, Nat.le_trans h.below.size hg.size, fun i hi => (hg.block i (by have := h.below.size; omega) (by intro e; have := hr _ e.symm; omega)).trans (h.below.block i hi)⟩⟩
end
theorem hostI_small (s : ByteArray) (a : Int) (hs : (s.size : Int) ≤ 1048576) : SmallH (hostI s a).1 := by
  refine ⟨textI_size s a hs, ?_, labelsI_small s _ hs, ?_, loopI_all (fun a => ⟨textI_size s _ hs, textI_size s _ hs⟩) _ _ _ (fun l hl => by cases hl)⟩
  · have := labelsI_len s (textI s a).2
    show ((labelsI s (textI s a).2).1.length : Int) ≤ 1048576
    omega
  · have h := loopI_len (taintI s) (countI s 4 (varI s (varI s (varI s (labelsI s (textI s a).2).2).2).2).2).1.toNat [] (countI s 4 (varI s (varI s (varI s (labelsI s (textI s a).2).2).2).2).2).2
    have := countI_ways s 4 (varI s (varI s (varI s (labelsI s (textI s a).2).2).2).2).2 (by decide)
    show ((loopI (taintI s) (countI s 4 (varI s (varI s (varI s (labelsI s (textI s a).2).2).2).2).2).1.toNat [] (countI s 4 (varI s (varI s (varI s (labelsI s (textI s a).2).2).2).2).2).2).1.length : Int) ≤ 1048576
    rw [h, List.length_nil]
    omega
theorem manyI_len4 {α : Type} (r : Int → α × Int) (s : ByteArray) (a : Int) : (manyI r s 4 a).1.length ≤ 4 := by
  have h := loopI_len r (countI s 4 a).1.toNat [] (countI s 4 a).2
  have := countI_ways s 4 a (by decide)
  unfold manyI
  rw [h, List.length_nil]
  omega
theorem manyI_all {α : Type} {r : Int → α × Int} {p : α → Prop} (hr : ∀ a, p (r a).1) (s : ByteArray) (most a : Int) : ∀ x ∈ (manyI r s most a).1, p x := loopI_all hr _ _ _ (fun l hl => by cases hl)
theorem podI_small (s : ByteArray) (a : Int) (hs : (s.size : Int) ≤ 1048576) : SmallP (podI s a).1 := by
  have hl := labelsI_len s (textI s a).2
  unfold podI podRaw restPI
  dsimp only
  refine ⟨textI_size s a hs, by dsimp only; omega, labelsI_small s _ hs, ?_, manyI_all (fun a => needI_small s a hs) s _ _, ?_, manyI_all (fun a => tolI_small s a hs) s _ _⟩
  · have := manyI_len4 (needI s) s (varI s (varI s (varI s (labelsI s (textI s a).2).2).2).2).2
    dsimp only
    omega
  · have := manyI_len4 (tolI s) s (manyI (needI s) s 4 (varI s (varI s (varI s (labelsI s (textI s a).2).2).2).2).2).2
    dsimp only
    omega
theorem Own.updO {α : Type} [Dat α] {w w' : World} {B b : Nat} {x : α} {cs : List Value} {F : List Nat} (h : Own w B x cs F) (hu : Upd [b] w w') (hb : b < B) : Own w' B x cs F :=
  h.keep (fun y hy => hu.block y (h.lt y hy) (by have := h.base y hy; simp only [List.mem_singleton]; omega)) hu.size
theorem Own.grownO {α : Type} [Dat α] {w w' : World} {B B2 : Nat} {x : α} {cs : List Value} {F : List Nat} {row : Option Nat} (h : Own w B x cs F) (hg : w.grownBy w' row) (hF : ∀ y ∈ F, y < B2) (hr : ∀ q, row = some q → B2 ≤ q) : Own w' B x cs F :=
  h.keep (fun y hy => hg.block y (h.lt y hy) (by intro e; have := hr _ e.symm; have := hF y hy; omega)) hg.size
theorem Own.placed {w : World} {B : Nat} {p : Pod} {nm : ByteArray} {n : Int} {ps : List Value} {G : List Nat} (h : Own w B p ps G) (h1 : (nm.size : Int) ≤ 1048576) (h2 : I64 n) : Own w B (⟨p, nm, n⟩ : Placed) (ps ++ [.string nm, .int .i64 n]) G := by
  refine Own.up (B' := B) (fun x : Placed => (x.pod, x.on, x.seq)) ?_ (Nat.le_refl _)
  have h3 : Own w (B + w.heap.size) (nm, n) ([.string nm] ++ [.int .i64 n]) [] := Own.cons (rdStr w nm (by omega)) (Own.flat (rdInt w n h2))
  have h4 := Own.pair h h3 (by omega) (fun b hb => by have := h.lt b hb; omega)
  simpa using h4
theorem Own.clusterR {w : World} {B B3 B4 : Nat} {H : List Host} {P : List Placed} {n p q f : Int} {Ah Ap : Option Addr} {ch cp : Nat} {Gh Gp : List Nat} (h : Own w B3 H [.slice Ah H.length ch] Gh) (k : Own w B4 P [.slice Ap P.length cp] Gp) (hB : B ≤ B3) (hB4 : B3 ≤ B4) (hG : ∀ y ∈ Gh, y < B4) (hn : I64 n) (hp : I64 p) (hq : I64 q) (hf : I64 f) :
    Own w B (⟨H, P, n, ⟨p, q, f⟩⟩ : Cluster) [.slice Ah H.length ch, .slice Ap P.length cp, .int .i64 n, .int .i64 p, .int .i64 q, .int .i64 f] (Gh ++ Gp) := by
  refine Own.up (B' := B3) (fun x : Cluster => (x.hosts, x.pods, x.next, x.weights)) ?_ hB
  have h5 : Own w (B4 + w.heap.size) (⟨p, q, f⟩ : Weights) ([.int .i64 p] ++ ([.int .i64 q] ++ [.int .i64 f])) [] := by
    refine Own.up (B' := B4 + w.heap.size) (fun x : Weights => (x.pack, x.spread, x.soft)) ?_ (Nat.le_refl _)
    exact Own.cons (rdInt w p hp) (Own.cons (rdInt w q hq) (Own.flat (rdInt w f hf)))
  have h6 := Own.cons (rdInt w n hn) h5
  have h7 := Own.pair h (Own.pair k h6 (by omega) (fun b hb => by have := k.lt b hb; omega)) hB4 hG
  simpa using h7
theorem Own.noHosts {α : Type} [Dat α] (w : World) (B : Nat) : Own w B ([] : List α) [.slice none ([] : List α).length 0] [] := ⟨Sl.nil w none 0 (Nat.zero_le _), List.nodup_nil, (fun b hb => by cases hb), (fun b hb => by cases hb)⟩
theorem Own.zeroC (w : World) (B : Nat) : Own w B zeroCluster ZCL [] := by
  have h := Own.clusterR (w := w) (B := B) (B3 := B) (B4 := B) (n := 0) (p := 0) (q := 0) (f := 0) (Own.noHosts (α := Host) w B) (Own.noHosts (α := Placed) w B) (Nat.le_refl _) (Nat.le_refl _) (fun b hb => by cases hb) ⟨by decide, by decide⟩ ⟨by decide, by decide⟩ ⟨by decide, by decide⟩ ⟨by decide, by decide⟩
  exact h
theorem hostName_size {hs : List Host} (h : ∀ y ∈ hs, SmallH y) (k : Int) : ((hostName hs k).size : Int) ≤ 1048576 := by
  unfold hostName
  split
  · split
    · rename_i x hx
      exact (h x (List.mem_of_getElem? hx)).ns
    · decide
  · decide

end Go.Proofs.YtpgdgcjgompokaaGreat
