/- A region of drawn order, walked by hand: what is ready is named at each step. No condition. -/
import Derived.Test.YtffjbbamcflmbaaRegionIx
namespace Go.Proofs.Ytffjbbamcflmbaa
open Go.RowKit
set_option linter.unusedVariables false
section
variable {P : Program} {l : List Oper} {C : World → Prop} {Q : Exit → Act → World → Prop}
/-- 'listed' of these operations, n of them unlisted; the world is of the class C throughout -/
def AnyH (P : Program) (l : List Oper) (Q : Exit → Act → World → Prop) (C : World → Prop) (n : Nat) (listed : Array Bool) (a : Act) (w : World) : Prop := wpAnyH P .any l.toArray Q C n listed a w
theorem wp_region_anyH {id : Nat} {a : Act} {w : World} (w0 : World) (n : Nat) (hm : P.follows .mixedOrders = true) (hn : l.toArray.size = n) (hw : Below w0.heap.size w0 w)
    (h : AnyH P l Q (Cls w0) n (Array.replicate n false) a w.drew) : (Code.region id l.toArray true).wp P Q a w := by
  subst hn
  exact wp_region_held_drew (S := Cls w0) hm (ext_drew hw) fun _ => h
/-- an operation that only yields a value goes first -/
theorem anyH_take {n : Nat} {listed : Array Bool} {a : Act} {w : World} (i : Nat) {o : Oper} (v : Value) (ho : l[i]? = some o) (hB : (Region.noSelect l.toArray && Region.free .any l.toArray listed i && (Region.ready .any l.toArray listed).contains i) = true)
    (hQ : ∀ c a d v w, Q (.panic c) (Act.put a d v) w → Q (.panic c) a w) (hC : C w) (hy : YieldsIf P l.toArray C o v a) (h : AnyH P l Q C n (listed.setIfInBounds i true) (a.put o.dst v) w) : AnyH P l Q C (n + 1) listed a w := by
  simp only [Bool.and_eq_true] at hB
  exact wpAnyH_take (by simpa using ho) hB.1.1 hB.1.2 hB.2 (fun c a' w' => hQ c a' _ v w') hy hC h
theorem anyH_op {n : Nat} {listed : Array Bool} {a : Act} {w : World} {i : Nat} {o : Oper} (ho : l[i]? = some o) (hw : Region.wanted o (yielded l.toArray a.tmps) = true)
    (h : ∀ K : Act → World → Prop, (∀ a' w', C w' → AnyH P l Q C n (listed.setIfInBounds i true) a' w' → K a' w') → o.wp P a w K Q) :
    wpOp P l.toArray Q i (fun a' w' => C w' ∧ wpAnyH P .any l.toArray Q C n (listed.setIfInBounds i true) a' w') a w := by
  unfold wpOp
  rw [show l.toArray[i]? = some o by simpa using ho]
  dsimp only
  rw [if_pos hw]
  exact .inl (h _ fun a' w' h1 h2 => ⟨h1, h2⟩)
theorem anyH_one {n : Nat} {listed : Array Bool} {a : Act} {w : World} (i : Nat) {o : Oper} (ho : l[i]? = some o) (hr : Region.ready .any l.toArray listed = [i]) (hw : Region.wanted o (yielded l.toArray a.tmps) = true)
    (h : ∀ K : Act → World → Prop, (∀ a' w', C w' → AnyH P l Q C n (listed.setIfInBounds i true) a' w' → K a' w') → o.wp P a w K Q) : AnyH P l Q C (n + 1) listed a w :=
  wpAnyH_all hr (by simp) fun j hj => by
    obtain rfl : j = i := by simpa using hj
    exact anyH_op ho hw h
theorem anyH_two {n : Nat} {listed : Array Bool} {a : Act} {w : World} (i j : Nat) {o o' : Oper} (ho : l[i]? = some o) (ho' : l[j]? = some o') (hr : Region.ready .any l.toArray listed = [i, j]) (hw : Region.wanted o (yielded l.toArray a.tmps) = true) (hw' : Region.wanted o' (yielded l.toArray a.tmps) = true)
    (h : ∀ K : Act → World → Prop, (∀ a' w', C w' → AnyH P l Q C n (listed.setIfInBounds i true) a' w' → K a' w') → o.wp P a w K Q)
    (h' : ∀ K : Act → World → Prop, (∀ a' w', C w' → AnyH P l Q C n (listed.setIfInBounds j true) a' w' → K a' w') → o'.wp P a w K Q) : AnyH P l Q C (n + 1) listed a w :=
  wpAnyH_all hr (by simp) fun k hk => by
    simp only [List.mem_cons, List.not_mem_nil, or_false] at hk
    rcases hk with rfl | rfl
    · exact anyH_op ho hw h
    · exact anyH_op ho' hw' h'
/-- what stands behind the region, walked once: all orders end in E -/
theorem anyH_to {n : Nat} {listed : Array Bool} {a : Act} {w : World} (E : Act → Act → World → Prop) (hE : ∀ a' w', E a a' w' → Q .normal a' w') (h : (∀ a' w', E a a' w' → Q .normal a' w') → AnyH P l Q C n listed a w) : AnyH P l Q C n listed a w := h hE
theorem anyH_done {listed : Array Bool} {a : Act} {w : World} (hr : Region.ready .any l.toArray listed = []) (h : Q .normal a w) : AnyH P l Q C 0 listed a w := wpAnyH_done hr h 0
end
end Go.Proofs.Ytffjbbamcflmbaa
