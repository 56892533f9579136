/- A region whose operations that only read may be taken first, wherever they stand in the text, and whose others come one behind the other. No condition. -/
import Derived.Test.YtegekccoincicaaGreatDoorRegion
import Derived.Sort.Grow
namespace Go.Proofs.YtegekccoincicaaGreatDoor
open Go.RowKit
set_option linter.unusedVariables false
/-- the operations at these places -/
def pick (l : List Oper) : List Nat → List Oper
  | [] => []
  | j :: js => match l[j]? with | some o => o :: pick l js | none => pick l js
section
variable {P : Program} {ops : Array Oper} {md : Region.Mode} {C : World → Prop} {Q : Exit → Act → World → Prop}
def listedIx : List Nat → Array Bool → Array Bool
  | [], l => l
  | k :: ks, l => listedIx ks (l.setIfInBounds k true)
def headIxB (md : Region.Mode) (ops : Array Oper) : List Nat → Array Bool → Bool
  | [], _ => true
  | k :: ks, listed => Region.free md ops listed k && (Region.ready md ops listed).contains k && headIxB md ops ks (listed.setIfInBounds k true)
def seqIxB (md : Region.Mode) (ops : Array Oper) : List Nat → Array Bool → Bool
  | [], listed => (Region.ready md ops listed).isEmpty
  | k :: ks, listed => decide (Region.ready md ops listed = [k]) && seqIxB md ops ks (listed.setIfInBounds k true)
end
end Go.Proofs.YtegekccoincicaaGreatDoor
namespace Go.Proofs.YtegekccoincicaaGreatDoor
set_option linter.unusedVariables false
set_option linter.unusedSimpArgs false
section
variable {β : Type} (lt : β → β → Bool)
/-- lt is a strict weak order -/
structure Weak : Prop where
  irr : ∀ x, lt x x = false
  tr : ∀ x y z, lt x y = true → lt y z = true → lt x z = true
  neg : ∀ x y z, lt x y = false → lt y z = false → lt x z = false
variable {lt}
/-- x before y, y not behind z: x before z -/
theorem Weak.left (W : Weak lt) {x y z : β} (h : lt x y = true) (h2 : lt z y = false) : lt x z = true := by
  cases h3 : lt x z
  · have := W.neg x z y h3 h2; rw [this] at h; cases h
  · rfl
theorem Weak.right (W : Weak lt) {x y z : β} (h : lt y x = false) (h2 : lt y z = true) : lt x z = true := by
  cases h3 : lt x z
  · have := W.neg y x z h h3; rw [this] at h2; cases h2
  · rfl
end
end Go.Proofs.YtegekccoincicaaGreatDoor
namespace Go.Proofs.YtegekccoincicaaGreatDoor
open Go.ChangeShapes Go.WideShapes Go.ChangeAt Go.RowKit
/-- new blocks and draws, nothing else -/
def Gr (w w' : World) : Prop := ∃ q os, w' = Go.Sort.grow (w.drewN q) os
theorem Gr.refl (w : World) : Gr w w := ⟨0, #[], by simp [Go.Sort.grow, World.drewN]⟩
theorem Gr.alloc {w w' : World} (h : Gr w w') (o : Obj) : Gr w (w'.alloc o) := by
  obtain ⟨q, os, rfl⟩ := h
  exact ⟨q, os.push o, by simp [Go.Sort.grow, World.alloc, World.drewN]⟩
theorem Gr.drew {w w' : World} (h : Gr w w') : Gr w w'.drew := by
  obtain ⟨q, os, rfl⟩ := h
  exact ⟨q + 1, os, rfl⟩
theorem Gr.trans {w w1 w2 : World} (h : Gr w w1) (k : Gr w1 w2) : Gr w w2 := by
  obtain ⟨q, os, rfl⟩ := h
  obtain ⟨q2, os2, rfl⟩ := k
  exact ⟨q + q2, os ++ os2, by simp [Go.Sort.grow, World.drewN, Nat.add_assoc]⟩
theorem Gr.below {w w' : World} (h : Gr w w') : Below w.heap.size w w' := by
  obtain ⟨q, os, rfl⟩ := h
  exact ⟨rfl, rfl, rfl, by simp [Go.Sort.grow, World.drewN], fun k hk => by simp [Go.Sort.grow, World.drewN, Array.getElem?_append_left hk]⟩
end Go.Proofs.YtegekccoincicaaGreatDoor
namespace Go.Proofs.YtegekccoincicaaGreatDoor
open Go.RowKit
set_option linter.unusedVariables false
section
variable {P : Program} {l : List Oper} {C : World → Prop} {Q : Exit → Act → World → Prop}
/-- 'listed' of these operations, n of them unlisted; the world is of the class C throughout -/
def AnyH (P : Program) (l : List Oper) (Q : Exit → Act → World → Prop) (C : World → Prop) (n : Nat) (listed : Array Bool) (a : Act) (w : World) : Prop := wpAnyH P .any l.toArray Q C n listed a w
theorem wp_region_anyH {id : Nat} {a : Act} {w : World} (w0 : World) (n : Nat) (hm : P.follows .mixedOrders = true) (hn : l.toArray.size = n) (hw : Below w0.heap.size w0 w)
    (h : AnyH P l Q (Cls w0) n (Array.replicate n false) a w.drew) : (Code.region id l.toArray true).wp P Q a w := by
  subst hn
  exact wp_region_held_drew (S := Cls w0) hm (ext_drew hw) fun _ => h
/-- an operation that only yields a value goes first -/
theorem anyH_take {n : Nat} {listed : Array Bool} {a : Act} {w : World} (i : Nat) {o : Oper} (v : Value) (ho : l[i]? = some o) (hB : (Region.noSelect l.toArray && Region.free .any l.toArray listed i && (Region.ready .any l.toArray listed).contains i) = true)
    (hQ : ∀ c a d v w, Q (.panic c) (Act.put a d v) w → Q (.panic c) a w) (hC : C w) (hy : YieldsIf P l.toArray C o v a) (h : AnyH P l Q C n (listed.setIfInBounds i true) (a.put o.dst v) w) : AnyH P l Q C (n + 1) listed a w := by
  simp only [Bool.and_eq_true] at hB
  exact wpAnyH_take (by simpa using ho) hB.1.1 hB.1.2 hB.2 (fun c a' w' => hQ c a' _ v w') hy hC h
theorem anyH_op {n : Nat} {listed : Array Bool} {a : Act} {w : World} {i : Nat} {o : Oper} (ho : l[i]? = some o) (hw : Region.wanted o (yielded l.toArray a.tmps) = true)
    (h : ∀ K : Act → World → Prop, (∀ a' w', C w' → AnyH P l Q C n (listed.setIfInBounds i true) a' w' → K a' w') → o.wp P a w K Q) :
    wpOp P l.toArray Q i (fun a' w' => C w' ∧ wpAnyH P .any l.toArray Q C n (listed.setIfInBounds i true) a' w') a w := by
  unfold wpOp
  rw [show l.toArray[i]? = some o by simpa using ho]
  dsimp only
  rw [if_pos hw]
  exact .inl (h _ fun a' w' h1 h2 => ⟨h1, h2⟩)
theorem anyH_one {n : Nat} {listed : Array Bool} {a : Act} {w : World} (i : Nat) {o : Oper} (ho : l[i]? = some o) (hr : Region.ready .any l.toArray listed = [i]) (hw : Region.wanted o (yielded l.toArray a.tmps) = true)
    (h : ∀ K : Act → World → Prop, (∀ a' w', C w' → AnyH P l Q C n (listed.setIfInBounds i true) a' w' → K a' w') → o.wp P a w K Q) : AnyH P l Q C (n + 1) listed a w :=
  wpAnyH_all hr (by simp) fun j hj => by
    obtain rfl : j = i := by simpa using hj
    exact anyH_op ho hw h
theorem anyH_two {n : Nat} {listed : Array Bool} {a : Act} {w : World} (i j : Nat) {o o' : Oper} (ho : l[i]? = some o) (ho' : l[j]? = some o') (hr : Region.ready .any l.toArray listed = [i, j]) (hw : Region.wanted o (yielded l.toArray a.tmps) = true) (hw' : Region.wanted o' (yielded l.toArray a.tmps) = true)
    (h : ∀ K : Act → World → Prop, (∀ a' w', C w' → AnyH P l Q C n (listed.setIfInBounds i true) a' w' → K a' w') → o.wp P a w K Q)
    (h' : ∀ K : Act → World → Prop, (∀ a' w', C w' → AnyH P l Q C n (listed.setIfInBounds j true) a' w' → K a' w') → o'.wp P a w K Q) : AnyH P l Q C (n + 1) listed a w :=
  wpAnyH_all hr (by simp) fun k hk => by
    simp only [List.mem_cons, List.not_mem_nil, or_false] at hk
    rcases hk with rfl | rfl
    · exact anyH_op ho hw h
    · exact anyH_op ho' hw' h'
/-- what stands behind the region, walked once: all orders end in E -/
theorem anyH_to {n : Nat} {listed : Array Bool} {a : Act} {w : World} (E : Act → Act → World → Prop) (hE : ∀ a' w', E a a' w' → Q .normal a' w') (h : (∀ a' w', E a a' w' → Q .normal a' w') → AnyH P l Q C n listed a w) : AnyH P l Q C n listed a w := h hE
theorem anyH_done {listed : Array Bool} {a : Act} {w : World} (hr : Region.ready .any l.toArray listed = []) (h : Q .normal a w) : AnyH P l Q C 0 listed a w := wpAnyH_done hr h 0
end
end Go.Proofs.YtegekccoincicaaGreatDoor
