/- A region whose operations that only read may be taken first, wherever they stand in the text, and whose others come one behind the other. No condition. -/
import Derived.Test.YtffjbbamcflmbaaRegion
namespace Go.Proofs.Ytffjbbamcflmbaa
open Go.RowKit
set_option linter.unusedVariables false
/-- the operations at these places -/
def pick (l : List Oper) : List Nat → List Oper
  | [] => []
  | j :: js => match l[j]? with | some o => o :: pick l js | none => pick l js
section
variable {P : Program} {ops : Array Oper} {md : Region.Mode} {C : World → Prop} {Q : Exit → Act → World → Prop}
def listedIx : List Nat → Array Bool → Array Bool
  | [], l => l
  | k :: ks, l => listedIx ks (l.setIfInBounds k true)
def headIxB (md : Region.Mode) (ops : Array Oper) : List Nat → Array Bool → Bool
  | [], _ => true
  | k :: ks, listed => Region.free md ops listed k && (Region.ready md ops listed).contains k && headIxB md ops ks (listed.setIfInBounds k true)
def seqIxB (md : Region.Mode) (ops : Array Oper) : List Nat → Array Bool → Bool
  | [], listed => (Region.ready md ops listed).isEmpty
  | k :: ks, listed => decide (Region.ready md ops listed = [k]) && seqIxB md ops ks (listed.setIfInBounds k true)
theorem wpAnyH_seqIx : ∀ (l : List Oper) (ks : List Nat) (listed : Array Bool) (a : Act) (w : World), l.toArray = ops → seqIxB md ops ks listed = true → wpListC P ops C Q (pick l ks) a w → wpAnyH P md ops Q C ks.length listed a w
  | l, [], listed, a, w, hl, hB, h => by
    simp only [seqIxB, List.isEmpty_iff] at hB
    exact ⟨hB, h⟩
  | l, k :: ks, listed, a, w, hl, hB, h => by
    simp only [seqIxB, Bool.and_eq_true, decide_eq_true_eq] at hB
    obtain ⟨_, o, ho, _⟩ := mem_ready.1 (show k ∈ Region.ready md ops listed by rw [hB.1]; simp)
    have hlo : l[k]? = some o := by rw [← hl] at ho; simpa using ho
    simp only [pick, hlo] at h
    refine wpAnyH_all hB.1 (by simp) fun i hi => ?_
    obtain rfl : i = k := by simpa using hi
    unfold wpOp
    simp only [ho]
    unfold wpListC at h
    have next : ∀ a' w', C w' ∧ wpListC P ops C Q (pick l ks) a' w' → C w' ∧ wpAnyH P md ops Q C ks.length (listed.setIfInBounds i true) a' w' := fun a' w' hh =>
      ⟨hh.1, wpAnyH_seqIx l ks _ a' w' hl hB.2 hh.2⟩
    split
    · rename_i hw
      rw [if_pos hw] at h
      exact .inl (Oper.wp_mono next h)
    · rename_i hw
      rw [if_neg hw] at h
      exact next _ _ h
theorem wpAnyH_headIx (hs : Region.noSelect ops = true) (hQ : ∀ c a d v w, Q (.panic c) (Act.put a d v) w → Q (.panic c) a w) {w : World} (hC : C w) : ∀ (l : List Oper) (js : List Nat) (g : Nat) (listed : Array Bool) (a : Act), l.toArray = ops →
    headIxB md ops js listed = true → headC P ops C (fun a' => wpAnyH P md ops Q C g (listedIx js listed) a' w) (pick l js) a → wpAnyH P md ops Q C (g + js.length) listed a w
  | l, [], g, listed, a, hl, hB, h => h
  | l, k :: js, g, listed, a, hl, hB, h => by
    simp only [headIxB, Bool.and_eq_true] at hB
    obtain ⟨_, o, ho, _⟩ := mem_ready.1 (show k ∈ Region.ready md ops listed by simpa using hB.1.2)
    have hlo : l[k]? = some o := by rw [← hl] at ho; simpa using ho
    simp only [pick, hlo] at h
    obtain ⟨v, hy, hn⟩ := h
    refine wpAnyH_take ho hs hB.1.1 hB.1.2 (fun c a' w' => hQ c a' _ v w') hy hC ?_
    exact wpAnyH_headIx hs hQ hC l js g _ _ hl hB.2 hn
def ixB (ops : Array Oper) (js ks : List Nat) : Bool := Region.noSelect ops && decide (ks.length + js.length = ops.size) && headIxB .any ops js (Array.replicate ops.size false) && seqIxB .any ops ks (listedIx js (Array.replicate ops.size false))
theorem wp_region_ix {id : Nat} {a : Act} {w : World} {l : List Oper} (w0 : World) (js ks : List Nat) (hm : P.follows .mixedOrders = true) (hB : ixB l.toArray js ks = true) (hQ : ∀ c a d v w, Q (.panic c) (Act.put a d v) w → Q (.panic c) a w)
    (hw : Below w0.heap.size w0 w) (h : headC P l.toArray (Cls w0) (fun a' => wpListC P l.toArray (Cls w0) Q (pick l ks) a' w.drew) (pick l js) a) : (Code.region id l.toArray true).wp P Q a w := by
  simp only [ixB, Bool.and_eq_true, decide_eq_true_eq] at hB
  obtain ⟨⟨⟨hs, hn⟩, hh⟩, hq⟩ := hB
  have hC : Cls w0 w.drew := ext_drew hw
  refine wp_region_held_drew (S := Cls w0) hm hC fun _ => ?_
  have mono : ∀ (m : List Oper) (b : Act), headC P l.toArray (Cls w0) (fun a' => wpListC P l.toArray (Cls w0) Q (pick l ks) a' w.drew) m b →
      headC P l.toArray (Cls w0) (fun a' => wpAnyH P .any l.toArray Q (Cls w0) ks.length (listedIx js (Array.replicate l.toArray.size false)) a' w.drew) m b := by
    intro m
    induction m with
    | nil => intro b hb; exact wpAnyH_seqIx (md := .any) l ks _ b w.drew rfl hq hb
    | cons o m ih =>
      intro b ⟨v, hy, hb⟩
      exact ⟨v, hy, ih _ hb⟩
  have := wpAnyH_headIx (md := .any) (P := P) (C := Cls w0) hs hQ hC l js ks.length (Array.replicate l.toArray.size false) a rfl hh (mono _ _ h)
  rw [hn] at this
  exact this
end
end Go.Proofs.Ytffjbbamcflmbaa
