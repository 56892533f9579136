/- Rows of taints. No condition. -/
import Derived.Test.YtjhonoabpelfeaaMark
import Derived.Test.YtjhonoabpelfeaaAppendAt
namespace Go.Proofs.Ytjhonoabpelfeaa
open Go.ChangeShapes Go.WideShapes Go.ChangeAt Go.RowKit
set_option linter.unusedVariables false
set_option linter.unusedSimpArgs false

theorem row_slice {w : World} {B e size n : Nat} {v : Value} {xs : List Value} (h : w.ownsRow B e size v n xs) : ∃ A c, v = .slice A n c := by
  rcases h.2 with ⟨rfl, hn⟩ | ⟨g, cap, cur, rfl, _⟩
  · subst hn; exact ⟨none, 0, rfl⟩
  · exact ⟨_, _, rfl⟩
theorem infoTaint : (Try.prog.info? 67).map (fun i => (i.zero, i.size, i.bytes)) = some (some (.agg #[.string ⟨#[]⟩, .string ⟨#[]⟩, .int .i64 0]), 3, 40) := by kernel_rfl
theorem elTaint : ElOk Try.prog 29 67 (.agg #[.string ⟨#[]⟩, .string ⟨#[]⟩, .int .i64 0]) 3 40 := ⟨Try.underlying29, infoTaint, rfl, by omega⟩
theorem OwnCells.tnt {w w' : World} {B : Nat} {xs : List Taint} {ds : List Value} (h : OwnCells w B xs ds []) (hs : w.heap.size ≤ w'.heap.size) {l : Taint} (h1 : (l.key.size : Int) ≤ 1048576) (h2 : (l.value.size : Int) ≤ 1048576) (h3 : I64 l.effect) : OwnCells w' B (xs ++ [l]) (ds ++ [.string l.key, .string l.value, .int .i64 l.effect]) [] :=
  ⟨(h.rd.frame (fun b hb => by cases hb) hs).append (.single (rd_Taint_mk w' l (by unfold maxLen; omega) (by unfold maxLen; omega) h3)), List.nodup_nil, (fun b hb => by cases hb), (fun b hb => by cases hb)⟩

end Go.Proofs.Ytjhonoabpelfeaa
