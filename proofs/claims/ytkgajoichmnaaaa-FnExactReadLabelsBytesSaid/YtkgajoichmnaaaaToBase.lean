/- laws' copies. -/
import Derived.Test.YtkgajoichmnaaaaAppend
import Derived.Test.YtkgajoichmnaaaaSz
namespace Go.Proofs.Ytkgajoichmnaaaa
open Dat (rd)
open Go.ChangeShapes Go.WideShapes Go.ChangeAt Go.RowKit
set_option linter.unusedVariables false
set_option linter.unusedSimpArgs false

section
variable {α β : Type} [Dat α] [Dat β] {w : World} {B B2 : Nat} {x : α} {y : β} {c1 c2 : List Value} {F1 F2 : List Nat}
theorem Own.pair (h1 : Own w B x c1 F1) (h2 : Own w B2 y c2 F2) (hB : B ≤ B2) (hF : ∀ b ∈ F1, b < B2) : Own w B (x, y) (c1 ++ c2) (F1 ++ F2) := by
  refine ⟨⟨c1, c2, F1, F2, rfl, rfl, h1.rd, h2.rd⟩, ?_, ?_, ?_⟩
  · rw [List.nodup_append]
    exact ⟨h1.nodup, h2.nodup, fun a ha b hb => by have := hF a ha; have := h2.base b hb; omega⟩
  · intro b hb
    rcases List.mem_append.1 hb with hb | hb
    · exact h1.base b hb
    · exact Nat.le_trans hB (h2.base b hb)
  · intro b hb
    rcases List.mem_append.1 hb with hb | hb
    · exact h1.plain b hb
    · exact h2.plain b hb
theorem Own.up {γ : Type} {z : γ} {cs : List Value} {F : List Nat} {B' : Nat} (g : γ → β) (h : Own w B' (g z) cs F) (hB : B ≤ B') : @Own γ (Dat.iso g) w B z cs F :=
  @Own.mk γ (Dat.iso g) w B z cs F h.rd h.nodup (fun b hb => Nat.le_trans hB (h.base b hb)) h.plain
theorem calls_gen3 {P : Program} {fn : FuncId} {args : Array Value} {w : World} {o0 o1 o2 : Obj} {R : Ending → World → Prop}
    (h : ∀ W : World, W.heap[w.heap.size]? = some o0 → W.heap[w.heap.size + 1]? = some o1 → W.heap[w.heap.size + 1 + 1]? = some o2 → W.heap.size = w.heap.size + 1 + 1 + 1 → Below w.heap.size w W → Calls P fn args W R) :
    Calls P fn args (((w.alloc o0).alloc o1).alloc o2) R := by
  have e0 := heap_alloc_new w o0
  have e1 := heap_alloc_new (w.alloc o0) o1
  have e2 := heap_alloc_new ((w.alloc o0).alloc o1) o2
  have s0 : (w.alloc o0).heap.size = w.heap.size + 1 := by simp
  have s1 : ((w.alloc o0).alloc o1).heap.size = w.heap.size + 1 + 1 := by simp
  refine h _ ?_ ?_ ?_ (by simp) (ext_alloc (ext_alloc (ext_alloc (ext_refl _) _) _) _)
  · rw [Below.heap_alloc _ _ _ (by omega), Below.heap_alloc _ _ _ (by omega), e0]
  · rw [Below.heap_alloc _ _ _ (by omega)]
    rw [s0] at e1
    exact e1
  · rw [s1] at e2
    exact e2
theorem frozen_row {w : World} {g : Nat} {c : Array Value} {t : TypeId} (h : w.heap[g]? = some (.cells c t)) : ∀ j, w.frozen? ⟨g, j, none⟩ = false := fun j => by simp [World.frozen?, h]
theorem cells_row {w : World} {g : Nat} {c : Array Value} {t : TypeId} (h : w.heap[g]? = some (.cells c t)) : ∀ j, w.cell? ⟨g, j, none⟩ = c[j]? := fun j => cell_of_row w g j c t (0, 0) h
theorem Own.cons (h1 : Go.Proofs.Ytkgajoichmnaaaa.Dat.rd w x c1 []) (h2 : Own w B y c2 F2) : Own w B (x, y) (c1 ++ c2) F2 := by
  have := (Own.flat (B := B) h1).pair h2 (Nat.le_refl _) (fun b hb => by cases hb)
  simpa using this
end
theorem infoString : (Try.prog.info? 9).map (fun i => (i.zero, i.size, i.bytes)) = some (some (.string ⟨#[]⟩), 1, 16) := by kernel_rfl
theorem elString : ElOk Try.prog 47 9 (.string ⟨#[]⟩) 1 16 := ⟨Try.underlying47, infoString, rfl, by omega⟩
end Go.Proofs.Ytkgajoichmnaaaa
