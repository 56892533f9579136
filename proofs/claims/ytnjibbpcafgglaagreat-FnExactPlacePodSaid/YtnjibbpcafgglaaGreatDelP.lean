/- An element taken out of a row of the call's own. No condition. -/
import Derived.Test.YtnjibbpcafgglaaGreatMarks0
import Derived.Laws.IdiomCopy
namespace Go.Proofs.YtnjibbpcafgglaaGreat
open Go.ChangeShapes Go.WideShapes Go.ChangeAt Go.RowKit
set_option linter.unusedVariables false
set_option linter.unusedSimpArgs false
theorem Zp {P:Program} (w:World) (t e ty:TypeId) (z:Value) (ht:P.underlying t = some (.slice e)) (hv:∀w,(zeroValue e).run P w = .ok z w) (h1:∀u∈z.cells.toList,u.oneCell' = true) (b o c:Nat)
 (hc:∀j,j < z.cells.size→(w.cell? ⟨b,o+j,none⟩).isSome = true) (hf:∀j,j < z.cells.size→w.frozen? ⟨b,o+j,none⟩ = false) :
 (Builtin.clear_ #[t] ty #[.slice (some ⟨b,o,none⟩) 1 c]).run P w = .ok (.tuple #[]) (w.setCells b o z.cells.toList):=by
 have hzc:(Builtin.zeroCells z.cells 1).toList = z.cells.toList:=by
  apply List.ext_getElem
  ·simp [Builtin.zeroCells]
  ·intro i h1 h2
   simp [Builtin.zeroCells] at h1 ⊢
   simp [Nat.mod_eq_of_lt (show i < z.cells.size from by simpa using h2),show i < z.cells.size from by simpa using h2]
 have hst:=run_storeCells_cells (P:=P) b o z.cells.toList 0 w (by simpa using hc) (by simpa using hf) h1
 simp only [Nat.add_zero] at hst
 simp [Builtin.clear_,run_underlying ht,hv,hzc,hst]
theorem setCells_size (b:Nat):∀(vs:List Value) (o:Nat) (w:World),(w.setCells b o vs).heap.size = w.heap.size
 | [],_,_=>rfl
 | v :: r,o,w=>by rw [World.setCells,setCells_size b r];simp [World.setCell]
theorem vV (b:Nat) {k:Nat} (hk:k≠b):∀(vs:List Value) (o:Nat) (w:World),(w.setCells b o vs).heap[k]? = w.heap[k]?
 | [],_,_=>rfl
 | v :: r,o,w=>by rw [World.setCells,vV b hk r];exact Below.heap_setCell _ _ _ _ atX
theorem F8 (b:Nat):∀(vs:List Value) (o:Nat) (w:World),(w.setCells b o vs).os = w.os∧(w.setCells b o vs).tape = w.tape∧(w.setCells b o vs).output = w.output
 | [],_,_=>⟨rfl,rfl,rfl⟩
 | v :: r,o,w=>by rw [World.setCells];exact F8 b r (o+1) _
theorem EK (b:Nat):∀(vs:List Value) (o:Nat) (w:World),Plain w b→Plain (w.setCells b o vs) b
 | [],_,_,h=>h
 | v :: r,o,w,h=>by rw [World.setCells];exact EK b r (o+1) _ (h.setCell b o v)
theorem Own.del {α:Type} [Dat α] {w:World} {B c:Nat} {xs:List α} {A:Option Addr} {F:List Nat} (h:Own w B xs [.slice A xs.length c] F) {i:Nat} (hi:i < xs.length) :
 ∃b o ds,A = some ⟨b,o,none⟩∧b∈F∧b < w.heap.size∧xs.length≤c∧c≤maxLen∧ds.length = xs.length * Dat.size α∧(∀u∈ds,u.oneCell' = true)∧Cells w b o ds∧Plain w b ∧
  ∀W:World,(∀k,k≠b→W.heap[k]? = w.heap[k]?)→W.heap.size = w.heap.size→Plain W b→Cells W b o (ds.take (i * Dat.size α)++ds.drop ((i+1) * Dat.size α)) →
   ∃F',Own W B (xs.eraseIdx i) [.slice A (xs.length - 1) c] F'∧∀y∈F',y∈F:=by
 obtain ⟨⟨A',c',G,ds,e,hc1,hc2,hc,h0⟩,hnd,hbase,hplain⟩:=h
 simp only [List.cons.injEq,Value.slice.injEq,and_true,true_and] at e
 obtain ⟨rfl,rfl⟩:=e
 rcases h0 with h0 | ⟨b,o,rfl,rfl,hb,hcell⟩
 ·rw [h0.1] at hi;cases hi
 refine ⟨b,o,ds,rfl,List.mem_cons_self ..,hb,hc1,hc2,hc.len,hc.one,hcell,hplain b (List.mem_cons_self ..),fun W hk hz hp hcW=>?_⟩
 obtain ⟨d1,ck,d2,G1,Fk,G2,rfl,rfl,r1,r2,r3,hd1⟩:=hc.split hi
 have hckl:=Dat.len r2
 have e1:(d1++(ck++d2)).take (i * Dat.size α) = d1:=by rw [← hd1,List.take_left]
 have e2:(d1++(ck++d2)).drop ((i+1) * Dat.size α) = d2:=by
  rw [← List.append_assoc,show (i+1) * Dat.size α = (d1++ck).length by rw [List.length_append,hd1,hckl,Nat.succ_mul],List.drop_left]
 rw [e1,e2] at hcW
 simp only [List.nodup_cons,List.nodup_append,List.mem_append,not_or] at hnd
 have hx:(xs.eraseIdx i) = xs.take i++xs.drop (i+1):=List.eraseIdx_eq_take_drop_succ ..
 have hl:(xs.eraseIdx i).length = xs.length - 1:=by rw [List.length_eraseIdx,if_pos hi]
 have hsub:∀y∈G1++G2,y∈b :: (G1++(Fk++G2)):=fun y hy=>by
  rcases List.mem_append.1 hy with hy | hy <;> simp [hy]
 have hkeep:∀y∈G1++G2,W.heap[y]? = w.heap[y]?:=fun y hy=>hk y (by
  rintro rfl
  rcases List.mem_append.1 hy with hy | hy
  ·exact hnd.1.1 hy
  ·exact hnd.1.2.2 hy)
 refine ⟨b :: (G1++G2),⟨⟨_,c,G1++G2,d1++d2,by rw [hl],by rw [hl];omega,hc2,?_,.inr ⟨b,o,rfl,rfl,by omega,hcW⟩⟩,?_,?_,?_⟩,?_⟩
 ·rw [hx]
  exact (r1.frame (fun y hy=>hkeep y (List.mem_append_left _ hy)) (by omega)).append (r3.frame (fun y hy=>hkeep y (List.mem_append_right _ hy)) (by omega))
 ·rw [List.nodup_cons,List.nodup_append]
  refine ⟨fun hb'=>?_,hnd.2.1,hnd.2.2.1.2.1,fun x hx y hy=>hnd.2.2.2 x hx y (Or.inr hy)⟩
  rcases List.mem_append.1 hb' with hb' | hb'
  ·exact hnd.1.1 hb'
  ·exact hnd.1.2.2 hb'
 ·intro y hy
  rcases List.mem_cons.1 hy with rfl | hy
  ·exact hbase _ (List.mem_cons_self ..)
  ·exact hbase y (hsub y hy)
 ·intro y hy
  rcases List.mem_cons.1 hy with rfl | hy
  ·exact hp
  ·rw [hkeep y hy];exact hplain y (hsub y hy)
 ·intro y hy
  rcases List.mem_cons.1 hy with rfl | hy
  ·exact List.mem_cons_self ..
  ·exact hsub y hy
end Go.Proofs.YtnjibbpcafgglaaGreat
