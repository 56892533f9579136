/- Marking a value that is the call's own: what changes, what stays. No condition. -/
import Derived.Test.YtkbkikggodlbbaaGreatAppendAt
import Derived.Test.YtkbkikggodlbbaaGreatOrdP
import Derived.Test.YtkbkikggodlbbaaGreatToBase
import Derived.Test.YtkbkikggodlbbaaGreatKit
namespace Go.Proofs.YtkbkikggodlbbaaGreat
open Go.ChangeShapes Go.WideShapes Go.ChangeAt Go.RowKit
set_option linter.unusedVariables false
set_option linter.unusedSimpArgs false
set_option maxHeartbeats 2000000
set_option maxRecDepth 100000
structure nN (F:List Nat) (w w':World):Prop where
 os:w'.os = w.os
 tape:w'.tape = w.tape
 output:w'.output = w.output
 size:w.heap.size≤w'.heap.size
 block:∀k,k < w.heap.size→k∉F→w'.heap[k]? = w.heap[k]?
section
variable {F G:List Nat} {w w1 w2:World}
theorem nN.refl (F:List Nat) (w:World):nN F w w:=⟨rfl,rfl,rfl,Nat.le_refl _,fun _ _ _=>rfl⟩
theorem nN.trans (h:nN F w w1) (k:nN F w1 w2):nN F w w2 :=
 ⟨k.os.trans h.os,k.tape.trans h.tape,k.output.trans h.output,Nat.le_trans h.size k.size,fun i hi hn=>(k.block i (Nat.lt_of_lt_of_le hi h.size) hn).trans (h.block i hi hn)⟩
theorem nN.mono (h:nN F w w1) (hs:∀b∈F,b∈G):nN G w w1:=⟨h.os,h.tape,h.output,h.size,fun i hi hn=>h.block i hi fun hb=>hn (hs i hb)⟩
theorem nN.lq (F:List Nat) (h:Below w.heap.size w w1):nN F w w1:=⟨h.os,h.tape,h.output,h.size,fun i hi _=>h.block i hi⟩
theorem nN.drew (h:nN F w w1):nN F w w1.drew:=⟨h.os,h.tape,h.output,h.size,h.block⟩
theorem nN.setCell (h:nN F w w1) {p:Addr} (hp:p.block∈F) (u:Value):nN F w (w1.setCell p u) :=
 ⟨h.os,h.tape,h.output,by simpa [World.setCell] using h.size,fun i hi hn=>(Below.heap_setCell _ _ _ _ (by rintro rfl;exact hn hp)).trans (h.block i hi hn)⟩
theorem nN.below {B:Nat} (h:nN F w w1) (hF:∀b∈F,B≤b) (hB:B≤w.heap.size):Below B w w1 :=
 ⟨h.os,h.tape,h.output,h.size,fun i hi=>h.block i O' fun hb=>by have:=hF i hb;omega⟩
theorem nN.rd {α:Type} [Dat α] (h:nN F w w1) {x:α} {cs:List Value} (hr:rd w x cs G) (hd:∀b∈G,b∉F):rd w1 x cs G :=
 Dat.frame hr (fun b hb=>h.block b (Dat.lt hr b hb) (hd b hb)) h.size
theorem nN.own {α:Type} [Dat α] (h:nN F w w1) {x:α} {cs:List Value} {B:Nat} (hr:Own w B x cs G) (hd:∀b∈G,b∉F):Own w1 B x cs G :=
 hr.keep (fun b hb=>h.block b (hr.lt b hb) (hd b hb)) h.size
end
def Cells (w:World) (b o:Nat) (ds:List Value):Prop:=∀j u,ds[j]? = some u→w.cell? ⟨b,o+j,none⟩ = some u
def Plain (w:World) (b:Nat):Prop:=∃ds t,w.heap[b]? = some (.cells ds t (0,0))
theorem Plain.lt {w:World} {b:Nat} (h:Plain w b):b < w.heap.size:=by
 obtain ⟨ds,t,h⟩:=h;rcases Nat.lt_or_ge b w.heap.size with hlt | hge
 ·exact hlt
 ·rw [Array.getElem?_eq_none hge] at h;cases h
theorem Plain.frozen {w:World} {b:Nat} (h:Plain w b) (i:Nat):w.frozen? ⟨b,i,none⟩ = false:=by
 obtain ⟨ds,t,h⟩:=h;simp [World.frozen?,h]
theorem Plain.setCell {w:World} {b:Nat} (h:Plain w b) (b' q:Nat) (u:Value):Plain (w.setCell ⟨b',q,none⟩ u) b:=by
 obtain ⟨ds,t,h⟩:=h;by_cases hp:b' = b
 ·subst hp;exact ⟨ds.setIfInBounds q u,t,by simp [World.setCell,Array.getElem?_modify,h]⟩
 ·exact ⟨ds,t,(Below.heap_setCell _ _ _ _ atX).trans h⟩
theorem abV {w:World} {b i:Nat} (h:Plain w b) {v:Value} (hc:w.cell? ⟨b,i,none⟩ = some v) (u:Value):(w.setCell ⟨b,i,none⟩ u).cell? ⟨b,i,none⟩ = some u:=by
 obtain ⟨ds,t,h⟩:=h;rw [cell_of_row w b i ds t (0,0) h] at hc;have hi:=(Array.getElem?_eq_some_iff.1 hc).1;rw [cell_of_row _ b i (ds.setIfInBounds i u) t (0,0) (by simp [World.setCell,Array.getElem?_modify,h])];simp [hi]
theorem Qv {w:World} {b i j:Nat} (h:Plain w b) (hij:i≠j) (u:Value):(w.setCell ⟨b,i,none⟩ u).cell? ⟨b,j,none⟩ = w.cell? ⟨b,j,none⟩:=by
 obtain ⟨ds,t,h⟩:=h;rw [cell_of_row w b j ds t (0,0) h,cell_of_row _ b j (ds.setIfInBounds i u) t (0,0) (by simp [World.setCell,Array.getElem?_modify,h])];rw [Array.getElem?_setIfInBounds_ne hij]
structure Elt (w0 w:World) (b o:Nat) (ck:List Value) (Fk:List Nat):Prop where
 upd:nN (b :: Fk) w0 w
 cells:Cells w b o ck
 rest:∀q,(q < o∨o+ck.length≤q)→w.cell? ⟨b,q,none⟩ = w0.cell? ⟨b,q,none⟩
 plain:Plain w b
section
variable {w0 w w1:World} {b o:Nat} {ck:List Value} {Fk G:List Nat}
theorem Elt.set (h:Elt w0 w b o ck Fk) {j q:Nat} (hj:j < ck.length) (hq:q = o+j) (u:Value):Elt w0 (w.setCell ⟨b,q,none⟩ u) b o (ck.set j u) Fk:=by
 subst hq;refine ⟨h.upd.setCell (List.mem_cons_self ..) u,fun i v hi=>?_,fun q hq=>?_,h.plain.setCell _ _ _⟩
 ·by_cases hij:j = i
  ·subst hij;rw [List.getElem?_set_self hj] at hi;cases hi
   exact abV h.plain (h.cells j _ (List.getElem?_eq_getElem hj)) u
  ·rw [List.getElem?_set_ne hij] at hi;rw [Qv h.plain O'];exact h.cells i v hi
 ·rw [List.length_set] at hq;rw [Qv h.plain O'];exact h.rest q hq
theorem Elt.at_ (h:Elt w0 w b o ck Fk) {j q:Nat} (hq:q = o+j) {u:Value} (hj:ck[j]? = some u):w.cell? ⟨b,q,none⟩ = some u:=by
 subst hq;exact h.cells j u hj
theorem Elt.step (h:Elt w0 w b o ck Fk) (hu:nN G w w1) (hs:∀x∈G,x∈Fk) (hb:b∉G):Elt w0 w1 b o ck Fk:=by
 have e:=hu.block b h.plain.lt hb;refine ⟨h.upd.trans (hu.mono fun x hx=>List.mem_cons_of_mem _ (hs x hx)),fun j u hj=>?_,fun q hq=>?_,?_⟩
 ·rw [World.cell?_of_block e];exact h.cells j u hj
 ·rw [World.cell?_of_block e];exact h.rest q hq
 ·obtain ⟨ds,t,hp⟩:=h.plain;exact ⟨ds,t,e.trans hp⟩
theorem Elt.ext (h:Elt w0 w b o ck Fk) (hb:Below w.heap.size w w1):Elt w0 w1 b o ck Fk:=h.step (.lq [] hb) (fun _ hx=>by cases hx) S'
end
theorem jo.split {α:Type} [Dat α] {w:World} {xs:List α} {ds:List Value} {G:List Nat} (h:jo w xs ds G) {k:Nat} (hk:k < xs.length) :
 ∃d1 ck d2 G1 Fk G2,ds = d1++(ck++d2)∧G = G1++(Fk++G2)∧jo w (xs.take k) d1 G1∧rd w xs[k] ck Fk∧jo w (xs.drop (k+1)) d2 G2∧d1.length = k * Dat.size α:=by
 have e:xs = xs.take k++(xs[k] :: xs.drop (k+1)):=by rw [List.getElem_cons_drop,List.take_append_drop]
 rw [e] at h;obtain ⟨c1,c2,F1,F2,rfl,rfl,h1,ck,c3,Fk,F3,rfl,rfl,h2,h3⟩:=jo.of_append h;refine ⟨c1,ck,c3,F1,Fk,F3,rfl,rfl,h1,h2,h3,?_⟩;rw [h1.len,List.length_take,Nat.min_eq_left O']
theorem Own.elt {α:Type} [Dat α] {w:World} {B n c:Nat} {xs:List α} {A:Option Addr} {F:List Nat} (h:Own w B xs [.slice A n c] F) {k:Nat} (hk:k < xs.length) :
 ∃b o ck Fk,A = some ⟨b,o,none⟩∧b∈F∧(∀x∈Fk,x∈F)∧b∉Fk∧Own w B xs[k] ck Fk∧Elt w w b (o+k * Dat.size α) ck Fk ∧
  ∀w' x' TY,Own w' B x' TY Fk→Elt w w' b (o+k * Dat.size α) TY Fk→Own w' B (xs.set k x') [.slice A n c] F:=by
 obtain ⟨⟨A',c',G,ds,e,hc1,hc2,hc,h0⟩,hnd,hbase,hplain⟩:=h;simp at e;obtain ⟨rfl,rfl,rfl⟩:=e;rcases h0 with h0 | ⟨b,o,rfl,rfl,hb,hcell⟩
 ·rw [h0.1] at hk;cases hk
 obtain ⟨d1,ck,d2,G1,Fk,G2,rfl,rfl,r1,r2,r3,hd1⟩:=hc.split hk;have hckl:=Dat.len r2;simp only [List.nodup_cons,List.nodup_append,List.mem_append,not_or] at hnd;have atq:Plain w b:=hplain b (List.mem_cons_self ..);refine ⟨b,o,ck,Fk,rfl,List.mem_cons_self ..,fun x hx=>List.mem_cons_of_mem _ (by simp [hx]),hnd.1.2.1,⟨r2,hnd.2.2.1.1,fun x hx=>hbase x (by simp [hx]),fun x hx=>hplain x (by simp [hx])⟩,⟨.refl _ _,fun j u hj=>?_,fun _ _=>rfl,atq⟩,?_⟩
 ·have:=hcell (k * Dat.size α+j) u (by
   rw [List.getElem?_append_right O',List.getElem?_append_left (by have:=(List.getElem?_eq_some_iff.1 hj).1;omega)]
   rw [← hj];congr 1;omega)
  rwa [Nat.add_assoc]
 ·intro w' x' TY hx hE;have hkeep:∀y∈G1++G2,w'.heap[y]? = w.heap[y]?:=fun y hy=>by
   refine hE.upd.block y ?_ ?_
   ·rcases List.mem_append.1 hy with hy | hy
    ·exact r1.lt y hy
    ·exact r3.lt y hy
   ·intro hm;rcases List.mem_cons.1 hm with rfl | hm
    ·rcases List.mem_append.1 hy with hy | hy
     ·exact hnd.1.1 hy
     ·exact hnd.1.2.2 hy
    ·rcases List.mem_append.1 hy with hy | hy
     ·exact hnd.2.2.2 y hy y (Or.inl hm) rfl
     ·exact hnd.2.2.1.2.2 y hm y hy rfl
  have hx2:=Dat.len hx.rd;refine ⟨⟨_,c,G1++(Fk++G2),d1++(TY++d2),S',by simpa using hc1,hc2,?_,.inr ⟨b,o,rfl,rfl,Nat.lt_of_lt_of_le hb hE.upd.size,?_⟩⟩,?_,?_,?_⟩
  ·have es:xs.set k x' = xs.take k++(x' :: xs.drop (k+1)):=List.set_eq_take_append_cons_drop.trans (if_pos hk);rw [es];exact (r1.frame (fun y hy=>hkeep y (List.mem_append_left _ hy)) hE.upd.size).append ⟨TY,d2,Fk,G2,rfl,rfl,hx.rd,r3.frame (fun y hy=>hkeep y (List.mem_append_right _ hy)) hE.upd.size⟩
  ·intro j u hj;by_cases hj1:j < d1.length
   ·rw [List.getElem?_append_left hj1] at hj;rw [hE.rest (o+j) O'];exact hcell j u (by rw [List.getElem?_append_left hj1];exact hj)
   ·rw [List.getElem?_append_right O'] at hj;by_cases hj2:j - d1.length < TY.length
    ·rw [List.getElem?_append_left hj2] at hj;have:=hE.cells _ u hj;rw [← this];congr 2;omega
    ·rw [List.getElem?_append_right O'] at hj;rw [hE.rest (o+j) O'];refine hcell j u ?_;rw [List.getElem?_append_right O',List.getElem?_append_right O'];rw [← hj];congr 1;omega
  ·simp only [List.nodup_cons,List.nodup_append,List.mem_append,not_or];exact hnd
  ·exact hbase
  ·intro y hy;rcases List.mem_cons.1 hy with rfl | hy
   ·exact hE.plain
   ·rcases List.mem_append.1 hy with hy | hy
    ·rw [hkeep y (List.mem_append_left _ hy)];exact hplain y (by simp [hy])
    ·rcases List.mem_append.1 hy with hy | hy
     ·exact hx.plain y hy
     ·rw [hkeep y (List.mem_append_right _ hy)];exact hplain y (by simp [hy])
theorem NI {k:Int} (hk:k≤1073741824):((lZ k).size:Int)≤9223372036854775807:=by have:=agD k hk;omega
theorem YV {α:Type} [Dat α] {w:World} {B n c:Nat} {xs:List α} {A:Option Addr} {F:List Nat} (h:Own w B xs [.slice A n c] F):(xs.length:Int)≤9223372036854775807:=by
 obtain ⟨_,_,_,_,e,h1,h2,_⟩:=h.rd;unfold maxLen at h2;omega
theorem ade {α:Type} [Dat α] {w:World} {n c:Nat} {xs:List α} {A:Option Addr} {F:List Nat} (h:rd w xs [.slice A n c] F):(xs.length:Int)≤9223372036854775807:=by
 obtain ⟨_,_,_,_,e,h1,h2,_⟩:=h;unfold maxLen at h2;omega
theorem nJ {α β:Type} [Dat α] [Dat β] {w:World} {a:α} {b:β} {c1 c2:List Value} {F1 F2:List Nat} (h1:rd w a c1 F1) (h2:rd w b c2 F2):rd w (a,b) (c1++c2) (F1++F2):=⟨_,_,_,_,rfl,rfl,h1,h2⟩
theorem Own.JA {α:Type} [Dat α] {w:World} {B:Nat} {x:α} {cs:List Value} {F:List Nat} (h:Own w B x cs F) {p:Addr} (hp:p.block∉F) (u:Value):Own (w.setCell p u) B x cs F :=
 h.keep (fun b hb=>Below.heap_setCell _ _ _ _ (by rintro rfl;exact hp hb)) aua
section
variable {α:Type} (mk:α→Int→α) (cnt:α→Nat)
def cO:List α→Nat
 | []=>0
 | x :: xs=>cnt x+cO xs
def EX:List α→Int→List α
 | [],_=>[]
 | x :: xs,k=>mk x k :: EX xs (k+cnt x)
theorem yN:∀(xs:List α) (k:Int),(EX mk cnt xs k).length = xs.length
 | [],_=>rfl
 | x :: xs,k=>by simp [EX,yN xs]
theorem agE:∀(xs ys:List α) (k:Int),EX mk cnt (xs++ys) k = EX mk cnt xs k++EX mk cnt ys (k+cO cnt xs)
 | [],ys,k=>by simp [EX,cO]
 | x :: xs,ys,k=>by simp [EX,cO,agE xs,Int.add_assoc]
theorem XP:∀(xs ys:List α),cO cnt (xs++ys) = cO cnt xs+cO cnt ys
 | [],ys=>by simp [cO]
 | x :: xs,ys=>by simp [cO,XP xs,Nat.add_assoc]
def Jd (xs:List α) (k:Int) (i:Nat):List α:=EX mk cnt (xs.take i) k++xs.drop i
variable {mk cnt} {xs:List α} {k:Int} {i:Nat}
theorem lU (hi:i < xs.length):cO cnt (xs.take (i+1)) = cO cnt (xs.take i)+cnt xs[i]:=by
 rw [List.take_succ_eq_append_getElem hi,XP];simp [cO]
theorem EG (xs:List α) (i:Nat):cO cnt (xs.take i)≤cO cnt xs:=by
 have:=XP cnt (xs.take i) (xs.drop i);rw [List.take_append_drop] at this;omega
theorem Kr (xs:List α) (k:Int):Jd mk cnt xs k 0 = xs:=by simp [Jd,EX]
theorem Kt (xs:List α) (k:Int):Jd mk cnt xs k xs.length = EX mk cnt xs k:=by simp [Jd]
theorem Oi (hi:i≤xs.length):(Jd mk cnt xs k i).length = xs.length:=by simp [Jd,yN];omega
theorem Oj (hi:i < xs.length) (h:i < (Jd mk cnt xs k i).length):(Jd mk cnt xs k i)[i] = xs[i]:=by
 have hl:(EX mk cnt (xs.take i) k).length = i:=by rw [yN,List.length_take,Nat.min_eq_left O']
 have e:(Jd mk cnt xs k i)[i]? = some xs[i]:=by unfold Jd;rw [List.getElem?_append_right O',hl,Nat.sub_self,List.getElem?_drop];exact List.getElem?_eq_getElem hi
 exact (List.getElem?_eq_some_iff.1 e).2
theorem Ol (hi:i < xs.length):(Jd mk cnt xs k i).set i (mk xs[i] (k+cO cnt (xs.take i))) = Jd mk cnt xs k (i+1):=by
 have hl:(EX mk cnt (xs.take i) k).length = i:=by rw [yN,List.length_take,Nat.min_eq_left O']
 unfold Jd;rw [List.set_append_right _ _ O',hl,Nat.sub_self,List.take_succ_eq_append_getElem hi,agE];rw [show xs.drop i = xs[i] :: xs.drop (i+1) from (List.getElem_cons_drop hi).symm];simp only [EX,List.set_cons_zero,List.append_assoc,List.cons_append,List.nil_append]
theorem PK:∀{xs:List α} {k:Int},EX mk cnt xs k = xs→∀{i:Nat} (hi:i < xs.length),mk xs[i] (k+cO cnt (xs.take i)) = xs[i]
 | [],_,_,i,hi=>by cases hi
 | x :: xs,k,h,0,_=>by simpa [EX,cO] using (List.cons.inj h).1
 | x :: xs,k,h,i+1,hi=>by
   have:=PK (List.cons.inj h).2 (i:=i) avv;simpa [EX,cO,Int.add_assoc] using this
theorem iY (hc:∀x k,cnt (mk x k) = cnt x):∀(xs:List α) (k:Int),cO cnt (EX mk cnt xs k) = cO cnt xs
 | [],_=>rfl
 | x :: xs,k=>by simp [EX,cO,hc,iY hc xs]
theorem qg (hc:∀x k,cnt (mk x k) = cnt x) (hm:∀x k,mk (mk x k) k = mk x k):∀(xs:List α) (k:Int),EX mk cnt (EX mk cnt xs k) k = EX mk cnt xs k
 | [],_=>rfl
 | x :: xs,k=>by simp [EX,hm,hc,qg hc hm xs]
end
def mkStr (_:ByteArray) (k:Int):ByteArray:=lZ k
def nU (_:ByteArray):Nat:=1
theorem Dy (xs:List ByteArray) (A:Option Addr) (n c:Nat) (F:List Nat) (B:Nat) (k:Int) (w:World) (h:Own w B xs [.slice A n c] F) (hn:n = xs.length) (hk0:0≤k) (hk:k+cO nU xs≤1073741823) :
 Calls Tryz.prog 136 #[.slice A n c,.int .i64 k] w fun e w'=>e = .returned (.int .i64 (k+cO nU xs))∧Own w' B (EX mkStr nU xs k) [.slice A n c] F∧nN F w w':=by
 subst hn;have hlen:(xs.length:Int)≤9223372036854775807:=by
  have:=h.rd;obtain ⟨_,_,_,_,e,h1,h2,_⟩:=this;unfold maxLen at h2;simp at e;omega
 go_enter Tryz.func136,Tryz.ntmps136;go_wp2_with fail
 go_loopw [1,5] (fun x y wr=>∃(i:Nat),i≤xs.length∧y = .int .i64 i∧x = .int .i64 (k+cO nU (xs.take i))∧Own wr B (Jd mkStr nU xs k i) [.slice A xs.length c] F∧nN F w wr) (fun _ y _=>xs.length - (intOf y).toNat)
 case atStart=>exact ⟨0,Nat.zero_le _,rfl,by simp [cO],by rw [Kr];exact h,.refl _ _⟩
 case round =>
  obtain ⟨i,hi,rfl,rfl,hO,hu⟩:=hrel;by_cases hlt:i < xs.length
  ·have hle:(cO nU (xs.take i):Int)+nU xs[i]≤cO nU xs:=(by have:=lU (cnt:=nU) hlt;have:=EG (cnt:=nU) xs (i+1);omega);have JQ:=lU (cnt:=nU) hlt;obtain ⟨b,o,ck,Fk,rfl,o9,hsub,hbk,LM,hE,hcl⟩:=hO.elt (k:=i) au9;rw [Oj hlt] at LM;have hRe:=LM.rd;obtain ⟨hck,su,hsz⟩:=hRe;subst hck su;generalize hkk:k+(cO nU (xs.take i):Int) = kk;have aaJ:0≤kk:=O';have Ei:kk+nU xs[i]≤1073741823:=O';simp only [nU] at Ei;go_wp2_with (refine (lW kk _ O' O').mono ?_;rintro e w2 ⟨rfl,hb2⟩;replace hE:=hE.ext hb2;have hq:=hE.at_ (q:=o+i) (j:=0) awj rfl;have hfz:=hE.plain.frozen (o+i))
   have hE2:=hE.set (q:=o+i) (j:=0) S' awj (.string (lZ kk));have hP:=hcl _ (mkStr xs[i] kk) _ (Own.flat (rdStr _ _ (by have:=agD kk O';show ((lZ kk).size:Int)≤_;omega))) hE2;rw [← hkk,Ol hlt] at hP;have hU:=hu.trans (hE2.upd.mono (G:=F) (fun y hy=>by rcases List.mem_cons.1 hy with rfl | hy;exact o9;exact hsub y hy));rw [← hkk] at hU;refine ⟨⟨i+1,O',N',?_,?_,?_⟩,by simp [intOf];omega⟩
   ·rw [JQ,← hkk];simp only [nU];congr 1;push_cast;omega
   ·rw [← hkk];exact hP
   ·rw [← hkk];exact hU
  ·exact Zaby
theorem uy (xs:List ByteArray) (A:Option Addr) (n c:Nat) (F:List Nat) (k:Int) (w:World) (h:rd w xs [.slice A n c] F) (hn:n = xs.length) (hm:EX mkStr nU xs k = xs) (hk0:0≤k) (hk:k+cO nU xs≤1073741823) :
 Calls Tryz.prog 137 #[.slice A n c,.int .i64 k] w fun e w'=>e = .returned (.int .i64 (k+cO nU xs))∧Below w.heap.size w w':=by
 subst hn;have hlen:(xs.length:Int)≤9223372036854775807:=by
  have:=h;obtain ⟨_,_,_,_,e,h1,h2,_⟩:=this;unfold maxLen at h2;simp at e;omega
 have HM:=I' hm;clear hm;go_enter Tryz.func137,Tryz.ntmps137;go_wp2_with fail
 go_loopw [1,5] (fun x y wr=>∃(i:Nat),i≤xs.length∧y = .int .i64 i∧x = .int .i64 (k+cO nU (xs.take i))∧Below w.heap.size w wr) (fun _ y _=>xs.length - (intOf y).toNat)
 case atStart=>exact ⟨0,Nat.zero_le _,rfl,by simp [cO],aj _⟩
 case round =>
  obtain ⟨i,hi,rfl,rfl,hbl⟩:=hrel;by_cases hlt:i < xs.length
  ·have hle:(cO nU (xs.take i):Int)+nU xs[i]≤cO nU xs:=(by have:=lU (cnt:=nU) hlt;have:=EG (cnt:=nU) xs (i+1);omega);have JQ:=lU (cnt:=nU) hlt;have hfix:=PK HM.out hlt;obtain ⟨b,o,ck,Fk,rfl,o9,hbs,hr,hsub,hc⟩:=(Sl.ext (w':=wr) (A:=A) (c:=c) h hbl).get hlt;obtain ⟨hck,su,hsz⟩:=hr;subst hck su;generalize hkk:k+(cO nU (xs.take i):Int) = kk at hfix ⊢;have aaJ:0≤kk:=O';have Ei:kk+nU xs[i]≤1073741823:=O';simp only [nU] at Ei;have q0:wr.cell? ⟨b,o+i,none⟩ = some (.string xs[i]):=(by have:=hc 0 _ rfl;rwa [show o+(i * Dat.size ByteArray+0) = o+i from by show o+(i * 1+0) = _;omega] at this);rw [← hfix] at q0;simp only [mkStr] at q0;go_wp2_with fail
   refine aF wr U' U' (aj _) ?_
   repeat (first
    | (apply aG
       case hw=>rfl
       simp only [Act.put,pz])
    | (apply aH
       case hw=>rfl
       case h =>
        intro wq hq;have hcq:=(aB hq).1;have lJ:=(aB hq).2;go_simp
        first
         | exact ⟨hq,rfl⟩
         | exact ⟨aQ hq _,rfl⟩
         | (refine (lW kk _ O' O').mono ?_;rintro e w2 ⟨rfl,hb2⟩;exact ⟨rfl,aI hq hb2⟩)
         | (simp only [↓IntWalk.iteOmega];exact ⟨hq,rfl⟩)
       simp only [Act.put,pz]))
   refine aN ?_;intro wn hn;replace hn:=hn.out;go_wp2;exact ⟨⟨i+1,O',N',(by rw [JQ,← hkk];simp only [nU];congr 1;push_cast;omega),ah hbl hn⟩,by simp [intOf];omega⟩
  ·exact Zab2
def xP (x:Label) (k:Int):Label:={ key:=lZ (k),value:=lZ (k+1) }
def bC (x:Label):Nat:=1+1
theorem H7 (xs:List Label) (A:Option Addr) (n c:Nat) (F:List Nat) (B:Nat) (k:Int) (w:World) (h:Own w B xs [.slice A n c] F) (hn:n = xs.length) (hk0:0≤k) (hk:k+cO bC xs≤1073741823) :
 Calls Tryz.prog 83 #[.slice A n c,.int .i64 k] w fun e w'=>e = .returned (.int .i64 (k+cO bC xs))∧Own w' B (EX xP bC xs k) [.slice A n c] F∧nN F w w':=by
 subst hn;have hlen:=YV h;go_enter Tryz.func83,Tryz.ntmps83;go_wp2_with fail
 go_loopw [1,5] (fun x y wr=>∃(i:Nat),i≤xs.length∧y = .int .i64 i∧x = .int .i64 (k+cO bC (xs.take i))∧Own wr B (Jd xP bC xs k i) [.slice A xs.length c] F∧nN F w wr) (fun _ y _=>xs.length - (intOf y).toNat)
 case atStart=>exact ⟨0,Nat.zero_le _,rfl,by simp [cO],by rw [Kr];exact h,.refl _ _⟩
 case round =>
  obtain ⟨i,hi,rfl,rfl,hO,hu⟩:=hrel;by_cases hlt:i < xs.length
  ·have hle:(cO bC (xs.take i):Int)+bC xs[i]≤cO bC xs:=(by have:=lU (cnt:=bC) hlt;have:=EG (cnt:=bC) xs (i+1);omega);have JQ:=lU (cnt:=bC) hlt;obtain ⟨b,o,ck,Fk,rfl,o9,hsub,hbk,LM,hE,hcl⟩:=hO.elt (k:=i) au9;rw [Oj hlt] at LM;have hRe:=LM.rd;obtain ⟨hck,su,hkey,kP⟩:=vO hRe;clear hRe;subst hck su;generalize hkk:k+(cO bC (xs.take i):Int) = kk;have aaJ:0≤kk:=O';have Ei:kk+bC xs[i]≤1073741823:=O';simp only [bC] at Ei;push_cast at Ei;clear hO;have q0:=hE.at_ (q:=o+i * 2) (j:=0) awm rfl;have z0:=hE.plain.frozen (o+i * 2);have q1:=hE.at_ (q:=o+i * 2+1) (j:=1) awn rfl;have z1:=hE.plain.frozen (o+i * 2+1);go_wp2_with fail
   clear q0 z0 q1 z1;refine (lW (kk) _ O' O').mono ?_;rintro e w1 ⟨rfl,hb1⟩;replace hE:=hE.ext hb1;have q0:=hE.at_ (q:=o+i * 2) (j:=0) awm rfl;have z0:=hE.plain.frozen (o+i * 2);have q1:=hE.at_ (q:=o+i * 2+1) (j:=1) awn rfl;have z1:=hE.plain.frozen (o+i * 2+1);go_wp2_with fail
   clear q0 z0 q1 z1;replace hE:=hE.set (j:=0) (q:=o+i * 2) S' awm (.string (lZ (kk)));simp only [List.set_cons_zero,List.set_cons_succ] at hE;refine (lW (kk+1) _ O' O').mono ?_;rintro e w2 ⟨rfl,hb2⟩;replace hE:=hE.ext hb2;have q0:=hE.at_ (q:=o+i * 2) (j:=0) awm rfl;have z0:=hE.plain.frozen (o+i * 2);have q1:=hE.at_ (q:=o+i * 2+1) (j:=1) awn rfl;have z1:=hE.plain.frozen (o+i * 2+1);go_wp2_with fail
   clear q0 z0 q1 z1;replace hE:=hE.set (j:=1) (q:=o+i * 2+1) S' awn (.string (lZ (kk+1)));simp only [List.set_cons_zero,List.set_cons_succ] at hE;have hP:=hcl _ (xP xs[i] kk) _ ⟨(by have:=(nJ (rdStr (w2.setCell ⟨b,o+i * 2+1,none⟩ (.string (lZ (kk+1)))) (lZ (kk)) (NI O')) (rdStr (w2.setCell ⟨b,o+i * 2+1,none⟩ (.string (lZ (kk+1)))) (lZ (kk+1)) (NI O')));simp only [List.nil_append,List.append_nil,List.append_assoc,List.cons_append] at this;exact this),LM.nodup,LM.base,(by intro y hy;cases hy)⟩ hE;have hU:=hu.trans (hE.upd.mono (G:=F) (fun y hy=>by rcases List.mem_cons.1 hy with rfl | hy;exact o9;exact hsub y hy));have hset:(Jd xP bC xs k i).set i (xP xs[i] kk) = Jd xP bC xs k (i+1):=(by rw [← hkk];exact Ol hlt);rw [hset] at hP;refine ⟨⟨i+1,O',N',?_,hP,hU⟩,by simp [intOf];omega⟩;rw [JQ];simp only [bC];congr 1;push_cast;omega
  ·exact Zaby
theorem ER (xs:List Label) (A:Option Addr) (n c:Nat) (F:List Nat) (k:Int) (w:World) (h:rd w xs [.slice A n c] F) (hn:n = xs.length) (hm:EX xP bC xs k = xs) (hk0:0≤k) (hk:k+cO bC xs≤1073741823) :
 Calls Tryz.prog 87 #[.slice A n c,.int .i64 k] w fun e w'=>e = .returned (.int .i64 (k+cO bC xs))∧Below w.heap.size w w':=by
 subst hn;have hlen:=ade h;have HM:=I' hm;clear hm;go_enter Tryz.func87,Tryz.ntmps87;go_wp2_with fail
 go_loopw [1,5] (fun x y wr=>∃(i:Nat),i≤xs.length∧y = .int .i64 i∧x = .int .i64 (k+cO bC (xs.take i))∧Below w.heap.size w wr) (fun _ y _=>xs.length - (intOf y).toNat)
 case atStart=>exact ⟨0,Nat.zero_le _,rfl,by simp [cO],aj _⟩
 case round =>
  obtain ⟨i,hi,rfl,rfl,hbl⟩:=hrel;by_cases hlt:i < xs.length
  ·have hle:(cO bC (xs.take i):Int)+bC xs[i]≤cO bC xs:=(by have:=lU (cnt:=bC) hlt;have:=EG (cnt:=bC) xs (i+1);omega);have JQ:=lU (cnt:=bC) hlt;have hfix:=PK HM.out hlt;obtain ⟨b,o,ck,Fk,rfl,o9,hbs,hr,hsub,hc⟩:=(Sl.ext (w':=wr) (A:=A) (c:=c) h hbl).get hlt;obtain ⟨hck,su,hkey,kP⟩:=vO hr;clear hr;subst hck;generalize hkk:k+(cO bC (xs.take i):Int) = kk at hfix ⊢;have aaJ:0≤kk:=O';have Ei:kk+bC xs[i]≤1073741823:=O';simp only [bC] at Ei;push_cast at Ei;have e0:lZ (kk) = xs[i].key:=congrArg (fun z:Label=>z.key) hfix;have q0:wr.cell? ⟨b,o+i * 2,none⟩ = some (.string xs[i].key):=(by have:=hc 0 _ rfl;rwa [show o+(i * Dat.size Label+0) = o+i * 2 from by show o+(i * 2+0) = _;omega] at this);rw [← e0] at q0;clear e0;have e1:lZ (kk+1) = xs[i].value:=congrArg (fun z:Label=>z.value) hfix;have q1:wr.cell? ⟨b,o+i * 2+1,none⟩ = some (.string xs[i].value):=(by have:=hc 1 _ rfl;rwa [show o+(i * Dat.size Label+1) = o+i * 2+1 from by show o+(i * 2+1) = _;omega] at this);rw [← e1] at q1;clear e1;clear hc hfix;go_wp2_with fail
   refine aF wr U' U' (aj _) ?_
   repeat (first
    | (apply aG
       case hw=>rfl
       simp only [Act.put,pz])
    | (apply aH
       case hw=>rfl
       case h =>exact Zabg
       simp only [Act.put,pz]))
   refine aN ?_;intro wn1 hn1;replace hn1:=hn1.out;replace q0:=((ay hn1).1 b _ hbs).trans q0;replace q1:=((ay hn1).1 b _ hbs).trans q1;replace hbs:=Nat.lt_of_lt_of_le hbs hn1.size;replace hbl:=ah hbl hn1;go_wp2_with fail
   refine aF wn1 U' U' (aj _) ?_
   repeat (first
    | (apply aG
       case hw=>rfl
       simp only [Act.put,pz])
    | (apply aH
       case hw=>rfl
       case h =>exact Zacr
       simp only [Act.put,pz]))
   refine aN ?_;intro wn2 hn2;replace hn2:=hn2.out;replace q0:=((ay hn2).1 b _ hbs).trans q0;replace q1:=((ay hn2).1 b _ hbs).trans q1;replace hbs:=Nat.lt_of_lt_of_le hbs hn2.size;replace hbl:=ah hbl hn2;go_wp2;refine ⟨⟨i+1,O',N',?_,hbl⟩,by simp [intOf];omega⟩;rw [JQ];simp only [bC];congr 1;push_cast;omega
  ·exact Zab2
def rC (x:bH) (k:Int):bH:={ key:=lZ (k),equal:=decide ((k+1) % 3 = 0),value:=lZ (k+1+1),effect:=(k+1+1+1) }
def bJ (x:bH):Nat:=1+1+1+1
theorem Qw (xs:List bH) (A:Option Addr) (n c:Nat) (F:List Nat) (B:Nat) (k:Int) (w:World) (h:Own w B xs [.slice A n c] F) (hn:n = xs.length) (hk0:0≤k) (hk:k+cO bJ xs≤1073741823) :
 Calls Tryz.prog 86 #[.slice A n c,.int .i64 k] w fun e w'=>e = .returned (.int .i64 (k+cO bJ xs))∧Own w' B (EX rC bJ xs k) [.slice A n c] F∧nN F w w':=by
 subst hn;have hlen:=YV h;go_enter Tryz.func86,Tryz.ntmps86;go_wp2_with fail
 go_loopw [1,5] (fun x y wr=>∃(i:Nat),i≤xs.length∧y = .int .i64 i∧x = .int .i64 (k+cO bJ (xs.take i))∧Own wr B (Jd rC bJ xs k i) [.slice A xs.length c] F∧nN F w wr) (fun _ y _=>xs.length - (intOf y).toNat)
 case atStart=>exact ⟨0,Nat.zero_le _,rfl,by simp [cO],by rw [Kr];exact h,.refl _ _⟩
 case round =>
  obtain ⟨i,hi,rfl,rfl,hO,hu⟩:=hrel;by_cases hlt:i < xs.length
  ·have hle:(cO bJ (xs.take i):Int)+bJ xs[i]≤cO bJ xs:=(by have:=lU (cnt:=bJ) hlt;have:=EG (cnt:=bJ) xs (i+1);omega);have JQ:=lU (cnt:=bJ) hlt;obtain ⟨b,o,ck,Fk,rfl,o9,hsub,hbk,LM,hE,hcl⟩:=hO.elt (k:=i) au9;rw [Oj hlt] at LM;have hRe:=LM.rd;obtain ⟨hck,su,hkey,kP,lD⟩:=jv hRe;clear hRe;subst hck su;generalize hkk:k+(cO bJ (xs.take i):Int) = kk;have aaJ:0≤kk:=O';have Ei:kk+bJ xs[i]≤1073741823:=O';simp only [bJ] at Ei;push_cast at Ei;clear hO;have q0:=hE.at_ (q:=o+i * 4) (j:=0) awo rfl;have z0:=hE.plain.frozen (o+i * 4);have q1:=hE.at_ (q:=o+i * 4+1) (j:=1) awp rfl;have z1:=hE.plain.frozen (o+i * 4+1);have q2:=hE.at_ (q:=o+i * 4+2) (j:=2) awq rfl;have z2:=hE.plain.frozen (o+i * 4+2);have q3:=hE.at_ (q:=o+i * 4+3) (j:=3) awr rfl;have z3:=hE.plain.frozen (o+i * 4+3);go_wp2_with fail
   clear q0 z0 q1 z1 q2 z2 q3 z3;refine (lW (kk) _ O' O').mono ?_;rintro e w1 ⟨rfl,hb1⟩;replace hE:=hE.ext hb1;have q0:=hE.at_ (q:=o+i * 4) (j:=0) awo rfl;have z0:=hE.plain.frozen (o+i * 4);have q1:=hE.at_ (q:=o+i * 4+1) (j:=1) awp rfl;have z1:=hE.plain.frozen (o+i * 4+1);have q2:=hE.at_ (q:=o+i * 4+2) (j:=2) awq rfl;have z2:=hE.plain.frozen (o+i * 4+2);have q3:=hE.at_ (q:=o+i * 4+3) (j:=3) awr rfl;have z3:=hE.plain.frozen (o+i * 4+3);go_wp2_with fail
   clear q0 z0 q1 z1 q2 z2 q3 z3;replace hE:=hE.set (j:=0) (q:=o+i * 4) S' awo (.string (lZ (kk)));simp only [List.set_cons_zero,List.set_cons_succ] at hE;replace hE:=hE.set (j:=1) (q:=o+i * 4+1) S' awp (.bool (decide ((kk+1) % 3 = 0)));simp only [List.set_cons_zero,List.set_cons_succ] at hE;refine (lW (kk+1+1) _ O' O').mono ?_;rintro e w2 ⟨rfl,hb2⟩;replace hE:=hE.ext hb2;have q0:=hE.at_ (q:=o+i * 4) (j:=0) awo rfl;have z0:=hE.plain.frozen (o+i * 4);have q1:=hE.at_ (q:=o+i * 4+1) (j:=1) awp rfl;have z1:=hE.plain.frozen (o+i * 4+1);have q2:=hE.at_ (q:=o+i * 4+2) (j:=2) awq rfl;have z2:=hE.plain.frozen (o+i * 4+2);have q3:=hE.at_ (q:=o+i * 4+3) (j:=3) awr rfl;have z3:=hE.plain.frozen (o+i * 4+3);go_wp2_with fail
   clear q0 z0 q1 z1 q2 z2 q3 z3;replace hE:=hE.set (j:=2) (q:=o+i * 4+2) S' awq (.string (lZ (kk+1+1)));simp only [List.set_cons_zero,List.set_cons_succ] at hE;replace hE:=hE.set (j:=3) (q:=o+i * 4+3) S' awr (.int .i64 (kk+1+1+1));simp only [List.set_cons_zero,List.set_cons_succ] at hE;have hP:=hcl _ (rC xs[i] kk) _ ⟨(by have:=(nJ (rdStr ((w2.setCell ⟨b,o+i * 4+2,none⟩ (.string (lZ (kk+1+1)))).setCell ⟨b,o+i * 4+3,none⟩ (.int .i64 (kk+1+1+1))) (lZ (kk)) (NI O')) (nJ (rdBool ((w2.setCell ⟨b,o+i * 4+2,none⟩ (.string (lZ (kk+1+1)))).setCell ⟨b,o+i * 4+3,none⟩ (.int .i64 (kk+1+1+1))) (decide ((kk+1) % 3 = 0))) (nJ (rdStr ((w2.setCell ⟨b,o+i * 4+2,none⟩ (.string (lZ (kk+1+1)))).setCell ⟨b,o+i * 4+3,none⟩ (.int .i64 (kk+1+1+1))) (lZ (kk+1+1)) (NI O')) (jL ((w2.setCell ⟨b,o+i * 4+2,none⟩ (.string (lZ (kk+1+1)))).setCell ⟨b,o+i * 4+3,none⟩ (.int .i64 (kk+1+1+1))) ((kk+1+1+1)) auG))));simp only [List.nil_append,List.append_nil,List.append_assoc,List.cons_append] at this;exact this),LM.nodup,LM.base,(by intro y hy;cases hy)⟩ hE;have hU:=hu.trans (hE.upd.mono (G:=F) (fun y hy=>by rcases List.mem_cons.1 hy with rfl | hy;exact o9;exact hsub y hy));have hset:(Jd rC bJ xs k i).set i (rC xs[i] kk) = Jd rC bJ xs k (i+1):=(by rw [← hkk];exact Ol hlt);rw [hset] at hP;refine ⟨⟨i+1,O',N',?_,hP,hU⟩,by simp [intOf];omega⟩;rw [JQ];simp only [bJ];congr 1;push_cast;omega
  ·exact Zaby
theorem Qx (xs:List bH) (A:Option Addr) (n c:Nat) (F:List Nat) (k:Int) (w:World) (h:rd w xs [.slice A n c] F) (hn:n = xs.length) (hm:EX rC bJ xs k = xs) (hk0:0≤k) (hk:k+cO bJ xs≤1073741823) :
 Calls Tryz.prog 90 #[.slice A n c,.int .i64 k] w fun e w'=>e = .returned (.int .i64 (k+cO bJ xs))∧Below w.heap.size w w':=by
 subst hn;have hlen:=ade h;have HM:=I' hm;clear hm;go_enter Tryz.func90,Tryz.ntmps90;go_wp2_with fail
 go_loopw [1,5] (fun x y wr=>∃(i:Nat),i≤xs.length∧y = .int .i64 i∧x = .int .i64 (k+cO bJ (xs.take i))∧Below w.heap.size w wr) (fun _ y _=>xs.length - (intOf y).toNat)
 case atStart=>exact ⟨0,Nat.zero_le _,rfl,by simp [cO],aj _⟩
 case round =>
  obtain ⟨i,hi,rfl,rfl,hbl⟩:=hrel;by_cases hlt:i < xs.length
  ·have hle:(cO bJ (xs.take i):Int)+bJ xs[i]≤cO bJ xs:=(by have:=lU (cnt:=bJ) hlt;have:=EG (cnt:=bJ) xs (i+1);omega);have JQ:=lU (cnt:=bJ) hlt;have hfix:=PK HM.out hlt;obtain ⟨b,o,ck,Fk,rfl,o9,hbs,hr,hsub,hc⟩:=(Sl.ext (w':=wr) (A:=A) (c:=c) h hbl).get hlt;obtain ⟨hck,su,hkey,kP,lD⟩:=jv hr;clear hr;subst hck;generalize hkk:k+(cO bJ (xs.take i):Int) = kk at hfix ⊢;have aaJ:0≤kk:=O';have Ei:kk+bJ xs[i]≤1073741823:=O';simp only [bJ] at Ei;push_cast at Ei;have e0:lZ (kk) = xs[i].key:=congrArg (fun z:bH=>z.key) hfix;have q0:wr.cell? ⟨b,o+i * 4,none⟩ = some (.string xs[i].key):=(by have:=hc 0 _ rfl;rwa [show o+(i * Dat.size bH+0) = o+i * 4 from by show o+(i * 4+0) = _;omega] at this);rw [← e0] at q0;clear e0;have e1:decide ((kk+1) % 3 = 0) = xs[i].equal:=congrArg (fun z:bH=>z.equal) hfix;have q1:wr.cell? ⟨b,o+i * 4+1,none⟩ = some (.bool xs[i].equal):=(by have:=hc 1 _ rfl;rwa [show o+(i * Dat.size bH+1) = o+i * 4+1 from by show o+(i * 4+1) = _;omega] at this);rw [← e1] at q1;clear e1;rw [show decide ((kk+1) % 3 = 0) = ((kk+1) % 3 == 0) from rfl] at q1;have e2:lZ (kk+1+1) = xs[i].value:=congrArg (fun z:bH=>z.value) hfix;have q2:wr.cell? ⟨b,o+i * 4+2,none⟩ = some (.string xs[i].value):=(by have:=hc 2 _ rfl;rwa [show o+(i * Dat.size bH+2) = o+i * 4+2 from by show o+(i * 4+2) = _;omega] at this);rw [← e2] at q2;clear e2;have e3:(kk+1+1+1) = xs[i].effect:=congrArg (fun z:bH=>z.effect) hfix;have q3:wr.cell? ⟨b,o+i * 4+3,none⟩ = some (.int .i64 xs[i].effect):=(by have:=hc 3 _ rfl;rwa [show o+(i * Dat.size bH+3) = o+i * 4+3 from by show o+(i * 4+3) = _;omega] at this);rw [← e3] at q3;clear e3;clear hc hfix;go_wp2_with fail
   refine aF wr U' U' (aj _) ?_
   repeat (first
    | (apply aG
       case hw=>rfl
       simp only [Act.put,pz])
    | (apply aH
       case hw=>rfl
       case h =>exact Zabg
       simp only [Act.put,pz]))
   refine aN ?_;intro wn1 hn1;replace hn1:=hn1.out;replace q0:=((ay hn1).1 b _ hbs).trans q0;replace q1:=((ay hn1).1 b _ hbs).trans q1;replace q2:=((ay hn1).1 b _ hbs).trans q2;replace q3:=((ay hn1).1 b _ hbs).trans q3;replace hbs:=Nat.lt_of_lt_of_le hbs hn1.size;replace hbl:=ah hbl hn1;go_wp2_with fail
   refine aF wn1 U' U' (aj _) ?_
   repeat (first
    | (apply aG
       case hw=>rfl
       simp only [Act.put,pz])
    | (apply aH
       case hw=>rfl
       case h =>
        intro wq hq;have hcq:=(aB hq).1;have lJ:=(aB hq).2;go_simp
        first
         | exact ⟨hq,rfl⟩
         | exact ⟨aQ hq _,rfl⟩
         | (refine (lW (kk+1+1) _ O' O').mono ?_;rintro e w2 ⟨rfl,hb2⟩;exact ⟨rfl,aI hq hb2⟩)
         | (simp only [↓IntWalk.iteOmega];exact ⟨hq,rfl⟩)
       simp only [Act.put,pz]))
   refine aN ?_;intro wn2 hn2;replace hn2:=hn2.out;replace q0:=((ay hn2).1 b _ hbs).trans q0;replace q1:=((ay hn2).1 b _ hbs).trans q1;replace q2:=((ay hn2).1 b _ hbs).trans q2;replace q3:=((ay hn2).1 b _ hbs).trans q3;replace hbs:=Nat.lt_of_lt_of_le hbs hn2.size;replace hbl:=ah hbl hn2;go_wp2;refine ⟨⟨i+1,O',N',?_,hbl⟩,by simp [intOf];omega⟩;rw [JQ];simp only [bJ];congr 1;push_cast;omega
  ·exact Zab2
end Go.Proofs.YtkbkikggodlbbaaGreat
