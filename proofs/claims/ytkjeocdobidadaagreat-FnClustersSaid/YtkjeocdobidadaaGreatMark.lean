/- Marking a value that is the call's own: what changes, what stays. No condition. -/
import Derived.Test.YtkjeocdobidadaaGreatWords
import Derived.Test.YtkjeocdobidadaaGreatKit
import Derived.Test.YtkjeocdobidadaaGreatDeed
import Derived.Laws.IdiomCopy
namespace Go.Proofs.YtkjeocdobidadaaGreat
open Go.ChangeShapes Go.WideShapes Go.ChangeAt Go.RowKit
set_option linter.unusedVariables false
set_option linter.unusedSimpArgs false
set_option maxHeartbeats 2000000
set_option maxRecDepth 100000
structure nN (F:List Nat) (w w':World):Prop where
 os:w'.os = w.os
 tape:w'.tape = w.tape
 output:w'.output = w.output
 size:w.heap.size≤w'.heap.size
 block:∀k,k < w.heap.size→k∉F→w'.heap[k]? = w.heap[k]?
section
variable {F G:List Nat} {w w1 w2:World}
theorem nN.refl (F:List Nat) (w:World):nN F w w:=⟨rfl,rfl,rfl,Nat.le_refl _,fun _ _ _=>rfl⟩
theorem nN.trans (h:nN F w w1) (k:nN F w1 w2):nN F w w2 :=
 ⟨k.os.trans h.os,k.tape.trans h.tape,k.output.trans h.output,Nat.le_trans h.size k.size,fun i hi hn=>(k.block i (Nat.lt_of_lt_of_le hi h.size) hn).trans (h.block i hi hn)⟩
theorem nN.mono (h:nN F w w1) (hs:∀b∈F,b∈G):nN G w w1:=⟨h.os,h.tape,h.output,h.size,fun i hi hn=>h.block i hi fun hb=>hn (hs i hb)⟩
theorem nN.lq (F:List Nat) (h:Below w.heap.size w w1):nN F w w1:=⟨h.os,h.tape,h.output,h.size,fun i hi _=>h.block i hi⟩
theorem nN.drew (h:nN F w w1):nN F w w1.drew:=⟨h.os,h.tape,h.output,h.size,h.block⟩
theorem nN.setCell (h:nN F w w1) {p:Addr} (hp:p.block∈F) (u:Value):nN F w (w1.setCell p u) :=
 ⟨h.os,h.tape,h.output,by simpa [World.setCell] using h.size,fun i hi hn=>(Below.heap_setCell _ _ _ _ (by rintro rfl;exact hn hp)).trans (h.block i hi hn)⟩
theorem nN.below {B:Nat} (h:nN F w w1) (hF:∀b∈F,B≤b) (hB:B≤w.heap.size):Below B w w1 :=
 ⟨h.os,h.tape,h.output,h.size,fun i hi=>h.block i O' fun hb=>by have:=hF i hb;omega⟩
theorem nN.rd {α:Type} [Dat α] (h:nN F w w1) {x:α} {cs:List Value} (hr:rd w x cs G) (hd:∀b∈G,b∉F):rd w1 x cs G :=
 Dat.frame hr (fun b hb=>h.block b (Dat.lt hr b hb) (hd b hb)) h.size
theorem nN.own {α:Type} [Dat α] (h:nN F w w1) {x:α} {cs:List Value} {B:Nat} (hr:Own w B x cs G) (hd:∀b∈G,b∉F):Own w1 B x cs G :=
 hr.keep (fun b hb=>h.block b (hr.lt b hb) (hd b hb)) h.size
end
def Cells (w:World) (b o:Nat) (ds:List Value):Prop:=∀j u,ds[j]? = some u→w.cell? ⟨b,o+j,none⟩ = some u
def Plain (w:World) (b:Nat):Prop:=∃ds t,w.heap[b]? = some (.cells ds t (0,0))
theorem Plain.lt {w:World} {b:Nat} (h:Plain w b):b < w.heap.size:=by
 obtain ⟨ds,t,h⟩:=h;rcases Nat.lt_or_ge b w.heap.size with hlt | hge
 ·exact hlt
 ·rw [Array.getElem?_eq_none hge] at h;cases h
theorem Plain.frozen {w:World} {b:Nat} (h:Plain w b) (i:Nat):w.frozen? ⟨b,i,none⟩ = false:=by
 obtain ⟨ds,t,h⟩:=h;simp [World.frozen?,h]
theorem Plain.setCell {w:World} {b:Nat} (h:Plain w b) (b' q:Nat) (u:Value):Plain (w.setCell ⟨b',q,none⟩ u) b:=by
 obtain ⟨ds,t,h⟩:=h;by_cases hp:b' = b
 ·subst hp;exact ⟨ds.setIfInBounds q u,t,by simp [World.setCell,Array.getElem?_modify,h]⟩
 ·exact ⟨ds,t,(Below.heap_setCell _ _ _ _ atX).trans h⟩
theorem abV {w:World} {b i:Nat} (h:Plain w b) {v:Value} (hc:w.cell? ⟨b,i,none⟩ = some v) (u:Value):(w.setCell ⟨b,i,none⟩ u).cell? ⟨b,i,none⟩ = some u:=by
 obtain ⟨ds,t,h⟩:=h;rw [cell_of_row w b i ds t (0,0) h] at hc;have hi:=(Array.getElem?_eq_some_iff.1 hc).1;rw [cell_of_row _ b i (ds.setIfInBounds i u) t (0,0) (by simp [World.setCell,Array.getElem?_modify,h])];simp [hi]
theorem Qv {w:World} {b i j:Nat} (h:Plain w b) (hij:i≠j) (u:Value):(w.setCell ⟨b,i,none⟩ u).cell? ⟨b,j,none⟩ = w.cell? ⟨b,j,none⟩:=by
 obtain ⟨ds,t,h⟩:=h;rw [cell_of_row w b j ds t (0,0) h,cell_of_row _ b j (ds.setIfInBounds i u) t (0,0) (by simp [World.setCell,Array.getElem?_modify,h])];rw [Array.getElem?_setIfInBounds_ne hij]
structure Elt (w0 w:World) (b o:Nat) (ck:List Value) (Fk:List Nat):Prop where
 upd:nN (b :: Fk) w0 w
 cells:Cells w b o ck
 rest:∀q,(q < o∨o+ck.length≤q)→w.cell? ⟨b,q,none⟩ = w0.cell? ⟨b,q,none⟩
 plain:Plain w b
section
variable {w0 w w1:World} {b o:Nat} {ck:List Value} {Fk G:List Nat}
theorem Elt.set (h:Elt w0 w b o ck Fk) {j q:Nat} (hj:j < ck.length) (hq:q = o+j) (u:Value):Elt w0 (w.setCell ⟨b,q,none⟩ u) b o (ck.set j u) Fk:=by
 subst hq;refine ⟨h.upd.setCell (List.mem_cons_self ..) u,fun i v hi=>?_,fun q hq=>?_,h.plain.setCell _ _ _⟩
 ·by_cases hij:j = i
  ·subst hij;rw [List.getElem?_set_self hj] at hi;cases hi
   exact abV h.plain (h.cells j _ (List.getElem?_eq_getElem hj)) u
  ·rw [List.getElem?_set_ne hij] at hi;rw [Qv h.plain O'];exact h.cells i v hi
 ·rw [List.length_set] at hq;rw [Qv h.plain O'];exact h.rest q hq
theorem Elt.at_ (h:Elt w0 w b o ck Fk) {j q:Nat} (hq:q = o+j) {u:Value} (hj:ck[j]? = some u):w.cell? ⟨b,q,none⟩ = some u:=by
 subst hq;exact h.cells j u hj
theorem Elt.step (h:Elt w0 w b o ck Fk) (hu:nN G w w1) (hs:∀x∈G,x∈Fk) (hb:b∉G):Elt w0 w1 b o ck Fk:=by
 have e:=hu.block b h.plain.lt hb;refine ⟨h.upd.trans (hu.mono fun x hx=>List.mem_cons_of_mem _ (hs x hx)),fun j u hj=>?_,fun q hq=>?_,?_⟩
 ·rw [World.cell?_of_block e];exact h.cells j u hj
 ·rw [World.cell?_of_block e];exact h.rest q hq
 ·obtain ⟨ds,t,hp⟩:=h.plain;exact ⟨ds,t,e.trans hp⟩
theorem Elt.ext (h:Elt w0 w b o ck Fk) (hb:Below w.heap.size w w1):Elt w0 w1 b o ck Fk:=h.step (.lq [] hb) (fun _ hx=>by cases hx) S'
end
theorem jo.split {α:Type} [Dat α] {w:World} {xs:List α} {ds:List Value} {G:List Nat} (h:jo w xs ds G) {k:Nat} (hk:k < xs.length) :
 ∃d1 ck d2 G1 Fk G2,ds = d1++(ck++d2)∧G = G1++(Fk++G2)∧jo w (xs.take k) d1 G1∧rd w xs[k] ck Fk∧jo w (xs.drop (k+1)) d2 G2∧d1.length = k * Dat.size α:=by
 have e:xs = xs.take k++(xs[k] :: xs.drop (k+1)):=by rw [List.getElem_cons_drop,List.take_append_drop]
 rw [e] at h;obtain ⟨c1,c2,F1,F2,rfl,rfl,h1,ck,c3,Fk,F3,rfl,rfl,h2,h3⟩:=jo.of_append h;refine ⟨c1,ck,c3,F1,Fk,F3,rfl,rfl,h1,h2,h3,?_⟩;rw [h1.len,List.length_take,Nat.min_eq_left O']
theorem Own.elt {α:Type} [Dat α] {w:World} {B n c:Nat} {xs:List α} {A:Option Addr} {F:List Nat} (h:Own w B xs [.slice A n c] F) {k:Nat} (hk:k < xs.length) :
 ∃b o ck Fk,A = some ⟨b,o,none⟩∧b∈F∧(∀x∈Fk,x∈F)∧b∉Fk∧Own w B xs[k] ck Fk∧Elt w w b (o+k * Dat.size α) ck Fk ∧
  ∀w' x' TY,Own w' B x' TY Fk→Elt w w' b (o+k * Dat.size α) TY Fk→Own w' B (xs.set k x') [.slice A n c] F:=by
 obtain ⟨⟨A',c',G,ds,e,hc1,hc2,hc,h0⟩,hnd,hbase,hplain⟩:=h;simp at e;obtain ⟨rfl,rfl,rfl⟩:=e;rcases h0 with h0 | ⟨b,o,rfl,rfl,hb,hcell⟩
 ·rw [h0.1] at hk;cases hk
 obtain ⟨d1,ck,d2,G1,Fk,G2,rfl,rfl,r1,r2,r3,hd1⟩:=hc.split hk;have hckl:=Dat.len r2;simp only [List.nodup_cons,List.nodup_append,List.mem_append,not_or] at hnd;have atq:Plain w b:=hplain b (List.mem_cons_self ..);refine ⟨b,o,ck,Fk,rfl,List.mem_cons_self ..,fun x hx=>List.mem_cons_of_mem _ (by simp [hx]),hnd.1.2.1,⟨r2,hnd.2.2.1.1,fun x hx=>hbase x (by simp [hx]),fun x hx=>hplain x (by simp [hx])⟩,⟨.refl _ _,fun j u hj=>?_,fun _ _=>rfl,atq⟩,?_⟩
 ·have:=hcell (k * Dat.size α+j) u (by
   rw [List.getElem?_append_right O',List.getElem?_append_left (by have:=(List.getElem?_eq_some_iff.1 hj).1;omega)]
   rw [← hj];congr 1;omega)
  rwa [Nat.add_assoc]
 ·intro w' x' TY hx hE;have hkeep:∀y∈G1++G2,w'.heap[y]? = w.heap[y]?:=fun y hy=>by
   refine hE.upd.block y ?_ ?_
   ·rcases List.mem_append.1 hy with hy | hy
    ·exact r1.lt y hy
    ·exact r3.lt y hy
   ·intro hm;rcases List.mem_cons.1 hm with rfl | hm
    ·rcases List.mem_append.1 hy with hy | hy
     ·exact hnd.1.1 hy
     ·exact hnd.1.2.2 hy
    ·rcases List.mem_append.1 hy with hy | hy
     ·exact hnd.2.2.2 y hy y (Or.inl hm) rfl
     ·exact hnd.2.2.1.2.2 y hm y hy rfl
  have hx2:=Dat.len hx.rd;refine ⟨⟨_,c,G1++(Fk++G2),d1++(TY++d2),S',by simpa using hc1,hc2,?_,.inr ⟨b,o,rfl,rfl,Nat.lt_of_lt_of_le hb hE.upd.size,?_⟩⟩,?_,?_,?_⟩
  ·have es:xs.set k x' = xs.take k++(x' :: xs.drop (k+1)):=List.set_eq_take_append_cons_drop.trans (if_pos hk);rw [es];exact (r1.frame (fun y hy=>hkeep y (List.mem_append_left _ hy)) hE.upd.size).append ⟨TY,d2,Fk,G2,rfl,rfl,hx.rd,r3.frame (fun y hy=>hkeep y (List.mem_append_right _ hy)) hE.upd.size⟩
  ·intro j u hj;by_cases hj1:j < d1.length
   ·rw [List.getElem?_append_left hj1] at hj;rw [hE.rest (o+j) O'];exact hcell j u (by rw [List.getElem?_append_left hj1];exact hj)
   ·rw [List.getElem?_append_right O'] at hj;by_cases hj2:j - d1.length < TY.length
    ·rw [List.getElem?_append_left hj2] at hj;have:=hE.cells _ u hj;rw [← this];congr 2;omega
    ·rw [List.getElem?_append_right O'] at hj;rw [hE.rest (o+j) O'];refine hcell j u ?_;rw [List.getElem?_append_right O',List.getElem?_append_right O'];rw [← hj];congr 1;omega
  ·simp only [List.nodup_cons,List.nodup_append,List.mem_append,not_or];exact hnd
  ·exact hbase
  ·intro y hy;rcases List.mem_cons.1 hy with rfl | hy
   ·exact hE.plain
   ·rcases List.mem_append.1 hy with hy | hy
    ·rw [hkeep y (List.mem_append_left _ hy)];exact hplain y (by simp [hy])
    ·rcases List.mem_append.1 hy with hy | hy
     ·exact hx.plain y hy
     ·rw [hkeep y (List.mem_append_right _ hy)];exact hplain y (by simp [hy])
theorem Own.JA {α:Type} [Dat α] {w:World} {B:Nat} {x:α} {cs:List Value} {F:List Nat} (h:Own w B x cs F) {p:Addr} (hp:p.block∉F) (u:Value):Own (w.setCell p u) B x cs F :=
 h.keep (fun b hb=>Below.heap_setCell _ _ _ _ (by rintro rfl;exact hp hb)) aua
section
variable {α:Type} (mk:α→Int→α) (cnt:α→Nat)
variable {mk cnt} {xs:List α} {k:Int} {i:Nat}
end
theorem setCells_size (b:Nat):∀(vs:List Value) (o:Nat) (w:World),(w.setCells b o vs).heap.size = w.heap.size
 | [],_,_=>rfl
 | v :: r,o,w=>by rw [World.setCells,setCells_size b r];simp [World.setCell]
theorem vV (b:Nat) {k:Nat} (hk:k≠b):∀(vs:List Value) (o:Nat) (w:World),(w.setCells b o vs).heap[k]? = w.heap[k]?
 | [],_,_=>rfl
 | v :: r,o,w=>by rw [World.setCells,vV b hk r];exact Below.heap_setCell _ _ _ _ atX
theorem F8 (b:Nat):∀(vs:List Value) (o:Nat) (w:World),(w.setCells b o vs).os = w.os∧(w.setCells b o vs).tape = w.tape∧(w.setCells b o vs).output = w.output
 | [],_,_=>⟨rfl,rfl,rfl⟩
 | v :: r,o,w=>by rw [World.setCells];exact F8 b r (o+1) _
theorem EK (b:Nat):∀(vs:List Value) (o:Nat) (w:World),Plain w b→Plain (w.setCells b o vs) b
 | [],_,_,h=>h
 | v :: r,o,w,h=>by rw [World.setCells];exact EK b r (o+1) _ (h.setCell b o v)
def oG (w:World) (g:Nat) (cs:List Value):Prop:=∃t,w.heap[g]? = some (.cells cs.toArray t (0,0))
section
variable {w w':World} {g:Nat} {cs:List Value}
theorem oG.lt (h:oG w g cs):g < w.heap.size:=by
 obtain ⟨t,h⟩:=h;rcases Nat.lt_or_ge g w.heap.size with hlt | hge
 ·exact hlt
 ·rw [Array.getElem?_eq_none hge] at h;cases h
theorem oG.cell (h:oG w g cs) {i:Nat} {u:Value} (hi:cs[i]? = some u):w.cell? ⟨g,i,none⟩ = some u:=by
 obtain ⟨t,h⟩:=h;rw [cell_of_row w g i _ t (0,0) h];simpa using hi
theorem oG.fz (h:oG w g cs) (i:Nat):w.frozen? ⟨g,i,none⟩ = false:=by obtain ⟨t,h⟩:=h;simp [World.frozen?,h]
theorem oG.keep (h:oG w g cs) (hk:w'.heap[g]? = w.heap[g]?):oG w' g cs:=by obtain ⟨t,h⟩:=h;exact ⟨t,hk.trans h⟩
theorem oG.put (h:oG w g cs) (i:Nat) (u:Value):oG (w.setCell ⟨g,i,none⟩ u) g (cs.set i u):=by
 obtain ⟨t,h⟩:=h;exact ⟨t,by simp [World.setCell,Array.getElem?_modify,h]⟩
theorem oG.far (h:oG w g cs) {c:Nat} (hc:c≠g) (i:Nat) (u:Value):oG (w.setCell ⟨c,i,none⟩ u) g cs:=h.keep (Below.heap_setCell _ _ _ _ atX)
theorem oG.new (w:World) (cs:List Value) (t:TypeId):oG (w.alloc (.cells cs.toArray t)) w.heap.size cs:=⟨t,heap_alloc_new w _⟩
theorem oG.ext (h:oG w g cs) (hb:Below w.heap.size w w'):oG w' g cs:=h.keep (hb.block g h.lt)
theorem oG.upd {b:Nat} (h:oG w g cs) (hu:nN [b] w w') (hg:g≠b):oG w' g cs:=h.keep (hu.block g h.lt (by simpa using hg))
end
instance:Dat UInt8 where
 size:=1
 pos:=by omega
 rd _ n cs F:=cs = [.int .u8 (n.toNat:Int)]∧F = []
 len h:=by rw [h.1];rfl
 one h:=by rw [h.1];intro u hu;simp at hu;subst hu;rfl
 lt h:=by rw [h.2];intro b hb;cases hb
 frame h _ _:=h
theorem opens_u8 {P:Program} {t:TypeId} (ht:P.underlying t = some (.int .u8)):Opens P t UInt8:=by
 intro H enc w base fuel spare held cs d h;obtain ⟨n,rfl,_,hw⟩:=DataW.trod_int ht h;have h2:0≤n∧n≤255:=by
  have:=hw;simp [Lit.wf,IntKind.min,IntKind.max,IntKind.signed,IntKind.bits] at this;exact this
 refine ⟨UInt8.ofNat n.toNat,[],?_,rfl⟩;have e:((UInt8.ofNat n.toNat).toNat:Int) = n:=by
  have h3:(UInt8.ofNat n.toNat).toNat = n.toNat % 256:=by simp
  rw [h3];omega
 rw [e]
def DCur (w:World) (c:Nat) (A:Option Addr) (n cap:Nat):Prop :=
 (∃(i h:Int) (t:TypeId),w.heap[c]? = some (.cells #[.slice A n cap,.int .i64 i,.int .i64 h] t (0,0))∧(0≤i∧i≤n)∧I64 h) ∧
 (∀k,k < n→∃(g o:Nat) (v:Int),A = some ⟨g,o,none⟩∧g < c∧w.cell? ⟨g,o+k,none⟩ = some (.int .u8 v)∧0≤v∧v≤255)∧(n:Int)≤1048576
section
variable {w w':World} {c:Nat} {A:Option Addr} {n cap:Nat}
theorem DCur.lt (h:DCur w c A n cap):c < w.heap.size:=by
 obtain ⟨⟨i,x,t,h,_⟩,_⟩:=h;rcases Nat.lt_or_ge c w.heap.size with hlt | hge
 ·exact hlt
 ·rw [Array.getElem?_eq_none hge] at h;cases h
theorem DCur.ext (h:DCur w c A n cap) (hb:Below w.heap.size w w'):DCur w' c A n cap:=by
 have hlt:=h.lt;obtain ⟨⟨i,x,t,h1,h2⟩,h3,h4⟩:=h;refine ⟨⟨i,x,t,(hb.block c hlt).trans h1,h2⟩,fun k hk=>?_,h4⟩;obtain ⟨g,o,v,e,hg,hc,hv⟩:=h3 k hk;exact ⟨g,o,v,e,hg,(World.cell?_of_block (hb.block g O')).trans hc,hv⟩
theorem DCur.drew (h:DCur w c A n cap):DCur w.drew c A n cap:=h.ext (aA (aj _))
theorem DCur.far (h:DCur w c A n cap) {b:Nat} (hb:c < b) (i:Nat) (u:Value):DCur (w.setCell ⟨b,i,none⟩ u) c A n cap:=by
 obtain ⟨⟨j,x,t,h1,h2⟩,h3,h4⟩:=h;refine ⟨⟨j,x,t,(Below.heap_setCell _ _ _ _ atX).trans h1,h2⟩,fun k hk=>?_,h4⟩;exact Zac6
theorem DCur.place (h:DCur w c A n cap) {i:Int} (hi:0≤i∧i≤n):DCur (w.setCell ⟨c,1,none⟩ (.int .i64 i)) c A n cap:=by
 obtain ⟨⟨j,x,t,h1,h2⟩,h3,h4⟩:=h;refine ⟨⟨i,x,t,by simp [World.setCell,Array.getElem?_modify,h1],hi,h2.2⟩,fun k hk=>?_,h4⟩;exact Zac6
theorem DCur.number (h:DCur w c A n cap) {x:Int} (hx:I64 x):DCur (w.setCell ⟨c,2,none⟩ (.int .i64 x)) c A n cap:=by
 obtain ⟨⟨j,y,t,h1,h2⟩,h3,h4⟩:=h;refine ⟨⟨j,x,t,by simp [World.setCell,Array.getElem?_modify,h1],h2.1,hx⟩,fun k hk=>?_,h4⟩;exact Zac6
theorem DCur.cells (h:DCur w c A n cap):∃i x:Int,(0≤i∧i≤n)∧I64 x∧w.cell? ⟨c,0,none⟩ = some (.slice A n cap)∧w.cell? ⟨c,1,none⟩ = some (.int .i64 i)∧w.cell? ⟨c,2,none⟩ = some (.int .i64 x)∧∀k,w.frozen? ⟨c,k,none⟩ = false:=by
 obtain ⟨⟨i,x,t,h,h2⟩,_⟩:=h;refine ⟨i,x,h2.1,h2.2,?_,?_,?_,fun k=>by simp [World.frozen?,h]⟩
 ·rw [cell_of_row w c 0 _ t (0,0) h];rfl
 ·rw [cell_of_row w c 1 _ t (0,0) h];rfl
 ·rw [cell_of_row w c 2 _ t (0,0) h];rfl
theorem DCur.byte (h:DCur w c A n cap) {k:Nat} (hk:k < n):∃(g o:Nat) (v:Int),A = some ⟨g,o,none⟩∧g < c∧w.cell? ⟨g,o+k,none⟩ = some (.int .u8 v)∧0≤v∧v≤255:=h.2.1 k hk
theorem DCur.small (h:DCur w c A n cap):(n:Int)≤1048576:=h.2.2
end
theorem and_mask (a:Int) (m:Nat) (hm:m < 9223372036854775808):0≤bits .and .i64 a (m:Int)∧bits .and .i64 a (m:Int)≤m:=by
 have h2:(BitVec.ofInt 64 (m:Int)).toNat = m:=by rw [BitVec.ofInt_natCast,BitVec.toNat_ofNat];exact Nat.mod_eq_of_lt O'
 have h3:(BitVec.ofInt 64 a &&& BitVec.ofInt 64 (m:Int)).toNat≤m:=by rw [BitVec.toNat_and,h2];exact Nat.and_le_right
 have e:bits .and .i64 a (m:Int) = IntKind.i64.wrap ((BitVec.ofInt 64 a &&& BitVec.ofInt 64 (m:Int)).toNat:Int):=rfl;rw [e,IntKind.wrap_i64];omega
theorem wrap64_I64 (a:Int):I64 (wrap64 a):=by unfold wrap64 I64;omega
theorem Byte_draw (w:World) (c:Nat) (A:Option Addr) (n cap:Nat) (h:DCur w c A n cap) :
 Calls Tryz.prog 100 #[.pointer (some ⟨c,0,none⟩)] w fun e w'=>∃r:Int,e = .returned (.int .i64 r)∧(0≤r∧r≤255)∧DCur w' c A n cap∧nN [c] w w':=by
 obtain ⟨i0,x0,hi,hx,c0,c1,c2,hfz⟩:=h.cells;have hlt:=h.lt;have hf2:=hfz 2;have H:=I' h;clear h hfz hi hx;go_enter Tryz.func100,Tryz.ntmps100;go_wp2;have hu:nN [c] w (w.setCell ⟨c,2,none⟩ (.int .i64 (wrap64 (wrap64 (x0 * 6364136223846793005)+1442695040888963407)))):=(nN.refl _ _).setCell S' _;have H1:=H.out.number (x:=wrap64 (wrap64 (x0 * 6364136223846793005)+1442695040888963407)) (wrap64_I64 _);generalize w.setCell ⟨c,2,none⟩ (.int .i64 (wrap64 (wrap64 (x0 * 6364136223846793005)+1442695040888963407))) = w1 at *;clear c0 c1 c2 hf2;obtain ⟨i,x,hi,hx,c0,c1,c2,hfz⟩:=H1.cells;have hs:=H1.small;have hf1:=hfz 1;have hlt1:=H1.lt;by_cases hk:i < n
 ·obtain ⟨k,rfl⟩:∃k:Nat,i = k:=⟨i.toNat,O'⟩;obtain ⟨g,o,v,rfl,hg,hv,hv0,hv1⟩:=H1.byte (k:=k) O';replace H1:=I' H1;go_region
  obtain ⟨y,hy,hy0,hy1⟩:∃y,bits BinOp.and IntKind.i64 (bits BinOp.xor IntKind.i64 (x / 8589934592) (x / 35184372088832)) 255 = y∧0≤y∧y≤255:=⟨_,rfl,and_mask _ 255 (by decide)⟩;simp only [hy];clear hy;go_wp2;go_region
  go_wp2;go_region
  go_wp2;go_ret
  exact ⟨_,rfl,and_mask _ 255 (by decide),(H1.out.place O').drew.drew.drew,((hu.setCell S' _).drew.drew.drew)⟩
 ·replace H1:=I' H1;go_region
  obtain ⟨y,hy,hy0,hy1⟩:∃y,bits BinOp.and IntKind.i64 (bits BinOp.xor IntKind.i64 (x / 8589934592) (x / 35184372088832)) 255 = y∧0≤y∧y≤255:=⟨_,rfl,and_mask _ 255 (by decide)⟩;simp only [hy];clear hy;go_wp2;go_region
  go_wp2;go_ret
  exact ⟨_,rfl,⟨hy0,hy1⟩,H1.out.drew.drew,hu.drew.drew⟩
theorem Below_draw (m:Nat) (hm:0 < m∧(m:Int)≤1000000000) (w:World) (c:Nat) (A:Option Addr) (n cap:Nat) (h:DCur w c A n cap) :
 Calls Tryz.prog 48 #[.pointer (some ⟨c,0,none⟩),.int .i64 m] w fun e w'=>∃r:Nat,e = .returned (.int .i64 r)∧r < m∧DCur w' c A n cap∧nN [c] w w':=by
 obtain ⟨hm0,hm1⟩:=hm;have hlt:=h.lt;have HC:=I' h;clear h;by_cases hs:(m:Int)≤256
 ·go_enter Tryz.func48,Tryz.ntmps48;go_wp2_with fail
  refine (Byte_draw _ c A n cap HC.out).mono ?_;rintro e w1 ⟨r,rfl,⟨hr0,hr1⟩,H1,hu⟩;obtain ⟨k,rfl⟩:∃k:Nat,r = k:=⟨r.toNat,O'⟩;replace H1:=I' H1;go_wp2;go_ret
  exact ⟨k % m,S',Nat.mod_lt _ hm0,H1.out,hu⟩
 ·go_enter Tryz.func48,Tryz.ntmps48;go_wp2_with fail
  refine (Byte_draw _ c A n cap HC.out).mono ?_;rintro e w1 ⟨r1,rfl,⟨hr0,hr1⟩,H1,hu1⟩;replace H1:=I' H1;go_wp2_with fail
  refine (Byte_draw _ c A n cap H1.out).mono ?_;rintro e w2 ⟨r2,rfl,⟨hq0,hq1⟩,H2,hu2⟩;replace H2:=I' H2;go_wp2_with fail
  refine (Byte_draw _ c A n cap H2.out).mono ?_;rintro e w3 ⟨r3,rfl,⟨hs0,hs1⟩,H3,hu3⟩;replace H3:=I' H3;go_wp2_with fail
  refine (Byte_draw _ c A n cap H3.out).mono ?_;rintro e w4 ⟨r4,rfl,⟨ht0,ht1⟩,H4,Td⟩;replace H4:=I' H4;go_wp2;go_ret
  obtain ⟨q,hq⟩:∃q:Nat,r1 * 16777216+r2 * 65536+r3 * 256+r4 = q:=⟨(r1 * 16777216+r2 * 65536+r3 * 256+r4).toNat,O'⟩;exact ⟨q % m,(by simp [hq]),Nat.mod_lt _ hm0,H4.out,(hu1.trans hu2).trans (hu3.trans Td)⟩
theorem Once_draw (m:Nat) (hm:0 < m∧(m:Int)≤1000000000) (w:World) (c:Nat) (A:Option Addr) (n cap:Nat) (h:DCur w c A n cap) :
 Calls Tryz.prog 147 #[.pointer (some ⟨c,0,none⟩),.int .i64 m] w fun e w'=>∃r:Bool,e = .returned (.bool r)∧DCur w' c A n cap∧nN [c] w w':=by
 have HC:=I' h;clear h;have HM:=I' hm;clear hm;go_enter Tryz.func147,Tryz.ntmps147;go_wp2_with fail
 refine (Below_draw m HM.out _ c A n cap HC.out).mono ?_;rintro e w1 ⟨k,rfl,hk,H1,hu⟩;replace H1:=I' H1;go_wp2;go_ret
 exact ⟨_,rfl,H1.out,hu⟩
theorem Pick_draw (S:ByteArray→Prop) (g m mc:Nat) (hm:0 < m∧(m:Int)≤1000000000) (w:World) (c:Nat) (A:Option Addr) (n cap:Nat) (h:DCur w c A n cap) (hg:g≠c) (hgl:g < w.heap.size) (hS:∀k,k < m→∃s,w.cell? ⟨g,k,none⟩ = some (.string s)∧S s) :
 Calls Tryz.prog 146 #[.pointer (some ⟨c,0,none⟩),.slice (some ⟨g,0,none⟩) m mc] w fun e w'=>∃s,e = .returned (.string s)∧S s∧DCur w' c A n cap∧nN [c] w w':=by
 have HC:=I' h;clear h;have HM:=I' hm;clear hm;go_enter Tryz.func146,Tryz.ntmps146;go_wp2_with fail
 refine (Below_draw m HM.out _ c A n cap HC.out).mono ?_;rintro e w1 ⟨k,rfl,hk,H1,hu⟩;replace H1:=I' H1;obtain ⟨s,hs,hs2⟩:=hS k hk;have hki:(k:Int) < m:=by omega
 have hs1:w1.cell? ⟨g,k,none⟩ = some (.string s):=by rw [← hs];exact World.cell?_of_block (hu.block g hgl (by simpa using hg))
 go_wp2;go_ret
 exact ⟨_,rfl,hs2,H1.out,hu⟩
theorem PickInt_draw (S:Int→Prop) (g m mc:Nat) (hm:0 < m∧(m:Int)≤1000000000) (w:World) (c:Nat) (A:Option Addr) (n cap:Nat) (h:DCur w c A n cap) (hg:g≠c) (hgl:g < w.heap.size) (hS:∀k,k < m→∃s,w.cell? ⟨g,k,none⟩ = some (.int .i64 s)∧S s) :
 Calls Tryz.prog 101 #[.pointer (some ⟨c,0,none⟩),.slice (some ⟨g,0,none⟩) m mc] w fun e w'=>∃s,e = .returned (.int .i64 s)∧S s∧DCur w' c A n cap∧nN [c] w w':=by
 have HC:=I' h;clear h;have HM:=I' hm;clear hm;go_enter Tryz.func101,Tryz.ntmps101;go_wp2_with fail
 refine (Below_draw m HM.out _ c A n cap HC.out).mono ?_;rintro e w1 ⟨k,rfl,hk,H1,hu⟩;replace H1:=I' H1;obtain ⟨s,hs,hs2⟩:=hS k hk;have hki:(k:Int) < m:=by omega
 have hs1:w1.cell? ⟨g,k,none⟩ = some (.int .i64 s):=by rw [← hs];exact World.cell?_of_block (hu.block g hgl (by simpa using hg))
 go_wp2;go_ret
 exact ⟨_,rfl,hs2,H1.out,hu⟩
theorem New_draw (w:World) (A:Option Addr) (n cap:Nat) (hn:(n:Int)≤1048576) (hsrc:∀k,k < n→∃(g o:Nat) (v:Int),A = some ⟨g,o,none⟩∧g < w.heap.size∧w.cell? ⟨g,o+k,none⟩ = some (.int .u8 v)∧0≤v∧v≤255) :
 Calls Tryz.prog 47 #[.slice A n cap] w fun e w'=>∃c,e = .returned (.pointer (some ⟨c,0,none⟩))∧w.heap.size≤c∧DCur w' c A n cap∧Below w.heap.size w w':=by
 go_enter Tryz.func47,Tryz.ntmps47;go_wp2_with fail
 go_loopw [3,4] (fun x i wr=>∃(q:Int) (k:Nat),x = .int .i64 q∧i = .int .i64 k∧(0≤q∧q≤1073741823)∧k≤n∧(k:Int)≤4000∧Below w.heap.size w wr) (fun _ i _=>n - (intOf i).toNat)
 case atStart=>exact ⟨94701+n,0,au0,rfl,O',Nat.zero_le _,O',aj _⟩
 case round =>
  obtain ⟨q,k,rfl,rfl,⟨hq0,hq1⟩,hkn,hk4,hb⟩:=hrel;by_cases hk:k < n
  ·obtain ⟨g,o,v,rfl,hg,hv,hv0,hv1⟩:=hsrc k hk;have hvw:wr.cell? ⟨g,o+k,none⟩ = some (.int .u8 v):=(hb.cell (p:=⟨g,o+k,none⟩) hg).trans hv;have hb0:(n:Int)≤cap∨True:=.inr trivial;by_cases hk5:(k:Int) < 4000
   ·have hkn':(k:Int) < n:=O';go_wp2;exact ⟨⟨_,k+1,rfl,N',and_mask _ 1073741823 (by decide),O',O',hb⟩,by simp only [intOf];omega⟩
   ·have hkn':(k:Int) < n:=O';exact Zacy
  ·have hkn':¬(k:Int) < n:=O';exact Zacy
end Go.Proofs.YtkjeocdobidadaaGreat
