/- Marking a value that is the call's own: what changes, what stays. No condition. -/
import Derived.Test.YtkjeocdobidadaaGreatWords
import Derived.Test.YtkjeocdobidadaaGreatData
import Derived.Test.YtkjeocdobidadaaGreatToBase
namespace Go.Proofs.YtkjeocdobidadaaGreat
open Go.ChangeShapes Go.WideShapes Go.ChangeAt Go.RowKit
set_option linter.unusedVariables false
set_option linter.unusedSimpArgs false
set_option maxHeartbeats 1000000
structure nN (F:List Nat) (w w':World):Prop where
 os:w'.os = w.os
 tape:w'.tape = w.tape
 output:w'.output = w.output
 size:w.heap.size≤w'.heap.size
 block:∀k,k < w.heap.size→k∉F→w'.heap[k]? = w.heap[k]?
section
variable {F G:List Nat} {w w1 w2:World}
theorem nN.refl (F:List Nat) (w:World):nN F w w:=⟨rfl,rfl,rfl,Nat.le_refl _,fun _ _ _=>rfl⟩
theorem nN.trans (h:nN F w w1) (k:nN F w1 w2):nN F w w2 :=
 ⟨k.os.trans h.os,k.tape.trans h.tape,k.output.trans h.output,Nat.le_trans h.size k.size,fun i hi hn=>(k.block i (Nat.lt_of_lt_of_le hi h.size) hn).trans (h.block i hi hn)⟩
theorem nN.mono (h:nN F w w1) (hs:∀b∈F,b∈G):nN G w w1:=⟨h.os,h.tape,h.output,h.size,fun i hi hn=>h.block i hi fun hb=>hn (hs i hb)⟩
theorem nN.lq (F:List Nat) (h:Below w.heap.size w w1):nN F w w1:=⟨h.os,h.tape,h.output,h.size,fun i hi _=>h.block i hi⟩
theorem nN.drew (h:nN F w w1):nN F w w1.drew:=⟨h.os,h.tape,h.output,h.size,h.block⟩
theorem nN.setCell (h:nN F w w1) {p:Addr} (hp:p.block∈F) (u:Value):nN F w (w1.setCell p u) :=
 ⟨h.os,h.tape,h.output,by simpa [World.setCell] using h.size,fun i hi hn=>(Below.heap_setCell _ _ _ _ (by rintro rfl;exact hn hp)).trans (h.block i hi hn)⟩
theorem nN.below {B:Nat} (h:nN F w w1) (hF:∀b∈F,B≤b) (hB:B≤w.heap.size):Below B w w1 :=
 ⟨h.os,h.tape,h.output,h.size,fun i hi=>h.block i O' fun hb=>by have:=hF i hb;omega⟩
theorem nN.rd {α:Type} [Dat α] (h:nN F w w1) {x:α} {cs:List Value} (hr:rd w x cs G) (hd:∀b∈G,b∉F):rd w1 x cs G :=
 Dat.frame hr (fun b hb=>h.block b (Dat.lt hr b hb) (hd b hb)) h.size
theorem nN.own {α:Type} [Dat α] (h:nN F w w1) {x:α} {cs:List Value} {B:Nat} (hr:Own w B x cs G) (hd:∀b∈G,b∉F):Own w1 B x cs G :=
 hr.keep (fun b hb=>h.block b (hr.lt b hb) (hd b hb)) h.size
end
def Cells (w:World) (b o:Nat) (ds:List Value):Prop:=∀j u,ds[j]? = some u→w.cell? ⟨b,o+j,none⟩ = some u
def Plain (w:World) (b:Nat):Prop:=∃ds t,w.heap[b]? = some (.cells ds t (0,0))
theorem Plain.lt {w:World} {b:Nat} (h:Plain w b):b < w.heap.size:=by
 obtain ⟨ds,t,h⟩:=h;rcases Nat.lt_or_ge b w.heap.size with hlt | hge
 ·exact hlt
 ·rw [Array.getElem?_eq_none hge] at h;cases h
theorem Plain.frozen {w:World} {b:Nat} (h:Plain w b) (i:Nat):w.frozen? ⟨b,i,none⟩ = false:=by
 obtain ⟨ds,t,h⟩:=h;simp [World.frozen?,h]
theorem Plain.setCell {w:World} {b:Nat} (h:Plain w b) (b' q:Nat) (u:Value):Plain (w.setCell ⟨b',q,none⟩ u) b:=by
 obtain ⟨ds,t,h⟩:=h;by_cases hp:b' = b
 ·subst hp;exact ⟨ds.setIfInBounds q u,t,by simp [World.setCell,Array.getElem?_modify,h]⟩
 ·exact ⟨ds,t,(Below.heap_setCell _ _ _ _ atX).trans h⟩
theorem abV {w:World} {b i:Nat} (h:Plain w b) {v:Value} (hc:w.cell? ⟨b,i,none⟩ = some v) (u:Value):(w.setCell ⟨b,i,none⟩ u).cell? ⟨b,i,none⟩ = some u:=by
 obtain ⟨ds,t,h⟩:=h;rw [cell_of_row w b i ds t (0,0) h] at hc;have hi:=(Array.getElem?_eq_some_iff.1 hc).1;rw [cell_of_row _ b i (ds.setIfInBounds i u) t (0,0) (by simp [World.setCell,Array.getElem?_modify,h])];simp [hi]
theorem Qv {w:World} {b i j:Nat} (h:Plain w b) (hij:i≠j) (u:Value):(w.setCell ⟨b,i,none⟩ u).cell? ⟨b,j,none⟩ = w.cell? ⟨b,j,none⟩:=by
 obtain ⟨ds,t,h⟩:=h;rw [cell_of_row w b j ds t (0,0) h,cell_of_row _ b j (ds.setIfInBounds i u) t (0,0) (by simp [World.setCell,Array.getElem?_modify,h])];rw [Array.getElem?_setIfInBounds_ne hij]
structure Elt (w0 w:World) (b o:Nat) (ck:List Value) (Fk:List Nat):Prop where
 upd:nN (b :: Fk) w0 w
 cells:Cells w b o ck
 rest:∀q,(q < o∨o+ck.length≤q)→w.cell? ⟨b,q,none⟩ = w0.cell? ⟨b,q,none⟩
 plain:Plain w b
section
variable {w0 w w1:World} {b o:Nat} {ck:List Value} {Fk G:List Nat}
theorem Elt.set (h:Elt w0 w b o ck Fk) {j q:Nat} (hj:j < ck.length) (hq:q = o+j) (u:Value):Elt w0 (w.setCell ⟨b,q,none⟩ u) b o (ck.set j u) Fk:=by
 subst hq;refine ⟨h.upd.setCell (List.mem_cons_self ..) u,fun i v hi=>?_,fun q hq=>?_,h.plain.setCell _ _ _⟩
 ·by_cases hij:j = i
  ·subst hij;rw [List.getElem?_set_self hj] at hi;cases hi
   exact abV h.plain (h.cells j _ (List.getElem?_eq_getElem hj)) u
  ·rw [List.getElem?_set_ne hij] at hi;rw [Qv h.plain O'];exact h.cells i v hi
 ·rw [List.length_set] at hq;rw [Qv h.plain O'];exact h.rest q hq
theorem Elt.at_ (h:Elt w0 w b o ck Fk) {j q:Nat} (hq:q = o+j) {u:Value} (hj:ck[j]? = some u):w.cell? ⟨b,q,none⟩ = some u:=by
 subst hq;exact h.cells j u hj
theorem Elt.step (h:Elt w0 w b o ck Fk) (hu:nN G w w1) (hs:∀x∈G,x∈Fk) (hb:b∉G):Elt w0 w1 b o ck Fk:=by
 have e:=hu.block b h.plain.lt hb;refine ⟨h.upd.trans (hu.mono fun x hx=>List.mem_cons_of_mem _ (hs x hx)),fun j u hj=>?_,fun q hq=>?_,?_⟩
 ·rw [World.cell?_of_block e];exact h.cells j u hj
 ·rw [World.cell?_of_block e];exact h.rest q hq
 ·obtain ⟨ds,t,hp⟩:=h.plain;exact ⟨ds,t,e.trans hp⟩
theorem Elt.ext (h:Elt w0 w b o ck Fk) (hb:Below w.heap.size w w1):Elt w0 w1 b o ck Fk:=h.step (.lq [] hb) (fun _ hx=>by cases hx) S'
end
theorem jo.split {α:Type} [Dat α] {w:World} {xs:List α} {ds:List Value} {G:List Nat} (h:jo w xs ds G) {k:Nat} (hk:k < xs.length) :
 ∃d1 ck d2 G1 Fk G2,ds = d1++(ck++d2)∧G = G1++(Fk++G2)∧jo w (xs.take k) d1 G1∧rd w xs[k] ck Fk∧jo w (xs.drop (k+1)) d2 G2∧d1.length = k * Dat.size α:=by
 have e:xs = xs.take k++(xs[k] :: xs.drop (k+1)):=by rw [List.getElem_cons_drop,List.take_append_drop]
 rw [e] at h;obtain ⟨c1,c2,F1,F2,rfl,rfl,h1,ck,c3,Fk,F3,rfl,rfl,h2,h3⟩:=jo.of_append h;refine ⟨c1,ck,c3,F1,Fk,F3,rfl,rfl,h1,h2,h3,?_⟩;rw [h1.len,List.length_take,Nat.min_eq_left O']
theorem Own.elt {α:Type} [Dat α] {w:World} {B n c:Nat} {xs:List α} {A:Option Addr} {F:List Nat} (h:Own w B xs [.slice A n c] F) {k:Nat} (hk:k < xs.length) :
 ∃b o ck Fk,A = some ⟨b,o,none⟩∧b∈F∧(∀x∈Fk,x∈F)∧b∉Fk∧Own w B xs[k] ck Fk∧Elt w w b (o+k * Dat.size α) ck Fk ∧
  ∀w' x' TY,Own w' B x' TY Fk→Elt w w' b (o+k * Dat.size α) TY Fk→Own w' B (xs.set k x') [.slice A n c] F:=by
 obtain ⟨⟨A',c',G,ds,e,hc1,hc2,hc,h0⟩,hnd,hbase,hplain⟩:=h;simp at e;obtain ⟨rfl,rfl,rfl⟩:=e;rcases h0 with h0 | ⟨b,o,rfl,rfl,hb,hcell⟩
 ·rw [h0.1] at hk;cases hk
 obtain ⟨d1,ck,d2,G1,Fk,G2,rfl,rfl,r1,r2,r3,hd1⟩:=hc.split hk;have hckl:=Dat.len r2;simp only [List.nodup_cons,List.nodup_append,List.mem_append,not_or] at hnd;have atq:Plain w b:=hplain b (List.mem_cons_self ..);refine ⟨b,o,ck,Fk,rfl,List.mem_cons_self ..,fun x hx=>List.mem_cons_of_mem _ (by simp [hx]),hnd.1.2.1,⟨r2,hnd.2.2.1.1,fun x hx=>hbase x (by simp [hx]),fun x hx=>hplain x (by simp [hx])⟩,⟨.refl _ _,fun j u hj=>?_,fun _ _=>rfl,atq⟩,?_⟩
 ·have:=hcell (k * Dat.size α+j) u (by
   rw [List.getElem?_append_right O',List.getElem?_append_left (by have:=(List.getElem?_eq_some_iff.1 hj).1;omega)]
   rw [← hj];congr 1;omega)
  rwa [Nat.add_assoc]
 ·intro w' x' TY hx hE;have hkeep:∀y∈G1++G2,w'.heap[y]? = w.heap[y]?:=fun y hy=>by
   refine hE.upd.block y ?_ ?_
   ·rcases List.mem_append.1 hy with hy | hy
    ·exact r1.lt y hy
    ·exact r3.lt y hy
   ·intro hm;rcases List.mem_cons.1 hm with rfl | hm
    ·rcases List.mem_append.1 hy with hy | hy
     ·exact hnd.1.1 hy
     ·exact hnd.1.2.2 hy
    ·rcases List.mem_append.1 hy with hy | hy
     ·exact hnd.2.2.2 y hy y (Or.inl hm) rfl
     ·exact hnd.2.2.1.2.2 y hm y hy rfl
  have hx2:=Dat.len hx.rd;refine ⟨⟨_,c,G1++(Fk++G2),d1++(TY++d2),S',by simpa using hc1,hc2,?_,.inr ⟨b,o,rfl,rfl,Nat.lt_of_lt_of_le hb hE.upd.size,?_⟩⟩,?_,?_,?_⟩
  ·have es:xs.set k x' = xs.take k++(x' :: xs.drop (k+1)):=List.set_eq_take_append_cons_drop.trans (if_pos hk);rw [es];exact (r1.frame (fun y hy=>hkeep y (List.mem_append_left _ hy)) hE.upd.size).append ⟨TY,d2,Fk,G2,rfl,rfl,hx.rd,r3.frame (fun y hy=>hkeep y (List.mem_append_right _ hy)) hE.upd.size⟩
  ·intro j u hj;by_cases hj1:j < d1.length
   ·rw [List.getElem?_append_left hj1] at hj;rw [hE.rest (o+j) O'];exact hcell j u (by rw [List.getElem?_append_left hj1];exact hj)
   ·rw [List.getElem?_append_right O'] at hj;by_cases hj2:j - d1.length < TY.length
    ·rw [List.getElem?_append_left hj2] at hj;have:=hE.cells _ u hj;rw [← this];congr 2;omega
    ·rw [List.getElem?_append_right O'] at hj;rw [hE.rest (o+j) O'];refine hcell j u ?_;rw [List.getElem?_append_right O',List.getElem?_append_right O'];rw [← hj];congr 1;omega
  ·simp only [List.nodup_cons,List.nodup_append,List.mem_append,not_or];exact hnd
  ·exact hbase
  ·intro y hy;rcases List.mem_cons.1 hy with rfl | hy
   ·exact hE.plain
   ·rcases List.mem_append.1 hy with hy | hy
    ·rw [hkeep y (List.mem_append_left _ hy)];exact hplain y (by simp [hy])
    ·rcases List.mem_append.1 hy with hy | hy
     ·exact hx.plain y hy
     ·rw [hkeep y (List.mem_append_right _ hy)];exact hplain y (by simp [hy])
theorem Own.JA {α:Type} [Dat α] {w:World} {B:Nat} {x:α} {cs:List Value} {F:List Nat} (h:Own w B x cs F) {p:Addr} (hp:p.block∉F) (u:Value):Own (w.setCell p u) B x cs F :=
 h.keep (fun b hb=>Below.heap_setCell _ _ _ _ (by rintro rfl;exact hp hb)) aua
section
variable {α:Type} (mk:α→Int→α) (cnt:α→Nat)
variable {mk cnt} {xs:List α} {k:Int} {i:Nat}
end
def pK {α:Type} (p:α→Bool):List α→Int
 | []=>-1
 | x :: xs=>if p x then 0 else if pK p xs < 0 then -1 else pK p xs+1
theorem F5 {α:Type} {p:α→Bool} : ∀{xs:List α},(∀x∈xs,p x = false)→pK p xs = -1
 | [],_=>rfl
 | x :: xs,h=>by
   have h1:=h x (List.mem_cons_self ..);have h2:=F5 (xs:=xs) fun y hy=>h y (List.mem_cons_of_mem _ hy);simp [pK,h1,h2]
theorem Fj {α:Type} {p:α→Bool} : ∀{xs:List α} {k:Nat} (hk:k < xs.length),(∀x∈xs.take k,p x = false)→p xs[k] = true→pK p xs = k
 | x :: xs,0,_,_,h=>by simp at h;simp [pK,h]
 | x :: xs,k+1,hk,hb,h=>by
   have h1:=hb x S';have h2:=Fj (xs:=xs) (k:=k) (by simpa using hk) (fun y hy=>hb y (by simp [hy])) avp;simp only [pK,h1,h2];rw [if_neg S',if_neg O'];omega
theorem yQ {α:Type} {p:α→Bool} {xs:List α} {k:Nat} (hk:k < xs.length) (h:∀x∈xs.take k,p x = false) (hx:p xs[k] = false):∀x∈xs.take (k+1),p x = false:=by
 rw [List.take_succ_eq_append_getElem hk];intro x hm;rcases List.mem_append.1 hm with hm | hm
 ·exact h x hm
 ·simp at hm;subst hm;exact hx
theorem Nc {α:Type} {p:α→Bool} : ∀(xs:List α),-1≤pK p xs∧pK p xs < xs.length
 | []=>by simp [pK]
 | x :: xs=>by
   have:=Nc (p:=p) xs;simp only [pK,List.length_cons];split
   ·omega
   ·split <;> omega
def iM (nm:ByteArray) (h:Host):Bool:=eqStr h.name nm
theorem ae9 (x:Host) (cs:List Value) (F:List Nat) (nm:ByteArray) (q:Nat) (w:World) (h:rd w x cs F) (hq:w.cell? ⟨q,0,none⟩ = some (.string nm)) (hql:q < w.heap.size) :
 Calls Tryz.prog 59 #[.agg cs.toArray,.pointer (some ⟨q,0,none⟩)] w fun e w'=>e = .returned (.bool (iM nm x))∧Below w.heap.size w w':=by
 obtain ⟨_,_,_,_,rfl,rfl,⟨rfl,rfl,hname⟩,_,_,_,_,rfl,rfl,dO,_,_,_,_,rfl,rfl,⟨rfl,rfl,vg⟩,_,_,_,_,rfl,rfl,⟨rfl,rfl,hmem⟩,_,_,_,_,rfl,rfl,⟨rfl,rfl,uI⟩,jq⟩:=h;obtain ⟨gu,gy,rfl,dO⟩:=jB dO;obtain ⟨kJ,kK,rfl,jq⟩:=jB jq;replace hname:=rV (s:=x.name) hname;replace dO:Sl _ x.labels gu gy _:=dO;replace vg:I64 x.cpu:=vg;replace hmem:I64 x.mem:=hmem;replace uI:I64 x.slots:=uI;replace jq:Sl _ x.aT kJ kK _:=jq;simp only [List.cons_append,List.nil_append];go_enter Tryz.func59,Tryz.ntmps59;go_wp2;go_ret
 exact ⟨rfl,ak (aj _) _⟩
theorem ajq (xs:List Host) (A:Option Addr) (c:Nat) (F:List Nat) (nm:ByteArray) (q:Nat) (w:World) (h:Sl w xs A c F) (hq:w.cell? ⟨q,0,none⟩ = some (.string nm)) (hql:q < w.heap.size) (hl:(xs.length:Int)≤1048576) :
 Calls Tryz.prog 58 #[.slice A xs.length c,.func (.func 59) #[] #[.pointer (some ⟨q,0,none⟩)]] w fun e w'=>e = .returned (.int .i64 (pK (iM nm) xs))∧Below w.heap.size w w':=by
 go_enter Tryz.func58,Tryz.ntmps58;go_wp2;go_loopw [5,8] (fun _ i wr=>∃k:Nat,k≤xs.length∧i = .int .i64 k∧Hid (∀x∈xs.take k,iM nm x = false)∧Below w.heap.size w wr) (fun _ i _=>xs.length - (intOf i).toNat)
 case atStart=>exact ⟨0,Nat.zero_le _,rfl,by show ∀_,_;simp,aj _⟩
 case round =>
  obtain ⟨k,hk,rfl,Hn,hbl⟩:=hrel;by_cases hlt:k < xs.length
  ·obtain ⟨b,o,ck,Fk,rfl,o9,hbs,hr,hsub,hc⟩:=(h.ext hbl).get hlt;obtain ⟨gu,gy,jw,kJ,kK,qU,hck,rfl,hname,dO,vg,hmem,uI,jq⟩:=iy hr;subst hck;have q0:wr.cell? ⟨b,o+k * 6,none⟩ = some (.string xs[k].name):=(by exact hc 0 _ rfl);have q1:wr.cell? ⟨b,o+k * 6+1,none⟩ = some (.slice gu xs[k].labels.length gy):=(by rw [Nat.add_assoc];exact hc 1 _ rfl);have q2:wr.cell? ⟨b,o+k * 6+2,none⟩ = some (.int .i64 xs[k].cpu):=(by rw [Nat.add_assoc];exact hc 2 _ rfl);have q3:wr.cell? ⟨b,o+k * 6+3,none⟩ = some (.int .i64 xs[k].mem):=(by rw [Nat.add_assoc];exact hc 3 _ rfl);have q4:wr.cell? ⟨b,o+k * 6+4,none⟩ = some (.int .i64 xs[k].slots):=(by rw [Nat.add_assoc];exact hc 4 _ rfl);have q5:wr.cell? ⟨b,o+k * 6+5,none⟩ = some (.slice kJ xs[k].aT.length kK):=(by rw [Nat.add_assoc];exact hc 5 _ rfl);clear hc;have hqr:wr.cell? ⟨q,0,none⟩ = some (.string nm):=(by rw [← hq];exact hbl.cell (p:=⟨q,0,none⟩) hql);have alF:q < wr.heap.size:=Nat.lt_of_lt_of_le hql hbl.size;cases hp:iM nm xs[k] with
   | false =>
     have HP:=I' hp;clear hp;go_wp2_with (go_at_call 59;refine (ae9 xs[k] _ _ nm q _ hr hqr alF).mono ?_;rw [HP.out];rintro e w2 ⟨rfl,hb2⟩)
     exact ⟨⟨k+1,O',N',yQ hlt Hn.out HP.out,ah hbl hb2⟩,by simp [intOf];omega⟩
   | true =>
     have HP:=I' hp;clear hp;have HI:=I' (Fj hlt Hn.out HP.out);go_wp2_with (go_at_call 59;refine (ae9 xs[k] _ _ nm q _ hr hqr alF).mono ?_;rw [HP.out];rintro e w2 ⟨rfl,hb2⟩)
     go_ret
     exact ⟨by rw [HI.out];rfl,ah hbl hb2⟩
  ·have hkl:k = xs.length:=O';subst hkl;have hn:=Hn.out;rw [List.take_length] at hn;have HI:=I' (F5 hn);clear hn;go_wp2;go_ret
   exact ⟨by rw [HI.out];rfl,hbl⟩
theorem gK (x:aU) (cs:List Value) (F:List Nat) (nm:ByteArray) (w:World) (h:rd w x cs F) (hl:(x.hosts.length:Int)≤1048576) :
 Calls Tryz.prog 14 #[.agg cs.toArray,.string nm] w fun e w'=>e = .returned (.int .i64 (pK (iM nm) x.hosts))∧Below w.heap.size w w':=by
 obtain ⟨_,_,_,_,rfl,rfl,bQ,_,_,_,_,rfl,rfl,dM,_,_,_,_,rfl,rfl,⟨rfl,rfl,hnext⟩,xM⟩:=h;obtain ⟨bG,bD,rfl,bQ⟩:=jB bQ;obtain ⟨dn,bW,rfl,dM⟩:=jB dM;have uJ:=xM;obtain ⟨rfl,rfl,aV,aP,aW⟩:=mg xM;replace bQ:Sl _ x.hosts bG bD _:=bQ;replace dM:Sl _ x.au dn bW _:=dM;replace hnext:I64 x.next:=hnext;replace aV:I64 x.weights.pack:=aV;replace aP:I64 x.weights.spread:=aP;replace aW:I64 x.weights.soft:=aW;replace uJ:rd _ x.weights [.int .i64 x.weights.pack,.int .i64 x.weights.spread,.int .i64 x.weights.soft] _:=uJ;simp only [List.cons_append,List.nil_append];go_enter Tryz.func14,Tryz.ntmps14;go_wp2_with (go_at_call 58;refine (ajq x.hosts _ _ _ nm _ _ (bQ.ext atS) S' S' hl).mono ?_;rintro e w2 ⟨rfl,hb2⟩)
 go_ret
 exact ⟨rfl,atS⟩
theorem gQ (x:aU) (cs:List Value) (F:List Nat) (nm:ByteArray) (w:World) (h:rd w x cs F) (hl:(x.hosts.length:Int)≤1048576) :
 Calls Tryz.prog 84 #[.agg cs.toArray,.string nm] w fun e w'=>e = .returned (.int .i64 (pK (iM nm) x.hosts))∧Below w.heap.size w w':=by
 obtain ⟨_,_,_,_,rfl,rfl,bQ,_,_,_,_,rfl,rfl,dM,_,_,_,_,rfl,rfl,⟨rfl,rfl,hnext⟩,xM⟩:=h;obtain ⟨bG,bD,rfl,bQ⟩:=jB bQ;obtain ⟨dn,bW,rfl,dM⟩:=jB dM;have uJ:=xM;obtain ⟨rfl,rfl,aV,aP,aW⟩:=mg xM;replace bQ:Sl _ x.hosts bG bD _:=bQ;replace dM:Sl _ x.au dn bW _:=dM;replace hnext:I64 x.next:=hnext;replace aV:I64 x.weights.pack:=aV;replace aP:I64 x.weights.spread:=aP;replace aW:I64 x.weights.soft:=aW;replace uJ:rd _ x.weights [.int .i64 x.weights.pack,.int .i64 x.weights.spread,.int .i64 x.weights.soft] _:=uJ;simp only [List.cons_append,List.nil_append];go_enter Tryz.func84,Tryz.ntmps84;go_wp2;go_loop [5] (fun i=>∃k:Nat,k≤x.hosts.length∧i = .int .i64 k∧Hid (∀y∈x.hosts.take k,iM nm y = false)) (fun i=>x.hosts.length - (intOf i).toNat)
 case atStart=>exact ⟨0,Nat.zero_le _,rfl,by show ∀_,_;simp⟩
 case round =>
  obtain ⟨k,hk,rfl,Hn⟩:=hrel;by_cases hlt:k < x.hosts.length
  ·obtain ⟨b,o,ck,Fk,rfl,o9,hbs,hr,hsub,hc⟩:=bQ.get hlt;obtain ⟨dU,dV,Ba,kY,kZ,NR,hck,rfl,hname1,jr,IQ,IU,KD,yO⟩:=iy hr;subst hck;have q0:w.cell? ⟨b,o+k * 6,none⟩ = some (.string x.hosts[k].name):=(by exact hc 0 _ rfl);have q1:w.cell? ⟨b,o+k * 6+1,none⟩ = some (.slice dU x.hosts[k].labels.length dV):=(by rw [Nat.add_assoc];exact hc 1 _ rfl);have q2:w.cell? ⟨b,o+k * 6+2,none⟩ = some (.int .i64 x.hosts[k].cpu):=(by rw [Nat.add_assoc];exact hc 2 _ rfl);have q3:w.cell? ⟨b,o+k * 6+3,none⟩ = some (.int .i64 x.hosts[k].mem):=(by rw [Nat.add_assoc];exact hc 3 _ rfl);have q4:w.cell? ⟨b,o+k * 6+4,none⟩ = some (.int .i64 x.hosts[k].slots):=(by rw [Nat.add_assoc];exact hc 4 _ rfl);have q5:w.cell? ⟨b,o+k * 6+5,none⟩ = some (.slice kY x.hosts[k].aT.length kZ):=(by rw [Nat.add_assoc];exact hc 5 _ rfl);clear hc;have hne:b≠w.heap.size:=Nat.ne_of_lt hbs;cases hp:iM nm x.hosts[k] with
   | false =>have HP:=I' hp;have hp':(x.hosts[k].name.toList == nm.toList) = false:=hp;clear hp;go_wp2;exact ⟨⟨k+1,O',N',yQ hlt Hn.out HP.out⟩,by simp [intOf];omega⟩
   | true =>
     have HP:=I' hp;have hp':(x.hosts[k].name.toList == nm.toList) = true:=hp;clear hp;have HI:=I' (Fj hlt Hn.out HP.out);go_wp2;go_ret
     exact ⟨by rw [HI.out];rfl,atS⟩
  ·have hkl:k = x.hosts.length:=O';exact Zadx
def CG (nm:ByteArray) (h:Placed):Bool:=eqStr h.aS.name nm
theorem aaj (x:aU) (cs:List Value) (F:List Nat) (nm:ByteArray) (w:World) (h:rd w x cs F) (hl:(x.au.length:Int)≤1048576) :
 Calls Tryz.prog 32 #[.agg cs.toArray,.string nm] w fun e w'=>e = .returned (.int .i64 (pK (CG nm) x.au))∧Below w.heap.size w w':=by
 obtain ⟨_,_,_,_,rfl,rfl,bQ,_,_,_,_,rfl,rfl,dM,_,_,_,_,rfl,rfl,⟨rfl,rfl,hnext⟩,xM⟩:=h;obtain ⟨bG,bD,rfl,bQ⟩:=jB bQ;obtain ⟨dn,bW,rfl,dM⟩:=jB dM;have uJ:=xM;obtain ⟨rfl,rfl,aV,aP,aW⟩:=mg xM;replace bQ:Sl _ x.hosts bG bD _:=bQ;replace dM:Sl _ x.au dn bW _:=dM;replace hnext:I64 x.next:=hnext;replace aV:I64 x.weights.pack:=aV;replace aP:I64 x.weights.spread:=aP;replace aW:I64 x.weights.soft:=aW;replace uJ:rd _ x.weights [.int .i64 x.weights.pack,.int .i64 x.weights.spread,.int .i64 x.weights.soft] _:=uJ;simp only [List.cons_append,List.nil_append];go_enter Tryz.func32,Tryz.ntmps32;go_wp2;go_loop [5] (fun i=>∃k:Nat,k≤x.au.length∧i = .int .i64 k∧Hid (∀y∈x.au.take k,CG nm y = false)) (fun i=>x.au.length - (intOf i).toNat)
 case atStart=>exact ⟨0,Nat.zero_le _,rfl,by show ∀_,_;simp⟩
 case round =>
  obtain ⟨k,hk,rfl,Hn⟩:=hrel;by_cases hlt:k < x.au.length
  ·obtain ⟨b,o,ck,Fk,rfl,o9,hbs,hr,hsub,hc⟩:=dM.get hlt;obtain ⟨pO,pR,EY,rH,rJ,He,kT,kU,yu,hck,rfl,Dq,yw,FW,FX,Dt,Az,qH,anH,afa⟩:=kE hr;subst hck;have q0:w.cell? ⟨b,o+k * 9,none⟩ = some (.string x.au[k].aS.name):=(by exact hc 0 _ rfl);have q1:w.cell? ⟨b,o+k * 9+1,none⟩ = some (.slice pO x.au[k].aS.labels.length pR):=(by rw [Nat.add_assoc];exact hc 1 _ rfl);have q2:w.cell? ⟨b,o+k * 9+2,none⟩ = some (.int .i64 x.au[k].aS.cpu):=(by rw [Nat.add_assoc];exact hc 2 _ rfl);have q3:w.cell? ⟨b,o+k * 9+3,none⟩ = some (.int .i64 x.au[k].aS.mem):=(by rw [Nat.add_assoc];exact hc 3 _ rfl);have q4:w.cell? ⟨b,o+k * 9+4,none⟩ = some (.int .i64 x.au[k].aS.rank):=(by rw [Nat.add_assoc];exact hc 4 _ rfl);have q5:w.cell? ⟨b,o+k * 9+5,none⟩ = some (.slice rH x.au[k].aS.needs.length rJ):=(by rw [Nat.add_assoc];exact hc 5 _ rfl);have q6:w.cell? ⟨b,o+k * 9+6,none⟩ = some (.slice kT x.au[k].aS.tolerances.length kU):=(by rw [Nat.add_assoc];exact hc 6 _ rfl);have q7:w.cell? ⟨b,o+k * 9+7,none⟩ = some (.string x.au[k].on):=(by rw [Nat.add_assoc];exact hc 7 _ rfl);have q8:w.cell? ⟨b,o+k * 9+8,none⟩ = some (.int .i64 x.au[k].seq):=(by rw [Nat.add_assoc];exact hc 8 _ rfl);clear hc;have hne:b≠w.heap.size:=Nat.ne_of_lt hbs;cases hp:CG nm x.au[k] with
   | false =>have HP:=I' hp;have hp':(x.au[k].aS.name.toList == nm.toList) = false:=hp;clear hp;go_wp2;exact ⟨⟨k+1,O',N',yQ hlt Hn.out HP.out⟩,by simp [intOf];omega⟩
   | true =>
     have HP:=I' hp;have hp':(x.au[k].aS.name.toList == nm.toList) = true:=hp;clear hp;have HI:=I' (Fj hlt Hn.out HP.out);go_wp2;go_ret
     exact ⟨by rw [HI.out];rfl,atS⟩
  ·have hkl:k = x.au.length:=O';exact Zadx
end Go.Proofs.YtkjeocdobidadaaGreat
