/- HostAt and PodAt, of the program and of the reference: the first place at which a name stands. -/
import Derived.Test.YtajbbmembionpaaGreatAppendAt
namespace Go.Proofs.YtajbbmembionpaaGreat
open Go.ChangeShapes Go.WideShapes Go.ChangeAt Go.RowKit
set_option linter.unusedVariables false
set_option linter.unusedSimpArgs false
set_option maxHeartbeats 1000000
def pK {α:Type} (p:α→Bool):List α→Int
 | []=>-1
 | x :: xs=>if p x then 0 else if pK p xs < 0 then -1 else pK p xs+1
theorem F5 {α:Type} {p:α→Bool} : ∀{xs:List α},(∀x∈xs,p x = false)→pK p xs = -1
 | [],_=>rfl
 | x :: xs,h=>by
   have h1:=h x (List.mem_cons_self ..);have h2:=F5 (xs:=xs) fun y hy=>h y (List.mem_cons_of_mem _ hy);simp [pK,h1,h2]
theorem Fj {α:Type} {p:α→Bool} : ∀{xs:List α} {k:Nat} (hk:k < xs.length),(∀x∈xs.take k,p x = false)→p xs[k] = true→pK p xs = k
 | x :: xs,0,_,_,h=>by simp at h;simp [pK,h]
 | x :: xs,k+1,hk,X,h=>by
   have h1:=X x S';have h2:=Fj (xs:=xs) (k:=k) Jq (fun y hy=>X y (by simp [hy])) Vv;simp only [pK,h1,h2];rw [if_neg S',if_neg J];omega
theorem yQ {α:Type} {p:α→Bool} {xs:List α} {k:Nat} (hk:k < xs.length) (h:∀x∈xs.take k,p x = false) (hx:p xs[k] = false):∀x∈xs.take (k+1),p x = false:=by
 rw [List.take_succ_eq_append_getElem hk];intro x hm;rcases List.mem_append.1 hm with hm | hm
 ·exact h x hm
 ·simp at hm;subst hm;exact hx
theorem Nc {α:Type} {p:α→Bool} : ∀(xs:List α),-1≤pK p xs∧pK p xs < xs.length
 | []=>by simp [pK]
 | x :: xs=>by
   have:=Nc (p:=p) xs;simp only [pK,List.length_cons];split
   ·omega
   ·split <;> omega
def iM (nm:ByteArray) (h:ba):Bool:=l4 h.name nm
theorem QQ (x:ba) (cs:List Value) (F:List Nat) (nm:ByteArray) (q:Nat) (w:World) (h:rd w x cs F) (hq:w.cell? ⟨q,0,none⟩ = some (.string nm)) (oE:q < w.heap.size) :
 Calls Tryz.prog 84 #[.agg cs.toArray,.pointer (some ⟨q,0,none⟩)] w fun e w'=>e = .returned (.bool (iM nm x))∧Below w.heap.size w w':=by
 obtain ⟨_,_,_,_,rfl,rfl,⟨rfl,rfl,hname⟩,_,_,_,_,rfl,rfl,dO,_,_,_,_,rfl,rfl,⟨rfl,rfl,vg⟩,_,_,_,_,rfl,rfl,⟨rfl,rfl,cB⟩,_,_,_,_,rfl,rfl,⟨rfl,rfl,uI⟩,jq⟩:=h;obtain ⟨gu,gy,rfl,dO⟩:=jB dO;obtain ⟨kJ,kK,rfl,jq⟩:=jB jq;replace hname:=rV (s:=x.name) hname;replace dO:Sl _ x.labels gu gy _:=dO;replace vg:br x.az:=vg;replace cB:br x.mem:=cB;replace uI:br x.av:=uI;replace jq:Sl _ x.aT kJ kK _:=jq;simp only [List.cons_append,List.nil_append];go_enter Tryz.func84,Tryz.ntmps84;go_wp2;go_ret
 exact ⟨rfl,ak (aj _) _⟩
theorem WN (xs:List ba) (A:Option Addr) (c:Nat) (F:List Nat) (nm:ByteArray) (q:Nat) (w:World) (h:Sl w xs A c F) (hq:w.cell? ⟨q,0,none⟩ = some (.string nm)) (oE:q < w.heap.size) (hl:(xs.length:Int)≤1048576) :
 Calls Tryz.prog 83 #[.slice A xs.length c,.func (.func 84) #[] #[.pointer (some ⟨q,0,none⟩)]] w fun e w'=>e = .returned (.int .i64 (pK (iM nm) xs))∧Below w.heap.size w w':=by
 go_enter Tryz.func83,Tryz.ntmps83;go_wp2;go_loopw [5,8] (fun _ i wr=>∃k:Nat,k≤xs.length∧i = .int .i64 k∧Hid (∀x∈xs.take k,iM nm x = false)∧Below w.heap.size w wr) (fun _ i _=>xs.length - (intOf i).toNat)
 case atStart=>exact ⟨0,Nat.zero_le _,rfl,by show ∀_,_;simp,aj _⟩
 case round =>
  obtain ⟨k,hk,rfl,Hn,aR⟩:=hrel;by_cases ax:k < xs.length
  ·obtain ⟨b,o,ck,Fk,rfl,o9,hbs,hr,bB,hc⟩:=(h.ext aR).get ax;obtain ⟨gu,gy,jw,kJ,kK,qU,aE,rfl,hname,dO,vg,cB,uI,jq⟩:=iy hr;subst aE;obtain ⟨q0,q1,q2,q3,q4,q5⟩:=oW 6 hc;clear hc;have QR:wr.cell? ⟨q,0,none⟩ = some (.string nm):=(by rw [← hq];exact aR.cell (p:=⟨q,0,none⟩) oE);have ES:q < wr.heap.size:=Nat.lt_of_lt_of_le oE aR.size;cases hp:iM nm xs[k] with
   | false =>
     have HP:=I hp;clear hp;go_wp2_with (go_at_call 84;refine (QQ xs[k] _ _ nm q _ hr QR ES).mono ?_;rw [HP.out];rintro e w2 ⟨rfl,ar⟩)
     exact ⟨⟨k+1,J,N',yQ ax Hn.out HP.out,ah aR ar⟩,by simp [intOf];omega⟩
   | true =>
     have HP:=I hp;clear hp;have HI:=I (Fj ax Hn.out HP.out);go_wp2_with (go_at_call 84;refine (QQ xs[k] _ _ nm q _ hr QR ES).mono ?_;rw [HP.out];rintro e w2 ⟨rfl,ar⟩)
     go_ret
     exact ⟨by rw [HI.out];rfl,ah aR ar⟩
  ·have bF:k = xs.length:=J;subst bF;have Z:=Hn.out;rw [List.take_length] at Z;have HI:=I (F5 Z);clear Z;go_wp2;go_ret
   exact ⟨by rw [HI.out];rfl,aR⟩
theorem gK (x:aU) (cs:List Value) (F:List Nat) (nm:ByteArray) (w:World) (h:rd w x cs F) (hl:(x.aa.length:Int)≤1048576) :
 Calls Tryz.prog 42 #[.agg cs.toArray,.string nm] w fun e w'=>e = .returned (.int .i64 (pK (iM nm) x.aa))∧Below w.heap.size w w':=by
 obtain ⟨_,_,_,_,rfl,rfl,bQ,_,_,_,_,rfl,rfl,dM,_,_,_,_,rfl,rfl,⟨rfl,rfl,hnext⟩,xM⟩:=h;obtain ⟨bG,bD,rfl,bQ⟩:=jB bQ;obtain ⟨dn,bW,rfl,dM⟩:=jB dM;have uJ:=xM;obtain ⟨rfl,rfl,aV,aP,aW⟩:=mg xM;replace bQ:Sl _ x.aa bG bD _:=bQ;replace dM:Sl _ x.V dn bW _:=dM;replace hnext:br x.next:=hnext;replace aV:br x.weights.pack:=aV;replace aP:br x.weights.af:=aP;replace aW:br x.weights.an:=aW;replace uJ:rd _ x.weights [.int .i64 x.weights.pack,.int .i64 x.weights.af,.int .i64 x.weights.an] _:=uJ;simp only [List.cons_append,List.nil_append];go_enter Tryz.func42,Tryz.ntmps42;go_wp2_with (go_at_call 83;refine (WN x.aa _ _ _ nm _ _ (bQ.ext bJ) S' S' hl).mono ?_;rintro e w2 ⟨rfl,ar⟩)
 go_ret
 exact ⟨rfl,bJ⟩
theorem gQ (x:aU) (cs:List Value) (F:List Nat) (nm:ByteArray) (w:World) (h:rd w x cs F) (hl:(x.aa.length:Int)≤1048576) :
 Calls Tryz.prog 50 #[.agg cs.toArray,.string nm] w fun e w'=>e = .returned (.int .i64 (pK (iM nm) x.aa))∧Below w.heap.size w w':=by
 obtain ⟨_,_,_,_,rfl,rfl,bQ,_,_,_,_,rfl,rfl,dM,_,_,_,_,rfl,rfl,⟨rfl,rfl,hnext⟩,xM⟩:=h;obtain ⟨bG,bD,rfl,bQ⟩:=jB bQ;obtain ⟨dn,bW,rfl,dM⟩:=jB dM;have uJ:=xM;obtain ⟨rfl,rfl,aV,aP,aW⟩:=mg xM;replace bQ:Sl _ x.aa bG bD _:=bQ;replace dM:Sl _ x.V dn bW _:=dM;replace hnext:br x.next:=hnext;replace aV:br x.weights.pack:=aV;replace aP:br x.weights.af:=aP;replace aW:br x.weights.an:=aW;replace uJ:rd _ x.weights [.int .i64 x.weights.pack,.int .i64 x.weights.af,.int .i64 x.weights.an] _:=uJ;simp only [List.cons_append,List.nil_append];go_enter Tryz.func50,Tryz.ntmps50;go_wp2;go_loop [5] (fun i=>∃k:Nat,k≤x.aa.length∧i = .int .i64 k∧Hid (∀y∈x.aa.take k,iM nm y = false)) (fun i=>x.aa.length - (intOf i).toNat)
 case atStart=>exact ⟨0,Nat.zero_le _,rfl,by show ∀_,_;simp⟩
 case round =>
  obtain ⟨k,hk,rfl,Hn⟩:=hrel;by_cases ax:k < x.aa.length
  ·obtain ⟨b,o,ck,Fk,rfl,o9,hbs,hr,bB,hc⟩:=bQ.get ax;obtain ⟨dU,dV,Ba,kY,kZ,NR,aE,rfl,hname1,jr,IQ,IU,KD,yO⟩:=iy hr;subst aE;obtain ⟨q0,q1,q2,q3,q4,q5⟩:=oW 6 hc;clear hc;have b4:b≠w.heap.size:=Nat.ne_of_lt hbs;cases hp:iM nm x.aa[k] with
   | false =>have HP:=I hp;have ET:(x.aa[k].name.toList == nm.toList) = false:=hp;clear hp;go_wp2;exact ⟨⟨k+1,J,N',yQ ax Hn.out HP.out⟩,by simp [intOf];omega⟩
   | true =>have HP:=I hp;have ET:(x.aa[k].name.toList == nm.toList) = true:=hp;exact DY
  ·have bF:k = x.aa.length:=J;exact DG
def CG (nm:ByteArray) (h:ag):Bool:=l4 h.aS.name nm
theorem Ag (x:aU) (cs:List Value) (F:List Nat) (nm:ByteArray) (w:World) (h:rd w x cs F) (hl:(x.V.length:Int)≤1048576) :
 Calls Tryz.prog 19 #[.agg cs.toArray,.string nm] w fun e w'=>e = .returned (.int .i64 (pK (CG nm) x.V))∧Below w.heap.size w w':=by
 obtain ⟨_,_,_,_,rfl,rfl,bQ,_,_,_,_,rfl,rfl,dM,_,_,_,_,rfl,rfl,⟨rfl,rfl,hnext⟩,xM⟩:=h;obtain ⟨bG,bD,rfl,bQ⟩:=jB bQ;obtain ⟨dn,bW,rfl,dM⟩:=jB dM;have uJ:=xM;obtain ⟨rfl,rfl,aV,aP,aW⟩:=mg xM;replace bQ:Sl _ x.aa bG bD _:=bQ;replace dM:Sl _ x.V dn bW _:=dM;replace hnext:br x.next:=hnext;replace aV:br x.weights.pack:=aV;replace aP:br x.weights.af:=aP;replace aW:br x.weights.an:=aW;replace uJ:rd _ x.weights [.int .i64 x.weights.pack,.int .i64 x.weights.af,.int .i64 x.weights.an] _:=uJ;simp only [List.cons_append,List.nil_append];go_enter Tryz.func19,Tryz.ntmps19;go_wp2;go_loop [5] (fun i=>∃k:Nat,k≤x.V.length∧i = .int .i64 k∧Hid (∀y∈x.V.take k,CG nm y = false)) (fun i=>x.V.length - (intOf i).toNat)
 case atStart=>exact ⟨0,Nat.zero_le _,rfl,by show ∀_,_;simp⟩
 case round =>
  obtain ⟨k,hk,rfl,Hn⟩:=hrel;by_cases ax:k < x.V.length
  ·obtain ⟨b,o,ck,Fk,rfl,o9,hbs,hr,bB,hc⟩:=dM.get ax;obtain ⟨pO,pR,EY,rH,rJ,He,kT,kU,yu,aE,rfl,Dq,yw,FW,FX,Dt,Az,qH,anH,afa⟩:=kE hr;subst aE;obtain ⟨q0,q1,q2,q3,q4,q5,q6,q7,q8⟩:=vL 9 hc;clear hc;have b4:b≠w.heap.size:=Nat.ne_of_lt hbs;cases hp:CG nm x.V[k] with
   | false =>have HP:=I hp;have ET:(x.V[k].aS.name.toList == nm.toList) = false:=hp;clear hp;go_wp2;exact ⟨⟨k+1,J,N',yQ ax Hn.out HP.out⟩,by simp [intOf];omega⟩
   | true =>have HP:=I hp;have ET:(x.V[k].aS.name.toList == nm.toList) = true:=hp;exact DY
  ·have bF:k = x.V.length:=J;exact DG
structure nN (F:List Nat) (w w':World):Prop where
 os:w'.os = w.os
 tape:w'.tape = w.tape
 output:w'.output = w.output
 size:w.heap.size≤w'.heap.size
 block:∀k,k < w.heap.size→k∉F→w'.heap[k]? = w.heap[k]?
section
variable {F G:List Nat} {w w1 w2:World}
theorem nN.refl (F:List Nat) (w:World):nN F w w:=⟨rfl,rfl,rfl,Nat.le_refl _,fun _ _ _=>rfl⟩
theorem nN.trans (h:nN F w w1) (k:nN F w1 w2):nN F w w2 :=
 ⟨k.os.trans h.os,k.tape.trans h.tape,k.output.trans h.output,Nat.le_trans h.size k.size,fun i hi Z=>(k.block i (Nat.lt_of_lt_of_le hi h.size) Z).trans (h.block i hi Z)⟩
theorem nN.mono (h:nN F w w1) (hs:∀b∈F,b∈G):nN G w w1:=⟨h.os,h.tape,h.output,h.size,fun i hi Z=>h.block i hi fun X=>Z (hs i X)⟩
theorem nN.lq (F:List Nat) (h:Below w.heap.size w w1):nN F w w1:=⟨h.os,h.tape,h.output,h.size,fun i hi _=>h.block i hi⟩
theorem nN.drew (h:nN F w w1):nN F w w1.drew:=⟨h.os,h.tape,h.output,h.size,h.block⟩
theorem nN.setCell (h:nN F w w1) {p:Addr} (hp:p.block∈F) (u:Value):nN F w (w1.setCell p u) :=
 ⟨h.os,h.tape,h.output,by simpa [World.setCell] using h.size,fun i hi Z=>(Below.heap_setCell _ _ _ _ (by rintro rfl;exact Z hp)).trans (h.block i hi Z)⟩
theorem nN.aD {B:Nat} (h:nN F w w1) (hF:∀b∈F,B≤b) (hB:B≤w.heap.size):Below B w w1 :=
 ⟨h.os,h.tape,h.output,h.size,fun i hi=>h.block i J fun X=>by have:=hF i X;omega⟩
theorem nN.rd {α:Type} [bc α] (h:nN F w w1) {x:α} {cs:List Value} (hr:rd w x cs G) (hd:∀b∈G,b∉F):rd w1 x cs G :=
 bc.frame hr (fun b X=>h.block b (bc.lt hr b X) (hd b X)) h.size
theorem nN.L5 {α:Type} [bc α] (h:nN F w w1) {x:α} {cs:List Value} {B:Nat} (hr:am w B x cs G) (hd:∀b∈G,b∉F):am w1 B x cs G :=
 hr.bs (fun b X=>h.block b (hr.lt b X) (hd b X)) h.size
end
def uF (w:World) (b o:Nat) (ds:List Value):Prop:=∀j u,ds[j]? = some u→w.cell? ⟨b,o+j,none⟩ = some u
def er (w:World) (b:Nat):Prop:=∃ds t,w.heap[b]? = some (.cells ds t (0,0))
theorem er.lt {w:World} {b:Nat} (h:er w b):b < w.heap.size:=by
 obtain ⟨ds,t,h⟩:=h;rcases Nat.lt_or_ge b w.heap.size with ax | nP
 ·exact ax
 ·rw [Array.getElem?_eq_none nP] at h;cases h
theorem er.frozen {w:World} {b:Nat} (h:er w b) (i:Nat):w.frozen? ⟨b,i,none⟩ = false:=by
 obtain ⟨ds,t,h⟩:=h;simp [World.frozen?,h]
theorem er.setCell {w:World} {b:Nat} (h:er w b) (b' q:Nat) (u:Value):er (w.setCell ⟨b',q,none⟩ u) b:=by
 obtain ⟨ds,t,h⟩:=h;by_cases hp:b' = b
 ·subst hp;exact ⟨ds.setIfInBounds q u,t,by simp [World.setCell,Array.getElem?_modify,h]⟩
 ·exact ⟨ds,t,(Below.heap_setCell _ _ _ _ bA).trans h⟩
theorem Ww {w:World} {b i:Nat} (h:er w b) {v:Value} (hc:w.cell? ⟨b,i,none⟩ = some v) (u:Value):(w.setCell ⟨b,i,none⟩ u).cell? ⟨b,i,none⟩ = some u:=by
 obtain ⟨ds,t,h⟩:=h;rw [cell_of_row w b i ds t (0,0) h] at hc;have hi:=(Array.getElem?_eq_some_iff.1 hc).1;rw [cell_of_row _ b i (ds.setIfInBounds i u) t (0,0) Qp];simp [hi]
theorem Qv {w:World} {b i j:Nat} (h:er w b) (pv:i≠j) (u:Value):(w.setCell ⟨b,i,none⟩ u).cell? ⟨b,j,none⟩ = w.cell? ⟨b,j,none⟩:=by
 obtain ⟨ds,t,h⟩:=h;rw [cell_of_row w b j ds t (0,0) h,cell_of_row _ b j (ds.setIfInBounds i u) t (0,0) Qp];rw [Array.getElem?_setIfInBounds_ne pv]
structure o0 (w0 w:World) (b o:Nat) (ck:List Value) (Fk:List Nat):Prop where
 bR:nN (b :: Fk) w0 w
 cells:uF w b o ck
 rest:∀q,(q < o∨o+ck.length≤q)→w.cell? ⟨b,q,none⟩ = w0.cell? ⟨b,q,none⟩
 plain:er w b
section
variable {w0 w w1:World} {b o:Nat} {ck:List Value} {Fk G:List Nat}
theorem o0.set (h:o0 w0 w b o ck Fk) {j q:Nat} (hj:j < ck.length) (hq:q = o+j) (u:Value):o0 w0 (w.setCell ⟨b,q,none⟩ u) b o (ck.set j u) Fk:=by
 subst hq;refine ⟨h.bR.setCell (List.mem_cons_self ..) u,fun i v hi=>?_,fun q hq=>?_,h.plain.setCell _ _ _⟩
 ·by_cases pv:j = i
  ·subst pv;rw [List.getElem?_set_self hj] at hi;cases hi
   exact Ww h.plain (h.cells j _ (List.getElem?_eq_getElem hj)) u
  ·rw [List.getElem?_set_ne pv] at hi;rw [Qv h.plain J];exact h.cells i v hi
 ·rw [List.length_set] at hq;rw [Qv h.plain J];exact h.rest q hq
theorem o0.lm (h:o0 w0 w b o ck Fk) {j q:Nat} (hq:q = o+j) {u:Value} (hj:ck[j]? = some u):w.cell? ⟨b,q,none⟩ = some u:=by
 subst hq;exact h.cells j u hj
theorem o0.step (h:o0 w0 w b o ck Fk) (hu:nN G w w1) (hs:∀x∈G,x∈Fk) (X:b∉G):o0 w0 w1 b o ck Fk:=by
 have e:=hu.block b h.plain.lt X;refine ⟨h.bR.trans (hu.mono fun x hx=>List.mem_cons_of_mem _ (hs x hx)),fun j u hj=>?_,fun q hq=>?_,?_⟩
 ·rw [World.cell?_of_block e];exact h.cells j u hj
 ·rw [World.cell?_of_block e];exact h.rest q hq
 ·obtain ⟨ds,t,hp⟩:=h.plain;exact ⟨ds,t,e.trans hp⟩
theorem o0.ext (h:o0 w0 w b o ck Fk) (X:Below w.heap.size w w1):o0 w0 w1 b o ck Fk:=h.step (.lq [] X) (fun _ hx=>by cases hx) S'
end
theorem jo.split {α:Type} [bc α] {w:World} {xs:List α} {ds:List Value} {G:List Nat} (h:jo w xs ds G) {k:Nat} (hk:k < xs.length) :
 ∃d1 ck d2 G1 Fk G2,ds = d1++(ck++d2)∧G = G1++(Fk++G2)∧jo w (xs.take k) d1 G1∧rd w xs[k] ck Fk∧jo w (xs.drop (k+1)) d2 G2∧d1.length = k * bc.size α:=by
 have e:xs = xs.take k++(xs[k] :: xs.drop (k+1)):=by rw [List.getElem_cons_drop,List.take_append_drop]
 rw [e] at h;obtain ⟨c1,c2,F1,F2,rfl,rfl,h1,ck,c3,Fk,F3,rfl,rfl,h2,h3⟩:=jo.fu h;refine ⟨c1,ck,c3,F1,Fk,F3,rfl,rfl,h1,h2,h3,?_⟩;rw [h1.len,List.length_take,Nat.min_eq_left J]
theorem am.EQ {α:Type} [bc α] {w:World} {B n c:Nat} {xs:List α} {A:Option Addr} {F:List Nat} (h:am w B xs [.slice A n c] F) {k:Nat} (hk:k < xs.length) :
 ∃b o ck Fk,A = some ⟨b,o,none⟩∧b∈F∧(∀x∈Fk,x∈F)∧b∉Fk∧am w B xs[k] ck Fk∧o0 w w b (o+k * bc.size α) ck Fk ∧
  ∀w' x' TY,am w' B x' TY Fk→o0 w w' b (o+k * bc.size α) TY Fk→am w' B (xs.set k x') [.slice A n c] F:=by
 obtain ⟨⟨A',c',G,ds,e,d7,cq,hc,h0⟩,hnd,dk,hplain⟩:=h;simp at e;obtain ⟨rfl,rfl,rfl⟩:=e;rcases h0 with h0 | ⟨b,o,rfl,rfl,X,bE⟩
 ·rw [h0.1] at hk;cases hk
 obtain ⟨d1,ck,d2,G1,Fk,G2,rfl,rfl,r1,r2,r3,yf⟩:=hc.split hk;have ER:=bc.len r2;simp only [List.nodup_cons,List.nodup_append,List.mem_append,not_or] at hnd;have Wz:er w b:=hplain b (List.mem_cons_self ..);refine ⟨b,o,ck,Fk,rfl,List.mem_cons_self ..,fun x hx=>List.mem_cons_of_mem _ (by simp [hx]),hnd.1.2.1,⟨r2,hnd.2.2.1.1,fun x hx=>dk x (by simp [hx]),fun x hx=>hplain x (by simp [hx])⟩,⟨.refl _ _,fun j u hj=>?_,fun _ _=>rfl,Wz⟩,?_⟩
 ·have:=bE (k * bc.size α+j) u (by
   rw [List.getElem?_append_right J,List.getElem?_append_left (by have:=(List.getElem?_eq_some_iff.1 hj).1;omega)]
   rw [← hj];congr 1;omega)
  rwa [Nat.add_assoc]
 ·intro w' x' TY hx hE;have n9:∀y∈G1++G2,w'.heap[y]? = w.heap[y]?:=fun y hy=>by
   refine hE.bR.block y ?_ ?_
   ·rcases List.mem_append.1 hy with hy | hy
    ·exact r1.lt y hy
    ·exact r3.lt y hy
   ·intro hm;rcases List.mem_cons.1 hm with rfl | hm
    ·rcases List.mem_append.1 hy with hy | hy
     ·exact hnd.1.1 hy
     ·exact hnd.1.2.2 hy
    ·rcases List.mem_append.1 hy with hy | hy
     ·exact hnd.2.2.2 y hy y (Or.inl hm) rfl
     ·exact hnd.2.2.1.2.2 y hm y hy rfl
  have tz:=bc.len hx.rd;refine ⟨⟨_,c,G1++(Fk++G2),d1++(TY++d2),S',by simpa using d7,cq,?_,.inr ⟨b,o,rfl,rfl,Nat.lt_of_lt_of_le X hE.bR.size,?_⟩⟩,?_,?_,?_⟩
  ·have es:xs.set k x' = xs.take k++(x' :: xs.drop (k+1)):=List.set_eq_take_append_cons_drop.trans (if_pos hk);rw [es];exact (r1.frame (fun y hy=>n9 y (List.mem_append_left _ hy)) hE.bR.size).append ⟨TY,d2,Fk,G2,rfl,rfl,hx.rd,r3.frame (fun y hy=>n9 y (List.mem_append_right _ hy)) hE.bR.size⟩
  ·intro j u hj;by_cases JF:j < d1.length
   ·rw [List.getElem?_append_left JF] at hj;rw [hE.rest (o+j) J];exact bE j u (by rw [List.getElem?_append_left JF];exact hj)
   ·rw [List.getElem?_append_right J] at hj;by_cases xX:j - d1.length < TY.length
    ·rw [List.getElem?_append_left xX] at hj;have:=hE.cells _ u hj;rw [← this];congr 2;omega
    ·rw [List.getElem?_append_right J] at hj;rw [hE.rest (o+j) J];refine bE j u ?_;rw [List.getElem?_append_right J,List.getElem?_append_right J];rw [← hj];congr 1;omega
  ·simp only [List.nodup_cons,List.nodup_append,List.mem_append,not_or];exact hnd
  ·exact dk
  ·intro y hy;rcases List.mem_cons.1 hy with rfl | hy
   ·exact hE.plain
   ·rcases List.mem_append.1 hy with hy | hy
    ·rw [n9 y (List.mem_append_left _ hy)];exact hplain y (by simp [hy])
    ·rcases List.mem_append.1 hy with hy | hy
     ·exact hx.plain y hy
     ·rw [n9 y (List.mem_append_right _ hy)];exact hplain y (by simp [hy])
theorem am.JA {α:Type} [bc α] {w:World} {B:Nat} {x:α} {cs:List Value} {F:List Nat} (h:am w B x cs F) {p:Addr} (hp:p.block∉F) (u:Value):am (w.setCell p u) B x cs F :=
 h.bs (fun b X=>Below.heap_setCell _ _ _ _ (by rintro rfl;exact hp X)) eC
section
variable {α:Type} (mk:α→Int→α) (WA:α→Nat)
variable {mk WA} {xs:List α} {k:Int} {i:Nat}
end
end Go.Proofs.YtajbbmembionpaaGreat
