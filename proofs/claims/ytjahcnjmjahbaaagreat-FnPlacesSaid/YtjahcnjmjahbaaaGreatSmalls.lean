/- Bounds out of a weight; where a search ends. No condition. -/
import Derived.Test.YtjahcnjmjahbaaaGreatDeed
import Derived.Lib.IndexAny
namespace Go.Proofs.YtjahcnjmjahbaaaGreat
open Go.ChangeShapes Go.WideShapes Go.ChangeAt Go.RowKit
set_option linter.unusedVariables false
set_option linter.unusedSimpArgs false
set_option maxHeartbeats 1000000
set_option maxRecDepth 100000
theorem BH {xs:List iU} (h:(kL iU.wt xs:Int)≤1048576):((xs.length:Int)≤1048576)∧∀l∈xs,(l.key.size:Int)≤1048576∧(l.value.size:Int)≤1048576:=by
 refine ⟨by have:=gJ iU.wt xs;omega,fun l hl=>?_⟩;have h1:=Bq (f:=iU.wt) hl;have e:iU.wt l = l.key.size+l.value.size:=rfl;omega
theorem FQ {xs:List bH} (h:(kL bH.wt xs:Int)≤1048576):((xs.length:Int)≤1048576)∧∀l∈xs,(l.key.size:Int)≤1048576∧(l.value.size:Int)≤1048576:=by
 refine ⟨by have:=gJ bH.wt xs;omega,fun l hl=>?_⟩;have h1:=Bq (f:=bH.wt) hl;have e:bH.wt l = l.key.size+l.value.size:=rfl;omega
theorem yg {α:Type} (p:α→Bool) (xs:List α):pK p xs = -1∨∃k:Nat,k < xs.length∧pK p xs = k:=by
 have:=Nc (p:=p) xs;by_cases h:pK p xs < 0
 ·left;omega
 ·right;exact ⟨(pK p xs).toNat,O,O⟩
theorem Aa {xs:List bj} (h:(kL bj.wt xs:Int)≤1048576):((xs.length:Int)≤1048576)∧(∀l∈xs,(l.key.size:Int)≤1048576∧(l.values.length:Int)≤1048576∧∀v∈l.values,(v.size:Int)≤1048576):=by
 refine ⟨by have:=gJ bj.wt xs;omega,fun l hl=>?_⟩;have h1:=Bq (f:=bj.wt) hl;have e:bj.wt l = l.key.size+Ea l.values:=rfl;have h2:=gJ ByteArray.size l.values;unfold Ea at e;refine ⟨O,O,fun v hv=>?_⟩;have h3:=Bq (f:=ByteArray.size) hv;omega
theorem sW {xs:List aD} (h:(kL aD.wt xs:Int)≤1048576):((xs.length:Int)≤1048576)∧∀l∈xs,(l.key.size:Int)≤1048576∧(l.value.size:Int)≤1048576:=by
 refine ⟨by have:=gJ aD.wt xs;omega,fun l hl=>?_⟩;have h1:=Bq (f:=aD.wt) hl;have e:aD.wt l = l.key.size+l.value.size:=rfl;omega
theorem aZ {α:Type} [bk α] {w w':World} {x:α} {cs:List Value} {F:List Nat} (h:rd w x cs F) (hb:Below w.heap.size w w'):rd w' x cs F :=
 bk.frame h (fun b ei=>hb.block b (bk.lt h b ei)) hb.size
def JO (key:ByteArray) (l:aD):Bool:=l.key.toList == key.toList
def Df (key:ByteArray) (xs:List aD):ByteArray × Bool:=match xs.find? (JO key) with | some l=>(l.value,true) | none=>(⟨#[]⟩,false)
theorem adM {key:ByteArray} {xs:List aD} {k:Nat} (hk:k < xs.length) (hn:∀l∈xs.take k,JO key l = false) (hp:JO key xs[k] = true):Df key xs = (xs[k].value,true):=by
 have e:xs.find? (JO key) = some xs[k]:=by rw [List.find?_eq_some_iff_append];exact ⟨hp,xs.take k,xs.drop (k+1),by rw [List.getElem_cons_drop,List.take_append_drop],fun a ha=>by simp [hn a ha]⟩
 unfold Df;rw [e]
theorem agB {key:ByteArray} {xs:List aD} (hn:∀l∈xs,JO key l = false):Df key xs = (⟨#[]⟩,false):=by
 have e:xs.find? (JO key) = none:=by rw [List.find?_eq_none];intro l hl;simp [hn l hl]
 unfold Df;rw [e]
theorem akJ (xs:List aD) (key:ByteArray) (A:Option Addr) (n c:Nat) (F:List Nat) (w:World) (h:Sl w xs A c F) (hn:n = xs.length) (hl:(xs.length:Int)≤1048576) :
 Calls Tryz.prog 239 #[.slice A n c,.string key] w fun e w'=>e = .returned (.tuple #[.string (Df key xs).1,.bool (Df key xs).2])∧Below w.heap.size w w':=by
 subst hn;go_enter Tryz.func239,Tryz.ntmps239;go_wp2_with fail
 go_loopw [10] (fun i wr=>∃k:Nat,k≤xs.length∧i = .int .i64 k∧Hid (∀l∈xs.take k,JO key l = false)∧Below w.heap.size w wr) (fun i _=>xs.length - (intOf i).toNat)
 case atStart=>exact ⟨0,Nat.zero_le _,rfl,by show ∀_,_;simp,bu⟩
 case round =>exact Ib
theorem akK (xs:List aD) (key:ByteArray) (A:Option Addr) (n c:Nat) (F:List Nat) (w:World) (h:Sl w xs A c F) (hn:n = xs.length) (hl:(xs.length:Int)≤1048576) :
 Calls Tryz.prog 233 #[.slice A n c,.string key] w fun e w'=>e = .returned (.tuple #[.string (Df key xs).1,.bool (Df key xs).2])∧Below w.heap.size w w':=by
 subst hn;go_enter Tryz.func233,Tryz.ntmps233;go_wp2_with fail
 go_loopw [6] (fun i wr=>∃k:Nat,k≤xs.length∧i = .int .i64 k∧Hid (∀l∈xs.take k,JO key l = false)∧Below w.heap.size w wr) (fun i _=>xs.length - (intOf i).toNat)
 case atStart=>exact ⟨0,Nat.zero_le _,rfl,by show ∀_,_;simp,bu⟩
 case round =>exact Ib
def MF (s:ByteArray) (xs:List ByteArray):Bool:=xs.any fun v=>v.toList == s.toList
theorem ar4 {s:ByteArray} {xs:List ByteArray} {k:Nat} (hk:k < xs.length) (hp:(xs[k].toList == s.toList) = true):MF s xs = true:=by
 unfold MF;rw [List.any_eq_true];exact ⟨xs[k],List.getElem_mem ..,hp⟩
theorem atn {s:ByteArray} {xs:List ByteArray} (hn:∀v∈xs,(v.toList == s.toList) = false):MF s xs = false:=by
 unfold MF;rw [List.any_eq_false];intro v hv;simp [hn v hv]
theorem ar5 (s:ByteArray) (xs:List ByteArray):MF s xs = decide (0≤pK (fun v=>v.toList == s.toList) xs):=by
 unfold MF;induction xs with
 | nil=>rfl
 | cons x xs ih =>
   simp only [List.any_cons,pK,ih];by_cases hp:(x.toList == s.toList) = true
   ·simp [hp]
   ·exact Kh
theorem aiT (xs:List ByteArray) (s:ByteArray) (A:Option Addr) (n c:Nat) (F:List Nat) (w:World) (h:Sl w xs A c F) (hn:n = xs.length) (hl:(xs.length:Int)≤1048576) :
 Calls Tryz.prog 242 #[.slice A n c,.string s] w fun e w'=>e = .returned (.int .i64 (pK (fun v:ByteArray=>v.toList == s.toList) xs))∧Below w.heap.size w w':=by
 subst hn;go_enter Tryz.func242,Tryz.ntmps242;go_wp2_with fail
 go_loopw [8] (fun i wr=>∃k:Nat,k≤xs.length∧i = .int .i64 k∧Hid (∀v∈xs.take k,(v.toList == s.toList) = false)∧Below w.heap.size w wr) (fun i _=>xs.length - (intOf i).toNat)
 case atStart=>exact ⟨0,Nat.zero_le _,rfl,by show ∀_,_;simp,bu⟩
 case round =>
  obtain ⟨k,hk,rfl,HN,az⟩:=hrel;by_cases ap:k < xs.length
  ·obtain ⟨b,o,ck,Fk,rfl,o9,hbs,hr,br,hc⟩:=(Sl.ext (w':=wr) (A:=A) (c:=c) h az).get ap;obtain ⟨ax,su,gv⟩:=hr;subst ax su;have q0:wr.cell? ⟨b,o+k,none⟩ = some (.string xs[k]):=(by have:=hc 0 _ rfl;rwa [show o+(k * bk.size ByteArray+0) = o+k from by show o+(k * 1+0) = _;omega] at this);clear hc;cases hp:(xs[k].toList == s.toList) with
   | true =>have tS:(s.toList == xs[k].toList) = true:=(by rw [BEq.comm];exact hp);have HF:=I (Fj (p:=fun v:ByteArray=>v.toList == s.toList) ap HN.out hp);exact di
   | false =>exact LG
  ·have bz:k = xs.length:=O;subst bz;have hn:=HN.out;rw [List.take_length] at hn;have HF:=I (F5 (p:=fun v:ByteArray=>v.toList == s.toList) hn);clear hn;exact di
theorem VG (xs:List ByteArray) (s:ByteArray) (A:Option Addr) (n c:Nat) (F:List Nat) (w:World) (h:Sl w xs A c F) (hn:n = xs.length) (hl:(xs.length:Int)≤1048576) :
 Calls Tryz.prog 240 #[.slice A n c,.string s] w fun e w'=>e = .returned (.bool (MF s xs))∧Below w.heap.size w w':=by
 subst hn;have pe:=ar5 s xs;have M7:=aiT xs s A _ c F w h rfl hl;generalize pK (fun v:ByteArray=>v.toList == s.toList) xs = z at pe M7;rw [pe];clear pe;go_enter Tryz.func240,Tryz.ntmps240;go_wp2_with fail
 refine M7.mono ?_;rintro e w2 ⟨rfl,ao⟩;go_wp2;go_ret
 exact ⟨rfl,ao⟩
theorem aaG (xs:List ByteArray) (s:ByteArray) (A:Option Addr) (n c:Nat) (F:List Nat) (w:World) (h:Sl w xs A c F) (hn:n = xs.length) (hl:(xs.length:Int)≤1048576) :
 Calls Tryz.prog 234 #[.slice A n c,.string s] w fun e w'=>e = .returned (.bool (MF s xs))∧Below w.heap.size w w':=by
 subst hn;go_enter Tryz.func234,Tryz.ntmps234;go_wp2_with fail
 go_loopw [5] (fun i wr=>∃k:Nat,k≤xs.length∧i = .int .i64 k∧Hid (∀v∈xs.take k,(v.toList == s.toList) = false)∧Below w.heap.size w wr) (fun i _=>xs.length - (intOf i).toNat)
 case atStart=>exact ⟨0,Nat.zero_le _,rfl,by show ∀_,_;simp,bu⟩
 case round =>
  obtain ⟨k,hk,rfl,HN,az⟩:=hrel;by_cases ap:k < xs.length
  ·obtain ⟨b,o,ck,Fk,rfl,o9,hbs,hr,br,hc⟩:=(Sl.ext (w':=wr) (A:=A) (c:=c) h az).get ap;obtain ⟨ax,su,gv⟩:=hr;subst ax su;have q0:wr.cell? ⟨b,o+k,none⟩ = some (.string xs[k]):=(by have:=hc 0 _ rfl;rwa [show o+(k * bk.size ByteArray+0) = o+k from by show o+(k * 1+0) = _;omega] at this);clear hc;cases hp:(xs[k].toList == s.toList) with
   | true =>have tS:(s.toList == xs[k].toList) = true:=(by rw [BEq.comm];exact hp);have HF:=I (ar4 ap hp);exact di
   | false =>exact LG
  ·have bz:k = xs.length:=O;subst bz;have hn:=HN.out;rw [List.take_length] at hn;have HF:=I (atn hn);clear hn;exact di
structure nN (F:List Nat) (w w':World):Prop where
 os:w'.os = w.os
 tape:w'.tape = w.tape
 output:w'.output = w.output
 size:w.heap.size≤w'.heap.size
 block:∀k,k < w.heap.size→k∉F→w'.heap[k]? = w.heap[k]?
section
variable {F G:List Nat} {w w1 w2:World}
theorem nN.refl (F:List Nat) (w:World):nN F w w:=⟨rfl,rfl,rfl,Nat.le_refl _,fun _ _ _=>rfl⟩
theorem nN.trans (h:nN F w w1) (k:nN F w1 w2):nN F w w2 :=
 ⟨k.os.trans h.os,k.tape.trans h.tape,k.output.trans h.output,Nat.le_trans h.size k.size,fun i hi hn=>(k.block i (Nat.lt_of_lt_of_le hi h.size) hn).trans (h.block i hi hn)⟩
theorem nN.mono (h:nN F w w1) (hs:∀b∈F,b∈G):nN G w w1:=⟨h.os,h.tape,h.output,h.size,fun i hi hn=>h.block i hi fun hb=>hn (hs i hb)⟩
theorem nN.lq (F:List Nat) (h:Below w.heap.size w w1):nN F w w1:=⟨h.os,h.tape,h.output,h.size,fun i hi _=>h.block i hi⟩
theorem nN.drew (h:nN F w w1):nN F w w1.drew:=⟨h.os,h.tape,h.output,h.size,h.block⟩
theorem nN.setCell (h:nN F w w1) {p:Addr} (hp:p.block∈F) (u:Value):nN F w (w1.setCell p u) :=
 ⟨h.os,h.tape,h.output,by simpa [World.setCell] using h.size,fun i hi hn=>(Below.heap_setCell _ _ _ _ (by rintro rfl;exact hn hp)).trans (h.block i hi hn)⟩
theorem nN.aL {B:Nat} (h:nN F w w1) (hF:∀b∈F,B≤b) (hB:B≤w.heap.size):Below B w w1 :=
 ⟨h.os,h.tape,h.output,h.size,fun i hi=>h.block i O fun hb=>by have:=hF i hb;omega⟩
theorem nN.rd {α:Type} [bk α] (h:nN F w w1) {x:α} {cs:List Value} (hr:rd w x cs G) (hd:∀b∈G,b∉F):rd w1 x cs G :=
 bk.frame hr (fun b hb=>h.block b (bk.lt hr b hb) (hd b hb)) h.size
theorem nN.Sg {α:Type} [bk α] (h:nN F w w1) {x:α} {cs:List Value} {B:Nat} (hr:am w B x cs G) (hd:∀b∈G,b∉F):am w1 B x cs G :=
 hr.bJ (fun b hb=>h.block b (hr.lt b hb) (hd b hb)) h.size
end
def xV (w:World) (b o:Nat) (ds:List Value):Prop:=∀j u,ds[j]? = some u→w.cell? ⟨b,o+j,none⟩ = some u
def eM (w:World) (b:Nat):Prop:=∃ds t,w.heap[b]? = some (.cells ds t (0,0))
theorem eM.lt {w:World} {b:Nat} (h:eM w b):b < w.heap.size:=by
 obtain ⟨ds,t,h⟩:=h;rcases Nat.lt_or_ge b w.heap.size with ap | oA
 ·exact ap
 ·rw [Array.getElem?_eq_none oA] at h;cases h
theorem eM.frozen {w:World} {b:Nat} (h:eM w b) (i:Nat):w.frozen? ⟨b,i,none⟩ = false:=by
 obtain ⟨ds,t,h⟩:=h;simp [World.frozen?,h]
theorem eM.setCell {w:World} {b:Nat} (h:eM w b) (b' q:Nat) (u:Value):eM (w.setCell ⟨b',q,none⟩ u) b:=by
 obtain ⟨ds,t,h⟩:=h;by_cases hp:b' = b
 ·subst hp;exact ⟨ds.setIfInBounds q u,t,by simp [World.setCell,Array.getElem?_modify,h]⟩
 ·exact ⟨ds,t,(Below.heap_setCell _ _ _ _ bM).trans h⟩
theorem abV {w:World} {b i:Nat} (h:eM w b) {v:Value} (hc:w.cell? ⟨b,i,none⟩ = some v) (u:Value):(w.setCell ⟨b,i,none⟩ u).cell? ⟨b,i,none⟩ = some u:=by
 obtain ⟨ds,t,h⟩:=h;rw [cell_of_row w b i ds t (0,0) h] at hc;have hi:=(Array.getElem?_eq_some_iff.1 hc).1;rw [cell_of_row _ b i (ds.setIfInBounds i u) t (0,0) XT];simp [hi]
theorem Qv {w:World} {b i j:Nat} (h:eM w b) (lr:i≠j) (u:Value):(w.setCell ⟨b,i,none⟩ u).cell? ⟨b,j,none⟩ = w.cell? ⟨b,j,none⟩:=by
 obtain ⟨ds,t,h⟩:=h;rw [cell_of_row w b j ds t (0,0) h,cell_of_row _ b j (ds.setIfInBounds i u) t (0,0) XT];rw [Array.getElem?_setIfInBounds_ne lr]
structure pu (w0 w:World) (b o:Nat) (ck:List Value) (Fk:List Nat):Prop where
 cN:nN (b :: Fk) w0 w
 cells:xV w b o ck
 rest:∀q,(q < o∨o+ck.length≤q)→w.cell? ⟨b,q,none⟩ = w0.cell? ⟨b,q,none⟩
 plain:eM w b
section
variable {w0 w w1:World} {b o:Nat} {ck:List Value} {Fk G:List Nat}
theorem pu.set (h:pu w0 w b o ck Fk) {j q:Nat} (hj:j < ck.length) (hq:q = o+j) (u:Value):pu w0 (w.setCell ⟨b,q,none⟩ u) b o (ck.set j u) Fk:=by
 subst hq;refine ⟨h.cN.setCell (List.mem_cons_self ..) u,fun i v hi=>?_,fun q hq=>?_,h.plain.setCell _ _ _⟩
 ·by_cases lr:j = i
  ·subst lr;rw [List.getElem?_set_self hj] at hi;cases hi
   exact abV h.plain (h.cells j _ (List.getElem?_eq_getElem hj)) u
  ·rw [List.getElem?_set_ne lr] at hi;rw [Qv h.plain O];exact h.cells i v hi
 ·rw [List.length_set] at hq;rw [Qv h.plain O];exact h.rest q hq
theorem pu.jC (h:pu w0 w b o ck Fk) {j q:Nat} (hq:q = o+j) {u:Value} (hj:ck[j]? = some u):w.cell? ⟨b,q,none⟩ = some u:=by
 subst hq;exact h.cells j u hj
theorem pu.step (h:pu w0 w b o ck Fk) (hu:nN G w w1) (hs:∀x∈G,x∈Fk) (hb:b∉G):pu w0 w1 b o ck Fk:=by
 have e:=hu.block b h.plain.lt hb;refine ⟨h.cN.trans (hu.mono fun x hx=>List.mem_cons_of_mem _ (hs x hx)),fun j u hj=>?_,fun q hq=>?_,?_⟩
 ·rw [World.cell?_of_block e];exact h.cells j u hj
 ·rw [World.cell?_of_block e];exact h.rest q hq
 ·obtain ⟨ds,t,hp⟩:=h.plain;exact ⟨ds,t,e.trans hp⟩
theorem pu.ext (h:pu w0 w b o ck Fk) (hb:Below w.heap.size w w1):pu w0 w1 b o ck Fk:=h.step (.lq [] hb) (fun _ hx=>by cases hx) S'
end
theorem jo.split {α:Type} [bk α] {w:World} {xs:List α} {ds:List Value} {G:List Nat} (h:jo w xs ds G) {k:Nat} (hk:k < xs.length) :
 ∃d1 ck d2 G1 Fk G2,ds = d1++(ck++d2)∧G = G1++(Fk++G2)∧jo w (xs.take k) d1 G1∧rd w xs[k] ck Fk∧jo w (xs.drop (k+1)) d2 G2∧d1.length = k * bk.size α:=by
 have e:xs = xs.take k++(xs[k] :: xs.drop (k+1)):=by rw [List.getElem_cons_drop,List.take_append_drop]
 rw [e] at h;obtain ⟨c1,c2,F1,F2,rfl,rfl,h1,ck,c3,Fk,F3,rfl,rfl,h2,h3⟩:=jo.fW h;refine ⟨c1,ck,c3,F1,Fk,F3,rfl,rfl,h1,h2,h3,?_⟩;rw [h1.len,List.length_take,Nat.min_eq_left O]
theorem am.Ef {α:Type} [bk α] {w:World} {B n c:Nat} {xs:List α} {A:Option Addr} {F:List Nat} (h:am w B xs [.slice A n c] F) {k:Nat} (hk:k < xs.length) :
 ∃b o ck Fk,A = some ⟨b,o,none⟩∧b∈F∧(∀x∈Fk,x∈F)∧b∉Fk∧am w B xs[k] ck Fk∧pu w w b (o+k * bk.size α) ck Fk ∧
  ∀w' x' TY,am w' B x' TY Fk→pu w w' b (o+k * bk.size α) TY Fk→am w' B (xs.set k x') [.slice A n c] F:=by
 obtain ⟨⟨A',c',G,ds,e,db,cb,hc,h0⟩,hnd,dh,hplain⟩:=h;simp at e;obtain ⟨rfl,rfl,rfl⟩:=e;rcases h0 with h0 | ⟨b,o,rfl,rfl,hb,cq⟩
 ·rw [h0.1] at hk;cases hk
 obtain ⟨d1,ck,d2,G1,Fk,G2,rfl,rfl,r1,r2,r3,xX⟩:=hc.split hk;have Md:=bk.len r2;simp only [List.nodup_cons,List.nodup_append,List.mem_append,not_or] at hnd;have atq:eM w b:=hplain b (List.mem_cons_self ..);refine ⟨b,o,ck,Fk,rfl,List.mem_cons_self ..,fun x hx=>List.mem_cons_of_mem _ (by simp [hx]),hnd.1.2.1,⟨r2,hnd.2.2.1.1,fun x hx=>dh x (by simp [hx]),fun x hx=>hplain x (by simp [hx])⟩,⟨.refl _ _,fun j u hj=>?_,fun _ _=>rfl,atq⟩,?_⟩
 ·have:=cq (k * bk.size α+j) u (by
   rw [List.getElem?_append_right O,List.getElem?_append_left (by have:=(List.getElem?_eq_some_iff.1 hj).1;omega)]
   rw [← hj];congr 1;omega)
  rwa [Nat.add_assoc]
 ·intro w' x' TY hx hE;have oF:∀y∈G1++G2,w'.heap[y]? = w.heap[y]?:=fun y hy=>by
   refine hE.cN.block y ?_ ?_
   ·rcases List.mem_append.1 hy with hy | hy
    ·exact r1.lt y hy
    ·exact r3.lt y hy
   ·intro hm;rcases List.mem_cons.1 hm with rfl | hm
    ·rcases List.mem_append.1 hy with hy | hy
     ·exact hnd.1.1 hy
     ·exact hnd.1.2.2 hy
    ·rcases List.mem_append.1 hy with hy | hy
     ·exact hnd.2.2.2 y hy y (Or.inl hm) rfl
     ·exact hnd.2.2.1.2.2 y hm y hy rfl
  have vD:=bk.len hx.rd;refine ⟨⟨_,c,G1++(Fk++G2),d1++(TY++d2),S',by simpa using db,cb,?_,.inr ⟨b,o,rfl,rfl,Nat.lt_of_lt_of_le hb hE.cN.size,?_⟩⟩,?_,?_,?_⟩
  ·have es:xs.set k x' = xs.take k++(x' :: xs.drop (k+1)):=List.set_eq_take_append_cons_drop.trans (if_pos hk);rw [es];exact (r1.frame (fun y hy=>oF y (List.mem_append_left _ hy)) hE.cN.size).append ⟨TY,d2,Fk,G2,rfl,rfl,hx.rd,r3.frame (fun y hy=>oF y (List.mem_append_right _ hy)) hE.cN.size⟩
  ·intro j u hj;by_cases PN:j < d1.length
   ·rw [List.getElem?_append_left PN] at hj;rw [hE.rest (o+j) O];exact cq j u (by rw [List.getElem?_append_left PN];exact hj)
   ·rw [List.getElem?_append_right O] at hj;by_cases K3:j - d1.length < TY.length
    ·rw [List.getElem?_append_left K3] at hj;have:=hE.cells _ u hj;rw [← this];congr 2;omega
    ·rw [List.getElem?_append_right O] at hj;rw [hE.rest (o+j) O];refine cq j u ?_;rw [List.getElem?_append_right O,List.getElem?_append_right O];rw [← hj];congr 1;omega
  ·simp only [List.nodup_cons,List.nodup_append,List.mem_append,not_or];exact hnd
  ·exact dh
  ·intro y hy;rcases List.mem_cons.1 hy with rfl | hy
   ·exact hE.plain
   ·rcases List.mem_append.1 hy with hy | hy
    ·rw [oF y (List.mem_append_left _ hy)];exact hplain y (by simp [hy])
    ·rcases List.mem_append.1 hy with hy | hy
     ·exact hx.plain y hy
     ·rw [oF y (List.mem_append_right _ hy)];exact hplain y (by simp [hy])
theorem am.JA {α:Type} [bk α] {w:World} {B:Nat} {x:α} {cs:List Value} {F:List Nat} (h:am w B x cs F) {p:Addr} (hp:p.block∉F) (u:Value):am (w.setCell p u) B x cs F :=
 h.bJ (fun b hb=>Below.heap_setCell _ _ _ _ (by rintro rfl;exact hp hb)) fj
section
variable {α:Type} (mk:α→Int→α) (cnt:α→Nat)
variable {mk cnt} {xs:List α} {k:Int} {i:Nat}
end
def GL (c:Int):Bool:=decide (97≤c)&&decide (c≤122) || decide (65≤c)&&decide (c≤90) || decide (48≤c)&&decide (c≤57)
def Sc (c:Int):Bool:=decide (97≤c)&&decide (c≤122)
def Sd (c:Int):Bool:=decide (48≤c)&&decide (c≤57)
def nE (o:ByteArray) (c:UInt8):Bool:=GL c.toNat || o.data.toList.contains c
def GN (o s:ByteArray):Bool:=decide (0 < s.size)&&(GL (s.data.toList.getD 0 0).toNat&&GL (s.data.toList.getD (s.size - 1) 0).toNat)&&s.data.toList.all (nE o)
theorem DF {s:ByteArray} {k:Nat} (h:k < s.size):s.data.toList.getD k 0 = s[k]:=by
 have h':k < s.data.size:=h;rw [List.getD_eq_getElem?_getD,List.getElem?_eq_getElem (by simpa using h')];simp [ByteArray.getElem_eq_getElem_data]
theorem YX {s:ByteArray} {p:UInt8→Bool} (h:∀j (hj:j < s.size),p s[j] = true):s.data.toList.all p = true:=by
 rw [List.all_eq_true];intro x hx;obtain ⟨j,hj,rfl⟩:=List.getElem_of_mem hx;have Yp:j < s.size:=by simpa using hj
 have:=h j Yp;simpa [ByteArray.getElem_eq_getElem_data] using this
theorem TM {s:ByteArray} {p:UInt8→Bool} {k:Nat} (hk:k < s.size) (h:p s[k] = false):s.data.toList.all p = false:=by
 rw [List.all_eq_false];have pj:k < s.data.size:=hk;refine ⟨s.data.toList[k]'(by simpa using pj),List.getElem_mem _,?_⟩;simp only [Array.getElem_toList];rw [ByteArray.getElem_eq_getElem_data] at h;simp [h]
theorem X4 {s:ByteArray} {p:UInt8→Bool} {k:Nat} (ap:k < s.size) (h:∀j (hj:j < s.size),j < k→p s[j] = true) (hp:p s[k] = true):∀j (hj:j < s.size),j < k+1→p s[j] = true:=fun j hj fX=>by
 rcases Nat.lt_or_ge j k with h1 | h1
 ·exact h j hj h1
 ·obtain rfl:j = k:=by omega
  exact hp
theorem Yq (c:UInt8):((c.toNat:Int)).toNat.toUInt8 = c:=by simp
theorem IL (c:Int) (w:World):Calls Tryz.prog 196 #[.int .u8 c] w fun e w'=>e = .returned (.bool (GL c))∧w' = w:=by
 go_enter Tryz.func196,Tryz.ntmps196;exact Jq
theorem Gm (c:Int) (w:World):Calls Tryz.prog 135 #[.int .u8 c] w fun e w'=>e = .returned (.bool (GL c))∧w' = w:=by
 go_enter Tryz.func135,Tryz.ntmps135;exact Jq
theorem Q7 (s:ByteArray) (c:Int) (w:World):Calls Tryz.prog 219 #[.string s,.int .u8 c] w fun e w'=>e = .returned (.int .i64 (Lib.indexByte s.data.toList c.toNat.toUInt8))∧w' = w:=by
 go_enter Tryz.func219,Tryz.ntmps219;go_wp2;rw [run_callFunc_extern Tryz.func232 U' U' U' (e:=Extern.BytealgIndexByte.indexByte) U',Lib.run_indexByteString];simp only [Result.andThen];rw [Oper.upon_value];go_wp2;go_ret
 exact ⟨rfl,rfl⟩
theorem Ys (s:ByteArray) (c:Int) (w:World):Calls Tryz.prog 198 #[.string s,.int .u8 c] w fun e w'=>e = .returned (.int .i64 (Lib.indexByte s.data.toList c.toNat.toUInt8))∧w' = w:=by
 go_enter Tryz.func198,Tryz.ntmps198;go_wp2_with fail
 refine (Q7 s c _).mono ?_;rintro e w' ⟨rfl,rfl⟩;go_wp2;go_ret
 exact ⟨rfl,rfl⟩
theorem Yt (s o:ByteArray) (w:World) (hs:0 < s.size) (cK:(s.size:Int)≤1048576):Calls Tryz.prog 167 #[.string s,.string o] w fun e w'=>e = .returned (.bool (GN o s))∧w' = w:=by
 go_enter Tryz.func167,Tryz.ntmps167;go_wp2_with fail
 go_loop [9] (fun v=>∃(k:Nat),k≤s.size∧v = .int .i64 k∧Hid (∀j (hj:j < s.size),j < k→nE o s[j] = true)) (fun v=>s.size - (intOf v).toNat)
 case atStart=>exact ⟨0,Nat.zero_le _,rfl,fun j _ hj=>by omega⟩
 case round =>
  obtain ⟨k,hk,rfl,hall⟩:=hrel;by_cases ap:k < s.size
  ·cases h1:GL (s[k].toNat:Int) with
   | true =>
     have ij:nE o s[k] = true:=(by unfold nE;rw [h1];rfl);have H1:=I h1;have HN:=I (X4 ap hall.out ij);clear h1 ij;go_wp2_with (go_at_call 196;refine (IL (s[k].toNat:Int) _).mono ?_;rw [H1.out];rintro e w2 ⟨rfl,rfl⟩)
     exact ⟨⟨k+1,O,N',HN.out⟩,by simp [intOf];omega⟩
   | false =>
     have D':=Lib.contains_iff_indexByte o.data.toList s[k];cases h2:o.data.toList.contains s[k] with
     | true =>
       rw [h2] at D';have oA:0≤Lib.indexByte o.data.toList ((s[k].toNat:Int)).toNat.toUInt8:=(by rw [Yq];simpa using D'.symm);have ij:nE o s[k] = true:=(by unfold nE;rw [h2];simp);have H1:=I h1;have HN:=I (X4 ap hall.out ij);clear h1 h2 D' ij;generalize hgi:Lib.indexByte o.data.toList ((s[k].toNat:Int)).toNat.toUInt8 = gi at *;have Se:=I hgi;clear hgi;go_wp2_with (first | (go_at_call 196;refine (IL (s[k].toNat:Int) _).mono ?_;rw [H1.out];rintro e w2 ⟨rfl,rfl⟩) | (go_at_call 198;refine (Ys o (s[k].toNat:Int) _).mono ?_;rw [Se.out];rintro e w3 ⟨rfl,rfl⟩))
       exact ⟨⟨k+1,O,N',HN.out⟩,by simp [intOf];omega⟩
     | false =>
       rw [h2] at D';have oA:Lib.indexByte o.data.toList ((s[k].toNat:Int)).toNat.toUInt8 < 0:=(by rw [Yq];simpa using D'.symm);have ij:nE o s[k] = false:=(by unfold nE;rw [h1,h2];rfl);have bo:GN o s = false:=(by unfold GN;rw [TM ap ij];simp);have HF:=I bo;have H1:=I h1;clear h1 h2 D' ij bo;generalize hgi:Lib.indexByte o.data.toList ((s[k].toNat:Int)).toNat.toUInt8 = gi at *;have Se:=I hgi;clear hgi;go_wp2_with (first | (go_at_call 196;refine (IL (s[k].toNat:Int) _).mono ?_;rw [H1.out];rintro e w2 ⟨rfl,rfl⟩) | (go_at_call 198;refine (Ys o (s[k].toNat:Int) _).mono ?_;rw [Se.out];rintro e w3 ⟨rfl,rfl⟩))
       go_ret
       exact ⟨by rw [HF.out];rfl,rfl⟩
  ·have bz:k = s.size:=O;subst bz;have ha:=YX (p:=nE o) (fun j hj=>hall.out j hj hj);cases h1:GL (s[0].toNat:Int) with
   | false =>
     have bo:GN o s = false:=(by unfold GN;rw [DF hs,h1];simp);have HF:=I bo;have H1:=I h1;clear h1 bo;go_wp2_with fail
     refine (IL (s[0].toNat:Int) _).mono ?_;rw [H1.out];rintro e w2 ⟨rfl,rfl⟩;go_wp2;go_ret
     exact ⟨by rw [HF.out];rfl,rfl⟩
   | true =>
     cases h2:GL (s[s.size - 1].toNat:Int)
     all_goals
      have bo:GN o s = _:=(by unfold GN;rw [ha,DF hs,DF (show s.size - 1 < s.size by omega),h1,h2]);simp only [hs,decide_true,Bool.true_and,Bool.and_true,Bool.and_false] at bo;have HF:=I bo;have H1:=I h1;have H2:=I h2;clear h1 h2 bo;go_wp2_with fail
      refine (IL (s[0].toNat:Int) _).mono ?_;rw [H1.out];rintro e w2 ⟨rfl,rfl⟩;go_wp2_with fail
      refine (IL (s[s.size - 1].toNat:Int) _).mono ?_;rw [H2.out];rintro e w2 ⟨rfl,rfl⟩;go_wp2;go_ret
      exact ⟨by rw [HF.out];rfl,rfl⟩
def qu (c:UInt8):Bool:=Sc c.toNat || Sd c.toNat || decide ((c.toNat:Int) = 45)
def Qs (s:ByteArray):Bool:=decide (0 < s.size∧(s.size:Int)≤20)&&(!decide (((s.data.toList.getD 0 0).toNat:Int) = 45)&&!decide (((s.data.toList.getD (s.size - 1) 0).toNat:Int) = 45))&&s.data.toList.all qu
theorem Za (c:UInt8):(qu c = false∧((c.toNat:Int) < 45∨(45 < (c.toNat:Int)∧(c.toNat:Int) < 48)∨(57 < (c.toNat:Int)∧(c.toNat:Int) < 65)∨(65≤(c.toNat:Int)∧(c.toNat:Int)≤90)∨(90 < (c.toNat:Int)∧(c.toNat:Int) < 97)∨122 < (c.toNat:Int))) ∨
 (qu c = true∧((c.toNat:Int) = 45∨(48≤(c.toNat:Int)∧(c.toNat:Int)≤57)∨(97≤(c.toNat:Int)∧(c.toNat:Int)≤122))):=by
 cases h:qu c
 ·left;refine ⟨rfl,?_⟩;unfold qu Sc Sd at h;simp at h;omega
 ·right;refine ⟨rfl,?_⟩;unfold qu Sc Sd at h;simp at h;omega
theorem Zc {s:ByteArray} (hs:0 < s.size) (hl:(s.size:Int)≤20) (h0:(s[0].toNat:Int)≠45) (h1:(s[s.size - 1].toNat:Int)≠45) (ha:s.data.toList.all qu = true):Qs s = true:=by
 unfold Qs;rw [DF hs,DF (show s.size - 1 < s.size by omega),ha];simp [hs,hl,h0,h1]
theorem Zd {s:ByteArray} (h:¬(0 < s.size∧(s.size:Int)≤20)):Qs s = false:=by unfold Qs;simp only [h,decide_false,Bool.false_and]
theorem Zf {s:ByteArray} (hs:0 < s.size) (h:(s[0].toNat:Int) = 45):Qs s = false:=by unfold Qs;rw [DF hs];simp [h]
theorem Zg {s:ByteArray} (hs:0 < s.size) (h:(s[s.size - 1].toNat:Int) = 45):Qs s = false:=by unfold Qs;rw [DF (show s.size - 1 < s.size by omega)];simp [h]
theorem agS {s:ByteArray} {k:Nat} (hk:k < s.size) (h:qu s[k] = false):Qs s = false:=by unfold Qs;rw [TM hk h];simp
theorem Ro (s:ByteArray) (w:World) (cK:(s.size:Int)≤1048576):Calls Tryz.prog 75 #[.string s] w fun e w'=>e = .returned (.bool (Qs s))∧Below w.heap.size w w':=by
 go_enter Tryz.func75,Tryz.ntmps75;go_wp2_with fail
 go_loop [7] (fun v=>∃(k:Nat),k≤s.size∧v = .int .i64 k∧Hid (∀j (hj:j < s.size),j < k→qu s[j] = true)) (fun v=>s.size - (intOf v).toNat)
 case atStart=>exact ⟨0,Nat.zero_le _,rfl,fun j _ hj=>by omega⟩
 case round =>
  obtain ⟨k,hk,rfl,hall⟩:=hrel;by_cases ap:k < s.size
  ·rcases Za s[k] with ⟨hb,hr⟩ | ⟨hb,hr⟩
   ·exact IR
   ·have HN:=I (X4 ap hall.out hb);clear hb;rcases hr with hr | ⟨hr,dx⟩ | ⟨hr,dx⟩
    all_goals
     go_wp2;exact ⟨⟨k+1,O,N',HN.out⟩,by simp [intOf];omega⟩
  ·have bz:k = s.size:=O;subst bz;have ha:=I (YX (p:=qu) (fun j hj=>hall.out j hj hj));by_cases vG:0 < s.size∧(s.size:Int)≤20
   ·obtain ⟨hs,hl⟩:=vG;have hz:((s.size:Int) == 0) = false:=(by rw [beq_eq_false_iff_ne];omega);by_cases h0:(s[0].toNat:Int) = 45
    ·have HF:=I (Zf hs h0);skip
     exact di
    ·by_cases h1:(s[s.size - 1].toNat:Int) = 45
     ·have HF:=I (Zg hs h1);skip
      exact di
     ·have h0':((s[0].toNat:Int) != 45) = true:=(by simp [h0]);have Sk:((s[s.size - 1].toNat:Int) != 45) = true:=(by simp [h1]);have Sn:((s[0].toNat:Int) == 45) = false:=(by simp [h0]);have Sp:((s[s.size - 1].toNat:Int) == 45) = false:=(by simp [h1]);have HF:=I (Zc hs hl h0 h1 ha.out);exact di
   ·have HF:=I (Zd vG);have Sq:¬((1:Int)≤s.size∧(s.size:Int)≤20):=O;by_cases hs:0 < s.size
    ·have hz:((s.size:Int) == 0) = false:=(by rw [beq_eq_false_iff_ne];omega);have nv:(20:Int) < s.size:=O;skip
     exact di
    ·have gd:(s.size:Int) = 0:=O;skip
     exact di
theorem Rq (s:ByteArray) (w:World) (cK:(s.size:Int)≤1048576):Calls Tryz.prog 89 #[.string s] w fun e w'=>e = .returned (.bool (Qs s))∧Below w.heap.size w w':=by
 by_cases vG:0 < s.size∧(s.size:Int)≤20
 ·obtain ⟨hs,hl⟩:=vG;have hz:((s.size:Int) == 0) = false:=by rw [beq_eq_false_iff_ne];omega
  by_cases h0:(s[0].toNat:Int) = 45
  ·have HF:=I (Zf hs h0);go_enter Tryz.func89,Tryz.ntmps89;exact di
  ·by_cases h1:(s[s.size - 1].toNat:Int) = 45
   ·have HF:=I (Zg hs h1);go_enter Tryz.func89,Tryz.ntmps89;exact di
   ·have h0':((s[0].toNat:Int) != 45) = true:=(by simp [h0]);have Sk:((s[s.size - 1].toNat:Int) != 45) = true:=(by simp [h1]);have Sn:((s[0].toNat:Int) == 45) = false:=(by simp [h0]);have Sp:((s[s.size - 1].toNat:Int) == 45) = false:=(by simp [h1]);go_enter Tryz.func89,Tryz.ntmps89;go_wp2;go_loopw [3] (fun v wr=>∃(k:Nat),k≤s.size∧v = .int .i64 k∧Hid (∀j (hj:j < s.size),j < k→qu s[j] = true)∧Below w.heap.size w wr) (fun v _=>s.size - (intOf v).toNat)
    case atStart=>exact ⟨0,Nat.zero_le _,rfl,(fun j _ hj=>by omega),aj _⟩
    case round =>
     obtain ⟨k,hk,rfl,hall,az⟩:=hrel;by_cases ap:k < s.size
     ·rcases Za s[k] with ⟨hb,hr⟩ | ⟨hb,hr⟩
      ·exact IR
      ·have HN:=I (X4 ap hall.out hb);clear hb;rcases hr with hr | ⟨hr,dx⟩ | ⟨hr,dx⟩
       all_goals
        go_wp2;exact ⟨⟨k+1,O,N',HN.out,az⟩,by simp [intOf];omega⟩
     ·have bz:k = s.size:=O;subst bz;have ha:=I (YX (p:=qu) (fun j hj=>hall.out j hj hj));have HF:=I (Zc hs hl h0 h1 ha.out);exact di
 ·have HF:=I (Zd vG);have Sq:¬((1:Int)≤s.size∧(s.size:Int)≤20):=by omega
  by_cases hs:0 < s.size
  ·have hz:((s.size:Int) == 0) = false:=(by rw [beq_eq_false_iff_ne];omega);have nv:(20:Int) < s.size:=O;go_enter Tryz.func89,Tryz.ntmps89;exact di
  ·have gd:(s.size:Int) = 0:=O;go_enter Tryz.func89,Tryz.ntmps89;exact di
def vE (o:ByteArray) (c:UInt8) (k:Nat):Bool:=GL c.toNat || (o.data.toList.take k).contains c
theorem apb (o:ByteArray) (c:UInt8):vE o c 0 = GL c.toNat:=by simp [vE]
theorem apc (o:ByteArray) (c:UInt8):vE o c o.size = nE o c:=by
 unfold vE nE;rw [List.take_of_length_le (by rw [Array.length_toList];exact Nat.le_refl _)]
theorem apd {o:ByteArray} {c:UInt8} {k:Nat} (hk:k < o.size):vE o c (k+1) = (vE o c k || ((c.toNat:Int) == (o[k].toNat:Int))):=by
 have pj:k < o.data.toList.length:=by simpa using hk
 unfold vE;rw [List.take_succ_eq_append_getElem pj,List.contains_eq_any_beq,List.contains_eq_any_beq,List.any_append,Bool.or_assoc];congr 2;simp only [List.any_cons,List.any_nil,Bool.or_false,Array.getElem_toList];rw [Bool.eq_iff_iff,beq_iff_eq,beq_iff_eq,ByteArray.getElem_eq_getElem_data];constructor
 ·intro h;rw [← h]
 ·intro h;exact UInt8.toNat_inj.1 O
theorem Wu (s o:ByteArray) (w:World) (cK:(s.size:Int)≤1048576) (ho:(o.size:Int)≤1048576):Calls Tryz.prog 171 #[.string s,.string o] w fun e w'=>e = .returned (.bool (GN o s))∧Below w.heap.size w w':=by
 by_cases hs:0 < s.size
 ·have hz:((s.size:Int) == 0) = false:=by rw [beq_eq_false_iff_ne];omega
  cases h1:GL (s[0].toNat:Int) with
  | false =>
    have bo:GN o s = false:=(by unfold GN;rw [DF hs,h1];simp);have HF:=I bo;have H1:=I h1;clear h1 bo;go_enter Tryz.func171,Tryz.ntmps171;go_wp2_with fail
    refine (Gm (s[0].toNat:Int) _).mono ?_;rw [H1.out];exact KU
  | true =>
    cases h2:GL (s[s.size - 1].toNat:Int) with
    | false =>
      have bo:GN o s = false:=(by unfold GN;rw [DF hs,DF (show s.size - 1 < s.size by omega),h1,h2];simp);have HF:=I bo;have H1:=I h1;have H2:=I h2;clear h1 h2 bo;go_enter Tryz.func171,Tryz.ntmps171;go_wp2_with fail
      refine (Gm (s[0].toNat:Int) _).mono ?_;rw [H1.out];rintro e w2 ⟨rfl,hw⟩;rw [hw];clear hw w2;go_wp2_with fail
      refine (Gm (s[s.size - 1].toNat:Int) _).mono ?_;rw [H2.out];exact KU
    | true =>
      have bo:GN o s = s.data.toList.all (nE o):=(by unfold GN;rw [DF hs,DF (show s.size - 1 < s.size by omega),h1,h2];simp [hs]);have HF:=I bo;have H1:=I h1;have H2:=I h2;clear h1 h2 bo;go_enter Tryz.func171,Tryz.ntmps171;go_wp2_with fail
      refine (Gm (s[0].toNat:Int) _).mono ?_;rw [H1.out];rintro e w2 ⟨rfl,hw⟩;rw [hw];clear hw w2;go_wp2_with fail
      refine (Gm (s[s.size - 1].toNat:Int) _).mono ?_;rw [H2.out];rintro e w2 ⟨rfl,hw⟩;rw [hw];clear hw w2;go_wp2_with fail
      go_loopw [5] (fun v wr=>∃(k:Nat),k≤s.size∧v = .int .i64 k∧Hid (∀j (hj:j < s.size),j < k→nE o s[j] = true)∧Below w.heap.size w wr) (fun v _=>s.size - (intOf v).toNat)
      case atStart=>exact ⟨0,Nat.zero_le _,rfl,fun j _ hj=>by omega,aj _⟩
      case round =>
       obtain ⟨k,hk,rfl,hall,az⟩:=hrel;by_cases ap:k < s.size
       ·go_wp2_with fail
        refine (Gm (s[k].toNat:Int) _).mono ?_;rw [← apb o s[k]];rintro e w2 ⟨rfl,hw⟩;rw [hw];clear hw w2;go_wp2_with fail
        go_loopw [6,7] (fun v u wi=>∃(j:Nat),j≤o.size∧u = .int .i64 j∧v = .bool (vE o s[k] j)∧Below w.heap.size w wi) (fun _ u _=>o.size - (intOf u).toNat)
        case atStart=>exact ⟨0,Nat.zero_le _,rfl,rfl,az⟩
        case round =>
         obtain ⟨j,hj,rfl,rfl,hbi⟩:=hrel;by_cases jt:j < o.size
         ·have HA:=I (apd (c:=s[k]) jt);generalize hb:vE o s[k] j = b at *;cases b
          all_goals
           clear hb;go_wp2_with fail
           refine aF _ U' U' (aj _) ?_
           repeat ((first | refine aG Z ?_ | refine aH _ Z d' ?_);simp only [Act.put,pz])
           refine aN ?_;intro wn hn;replace hn:=hn.out;go_wp2;exact ⟨⟨j+1,O,N',by rw [HA.out];rfl,ah hbi hn⟩,by simp [intOf];omega⟩
         ·have Sf:j = o.size:=O;subst Sf;rw [apc];cases ij:nE o s[k] with
          | true =>have HN:=I (X4 ap hall.out ij);clear ij;go_wp2;exact ⟨⟨k+1,O,N',HN.out,hbi⟩,by simp [intOf];omega⟩
          | false =>
            have HG:=I (TM ap ij);clear ij;go_wp2;go_ret
            exact ⟨by rw [HF.out,HG.out];rfl,hbi⟩
       ·have bz:k = s.size:=O;subst bz;have HG:=I (YX (p:=nE o) (fun j hj=>hall.out j hj hj));go_wp2;go_ret
        exact ⟨by rw [HF.out,HG.out];rfl,az⟩
 ·have gd:s.size = 0:=by omega
  have bo:GN o s = false:=by unfold GN;simp [gd]
  have HF:=I bo;clear bo;go_enter Tryz.func171,Tryz.ntmps171;go_wp2;go_ret
  exact ⟨by rw [HF.out];rfl,aj _⟩
def xU:ByteArray:=⟨#[45,95,46,47]⟩
def sj:ByteArray:=⟨#[45,95,46]⟩
def Cm (s:ByteArray):Bool:=decide ((s.size:Int)≤30)&&GN xU s
def AQ (s:ByteArray):Bool:=decide (s.size = 0) || (decide ((s.size:Int)≤20)&&GN sj s)
theorem Ou {o s:ByteArray} (h:¬0 < s.size):GN o s = false:=by unfold GN;simp [h]
theorem Y4 {s:ByteArray} (h:s.size = 0):s = ⟨#[]⟩:=by
 obtain ⟨d⟩:=s;congr 1;exact Array.eq_empty_of_size_eq_zero h
theorem Y3 {s:ByteArray} (h:0 < s.size):(s.toList == []) = false:=by
 rw [beq_eq_false_iff_ne];intro e;rw [ByteArray.toList_eq] at e;have h2:s.data.toList.length = 0:=by rw [e];rfl
 rw [Array.length_toList] at h2;have h3:s.size = s.data.size:=rfl;omega
theorem rX (s:ByteArray) (w:World) (cK:(s.size:Int)≤1048576):Calls Tryz.prog 123 #[.string s] w fun e w'=>e = .returned (.bool (Cm s))∧Below w.heap.size w w':=by
 by_cases hs:0 < s.size
 ·have hz:((s.size:Int) == 0) = false:=by rw [beq_eq_false_iff_ne];omega
  by_cases h30:(s.size:Int)≤30
  ·cases hW:GN xU s
   all_goals
    have bo:Cm s = _:=(by unfold Cm;rw [hW]);simp only [h30,decide_true,Bool.true_and] at bo;have HF:=I bo;have HW:=I hW;clear bo hW;go_enter Tryz.func123,Tryz.ntmps123;go_wp2_with (first | (go_at_call 167;refine (Yt s xU _ hs O).mono ?_;rw [HW.out];rintro e w2 ⟨rfl,hw⟩;rw [hw];clear hw w2) | go_in)
    go_ret
    exact ⟨by rw [HF.out];rfl,bu⟩
  ·have bo:Cm s = false:=(by unfold Cm;simp [h30]);have HF:=I bo;clear bo;go_enter Tryz.func123,Tryz.ntmps123;exact di
 ·have bo:Cm s = false:=by unfold Cm;rw [Ou hs];simp
  have HF:=I bo;have gd:(s.size:Int) = 0:=by omega
  have HW:=I (Ou (o:=xU) hs);clear bo;go_enter Tryz.func123,Tryz.ntmps123;exact di
theorem xQ (s:ByteArray) (w:World) (cK:(s.size:Int)≤1048576):Calls Tryz.prog 124 #[.string s] w fun e w'=>e = .returned (.bool (AQ s))∧Below w.heap.size w w':=by
 by_cases hs:0 < s.size
 ·have hz:((s.size:Int) == 0) = false:=by rw [beq_eq_false_iff_ne];omega
  have cA:=Y3 hs;have gd:¬s.size = 0:=by omega
  by_cases h30:(s.size:Int)≤20
  ·cases hW:GN sj s
   all_goals
    have bo:AQ s = _:=(by unfold AQ;rw [hW]);simp only [h30,gd,decide_true,decide_false,Bool.true_and,Bool.false_or] at bo;have HF:=I bo;have HW:=I hW;clear bo hW;go_enter Tryz.func124,Tryz.ntmps124;go_wp2_with (first | (go_at_call 167;refine (Yt s sj _ hs O).mono ?_;rw [HW.out];rintro e w2 ⟨rfl,hw⟩;rw [hw];clear hw w2) | go_in)
    go_ret
    exact ⟨by rw [HF.out];rfl,bu⟩
  ·have bo:AQ s = false:=(by unfold AQ;simp [h30,gd]);have HF:=I bo;clear bo;go_enter Tryz.func124,Tryz.ntmps124;exact di
 ·obtain rfl:=Y4 (s:=s) O;go_enter Tryz.func124,Tryz.ntmps124;go_wp2;go_ret
  exact ⟨Z,bu⟩
theorem qK (s:ByteArray) (w:World) (cK:(s.size:Int)≤1048576):Calls Tryz.prog 136 #[.string s] w fun e w'=>e = .returned (.bool (Cm s))∧Below w.heap.size w w':=by
 by_cases hs:0 < s.size
 ·have hz:((s.size:Int) == 0) = false:=by rw [beq_eq_false_iff_ne];omega
  by_cases h30:(s.size:Int)≤30
  ·cases hW:GN xU s
   all_goals
    have bo:Cm s = _:=(by unfold Cm;rw [hW]);simp only [h30,decide_true,Bool.true_and] at bo;have HF:=I bo;have HW:=I hW;clear bo hW;go_enter Tryz.func136,Tryz.ntmps136;go_wp2_with (first | (go_at_call 171;refine (Wu s xU _ O (by decide)).mono ?_;rw [HW.out];rintro e w2 ⟨rfl,ao⟩) | go_in)
    go_ret
    exact ⟨by rw [HF.out];rfl,bu⟩
  ·have bo:Cm s = false:=(by unfold Cm;simp [h30]);have HF:=I bo;clear bo;go_enter Tryz.func136,Tryz.ntmps136;exact di
 ·have bo:Cm s = false:=by unfold Cm;rw [Ou hs];simp
  have HF:=I bo;have gd:(s.size:Int) = 0:=by omega
  have HW:=I (Ou (o:=xU) hs);clear bo;go_enter Tryz.func136,Tryz.ntmps136;go_wp2_with (first | (go_at_call 171;refine (Wu s xU _ O (by decide)).mono ?_;rw [HW.out];rintro e w2 ⟨rfl,ao⟩) | go_in)
  go_ret
  exact ⟨by rw [HF.out];rfl,bu⟩
theorem vH (s:ByteArray) (w:World) (cK:(s.size:Int)≤1048576):Calls Tryz.prog 137 #[.string s] w fun e w'=>e = .returned (.bool (AQ s))∧Below w.heap.size w w':=by
 by_cases hs:0 < s.size
 ·have hz:((s.size:Int) == 0) = false:=by rw [beq_eq_false_iff_ne];omega
  have cA:=Y3 hs;have gd:¬s.size = 0:=by omega
  by_cases h30:(s.size:Int)≤20
  ·cases hW:GN sj s
   all_goals
    have bo:AQ s = _:=(by unfold AQ;rw [hW]);simp only [h30,gd,decide_true,decide_false,Bool.true_and,Bool.false_or] at bo;have HF:=I bo;have HW:=I hW;clear bo hW;go_enter Tryz.func137,Tryz.ntmps137;go_wp2_with (first | (go_at_call 171;refine (Wu s sj _ O (by decide)).mono ?_;rw [HW.out];rintro e w2 ⟨rfl,ao⟩) | go_in)
    go_ret
    exact ⟨by rw [HF.out];rfl,bu⟩
  ·have bo:AQ s = false:=(by unfold AQ;simp [h30,gd]);have HF:=I bo;clear bo;go_enter Tryz.func137,Tryz.ntmps137;exact di
 ·obtain rfl:=Y4 (s:=s) O;go_enter Tryz.func137,Tryz.ntmps137;go_wp2;go_ret
  exact ⟨Z,bu⟩
end Go.Proofs.YtjahcnjmjahbaaaGreat
