/- Marking a value that is the call's own: what changes, what stays. No condition. -/
import Derived.Test.YtajbbmembionpaaGreatRows2
namespace Go.Proofs.YtajbbmembionpaaGreat
open Go.ChangeShapes Go.WideShapes Go.ChangeAt Go.RowKit
set_option linter.unusedVariables false
set_option linter.unusedSimpArgs false
set_option maxHeartbeats 2000000
set_option maxRecDepth 100000
structure nN (F:List Nat) (w w':World):Prop where
 os:w'.os = w.os
 tape:w'.tape = w.tape
 output:w'.output = w.output
 size:w.heap.size≤w'.heap.size
 block:∀k,k < w.heap.size→k∉F→w'.heap[k]? = w.heap[k]?
section
variable {F G:List Nat} {w w1 w2:World}
theorem nN.refl (F:List Nat) (w:World):nN F w w:=⟨rfl,rfl,rfl,Nat.le_refl _,fun _ _ _=>rfl⟩
theorem nN.trans (h:nN F w w1) (k:nN F w1 w2):nN F w w2 :=
 ⟨k.os.trans h.os,k.tape.trans h.tape,k.output.trans h.output,Nat.le_trans h.size k.size,fun i hi X=>(k.block i (Nat.lt_of_lt_of_le hi h.size) X).trans (h.block i hi X)⟩
theorem nN.mono (h:nN F w w1) (hs:∀b∈F,b∈G):nN G w w1:=⟨h.os,h.tape,h.output,h.size,fun i hi X=>h.block i hi fun U=>X (hs i U)⟩
theorem nN.lq (F:List Nat) (h:Below w.heap.size w w1):nN F w w1:=⟨h.os,h.tape,h.output,h.size,fun i hi _=>h.block i hi⟩
theorem nN.drew (h:nN F w w1):nN F w w1.drew:=⟨h.os,h.tape,h.output,h.size,h.block⟩
theorem nN.setCell (h:nN F w w1) {p:Addr} (hp:p.block∈F) (u:Value):nN F w (w1.setCell p u) :=
 ⟨h.os,h.tape,h.output,by simpa [World.setCell] using h.size,fun i hi X=>(Below.heap_setCell _ _ _ _ (by rintro rfl;exact X hp)).trans (h.block i hi X)⟩
theorem nN.aE {B:Nat} (h:nN F w w1) (hF:∀b∈F,B≤b) (hB:B≤w.heap.size):Below B w w1 :=
 ⟨h.os,h.tape,h.output,h.size,fun i hi=>h.block i J fun U=>by have:=hF i U;omega⟩
theorem nN.rd {α:Type} [bb α] (h:nN F w w1) {x:α} {cs:List Value} (hr:rd w x cs G) (hd:∀b∈G,b∉F):rd w1 x cs G :=
 bb.frame hr (fun b U=>h.block b (bb.lt hr b U) (hd b U)) h.size
theorem nN.M' {α:Type} [bb α] (h:nN F w w1) {x:α} {cs:List Value} {B:Nat} (hr:am w B x cs G) (hd:∀b∈G,b∉F):am w1 B x cs G :=
 hr.bm (fun b U=>h.block b (hr.lt b U) (hd b U)) h.size
end
def uK (w:World) (b o:Nat) (ds:List Value):Prop:=∀j u,ds[j]? = some u→w.cell? ⟨b,o+j,none⟩ = some u
def ey (w:World) (b:Nat):Prop:=∃ds t,w.heap[b]? = some (.cells ds t (0,0))
theorem ey.lt {w:World} {b:Nat} (h:ey w b):b < w.heap.size:=by
 obtain ⟨ds,t,h⟩:=h;rcases Nat.lt_or_ge b w.heap.size with av | nB
 ·exact av
 ·rw [Array.getElem?_eq_none nB] at h;cases h
theorem ey.frozen {w:World} {b:Nat} (h:ey w b) (i:Nat):w.frozen? ⟨b,i,none⟩ = false:=by
 obtain ⟨ds,t,h⟩:=h;simp [World.frozen?,h]
theorem ey.setCell {w:World} {b:Nat} (h:ey w b) (b' q:Nat) (u:Value):ey (w.setCell ⟨b',q,none⟩ u) b:=by
 obtain ⟨ds,t,h⟩:=h;by_cases hp:b' = b
 ·subst hp;exact ⟨ds.setIfInBounds q u,t,by simp [World.setCell,Array.getElem?_modify,h]⟩
 ·exact ⟨ds,t,(Below.heap_setCell _ _ _ _ bC).trans h⟩
theorem Zg {w:World} {b i:Nat} (h:ey w b) {v:Value} (hc:w.cell? ⟨b,i,none⟩ = some v) (u:Value):(w.setCell ⟨b,i,none⟩ u).cell? ⟨b,i,none⟩ = some u:=by
 obtain ⟨ds,t,h⟩:=h;rw [cell_of_row w b i ds t (0,0) h] at hc;have hi:=(Array.getElem?_eq_some_iff.1 hc).1;rw [cell_of_row _ b i (ds.setIfInBounds i u) t (0,0) R5];simp [hi]
theorem Qv {w:World} {b i j:Nat} (h:ey w b) (lR:i≠j) (u:Value):(w.setCell ⟨b,i,none⟩ u).cell? ⟨b,j,none⟩ = w.cell? ⟨b,j,none⟩:=by
 obtain ⟨ds,t,h⟩:=h;rw [cell_of_row w b j ds t (0,0) h,cell_of_row _ b j (ds.setIfInBounds i u) t (0,0) R5];rw [Array.getElem?_setIfInBounds_ne lR]
structure oS (w0 w:World) (b o:Nat) (ck:List Value) (Fk:List Nat):Prop where
 bS:nN (b :: Fk) w0 w
 cells:uK w b o ck
 rest:∀q,(q < o∨o+ck.length≤q)→w.cell? ⟨b,q,none⟩ = w0.cell? ⟨b,q,none⟩
 plain:ey w b
section
variable {w0 w w1:World} {b o:Nat} {ck:List Value} {Fk G:List Nat}
theorem oS.set (h:oS w0 w b o ck Fk) {j q:Nat} (hj:j < ck.length) (hq:q = o+j) (u:Value):oS w0 (w.setCell ⟨b,q,none⟩ u) b o (ck.set j u) Fk:=by
 subst hq;refine ⟨h.bS.setCell (List.mem_cons_self ..) u,fun i v hi=>?_,fun q hq=>?_,h.plain.setCell _ _ _⟩
 ·by_cases lR:j = i
  ·subst lR;rw [List.getElem?_set_self hj] at hi;cases hi
   exact Zg h.plain (h.cells j _ (List.getElem?_eq_getElem hj)) u
  ·rw [List.getElem?_set_ne lR] at hi;rw [Qv h.plain J];exact h.cells i v hi
 ·rw [List.length_set] at hq;rw [Qv h.plain J];exact h.rest q hq
theorem oS.kv (h:oS w0 w b o ck Fk) {j q:Nat} (hq:q = o+j) {u:Value} (hj:ck[j]? = some u):w.cell? ⟨b,q,none⟩ = some u:=by
 subst hq;exact h.cells j u hj
theorem oS.step (h:oS w0 w b o ck Fk) (hu:nN G w w1) (hs:∀x∈G,x∈Fk) (U:b∉G):oS w0 w1 b o ck Fk:=by
 have e:=hu.block b h.plain.lt U;refine ⟨h.bS.trans (hu.mono fun x hx=>List.mem_cons_of_mem _ (hs x hx)),fun j u hj=>?_,fun q hq=>?_,?_⟩
 ·rw [World.cell?_of_block e];exact h.cells j u hj
 ·rw [World.cell?_of_block e];exact h.rest q hq
 ·obtain ⟨ds,t,hp⟩:=h.plain;exact ⟨ds,t,e.trans hp⟩
theorem oS.ext (h:oS w0 w b o ck Fk) (U:Below w.heap.size w w1):oS w0 w1 b o ck Fk:=h.step (.lq [] U) (fun _ hx=>by cases hx) S'
end
theorem jo.split {α:Type} [bb α] {w:World} {xs:List α} {ds:List Value} {G:List Nat} (h:jo w xs ds G) {k:Nat} (hk:k < xs.length) :
 ∃d1 ck d2 G1 Fk G2,ds = d1++(ck++d2)∧G = G1++(Fk++G2)∧jo w (xs.take k) d1 G1∧rd w xs[k] ck Fk∧jo w (xs.drop (k+1)) d2 G2∧d1.length = k * bb.size α:=by
 have e:xs = xs.take k++(xs[k] :: xs.drop (k+1)):=by rw [List.getElem_cons_drop,List.take_append_drop]
 rw [e] at h;obtain ⟨c1,c2,F1,F2,rfl,rfl,Z,ck,c3,Fk,F3,rfl,rfl,h2,h3⟩:=jo.fJ h;refine ⟨c1,ck,c3,F1,Fk,F3,rfl,rfl,Z,h2,h3,?_⟩;rw [Z.len,List.length_take,Nat.min_eq_left J]
theorem am.Bj {α:Type} [bb α] {w:World} {B n c:Nat} {xs:List α} {A:Option Addr} {F:List Nat} (h:am w B xs [.slice A n c] F) {k:Nat} (hk:k < xs.length) :
 ∃b o ck Fk,A = some ⟨b,o,none⟩∧b∈F∧(∀x∈Fk,x∈F)∧b∉Fk∧am w B xs[k] ck Fk∧oS w w b (o+k * bb.size α) ck Fk ∧
  ∀w' x' TY,am w' B x' TY Fk→oS w w' b (o+k * bb.size α) TY Fk→am w' B (xs.set k x') [.slice A n c] F:=by
 obtain ⟨⟨A',c',G,ds,e,dP,cj,hc,h0⟩,hnd,db,hplain⟩:=h;simp at e;obtain ⟨rfl,rfl,rfl⟩:=e;rcases h0 with h0 | ⟨b,o,rfl,rfl,U,bJ⟩
 ·rw [h0.1] at hk;cases hk
 obtain ⟨d1,ck,d2,G1,Fk,G2,rfl,rfl,r1,r2,r3,hd1⟩:=hc.split hk;have FD:=bb.len r2;simp only [List.nodup_cons,List.nodup_append,List.mem_append,not_or] at hnd;have Zh:ey w b:=hplain b (List.mem_cons_self ..);refine ⟨b,o,ck,Fk,rfl,List.mem_cons_self ..,fun x hx=>List.mem_cons_of_mem _ (by simp [hx]),hnd.1.2.1,⟨r2,hnd.2.2.1.1,fun x hx=>db x (by simp [hx]),fun x hx=>hplain x (by simp [hx])⟩,⟨.refl _ _,fun j u hj=>?_,fun _ _=>rfl,Zh⟩,?_⟩
 ·have:=bJ (k * bb.size α+j) u (by
   rw [List.getElem?_append_right J,List.getElem?_append_left (by have:=(List.getElem?_eq_some_iff.1 hj).1;omega)]
   rw [← hj];congr 1;omega)
  rwa [Nat.add_assoc]
 ·intro w' x' TY hx hE;have nP:∀y∈G1++G2,w'.heap[y]? = w.heap[y]?:=fun y hy=>by
   refine hE.bS.block y ?_ ?_
   ·rcases List.mem_append.1 hy with hy | hy
    ·exact r1.lt y hy
    ·exact r3.lt y hy
   ·intro hm;rcases List.mem_cons.1 hm with rfl | hm
    ·rcases List.mem_append.1 hy with hy | hy
     ·exact hnd.1.1 hy
     ·exact hnd.1.2.2 hy
    ·rcases List.mem_append.1 hy with hy | hy
     ·exact hnd.2.2.2 y hy y (Or.inl hm) rfl
     ·exact hnd.2.2.1.2.2 y hm y hy rfl
  have uE:=bb.len hx.rd;refine ⟨⟨_,c,G1++(Fk++G2),d1++(TY++d2),S',by simpa using dP,cj,?_,.inr ⟨b,o,rfl,rfl,Nat.lt_of_lt_of_le U hE.bS.size,?_⟩⟩,?_,?_,?_⟩
  ·have es:xs.set k x' = xs.take k++(x' :: xs.drop (k+1)):=List.set_eq_take_append_cons_drop.trans (if_pos hk);rw [es];exact (r1.frame (fun y hy=>nP y (List.mem_append_left _ hy)) hE.bS.size).append ⟨TY,d2,Fk,G2,rfl,rfl,hx.rd,r3.frame (fun y hy=>nP y (List.mem_append_right _ hy)) hE.bS.size⟩
  ·intro j u hj;by_cases K5:j < d1.length
   ·rw [List.getElem?_append_left K5] at hj;rw [hE.rest (o+j) J];exact bJ j u (by rw [List.getElem?_append_left K5];exact hj)
   ·rw [List.getElem?_append_right J] at hj;by_cases x4:j - d1.length < TY.length
    ·rw [List.getElem?_append_left x4] at hj;have:=hE.cells _ u hj;rw [← this];congr 2;omega
    ·rw [List.getElem?_append_right J] at hj;rw [hE.rest (o+j) J];refine bJ j u ?_;rw [List.getElem?_append_right J,List.getElem?_append_right J];rw [← hj];congr 1;omega
  ·simp only [List.nodup_cons,List.nodup_append,List.mem_append,not_or];exact hnd
  ·exact db
  ·intro y hy;rcases List.mem_cons.1 hy with rfl | hy
   ·exact hE.plain
   ·rcases List.mem_append.1 hy with hy | hy
    ·rw [nP y (List.mem_append_left _ hy)];exact hplain y (by simp [hy])
    ·rcases List.mem_append.1 hy with hy | hy
     ·exact hx.plain y hy
     ·rw [nP y (List.mem_append_right _ hy)];exact hplain y (by simp [hy])
theorem am.JA {α:Type} [bb α] {w:World} {B:Nat} {x:α} {cs:List Value} {F:List Nat} (h:am w B x cs F) {p:Addr} (hp:p.block∉F) (u:Value):am (w.setCell p u) B x cs F :=
 h.bm (fun b U=>Below.heap_setCell _ _ _ _ (by rintro rfl;exact hp U)) ew
section
variable {α:Type} (mk:α→Int→α) (Zp:α→Nat)
variable {mk Zp} {xs:List α} {k:Int} {i:Nat}
end
def MF (s:ByteArray) (xs:List ByteArray):Bool:=xs.any fun v=>v.toList == s.toList
theorem ar4 {s:ByteArray} {xs:List ByteArray} {k:Nat} (hk:k < xs.length) (hp:(xs[k].toList == s.toList) = true):MF s xs = true:=by
 unfold MF;rw [List.any_eq_true];exact ⟨xs[k],List.getElem_mem ..,hp⟩
theorem atn {s:ByteArray} {xs:List ByteArray} (X:∀v∈xs,(v.toList == s.toList) = false):MF s xs = false:=by
 unfold MF;rw [List.any_eq_false];intro v hv;simp [X v hv]
theorem ar5 (s:ByteArray) (xs:List ByteArray):MF s xs = decide (0≤pK (fun v=>v.toList == s.toList) xs):=by
 unfold MF;induction xs with
 | nil=>rfl
 | cons x xs ih =>
   simp only [List.any_cons,pK,ih];by_cases hp:(x.toList == s.toList) = true
   ·simp [hp]
   ·exact D6
theorem aiT (xs:List ByteArray) (s:ByteArray) (A:Option Addr) (n c:Nat) (F:List Nat) (w:World) (h:Sl w xs A c F) (X:n = xs.length) (hl:(xs.length:Int)≤1048576) :
 Calls Tryz.prog 157 #[.slice A n c,.string s] w fun e w'=>e = .returned (.int .i64 (pK (fun v:ByteArray=>v.toList == s.toList) xs))∧Below w.heap.size w w':=by
 subst X;go_enter Tryz.func157,Tryz.ntmps157;go_wp2_with fail
 go_loopw [8] (fun i wr=>∃k:Nat,k≤xs.length∧i = .int .i64 k∧Hid (∀v∈xs.take k,(v.toList == s.toList) = false)∧Below w.heap.size w wr) (fun i _=>xs.length - (intOf i).toNat)
 case atStart=>exact ⟨0,Nat.zero_le _,rfl,by show ∀_,_;simp,bL⟩
 case round =>
  obtain ⟨k,hk,rfl,HN,aK⟩:=hrel;by_cases av:k < xs.length
  ·obtain ⟨b,o,ck,Fk,rfl,o9,hbs,hr,bA,hc⟩:=(Sl.ext (w':=wr) (A:=A) (c:=c) h aK).get av;obtain ⟨aD,su,fX⟩:=hr;subst aD su;have q0:wr.cell? ⟨b,o+k,none⟩ = some (.string xs[k]):=(by have:=hc 0 _ rfl;rwa [show o+(k * bb.size ByteArray+0) = o+k from by show o+(k * 1+0) = _;omega] at this);clear hc;cases hp:(xs[k].toList == s.toList) with
   | true =>have uy:(s.toList == xs[k].toList) = true:=(by rw [BEq.comm];exact hp);have HF:=I (Fj (p:=fun v:ByteArray=>v.toList == s.toList) av HN.out hp);exact ej
   | false =>exact EV
  ·have bI:k = xs.length:=J;subst bI;have X:=HN.out;rw [List.take_length] at X;have HF:=I (F5 (p:=fun v:ByteArray=>v.toList == s.toList) X);clear X;exact ej
theorem VG (xs:List ByteArray) (s:ByteArray) (A:Option Addr) (n c:Nat) (F:List Nat) (w:World) (h:Sl w xs A c F) (X:n = xs.length) (hl:(xs.length:Int)≤1048576) :
 Calls Tryz.prog 134 #[.slice A n c,.string s] w fun e w'=>e = .returned (.bool (MF s xs))∧Below w.heap.size w w':=by
 subst X;have zd:=ar5 s xs;have Hp:=aiT xs s A _ c F w h rfl hl;generalize pK (fun v:ByteArray=>v.toList == s.toList) xs = z at zd Hp;rw [zd];clear zd;go_enter Tryz.func134,Tryz.ntmps134;go_wp2_with fail
 refine Hp.mono ?_;rintro e w2 ⟨rfl,aq⟩;go_wp2;go_ret
 exact ⟨rfl,aq⟩
theorem aaG (xs:List ByteArray) (s:ByteArray) (A:Option Addr) (n c:Nat) (F:List Nat) (w:World) (h:Sl w xs A c F) (X:n = xs.length) (hl:(xs.length:Int)≤1048576) :
 Calls Tryz.prog 163 #[.slice A n c,.string s] w fun e w'=>e = .returned (.bool (MF s xs))∧Below w.heap.size w w':=by
 subst X;go_enter Tryz.func163,Tryz.ntmps163;go_wp2_with fail
 go_loopw [5] (fun i wr=>∃k:Nat,k≤xs.length∧i = .int .i64 k∧Hid (∀v∈xs.take k,(v.toList == s.toList) = false)∧Below w.heap.size w wr) (fun i _=>xs.length - (intOf i).toNat)
 case atStart=>exact ⟨0,Nat.zero_le _,rfl,by show ∀_,_;simp,bL⟩
 case round =>
  obtain ⟨k,hk,rfl,HN,aK⟩:=hrel;by_cases av:k < xs.length
  ·obtain ⟨b,o,ck,Fk,rfl,o9,hbs,hr,bA,hc⟩:=(Sl.ext (w':=wr) (A:=A) (c:=c) h aK).get av;obtain ⟨aD,su,fX⟩:=hr;subst aD su;have q0:wr.cell? ⟨b,o+k,none⟩ = some (.string xs[k]):=(by have:=hc 0 _ rfl;rwa [show o+(k * bb.size ByteArray+0) = o+k from by show o+(k * 1+0) = _;omega] at this);clear hc;cases hp:(xs[k].toList == s.toList) with
   | true =>have uy:(s.toList == xs[k].toList) = true:=(by rw [BEq.comm];exact hp);have HF:=I (ar4 av hp);exact ej
   | false =>exact EV
  ·have bI:k = xs.length:=J;subst bI;have X:=HN.out;rw [List.take_length] at X;have HF:=I (atn X);clear X;exact ej
theorem ni (d:Nat) (hd:d < 10) (w:World):Calls Tryz.prog 151 #[.int .i64 d] w fun e w'=>e = .returned (.int .u8 ((48:Int)+d))∧w = w':=by
 have Z:(d:Int) < 10:=by omega
 go_enter Tryz.func151,Tryz.ntmps151;go_wp2;go_ret
 exact ⟨by have:(48+(d:Int)) % 256 = 48+d:=by omega
           simp [this],rfl⟩
theorem gC (k:Nat) (hk:(k:Int)≤1048576) (w:World):Calls Tryz.prog 120 #[.int .i64 k] w fun e w'=>e = .returned (.string (d9 k))∧Below w.heap.size w w':=by
 by_cases h0:k = 0
 ·subst h0;go_enter Tryz.func120,Tryz.ntmps120;go_wp2;go_ret
  exact ⟨rfl,aj _⟩
 ·have fc:(0:Int) < k:=by omega
  have HK:=I hk;have tA:¬(k:Int) < 0:=by omega
  have HD:=I (show rS k ⟨#[]⟩ = d9 k by unfold d9;rw [if_neg h0]);clear hk h0;go_enter Tryz.func120,Tryz.ntmps120;go_wp2_with fail
  go_loopw [0,4] (fun x s wr=>∃(j:Nat) (out:ByteArray),x = .int .i64 j∧s = .string out∧j≤k∧Hid (rS j out = d9 k)∧(out.size:Int)+j≤k∧Below w.heap.size w wr) (fun x _ _=>(intOf x).toNat)
  case atStart=>exact ⟨k,⟨#[]⟩,rfl,rfl,Nat.le_refl _,HD,by show ((0:Nat):Int)+k≤k;omega,aj _⟩
  case round =>
   obtain ⟨j,out,rfl,rfl,fV,hm,hs,aK⟩:=hrel;have hjm:(j:Int)≤1048576:=(by have:=HK.out;omega);by_cases hj:0 < j
   ·have jx:((j:Int) != 0) = true:=(by simp;omega);have hout:(out.size:Int)≤1048576:=(by have:=HK.out;omega);have hd:B8 (j % 10+48).toUInt8 = .int .u8 ((48:Int)+(j:Int) % 10):=(by rw [Zd _ J];congr 1;omega)
    have Ix:(convert 22 9 (.slice (some ⟨wr.heap.size,0,none⟩) 1 1)).run Tryz.prog (wr.alloc (.cells #[.int .u8 ((48:Int)+(j:Int) % 10)] 5)) = .ok (.string (Bh j)) (wr.alloc (.cells #[.int .u8 ((48:Int)+(j:Int) % 10)] 5)) :=
     run_convert_bytes_back _ 22 9 5 ⟨wr.heap.size,0,none⟩ 1 [(j % 10+48).toUInt8] Tryz.underlying22 Tryz.underlying5 Tryz.underlying9 (fun i hi=>by
      obtain rfl:i = 0:=by simpa using hi
      refine (cell_of_row _ wr.heap.size 0 #[.int .u8 ((48:Int)+(j:Int) % 10)] 5 (0,0) (heap_alloc_new wr _)).trans ?_;rw [← hd]
      rfl)
    clear hd;have sa:=Sd j;have nB:¬(j:Int) % 10 < 0:=J
    have HF:=I (show ∀wq:World,Calls Tryz.prog 151 #[.int .i64 ((j:Int) % 10)] wq fun e w'=>e = .returned (.int .u8 ((48:Int)+(j:Int) % 10))∧wq = w' from fun wq=>by
     have:=ni (j % 10) (Nat.mod_lt _ (by decide)) wq
     rwa [show ((j % 10:Nat):Int) = (j:Int) % 10 by omega] at this)
    have hwq:wrap64 ((j:Int) / 10) = ((j / 10:Nat):Int):=(by unfold wrap64;omega);go_wp2_with fail
    refine (HF.out wr).mono ?_;rintro e w1 ⟨rfl,rfl⟩;go_wp2;exact ⟨⟨j / 10,Bh j++out,(by congr 1),rfl,J,I (by rw [← Se hj];exact hm.out),(by rw [ByteArray.size_append,sa];omega),ak aK _⟩,by simp only [intOf];omega⟩
   ·obtain rfl:j = 0:=by omega
    have HO:=I (show out = d9 k by have:=hm.out;rwa [M9] at this);clear hm;go_wp2;go_ret
    exact ⟨by rw [← HO.out];rfl,aK⟩
theorem BH {xs:List iU} (h:(kL iU.wt xs:Int)≤1048576):((xs.length:Int)≤1048576)∧∀l∈xs,(l.key.size:Int)≤1048576∧(l.value.size:Int)≤1048576:=by
 refine ⟨by have:=gJ iU.wt xs;omega,fun l hl=>?_⟩;have Z:=Bq (f:=iU.wt) hl;have e:iU.wt l = l.key.size+l.value.size:=rfl;omega
theorem FQ {xs:List bH} (h:(kL bH.wt xs:Int)≤1048576):((xs.length:Int)≤1048576)∧∀l∈xs,(l.key.size:Int)≤1048576∧(l.value.size:Int)≤1048576:=by
 refine ⟨by have:=gJ bH.wt xs;omega,fun l hl=>?_⟩;have Z:=Bq (f:=bH.wt) hl;have e:bH.wt l = l.key.size+l.value.size:=rfl;omega
theorem yg {α:Type} (p:α→Bool) (xs:List α):pK p xs = -1∨∃k:Nat,k < xs.length∧pK p xs = k:=by
 have:=Nc (p:=p) xs;by_cases h:pK p xs < 0
 ·left;omega
 ·right;exact ⟨(pK p xs).toNat,J,J⟩
theorem Aa {xs:List aL} (h:(kL aL.wt xs:Int)≤1048576):((xs.length:Int)≤1048576)∧(∀l∈xs,(l.key.size:Int)≤1048576∧(l.values.length:Int)≤1048576∧∀v∈l.values,(v.size:Int)≤1048576):=by
 refine ⟨by have:=gJ aL.wt xs;omega,fun l hl=>?_⟩;have Z:=Bq (f:=aL.wt) hl;have e:aL.wt l = l.key.size+Bi l.values:=rfl;have h2:=gJ ByteArray.size l.values;unfold Bi at e;refine ⟨J,J,fun v hv=>?_⟩;have h3:=Bq (f:=ByteArray.size) hv;omega
theorem sW {xs:List ao} (h:(kL ao.wt xs:Int)≤1048576):((xs.length:Int)≤1048576)∧∀l∈xs,(l.key.size:Int)≤1048576∧(l.value.size:Int)≤1048576:=by
 refine ⟨by have:=gJ ao.wt xs;omega,fun l hl=>?_⟩;have Z:=Bq (f:=ao.wt) hl;have e:ao.wt l = l.key.size+l.value.size:=rfl;omega
def JO (key:ByteArray) (l:ao):Bool:=l.key.toList == key.toList
def Df (key:ByteArray) (xs:List ao):ByteArray × Bool:=match xs.find? (JO key) with | some l=>(l.value,true) | none=>(⟨#[]⟩,false)
theorem XS {key:ByteArray} {xs:List ao} {k:Nat} (hk:k < xs.length) (X:∀l∈xs.take k,JO key l = false) (hp:JO key xs[k] = true):Df key xs = (xs[k].value,true):=by
 have e:xs.find? (JO key) = some xs[k]:=by rw [List.find?_eq_some_iff_append];exact ⟨hp,xs.take k,xs.drop (k+1),by rw [List.getElem_cons_drop,List.take_append_drop],fun a ha=>by simp [X a ha]⟩
 unfold Df;rw [e]
theorem XT {key:ByteArray} {xs:List ao} (X:∀l∈xs,JO key l = false):Df key xs = (⟨#[]⟩,false):=by
 have e:xs.find? (JO key) = none:=by rw [List.find?_eq_none];intro l hl;simp [X l hl]
 unfold Df;rw [e]
theorem akJ (xs:List ao) (key:ByteArray) (A:Option Addr) (n c:Nat) (F:List Nat) (w:World) (h:Sl w xs A c F) (X:n = xs.length) (hl:(xs.length:Int)≤1048576) :
 Calls Tryz.prog 133 #[.slice A n c,.string key] w fun e w'=>e = .returned (.tuple #[.string (Df key xs).1,.bool (Df key xs).2])∧Below w.heap.size w w':=by
 subst X;go_enter Tryz.func133,Tryz.ntmps133;go_wp2_with fail
 go_loopw [10] (fun i wr=>∃k:Nat,k≤xs.length∧i = .int .i64 k∧Hid (∀l∈xs.take k,JO key l = false)∧Below w.heap.size w wr) (fun i _=>xs.length - (intOf i).toNat)
 case atStart=>exact ⟨0,Nat.zero_le _,rfl,by show ∀_,_;simp,bL⟩
 case round =>exact Dj
theorem akK (xs:List ao) (key:ByteArray) (A:Option Addr) (n c:Nat) (F:List Nat) (w:World) (h:Sl w xs A c F) (X:n = xs.length) (hl:(xs.length:Int)≤1048576) :
 Calls Tryz.prog 162 #[.slice A n c,.string key] w fun e w'=>e = .returned (.tuple #[.string (Df key xs).1,.bool (Df key xs).2])∧Below w.heap.size w w':=by
 subst X;go_enter Tryz.func162,Tryz.ntmps162;go_wp2_with fail
 go_loopw [6] (fun i wr=>∃k:Nat,k≤xs.length∧i = .int .i64 k∧Hid (∀l∈xs.take k,JO key l = false)∧Below w.heap.size w wr) (fun i _=>xs.length - (intOf i).toNat)
 case atStart=>exact ⟨0,Nat.zero_le _,rfl,by show ∀_,_;simp,bL⟩
 case round =>exact Dj
end Go.Proofs.YtajbbmembionpaaGreat
