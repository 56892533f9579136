/- An operation as data. No condition. -/
import Derived.Test.YtajbbmembionpaaGreatEq
namespace Go.Proofs.YtajbbmembionpaaGreat
open Go.ChangeShapes Go.WideShapes Go.ChangeAt Go.RowKit
set_option linter.unusedVariables false
set_option linter.unusedSimpArgs false
set_option maxHeartbeats 2000000
set_option maxRecDepth 100000
structure xb where
 kind:Int
 name:ByteArray
 tP:b9
 weights:rZ
instance:ba xb:=ba.nt fun x=>(x.kind,x.name,x.tP,x.weights)
theorem amj (n:Nat) (h:n < 256):B8 n.toUInt8 = .int .u8 (n:Int):=by
 unfold B8;congr 1;have:n.toUInt8.toNat = n:=by simp [Nat.toUInt8,UInt8.toNat_ofNat'];omega
 rw [this]
section
variable {α β:Type} [ba α] [ba β] {w:World} {B B2:Nat} {x:α} {y:β} {c1 c2:List Value} {F1 F2:List Nat}
theorem am.pair (h1:am w B x c1 F1) (h2:am w B2 y c2 F2) (hB:B≤B2) (hF:∀b∈F1,b < B2):am w B (x,y) (c1++c2) (F1++F2):=by
 refine ⟨⟨c1,c2,F1,F2,rfl,rfl,h1.rd,h2.rd⟩,?_,?_,?_⟩
 ·rw [List.nodup_append];exact ⟨h1.nodup,h2.nodup,fun a ha b hb=>by have:=hF a ha;have:=h2.base b hb;omega⟩
 ·intro b hb;rcases List.mem_append.1 hb with hb | hb
  ·exact h1.base b hb
  ·exact Nat.le_trans hB (h2.base b hb)
 ·intro b hb;rcases List.mem_append.1 hb with hb | hb
  ·exact h1.plain b hb
  ·exact h2.plain b hb
theorem am.up {γ:Type} {z:γ} {cs:List Value} {F:List Nat} {B':Nat} (g:γ→β) (h:am w B' (g z) cs F) (hB:B≤B'):@am γ (ba.nt g) w B z cs F :=
 @am.mk γ (ba.nt g) w B z cs F h.rd h.nodup (fun b hb=>Nat.le_trans hB (h.base b hb)) h.plain
theorem P7 {w:World} {g:Nat} {c:Array Value} {t:TypeId} (h:w.heap[g]? = some (.cells c t)):∀j,w.cell? ⟨g,j,none⟩ = c[j]?:=fun j=>cell_of_row w g j c t (0,0) h
theorem am.cons (h1:Go.Proofs.YtajbbmembionpaaGreat.ba.rd w x c1 []) (h2:am w B y c2 F2):am w B (x,y) (c1++c2) F2:=by
 have:=(am.flat (B:=B) h1).pair h2 (Nat.le_refl _) (fun b hb=>by cases hb);simpa using this
end
theorem ao2:(Tryz.prog.info? 9).map (fun i=>(i.zero,i.size,i.bytes)) = some (some (.string ⟨#[]⟩),1,16):=by kernel_rfl
theorem qw:DL Tryz.prog 40 9 (.string ⟨#[]⟩) 1 16:=⟨Tryz.underlying40,ao2,rfl,J⟩
theorem oB (d:Nat) (hd:d < 10) (w:World):Calls Tryz.prog 151 #[.int .i64 d] w fun e w'=>e = .returned (.int .u8 ((48:Int)+d))∧w = w':=by
 have h1:(d:Int) < 10:=by omega
 go_enter Tryz.func151,Tryz.ntmps151;go_wp2;go_ret
 exact ⟨by have:(48+(d:Int)) % 256 = 48+d:=by omega
           simp [this],rfl⟩
theorem hT (k:Nat) (hk:(k:Int)≤1048576) (w:World):Calls Tryz.prog 120 #[.int .i64 k] w fun e w'=>e = .returned (.string (dP k))∧Below w.heap.size w w':=by
 by_cases h0:k = 0
 ·subst h0;go_enter Tryz.func120,Tryz.ntmps120;go_wp2;go_ret
  exact ⟨rfl,aj _⟩
 ·have fj:(0:Int) < k:=by omega
  have HK:=I hk;have vl:¬(k:Int) < 0:=by omega
  have HD:=I (show tC k ⟨#[]⟩ = dP k by unfold dP;rw [if_neg h0]);clear hk h0;go_enter Tryz.func120,Tryz.ntmps120;go_wp2_with fail
  go_loopw [0,4] (fun x s wr=>∃(j:Nat) (out:ByteArray),x = .int .i64 j∧s = .string out∧j≤k∧Hid (tC j out = dP k)∧(out.size:Int)+j≤k∧Below w.heap.size w wr) (fun x _ _=>(intOf x).toNat)
  case atStart=>exact ⟨k,⟨#[]⟩,rfl,rfl,Nat.le_refl _,HD,by show ((0:Nat):Int)+k≤k;omega,aj _⟩
  case round =>
   obtain ⟨j,out,rfl,rfl,gh,hm,hs,ax⟩:=hrel;have hjm:(j:Int)≤1048576:=(by have:=HK.out;omega);by_cases hj:0 < j
   ·have mi:((j:Int) != 0) = true:=(by simp;omega);have hout:(out.size:Int)≤1048576:=(by have:=HK.out;omega);have hd:B8 (j % 10+48).toUInt8 = .int .u8 ((48:Int)+(j:Int) % 10):=(by rw [amj _ J];congr 1;omega)
    have K4:(convert 22 9 (.slice (some ⟨wr.heap.size,0,none⟩) 1 1)).run Tryz.prog (wr.alloc (.cells #[.int .u8 ((48:Int)+(j:Int) % 10)] 5)) = .ok (.string (C4 j)) (wr.alloc (.cells #[.int .u8 ((48:Int)+(j:Int) % 10)] 5)) :=
     run_convert_bytes_back _ 22 9 5 ⟨wr.heap.size,0,none⟩ 1 [(j % 10+48).toUInt8] Tryz.underlying22 Tryz.underlying5 Tryz.underlying9 (fun i hi=>by
      obtain rfl:i = 0:=by simpa using hi
      refine (cell_of_row _ wr.heap.size 0 #[.int .u8 ((48:Int)+(j:Int) % 10)] 5 (0,0) (heap_alloc_new wr _)).trans ?_;rw [← hd]
      rfl)
    clear hd;have tL:=US j;have oS:¬(j:Int) % 10 < 0:=J
    have HF:=I (show ∀wq:World,Calls Tryz.prog 151 #[.int .i64 ((j:Int) % 10)] wq fun e w'=>e = .returned (.int .u8 ((48:Int)+(j:Int) % 10))∧wq = w' from fun wq=>by
     have:=oB (j % 10) (Nat.mod_lt _ (by decide)) wq
     rwa [show ((j % 10:Nat):Int) = (j:Int) % 10 by omega] at this)
    have hwq:wrap64 ((j:Int) / 10) = ((j / 10:Nat):Int):=(by unfold wrap64;omega);go_wp2_with fail
    refine (HF.out wr).mono ?_;rintro e w1 ⟨rfl,rfl⟩;go_wp2;exact ⟨⟨j / 10,C4 j++out,(by congr 1),rfl,J,I (by rw [← UT hj];exact hm.out),(by rw [ByteArray.size_append,tL];omega),ak ax _⟩,by simp only [intOf];omega⟩
   ·obtain rfl:j = 0:=by omega
    have HO:=I (show out = dP k by have:=hm.out;rwa [Pq] at this);clear hm;go_wp2;go_ret
    exact ⟨by rw [← HO.out];rfl,ax⟩
structure nN (F:List Nat) (w w':World):Prop where
 os:w'.os = w.os
 tape:w'.tape = w.tape
 output:w'.output = w.output
 size:w.heap.size≤w'.heap.size
 block:∀k,k < w.heap.size→k∉F→w'.heap[k]? = w.heap[k]?
section
variable {F G:List Nat} {w w1 w2:World}
theorem nN.refl (F:List Nat) (w:World):nN F w w:=⟨rfl,rfl,rfl,Nat.le_refl _,fun _ _ _=>rfl⟩
theorem nN.trans (h:nN F w w1) (k:nN F w1 w2):nN F w w2 :=
 ⟨k.os.trans h.os,k.tape.trans h.tape,k.output.trans h.output,Nat.le_trans h.size k.size,fun i hi hn=>(k.block i (Nat.lt_of_lt_of_le hi h.size) hn).trans (h.block i hi hn)⟩
theorem nN.mono (h:nN F w w1) (hs:∀b∈F,b∈G):nN G w w1:=⟨h.os,h.tape,h.output,h.size,fun i hi hn=>h.block i hi fun hb=>hn (hs i hb)⟩
theorem nN.lq (F:List Nat) (h:Below w.heap.size w w1):nN F w w1:=⟨h.os,h.tape,h.output,h.size,fun i hi _=>h.block i hi⟩
theorem nN.drew (h:nN F w w1):nN F w w1.drew:=⟨h.os,h.tape,h.output,h.size,h.block⟩
theorem nN.setCell (h:nN F w w1) {p:Addr} (hp:p.block∈F) (u:Value):nN F w (w1.setCell p u) :=
 ⟨h.os,h.tape,h.output,by simpa [World.setCell] using h.size,fun i hi hn=>(Below.heap_setCell _ _ _ _ (by rintro rfl;exact hn hp)).trans (h.block i hi hn)⟩
theorem nN.below {B:Nat} (h:nN F w w1) (hF:∀b∈F,B≤b) (hB:B≤w.heap.size):Below B w w1 :=
 ⟨h.os,h.tape,h.output,h.size,fun i hi=>h.block i J fun hb=>by have:=hF i hb;omega⟩
theorem nN.rd {α:Type} [ba α] (h:nN F w w1) {x:α} {cs:List Value} (hr:rd w x cs G) (hd:∀b∈G,b∉F):rd w1 x cs G :=
 ba.frame hr (fun b hb=>h.block b (ba.lt hr b hb) (hd b hb)) h.size
theorem nN.own {α:Type} [ba α] (h:nN F w w1) {x:α} {cs:List Value} {B:Nat} (hr:am w B x cs G) (hd:∀b∈G,b∉F):am w1 B x cs G :=
 hr.keep (fun b hb=>h.block b (hr.lt b hb) (hd b hb)) h.size
end
def wC (w:World) (b o:Nat) (ds:List Value):Prop:=∀j u,ds[j]? = some u→w.cell? ⟨b,o+j,none⟩ = some u
def Plain (w:World) (b:Nat):Prop:=∃ds t,w.heap[b]? = some (.cells ds t (0,0))
theorem Plain.lt {w:World} {b:Nat} (h:Plain w b):b < w.heap.size:=by
 obtain ⟨ds,t,h⟩:=h;rcases Nat.lt_or_ge b w.heap.size with aq | oS
 ·exact aq
 ·rw [Array.getElem?_eq_none oS] at h;cases h
theorem Plain.frozen {w:World} {b:Nat} (h:Plain w b) (i:Nat):w.frozen? ⟨b,i,none⟩ = false:=by
 obtain ⟨ds,t,h⟩:=h;simp [World.frozen?,h]
theorem Plain.setCell {w:World} {b:Nat} (h:Plain w b) (b' q:Nat) (u:Value):Plain (w.setCell ⟨b',q,none⟩ u) b:=by
 obtain ⟨ds,t,h⟩:=h;by_cases hp:b' = b
 ·subst hp;exact ⟨ds.setIfInBounds q u,t,by simp [World.setCell,Array.getElem?_modify,h]⟩
 ·exact ⟨ds,t,(Below.heap_setCell _ _ _ _ bA).trans h⟩
theorem abV {w:World} {b i:Nat} (h:Plain w b) {v:Value} (hc:w.cell? ⟨b,i,none⟩ = some v) (u:Value):(w.setCell ⟨b,i,none⟩ u).cell? ⟨b,i,none⟩ = some u:=by
 obtain ⟨ds,t,h⟩:=h;rw [cell_of_row w b i ds t (0,0) h] at hc;have hi:=(Array.getElem?_eq_some_iff.1 hc).1;rw [cell_of_row _ b i (ds.setIfInBounds i u) t (0,0) Uy];simp [hi]
theorem Qv {w:World} {b i j:Nat} (h:Plain w b) (nE:i≠j) (u:Value):(w.setCell ⟨b,i,none⟩ u).cell? ⟨b,j,none⟩ = w.cell? ⟨b,j,none⟩:=by
 obtain ⟨ds,t,h⟩:=h;rw [cell_of_row w b j ds t (0,0) h,cell_of_row _ b j (ds.setIfInBounds i u) t (0,0) Uy];rw [Array.getElem?_setIfInBounds_ne nE]
structure pH (w0 w:World) (b o:Nat) (ck:List Value) (Fk:List Nat):Prop where
 bI:nN (b :: Fk) w0 w
 cells:wC w b o ck
 rest:∀q,(q < o∨o+ck.length≤q)→w.cell? ⟨b,q,none⟩ = w0.cell? ⟨b,q,none⟩
 plain:Plain w b
section
variable {w0 w w1:World} {b o:Nat} {ck:List Value} {Fk G:List Nat}
theorem pH.set (h:pH w0 w b o ck Fk) {j q:Nat} (hj:j < ck.length) (hq:q = o+j) (u:Value):pH w0 (w.setCell ⟨b,q,none⟩ u) b o (ck.set j u) Fk:=by
 subst hq;refine ⟨h.bI.setCell (List.mem_cons_self ..) u,fun i v hi=>?_,fun q hq=>?_,h.plain.setCell _ _ _⟩
 ·by_cases nE:j = i
  ·subst nE;rw [List.getElem?_set_self hj] at hi;cases hi
   exact abV h.plain (h.cells j _ (List.getElem?_eq_getElem hj)) u
  ·rw [List.getElem?_set_ne nE] at hi;rw [Qv h.plain J];exact h.cells i v hi
 ·rw [List.length_set] at hq;rw [Qv h.plain J];exact h.rest q hq
theorem pH.at_ (h:pH w0 w b o ck Fk) {j q:Nat} (hq:q = o+j) {u:Value} (hj:ck[j]? = some u):w.cell? ⟨b,q,none⟩ = some u:=by
 subst hq;exact h.cells j u hj
theorem pH.step (h:pH w0 w b o ck Fk) (hu:nN G w w1) (hs:∀x∈G,x∈Fk) (hb:b∉G):pH w0 w1 b o ck Fk:=by
 have e:=hu.block b h.plain.lt hb;refine ⟨h.bI.trans (hu.mono fun x hx=>List.mem_cons_of_mem _ (hs x hx)),fun j u hj=>?_,fun q hq=>?_,?_⟩
 ·rw [World.cell?_of_block e];exact h.cells j u hj
 ·rw [World.cell?_of_block e];exact h.rest q hq
 ·obtain ⟨ds,t,hp⟩:=h.plain;exact ⟨ds,t,e.trans hp⟩
theorem pH.ext (h:pH w0 w b o ck Fk) (hb:Below w.heap.size w w1):pH w0 w1 b o ck Fk:=h.step (.lq [] hb) (fun _ hx=>by cases hx) S'
end
theorem jo.split {α:Type} [ba α] {w:World} {xs:List α} {ds:List Value} {G:List Nat} (h:jo w xs ds G) {k:Nat} (hk:k < xs.length) :
 ∃d1 ck d2 G1 Fk G2,ds = d1++(ck++d2)∧G = G1++(Fk++G2)∧jo w (xs.take k) d1 G1∧rd w xs[k] ck Fk∧jo w (xs.drop (k+1)) d2 G2∧d1.length = k * ba.size α:=by
 have e:xs = xs.take k++(xs[k] :: xs.drop (k+1)):=by rw [List.getElem_cons_drop,List.take_append_drop]
 rw [e] at h;obtain ⟨c1,c2,F1,F2,rfl,rfl,h1,ck,c3,Fk,F3,rfl,rfl,h2,h3⟩:=jo.fX h;refine ⟨c1,ck,c3,F1,Fk,F3,rfl,rfl,h1,h2,h3,?_⟩;rw [h1.len,List.length_take,Nat.min_eq_left J]
theorem am.IM {α:Type} [ba α] {w:World} {B n c:Nat} {xs:List α} {A:Option Addr} {F:List Nat} (h:am w B xs [.slice A n c] F) {k:Nat} (hk:k < xs.length) :
 ∃b o ck Fk,A = some ⟨b,o,none⟩∧b∈F∧(∀x∈Fk,x∈F)∧b∉Fk∧am w B xs[k] ck Fk∧pH w w b (o+k * ba.size α) ck Fk ∧
  ∀w' x' TY,am w' B x' TY Fk→pH w w' b (o+k * ba.size α) TY Fk→am w' B (xs.set k x') [.slice A n c] F:=by
 obtain ⟨⟨A',c',G,ds,e,cU,bX,hc,h0⟩,hnd,cP,hplain⟩:=h;simp at e;obtain ⟨rfl,rfl,rfl⟩:=e;rcases h0 with h0 | ⟨b,o,rfl,rfl,hb,bC⟩
 ·rw [h0.1] at hk;cases hk
 obtain ⟨d1,ck,d2,G1,Fk,G2,rfl,rfl,r1,r2,r3,hd1⟩:=hc.split hk;have IN:=ba.len r2;simp only [List.nodup_cons,List.nodup_append,List.mem_append,not_or] at hnd;have atq:Plain w b:=hplain b (List.mem_cons_self ..);refine ⟨b,o,ck,Fk,rfl,List.mem_cons_self ..,fun x hx=>List.mem_cons_of_mem _ (by simp [hx]),hnd.1.2.1,⟨r2,hnd.2.2.1.1,fun x hx=>cP x (by simp [hx]),fun x hx=>hplain x (by simp [hx])⟩,⟨.refl _ _,fun j u hj=>?_,fun _ _=>rfl,atq⟩,?_⟩
 ·have:=bC (k * ba.size α+j) u (by
   rw [List.getElem?_append_right J,List.getElem?_append_left (by have:=(List.getElem?_eq_some_iff.1 hj).1;omega)]
   rw [← hj];congr 1;omega)
  rwa [Nat.add_assoc]
 ·intro w' x' TY hx hE;have o1:∀y∈G1++G2,w'.heap[y]? = w.heap[y]?:=fun y hy=>by
   refine hE.bI.block y ?_ ?_
   ·rcases List.mem_append.1 hy with hy | hy
    ·exact r1.lt y hy
    ·exact r3.lt y hy
   ·intro hm;rcases List.mem_cons.1 hm with rfl | hm
    ·rcases List.mem_append.1 hy with hy | hy
     ·exact hnd.1.1 hy
     ·exact hnd.1.2.2 hy
    ·rcases List.mem_append.1 hy with hy | hy
     ·exact hnd.2.2.2 y hy y (Or.inl hm) rfl
     ·exact hnd.2.2.1.2.2 y hm y hy rfl
  have uT:=ba.len hx.rd;refine ⟨⟨_,c,G1++(Fk++G2),d1++(TY++d2),S',by simpa using cU,bX,?_,.inr ⟨b,o,rfl,rfl,Nat.lt_of_lt_of_le hb hE.bI.size,?_⟩⟩,?_,?_,?_⟩
  ·have es:xs.set k x' = xs.take k++(x' :: xs.drop (k+1)):=List.set_eq_take_append_cons_drop.trans (if_pos hk);rw [es];exact (r1.frame (fun y hy=>o1 y (List.mem_append_left _ hy)) hE.bI.size).append ⟨TY,d2,Fk,G2,rfl,rfl,hx.rd,r3.frame (fun y hy=>o1 y (List.mem_append_right _ hy)) hE.bI.size⟩
  ·intro j u hj;by_cases MG:j < d1.length
   ·rw [List.getElem?_append_left MG] at hj;rw [hE.rest (o+j) J];exact bC j u (by rw [List.getElem?_append_left MG];exact hj)
   ·rw [List.getElem?_append_right J] at hj;by_cases GY:j - d1.length < TY.length
    ·rw [List.getElem?_append_left GY] at hj;have:=hE.cells _ u hj;rw [← this];congr 2;omega
    ·rw [List.getElem?_append_right J] at hj;rw [hE.rest (o+j) J];refine bC j u ?_;rw [List.getElem?_append_right J,List.getElem?_append_right J];rw [← hj];congr 1;omega
  ·simp only [List.nodup_cons,List.nodup_append,List.mem_append,not_or];exact hnd
  ·exact cP
  ·intro y hy;rcases List.mem_cons.1 hy with rfl | hy
   ·exact hE.plain
   ·rcases List.mem_append.1 hy with hy | hy
    ·rw [o1 y (List.mem_append_left _ hy)];exact hplain y (by simp [hy])
    ·rcases List.mem_append.1 hy with hy | hy
     ·exact hx.plain y hy
     ·rw [o1 y (List.mem_append_right _ hy)];exact hplain y (by simp [hy])
theorem am.JA {α:Type} [ba α] {w:World} {B:Nat} {x:α} {cs:List Value} {F:List Nat} (h:am w B x cs F) {p:Addr} (hp:p.block∉F) (u:Value):am (w.setCell p u) B x cs F :=
 h.keep (fun b hb=>Below.heap_setCell _ _ _ _ (by rintro rfl;exact hp hb)) eI
section
variable {α:Type} (mk:α→Int→α) (cnt:α→Nat)
variable {mk cnt} {xs:List α} {k:Int} {i:Nat}
end
def oG (w:World) (g:Nat) (cs:List Value):Prop:=∃t,w.heap[g]? = some (.cells cs.toArray t (0,0))
section
variable {w w':World} {g:Nat} {cs:List Value}
theorem oG.lt (h:oG w g cs):g < w.heap.size:=by
 obtain ⟨t,h⟩:=h;rcases Nat.lt_or_ge g w.heap.size with aq | oS
 ·exact aq
 ·rw [Array.getElem?_eq_none oS] at h;cases h
theorem oG.cell (h:oG w g cs) {i:Nat} {u:Value} (hi:cs[i]? = some u):w.cell? ⟨g,i,none⟩ = some u:=by
 obtain ⟨t,h⟩:=h;rw [cell_of_row w g i _ t (0,0) h];simpa using hi
theorem oG.fz (h:oG w g cs) (i:Nat):w.frozen? ⟨g,i,none⟩ = false:=by obtain ⟨t,h⟩:=h;simp [World.frozen?,h]
theorem oG.keep (h:oG w g cs) (hk:w'.heap[g]? = w.heap[g]?):oG w' g cs:=by obtain ⟨t,h⟩:=h;exact ⟨t,hk.trans h⟩
theorem oG.put (h:oG w g cs) (i:Nat) (u:Value):oG (w.setCell ⟨g,i,none⟩ u) g (cs.set i u):=by
 obtain ⟨t,h⟩:=h;exact ⟨t,by simp [World.setCell,Array.getElem?_modify,h]⟩
theorem oG.bj (h:oG w g cs) {c:Nat} (hc:c≠g) (i:Nat) (u:Value):oG (w.setCell ⟨c,i,none⟩ u) g cs:=h.keep (Below.heap_setCell _ _ _ _ bA)
theorem oG.new (w:World) (cs:List Value) (t:TypeId):oG (w.alloc (.cells cs.toArray t)) w.heap.size cs:=⟨t,heap_alloc_new w _⟩
theorem oG.ext (h:oG w g cs) (hb:Below w.heap.size w w'):oG w' g cs:=h.keep (hb.block g h.lt)
theorem oG.bI {b:Nat} (h:oG w g cs) (hu:nN [b] w w') (hg:g≠b):oG w' g cs:=h.keep (hu.block g h.lt (by simpa using hg))
end
theorem d'3 {w:World} {g:Nat} {a0 a1 a2:Value} {r:List Value} (h:oG w g (a0::a1::a2::r)):w.cell? ⟨g,0,none⟩ = some a0∧w.cell? ⟨g,1,none⟩ = some a1∧w.cell? ⟨g,2,none⟩ = some a2:=⟨h.cell (i:=0) rfl,h.cell (i:=1) rfl,h.cell (i:=2) rfl⟩
theorem dp {w:World} {g:Nat} {a0 a1 a2 a3 a4 a5:Value} {r:List Value} (h:oG w g (a0::a1::a2::a3::a4::a5::r)):w.cell? ⟨g,0,none⟩ = some a0∧w.cell? ⟨g,1,none⟩ = some a1∧w.cell? ⟨g,2,none⟩ = some a2∧w.cell? ⟨g,3,none⟩ = some a3∧w.cell? ⟨g,4,none⟩ = some a4∧w.cell? ⟨g,5,none⟩ = some a5:=⟨h.cell (i:=0) rfl,h.cell (i:=1) rfl,h.cell (i:=2) rfl,h.cell (i:=3) rfl,h.cell (i:=4) rfl,h.cell (i:=5) rfl⟩
theorem re {w:World} {g:Nat} {a0 a1 a2 a3 a4 a5 a6:Value} {r:List Value} (h:oG w g (a0::a1::a2::a3::a4::a5::a6::r)):w.cell? ⟨g,0,none⟩ = some a0∧w.cell? ⟨g,1,none⟩ = some a1∧w.cell? ⟨g,2,none⟩ = some a2∧w.cell? ⟨g,3,none⟩ = some a3∧w.cell? ⟨g,4,none⟩ = some a4∧w.cell? ⟨g,5,none⟩ = some a5∧w.cell? ⟨g,6,none⟩ = some a6:=⟨h.cell (i:=0) rfl,h.cell (i:=1) rfl,h.cell (i:=2) rfl,h.cell (i:=3) rfl,h.cell (i:=4) rfl,h.cell (i:=5) rfl,h.cell (i:=6) rfl⟩
theorem d'9 {w:World} {g:Nat} {a0 a1 a2 a3 a4 a5 a6 a7 a8:Value} {r:List Value} (h:oG w g (a0::a1::a2::a3::a4::a5::a6::a7::a8::r)):w.cell? ⟨g,0,none⟩ = some a0∧w.cell? ⟨g,1,none⟩ = some a1∧w.cell? ⟨g,2,none⟩ = some a2∧w.cell? ⟨g,3,none⟩ = some a3∧w.cell? ⟨g,4,none⟩ = some a4∧w.cell? ⟨g,5,none⟩ = some a5∧w.cell? ⟨g,6,none⟩ = some a6∧w.cell? ⟨g,7,none⟩ = some a7∧w.cell? ⟨g,8,none⟩ = some a8:=⟨h.cell (i:=0) rfl,h.cell (i:=1) rfl,h.cell (i:=2) rfl,h.cell (i:=3) rfl,h.cell (i:=4) rfl,h.cell (i:=5) rfl,h.cell (i:=6) rfl,h.cell (i:=7) rfl,h.cell (i:=8) rfl⟩
theorem rT {w:World} {g:Nat} {a0 a1 a2:Value} {r:List Value} (h:oG w g (a0::a1::a2::r)):w.cell? ⟨g,0,none⟩ = some a0∧w.frozen? ⟨g,0,none⟩ = false∧w.cell? ⟨g,1,none⟩ = some a1∧w.frozen? ⟨g,1,none⟩ = false∧w.cell? ⟨g,2,none⟩ = some a2∧w.frozen? ⟨g,2,none⟩ = false:=⟨h.cell (i:=0) rfl,h.fz 0,h.cell (i:=1) rfl,h.fz 1,h.cell (i:=2) rfl,h.fz 2⟩
theorem o3 {w:World} {g:Nat} {a0 a1 a2 a3:Value} {r:List Value} (h:oG w g (a0::a1::a2::a3::r)):w.cell? ⟨g,0,none⟩ = some a0∧w.frozen? ⟨g,0,none⟩ = false∧w.cell? ⟨g,1,none⟩ = some a1∧w.frozen? ⟨g,1,none⟩ = false∧w.cell? ⟨g,2,none⟩ = some a2∧w.frozen? ⟨g,2,none⟩ = false∧w.cell? ⟨g,3,none⟩ = some a3∧w.frozen? ⟨g,3,none⟩ = false:=⟨h.cell (i:=0) rfl,h.fz 0,h.cell (i:=1) rfl,h.fz 1,h.cell (i:=2) rfl,h.fz 2,h.cell (i:=3) rfl,h.fz 3⟩
theorem lI {w:World} {g:Nat} {a0 a1 a2 a3 a4 a5:Value} {r:List Value} (h:oG w g (a0::a1::a2::a3::a4::a5::r)):w.cell? ⟨g,0,none⟩ = some a0∧w.frozen? ⟨g,0,none⟩ = false∧w.cell? ⟨g,1,none⟩ = some a1∧w.frozen? ⟨g,1,none⟩ = false∧w.cell? ⟨g,2,none⟩ = some a2∧w.frozen? ⟨g,2,none⟩ = false∧w.cell? ⟨g,3,none⟩ = some a3∧w.frozen? ⟨g,3,none⟩ = false∧w.cell? ⟨g,4,none⟩ = some a4∧w.frozen? ⟨g,4,none⟩ = false∧w.cell? ⟨g,5,none⟩ = some a5∧w.frozen? ⟨g,5,none⟩ = false:=⟨h.cell (i:=0) rfl,h.fz 0,h.cell (i:=1) rfl,h.fz 1,h.cell (i:=2) rfl,h.fz 2,h.cell (i:=3) rfl,h.fz 3,h.cell (i:=4) rfl,h.fz 4,h.cell (i:=5) rfl,h.fz 5⟩
theorem fe {w:World} {g:Nat} {a0 a1 a2 a3 a4 a5 a6:Value} {r:List Value} (h:oG w g (a0::a1::a2::a3::a4::a5::a6::r)):w.cell? ⟨g,0,none⟩ = some a0∧w.frozen? ⟨g,0,none⟩ = false∧w.cell? ⟨g,1,none⟩ = some a1∧w.frozen? ⟨g,1,none⟩ = false∧w.cell? ⟨g,2,none⟩ = some a2∧w.frozen? ⟨g,2,none⟩ = false∧w.cell? ⟨g,3,none⟩ = some a3∧w.frozen? ⟨g,3,none⟩ = false∧w.cell? ⟨g,4,none⟩ = some a4∧w.frozen? ⟨g,4,none⟩ = false∧w.cell? ⟨g,5,none⟩ = some a5∧w.frozen? ⟨g,5,none⟩ = false∧w.cell? ⟨g,6,none⟩ = some a6∧w.frozen? ⟨g,6,none⟩ = false:=⟨h.cell (i:=0) rfl,h.fz 0,h.cell (i:=1) rfl,h.fz 1,h.cell (i:=2) rfl,h.fz 2,h.cell (i:=3) rfl,h.fz 3,h.cell (i:=4) rfl,h.fz 4,h.cell (i:=5) rfl,h.fz 5,h.cell (i:=6) rfl,h.fz 6⟩
theorem IY {w:World} {g:Nat} {a0 a1 a2 a3 a4 a5 a6 a7 a8 a9 Vp Vq a12 Vr:Value} {r:List Value} (h:oG w g (a0::a1::a2::a3::a4::a5::a6::a7::a8::a9::Vp::Vq::a12::Vr::r)):w.cell? ⟨g,0,none⟩ = some a0∧w.frozen? ⟨g,0,none⟩ = false∧w.cell? ⟨g,1,none⟩ = some a1∧w.frozen? ⟨g,1,none⟩ = false∧w.cell? ⟨g,2,none⟩ = some a2∧w.frozen? ⟨g,2,none⟩ = false∧w.cell? ⟨g,3,none⟩ = some a3∧w.frozen? ⟨g,3,none⟩ = false∧w.cell? ⟨g,4,none⟩ = some a4∧w.frozen? ⟨g,4,none⟩ = false∧w.cell? ⟨g,5,none⟩ = some a5∧w.frozen? ⟨g,5,none⟩ = false∧w.cell? ⟨g,6,none⟩ = some a6∧w.frozen? ⟨g,6,none⟩ = false∧w.cell? ⟨g,7,none⟩ = some a7∧w.frozen? ⟨g,7,none⟩ = false∧w.cell? ⟨g,8,none⟩ = some a8∧w.frozen? ⟨g,8,none⟩ = false∧w.cell? ⟨g,9,none⟩ = some a9∧w.frozen? ⟨g,9,none⟩ = false∧w.cell? ⟨g,10,none⟩ = some Vp∧w.frozen? ⟨g,10,none⟩ = false∧w.cell? ⟨g,11,none⟩ = some Vq∧w.frozen? ⟨g,11,none⟩ = false∧w.cell? ⟨g,12,none⟩ = some a12∧w.frozen? ⟨g,12,none⟩ = false∧w.cell? ⟨g,13,none⟩ = some Vr∧w.frozen? ⟨g,13,none⟩ = false:=⟨h.cell (i:=0) rfl,h.fz 0,h.cell (i:=1) rfl,h.fz 1,h.cell (i:=2) rfl,h.fz 2,h.cell (i:=3) rfl,h.fz 3,h.cell (i:=4) rfl,h.fz 4,h.cell (i:=5) rfl,h.fz 5,h.cell (i:=6) rfl,h.fz 6,h.cell (i:=7) rfl,h.fz 7,h.cell (i:=8) rfl,h.fz 8,h.cell (i:=9) rfl,h.fz 9,h.cell (i:=10) rfl,h.fz 10,h.cell (i:=11) rfl,h.fz 11,h.cell (i:=12) rfl,h.fz 12,h.cell (i:=13) rfl,h.fz 13⟩
instance:ba UInt8 where
 size:=1
 pos:=by omega
 rd _ n cs F:=cs = [.int .u8 (n.toNat:Int)]∧F = []
 len h:=by rw [h.1];rfl
 one h:=by rw [h.1];intro u hu;simp at hu;subst hu;rfl
 lt h:=by rw [h.2];intro b hb;cases hb
 frame h _ _:=h
theorem aBV {P:Program} {t:TypeId} (ht:P.underlying t = some (.int .u8)):sl P t UInt8:=by
 intro H enc w base fp spare held cs d h;obtain ⟨n,rfl,_,hw⟩:=DataW.trod_int ht h;have h2:0≤n∧n≤255:=by
  have:=hw;simp [Lit.wf,IntKind.min,IntKind.max,IntKind.signed,IntKind.bits] at this;exact this
 refine ⟨UInt8.ofNat n.toNat,[],?_,rfl⟩;have e:((UInt8.ofNat n.toNat).toNat:Int) = n:=by
  have h3:(UInt8.ofNat n.toNat).toNat = n.toNat % 256:=by simp
  rw [h3];omega
 rw [e]
def bJ (w:World) (c:Nat) (A:Option Addr) (n cap:Nat):Prop :=
 (∃(i h:Int) (t:TypeId),w.heap[c]? = some (.cells #[.slice A n cap,.int .i64 i,.int .i64 h] t (0,0))∧(0≤i∧i≤n)∧bp h) ∧
 (∀k,k < n→∃(g o:Nat) (v:Int),A = some ⟨g,o,none⟩∧g < c∧w.cell? ⟨g,o+k,none⟩ = some (.int .u8 v)∧0≤v∧v≤255)∧(n:Int)≤1048576
section
variable {w w':World} {c:Nat} {A:Option Addr} {n cap:Nat}
theorem bJ.lt (h:bJ w c A n cap):c < w.heap.size:=by
 obtain ⟨⟨i,x,t,h,_⟩,_⟩:=h;rcases Nat.lt_or_ge c w.heap.size with aq | oS
 ·exact aq
 ·rw [Array.getElem?_eq_none oS] at h;cases h
theorem bJ.ext (h:bJ w c A n cap) (hb:Below w.heap.size w w'):bJ w' c A n cap:=by
 have aq:=h.lt;obtain ⟨⟨i,x,t,h1,h2⟩,h3,h4⟩:=h;refine ⟨⟨i,x,t,(hb.block c aq).trans h1,h2⟩,fun k hk=>?_,h4⟩;obtain ⟨g,o,v,e,hg,hc,hv⟩:=h3 k hk;exact ⟨g,o,v,e,hg,(World.cell?_of_block (hb.block g J)).trans hc,hv⟩
theorem bJ.drew (h:bJ w c A n cap):bJ w.drew c A n cap:=h.ext (aA (aj _))
theorem bJ.bj (h:bJ w c A n cap) {b:Nat} (hb:c < b) (i:Nat) (u:Value):bJ (w.setCell ⟨b,i,none⟩ u) c A n cap:=by
 obtain ⟨⟨j,x,t,h1,h2⟩,h3,h4⟩:=h;refine ⟨⟨j,x,t,(Below.heap_setCell _ _ _ _ bA).trans h1,h2⟩,fun k hk=>?_,h4⟩;exact zr
theorem bJ.place (h:bJ w c A n cap) {i:Int} (hi:0≤i∧i≤n):bJ (w.setCell ⟨c,1,none⟩ (.int .i64 i)) c A n cap:=by
 obtain ⟨⟨j,x,t,h1,h2⟩,h3,h4⟩:=h;refine ⟨⟨i,x,t,by simp [World.setCell,Array.getElem?_modify,h1],hi,h2.2⟩,fun k hk=>?_,h4⟩;exact zr
theorem bJ.number (h:bJ w c A n cap) {x:Int} (hx:bp x):bJ (w.setCell ⟨c,2,none⟩ (.int .i64 x)) c A n cap:=by
 obtain ⟨⟨j,y,t,h1,h2⟩,h3,h4⟩:=h;refine ⟨⟨j,x,t,by simp [World.setCell,Array.getElem?_modify,h1],h2.1,hx⟩,fun k hk=>?_,h4⟩;exact zr
theorem bJ.cells (h:bJ w c A n cap):∃i x:Int,(0≤i∧i≤n)∧bp x∧w.cell? ⟨c,0,none⟩ = some (.slice A n cap)∧w.cell? ⟨c,1,none⟩ = some (.int .i64 i)∧w.cell? ⟨c,2,none⟩ = some (.int .i64 x)∧∀k,w.frozen? ⟨c,k,none⟩ = false:=by
 obtain ⟨⟨i,x,t,h,h2⟩,_⟩:=h;refine ⟨i,x,h2.1,h2.2,?_,?_,?_,fun k=>by simp [World.frozen?,h]⟩
 ·rw [cell_of_row w c 0 _ t (0,0) h];rfl
 ·rw [cell_of_row w c 1 _ t (0,0) h];rfl
 ·rw [cell_of_row w c 2 _ t (0,0) h];rfl
theorem bJ.byte (h:bJ w c A n cap) {k:Nat} (hk:k < n):∃(g o:Nat) (v:Int),A = some ⟨g,o,none⟩∧g < c∧w.cell? ⟨g,o+k,none⟩ = some (.int .u8 v)∧0≤v∧v≤255:=h.2.1 k hk
theorem bJ.small (h:bJ w c A n cap):(n:Int)≤1048576:=h.2.2
end
structure cS {α:Type} [ba α] (w:World) (B:Nat) (x:α) (cs:List Value) (F:List Nat):Prop where
 rd:Go.Proofs.YtajbbmembionpaaGreat.ba.rd w x cs F
 base:∀b∈F,B≤b
section
variable {α β:Type} [ba α] [ba β] {w w':World} {B:Nat} {x:α} {y:β} {cs c1 c2:List Value} {F F1 F2:List Nat}
theorem am.got (h:am w B x cs F):cS w B x cs F:=⟨h.rd,h.base⟩
theorem cS.keep (h:cS w B x cs F) (hk:∀b∈F,w'.heap[b]? = w.heap[b]?) (hz:w.heap.size≤w'.heap.size):cS w' B x cs F:=⟨ba.frame h.rd hk hz,h.base⟩
theorem cS.lt (h:cS w B x cs F):∀b∈F,b < w.heap.size:=ba.lt h.rd
theorem cS.ext (h:cS w B x cs F) (hb:Below w.heap.size w w'):cS w' B x cs F:=h.keep (fun b hm=>hb.block b (h.lt b hm)) hb.size
theorem cS.drawn {c:Nat} (h:cS w B x cs F) (hu:nN [c] w w') (hc:c < B):cS w' B x cs F :=
 h.keep (fun b hm=>hu.block b (h.lt b hm) (fun nQ=>by have:=h.base b hm;rw [List.mem_singleton] at nQ;omega)) hu.size
theorem cS.mono (h:cS w B x cs F) {B':Nat} (hB:B'≤B):cS w B' x cs F:=⟨h.rd,fun b hm=>Nat.le_trans hB (h.base b hm)⟩
theorem cS.bs (h:cS w B x cs F) {p:Addr} (hn:∀b∈F,b≠p.block) (u:Value):cS (w.setCell p u) B x cs F :=
 h.keep (fun b hm=>Below.heap_setCell _ _ _ _ (hn b hm)) eI
theorem cS.KU {B2:Nat} (h:cS w B x cs F) (hb:Below B2 w w') (hF:∀b∈F,b < B2):cS w' B x cs F:=h.keep (fun b hm=>hb.block b (hF b hm)) hb.size
theorem cS.flat (h:Go.Proofs.YtajbbmembionpaaGreat.ba.rd w x cs []):cS w B x cs []:=⟨h,fun b hb=>by cases hb⟩
theorem cS.pair (h1:cS w B x c1 F1) (h2:cS w B y c2 F2):cS w B (x,y) (c1++c2) (F1++F2) :=
 ⟨⟨c1,c2,F1,F2,rfl,rfl,h1.rd,h2.rd⟩,fun b hb=>by
   rcases List.mem_append.1 hb with hb | hb
   ·exact h1.base b hb
   ·exact h2.base b hb⟩
theorem cS.cons (h1:Go.Proofs.YtajbbmembionpaaGreat.ba.rd w x c1 []) (h2:cS w B y c2 F2):cS w B (x,y) (c1++c2) F2:=by
 have:=(cS.flat (B:=B) h1).pair h2;simpa using this
theorem cS.up {γ:Type} {z:γ} (g:γ→β) (h:cS w B (g z) cs F):@cS γ (ba.nt g) w B z cs F:=@cS.mk γ (ba.nt g) w B z cs F h.rd h.base
end
theorem cS.nw {w:World} {B:Nat} {nm:ByteArray} {ls:List ao} {a m r:Int} {ns:List aD} {ts:List bH} {Al An At:Option Addr} {cl cn ct:Nat} {Gl Gn Gt:List Nat} (h1:cS w B ls [.slice Al ls.length cl] Gl) (h2:cS w B ns [.slice An ns.length cn] Gn) (h3:cS w B ts [.slice At ts.length ct] Gt) (hn:nm.size≤maxLen) (ha:bp a) (hm:bp m) (hr:bp r) :
 cS w B (⟨nm,ls,a,m,r,ns,ts⟩:nI) [.string nm,.slice Al ls.length cl,.int .i64 a,.int .i64 m,.int .i64 r,.slice An ns.length cn,.slice At ts.length ct] (Gl++(Gn++Gt)):=by
 refine cS.up (fun x:nI=>(x.name,x.labels,x.av,x.mem,x.ar,x.ag,x.ae)) ?_;refine cS.cons (c1:=[.string nm]) (rdStr _ nm (by unfold maxLen at hn;omega)) ?_;exact h1.pair (cS.cons (c1:=[.int .i64 a]) (jL _ a ha) (cS.cons (c1:=[.int .i64 m]) (jL _ m hm) (cS.cons (c1:=[.int .i64 r]) (jL _ r hr) (h2.pair h3))))
theorem cS.mU {w:World} {B:Nat} {x:nI} {cs:List Value} {F:List Nat} (h:cS w B x cs F):∃Al cl Gl An cn Gn At ct Gt,cs = [.string x.name,.slice Al x.labels.length cl,.int .i64 x.av,.int .i64 x.mem,.int .i64 x.ar,.slice An x.ag.length cn,.slice At x.ae.length ct]∧cS w B x.labels [.slice Al x.labels.length cl] Gl∧cS w B x.ag [.slice An x.ag.length cn] Gn∧cS w B x.ae [.slice At x.ae.length ct] Gt∧x.name.size≤maxLen∧bp x.av∧bp x.mem∧bp x.ar:=by
 obtain ⟨Al,cl,Gl,An,cn,Gn,At,ct,Gt,aw,hF,hname,hl,vg,cF,BJ,hn,ht⟩:=dL h.rd;have hb:=h.base;rw [hF] at hb;refine ⟨Al,cl,Gl,An,cn,Gn,At,ct,Gt,aw,⟨hl,fun b hm=>hb b ?_⟩,⟨hn,fun b hm=>hb b ?_⟩,⟨ht,fun b hm=>hb b ?_⟩,hname,vg,cF,BJ⟩;all_goals simp [hm]
end Go.Proofs.YtajbbmembionpaaGreat
