/- laws' copies. -/
import Derived.Test.YtjahcnjmjahbaaaGreatAppend
import Derived.Test.YtjahcnjmjahbaaaGreatDeed
namespace Go.Proofs.YtjahcnjmjahbaaaGreat
open Go.ChangeShapes Go.WideShapes Go.ChangeAt Go.RowKit
set_option linter.unusedVariables false
set_option linter.unusedSimpArgs false
set_option maxHeartbeats 400000
section
variable {α β:Type} [bd α] [bd β] {w:World} {B B2:Nat} {x:α} {y:β} {c1 c2:List Value} {F1 F2:List Nat}
theorem am.b9 (h1:am w B x c1 F1) (h2:am w B2 y c2 F2) (hB:B≤B2) (hF:∀b∈F1,b < B2):am w B (x,y) (c1++c2) (F1++F2):=by
 refine ⟨⟨c1,c2,F1,F2,rfl,rfl,h1.rd,h2.rd⟩,?_,?_,?_⟩
 ·rw [List.nodup_append];exact ⟨h1.nodup,h2.nodup,fun a ha b hb=>by have:=hF a ha;have:=h2.base b hb;omega⟩
 ·intro b hb;rcases List.mem_append.1 hb with hb | hb
  ·exact h1.base b hb
  ·exact Nat.le_trans hB (h2.base b hb)
 ·intro b hb;rcases List.mem_append.1 hb with hb | hb
  ·exact h1.plain b hb
  ·exact h2.plain b hb
theorem am.up {γ:Type} {z:γ} {cs:List Value} {F:List Nat} {B':Nat} (g:γ→β) (h:am w B' (g z) cs F) (hB:B≤B'):@am γ (bd.oc g) w B z cs F :=
 @am.mk γ (bd.oc g) w B z cs F h.rd h.nodup (fun b hb=>Nat.le_trans hB (h.base b hb)) h.plain
theorem am.cons (h1:Go.Proofs.YtjahcnjmjahbaaaGreat.bd.rd w x c1 []) (h2:am w B y c2 F2):am w B (x,y) (c1++c2) F2:=by
 have:=(am.dy (B:=B) h1).b9 h2 (Nat.le_refl _) (fun b hb=>by cases hb);simpa using this
end
theorem ao2:(Tryz.prog.info? 9).map (fun i=>(i.zero,i.size,i.bytes)) = some (some (.string ⟨#[]⟩),1,16):=by kernel_rfl
theorem qw:DL Tryz.prog 61 9 (.string ⟨#[]⟩) 1 16:=⟨Tryz.underlying61,ao2,rfl,J⟩
def LG (n:Nat):List UInt8:=if n < 128 then [n.toUInt8] else (n % 128+128).toUInt8 :: LG (n / 128)
termination_by n
theorem AW {n:Nat} (h:n < 128):LG n = [n.toUInt8]:=by rw [LG,if_pos h]
theorem AZ {n:Nat} (h:128≤n):LG n = (n % 128+128).toUInt8 :: LG (n / 128):=by rw [LG,if_neg J]
def jD (n:Int):ByteArray:=if n < 0 then ⟨#[]⟩ else ⟨(LG n.toNat).toArray⟩
theorem Z':∀(k n:Nat),n < 128 ^ (k+1)→(LG n).length≤k+1
 | 0,n,h=>by rw [AW Pe];simp
 | k+1,n,h=>by
   by_cases hn:n < 128
   ·rw [AW hn];simp
   ·rw [AZ J,List.length_cons];have:=Z' k (n / 128) (by rw [Nat.pow_succ] at h;exact Nat.div_lt_of_lt_mul J);omega
theorem Bb:(128:Nat) ^ (9+1) = 1180591620717411303424:=by decide +kernel
theorem SR {n:Nat} (h:(n:Int)≤9223372036854775807):(LG n).length≤10:=by
 have h1:n < 128 ^ (9+1):=by rw [Bb];omega
 have h2:=Z' 9 n h1;omega
theorem Be:(Tryz.prog.info? 5).map (fun i=>(i.zero,i.size,i.bytes)) = some (some (.int .u8 0),1,1):=by kernel_rfl
theorem uL:DL Tryz.prog 22 5 (.int .u8 0) 1 1:=⟨Tryz.underlying22,Be,rfl,J⟩
theorem KU (j:Nat):bits .or .u8 ((j:Int) % 256) 128 = ((j % 128+128:Nat):Int):=by
 have e:((j:Int) % 256) = ((j % 256:Nat):Int):=by omega
 rw [e,show (128:Int) = ((128:Nat):Int) from rfl,u8_or_nat _ _ J J];congr 1;have h:∀x:Fin 256,(x.val ||| 128) = x.val % 128+128:=by decide +kernel
 have:=h ⟨j % 256,J⟩;simp only at this;rw [this];omega
theorem PA (n:Nat) (h:n < 256):B8 n.toUInt8 = .int .u8 (n:Int):=by
 unfold B8;congr 1;have:n.toUInt8.toNat = n:=by simp [Nat.toUInt8,UInt8.toNat_ofNat'];omega
 rw [this]
theorem amk {p:List UInt8} {j m:Nat} (hp:p++LG j = LG m) (hj:j < 128):p++[j.toUInt8] = LG m:=by rw [← hp,AW hj]
theorem aml {p:List UInt8} {j m:Nat} (hp:p++LG j = LG m) (hj:128≤j):(p++[(j % 128+128).toUInt8])++LG (j / 128) = LG m:=by rw [← hp,AZ hj];simp
theorem aps {p:List UInt8} {j m:Nat} (hp:p++LG j = LG m) (hm:(LG m).length≤10):p.length≤9:=by
 have h:=congrArg List.length hp;rw [List.length_append] at h;have:1≤(LG j).length:=by unfold LG;split <;> simp
 omega
def lZ (k:Int):ByteArray:=if k≤0 then ⟨#[109,48]⟩ else ⟨#[109]⟩++mtl k.toNat ⟨#[]⟩
theorem wE (n:Int) (w:World) (hn:bi n):Calls Tryz.prog 29 #[.int .i64 n] w fun e w'=>e = .returned (.string (jD n))∧Below w.heap.size w w':=by
 obtain ⟨Bf,uZ⟩:=hn;by_cases hneg:n < 0
 ·go_enter Tryz.func29,Tryz.ntmps29;go_wp2;go_ret
  exact ⟨by unfold jD;rw [if_pos hneg];rfl,aj _⟩
 ·obtain ⟨m,rfl⟩:=Int.eq_ofNat_of_zero_le (show 0≤n by omega);have bm:jD (m:Int) = ⟨(LG m).toArray⟩:=by unfold jD;rw [if_neg hneg];rfl
  have HF:=I bm;clear bm hneg;have CL:=SR (n:=m) J;clear Bf uZ;go_enter Tryz.func29,Tryz.ntmps29;go_wp2_with fail
  go_loopw [0,3] (fun x v wr=>∃(p:List UInt8) (j:Nat),x = .int .i64 j∧Hid (p++LG j = LG m)∧p.length≤9∧wr.ownsRow w.heap.size 5 1 v p.length (p.map B8)∧Below w.heap.size w wr) (fun x _ _=>(intOf x).toNat)
  case atStart=>exact ⟨[],m,rfl,rfl,S',by simpa using World.ownsRow_made w #[] 0 (Nat.le_refl _) ja rfl,ak (aj _) _⟩
  case round =>
   obtain ⟨p,j,rfl,hp,fl,aR,aE⟩:=hrel;by_cases hj:(128:Int)≤(j:Int)
   ·have tu:=KU j;go_wp2_with (at_builtin;refine lC uL rfl _ _ rfl _ _ _ _ _ aR rfl _ rfl rfl eu J J (by exact aE.size) ?_;intro v2 w2 cA eD cD)
    clear tu;have h2:=aml hp.out J;refine ⟨⟨_,j / 128,N',h2,aps h2 CL,?_,lS aR eD aE aE.size⟩,by simp [intOf];omega⟩;rw [List.length_append,List.map_append,List.length_singleton,List.map_singleton,PA _ J];exact cA
   ·have Ao:(j:Int) < 128:=J;have hj3:(j:Int) % 256 = j:=J;have hl:=amk hp.out J
    go_wp2_with (at_builtin;refine lC uL rfl _ _ rfl _ _ _ _ _ aR rfl _ rfl rfl eu J J (by exact aE.size) ?_;intro v2 w2 cA eD cD
                 have hcv:=Xf (dst:=9) (l:=p++[j.toUInt8]) Tryz.underlying22 Tryz.underlying5 Tryz.underlying9 (by rw [List.map_append,List.map_singleton,PA _ J];exact cA))
    go_ret
    exact ⟨by rw [HF.out,← hl];rfl,lS aR eD aE aE.size⟩
theorem uP (n:Int) (w:World) (hn:bi n):Calls Tryz.prog 81 #[.int .i64 n] w fun e w'=>e = .returned (.string (jD n))∧Below w.heap.size w w':=by
 obtain ⟨Bf,uZ⟩:=hn;by_cases hneg:n < 0
 ·have hn127:n≤127:=by omega
  go_enter Tryz.func81,Tryz.ntmps81;go_wp2_with fail
  go_loopw [0,3] (fun x v wr=>x = .int .i64 n∧Below w.heap.size w wr) (fun _ _ _=>0)
  case atStart=>exact ⟨rfl,ak (aj _) _⟩
  case round =>
   obtain ⟨rfl,aE⟩:=hrel;go_wp2;go_ret
   exact ⟨by unfold jD;rw [if_pos hneg];rfl,aE⟩
 ·obtain ⟨m,rfl⟩:=Int.eq_ofNat_of_zero_le (show 0≤n by omega);have bm:jD (m:Int) = ⟨(LG m).toArray⟩:=by unfold jD;rw [if_neg hneg];rfl
  have HF:=I bm;clear bm hneg;have CL:=SR (n:=m) J;clear Bf;go_enter Tryz.func81,Tryz.ntmps81;go_wp2_with fail
  go_loopw [0,3] (fun x v wr=>∃(p:List UInt8) (j:Nat),x = .int .i64 j∧Hid (p++LG j = LG m)∧Hid (j≤m)∧p.length≤9∧wr.ownsRow w.heap.size 5 1 v p.length (p.map B8)∧Below w.heap.size w wr) (fun x _ _=>(intOf x).toNat)
  case atStart=>exact ⟨[],m,rfl,rfl,Nat.le_refl _,S',by simpa using World.ownsRow_made w #[] 0 (Nat.le_refl _) ja rfl,ak (aj _) _⟩
  case round =>
   obtain ⟨p,j,rfl,hp,hjm,fl,aR,aE⟩:=hrel;by_cases hj:(128:Int)≤(j:Int)
   ·have hjb:(j:Int)≤9223372036854775807:=(by have:=hjm.out;omega);have SU:(127:Int) < (j:Int):=J;have cS:(0:Int)≤(j:Int) % 128:=J;have fX:(j:Int) % 128 < 128:=J;go_wp2_with (at_builtin;refine lC uL rfl _ _ rfl _ _ _ _ _ aR rfl _ rfl rfl eu J J (by exact aE.size) ?_;intro v2 w2 cA eD cD)
    have h2:=aml hp.out J;refine ⟨⟨_,j / 128,N',h2,Nat.le_trans (Nat.div_le_self ..) hjm.out,aps h2 CL,?_,lS aR eD aE aE.size⟩,by simp [intOf];omega⟩;rw [List.length_append,List.map_append,List.length_singleton,List.map_singleton,PA _ J,show ((j % 128+128:Nat):Int) = 128+(j:Int) % 128 by omega];exact cA
   ·have Ao:(j:Int)≤127:=J;have hj3:(j:Int) % 256 = j:=J;have hl:=amk hp.out J
    go_wp2_with (at_builtin;refine lC uL rfl _ _ rfl _ _ _ _ _ aR rfl _ rfl rfl eu J J (by exact aE.size) ?_;intro v2 w2 cA eD cD
                 have hcv:=Xf (dst:=9) (l:=p++[j.toUInt8]) Tryz.underlying22 Tryz.underlying5 Tryz.underlying9 (by rw [List.map_append,List.map_singleton,PA _ J];exact cA))
    go_ret
    exact ⟨by rw [HF.out,← hl];rfl,lS aR eD aE aE.size⟩
def bc (s:ByteArray):ByteArray:=jD s.size++s
theorem bM (n:Int) (hn:bi n):(jD n).size≤10:=by
 unfold jD;split
 ·exact Nat.zero_le _
 ·show (LG n.toNat).toArray.size≤10;rw [List.size_toArray];exact SR (by have:=hn.2;omega)
theorem iJ (s:ByteArray) (hs:(s.size:Int)≤1099511627776):(bc s).size≤s.size+10:=by
 have:=bM s.size ⟨J,J⟩;unfold bc;rw [ByteArray.size_append];omega
theorem zV (s:ByteArray) (w:World) (hs:(s.size:Int)≤1099511627776):Calls Tryz.prog 37 #[.string s] w fun e w'=>e = .returned (.string (bc s))∧Below w.heap.size w w':=by
 have hI:bi s.size:=⟨J,J⟩;have hv:=bM _ hI;go_enter Tryz.func37,Tryz.ntmps37;go_wp2_with (go_at_call 29;refine (wE _ _ hI).mono ?_;rintro e w2 ⟨rfl,hb⟩)
 go_ret
 exact ⟨rfl,hb⟩
theorem zW (s:ByteArray) (w:World) (hs:(s.size:Int)≤1099511627776):Calls Tryz.prog 131 #[.string s] w fun e w'=>e = .returned (.string (bc s))∧Below w.heap.size w w':=by
 have hI:bi s.size:=⟨J,J⟩;have hv:=bM _ hI;go_enter Tryz.func131,Tryz.ntmps131;go_wp2_with (go_at_call 81;refine (uP _ _ hI).mono ?_;rintro e w2 ⟨rfl,hb⟩)
 go_ret
 exact ⟨rfl,hb⟩
structure nN (F:List Nat) (w w':World):Prop where
 os:w'.os = w.os
 tape:w'.tape = w.tape
 output:w'.output = w.output
 size:w.heap.size≤w'.heap.size
 block:∀k,k < w.heap.size→k∉F→w'.heap[k]? = w.heap[k]?
section
variable {F G:List Nat} {w w1 w2:World}
theorem nN.refl (F:List Nat) (w:World):nN F w w:=⟨rfl,rfl,rfl,Nat.le_refl _,fun _ _ _=>rfl⟩
theorem nN.trans (h:nN F w w1) (k:nN F w1 w2):nN F w w2 :=
 ⟨k.os.trans h.os,k.tape.trans h.tape,k.output.trans h.output,Nat.le_trans h.size k.size,fun i hi hn=>(k.block i (Nat.lt_of_lt_of_le hi h.size) hn).trans (h.block i hi hn)⟩
theorem nN.mono (h:nN F w w1) (hs:∀b∈F,b∈G):nN G w w1:=⟨h.os,h.tape,h.output,h.size,fun i hi hn=>h.block i hi fun hb=>hn (hs i hb)⟩
theorem nN.lq (F:List Nat) (h:Below w.heap.size w w1):nN F w w1:=⟨h.os,h.tape,h.output,h.size,fun i hi _=>h.block i hi⟩
theorem nN.drew (h:nN F w w1):nN F w w1.drew:=⟨h.os,h.tape,h.output,h.size,h.block⟩
theorem nN.setCell (h:nN F w w1) {p:Addr} (hp:p.block∈F) (u:Value):nN F w (w1.setCell p u) :=
 ⟨h.os,h.tape,h.output,by simpa [World.setCell] using h.size,fun i hi hn=>(Below.heap_setCell _ _ _ _ (by rintro rfl;exact hn hp)).trans (h.block i hi hn)⟩
theorem nN.aM {B:Nat} (h:nN F w w1) (hF:∀b∈F,B≤b) (hB:B≤w.heap.size):Below B w w1 :=
 ⟨h.os,h.tape,h.output,h.size,fun i hi=>h.block i J fun hb=>by have:=hF i hb;omega⟩
theorem nN.rd {α:Type} [bd α] (h:nN F w w1) {x:α} {cs:List Value} (hr:rd w x cs G) (hd:∀b∈G,b∉F):rd w1 x cs G :=
 bd.frame hr (fun b hb=>h.block b (bd.lt hr b hb) (hd b hb)) h.size
theorem nN.jk {α:Type} [bd α] (h:nN F w w1) {x:α} {cs:List Value} {B:Nat} (hr:am w B x cs G) (hd:∀b∈G,b∉F):am w1 B x cs G :=
 hr.br (fun b hb=>h.block b (hr.lt b hb) (hd b hb)) h.size
end
def vX (w:World) (b o:Nat) (ds:List Value):Prop:=∀j u,ds[j]? = some u→w.cell? ⟨b,o+j,none⟩ = some u
def ew (w:World) (b:Nat):Prop:=∃ds t,w.heap[b]? = some (.cells ds t (0,0))
theorem ew.lt {w:World} {b:Nat} (h:ew w b):b < w.heap.size:=by
 obtain ⟨ds,t,h⟩:=h;exact zI
theorem ew.frozen {w:World} {b:Nat} (h:ew w b) (i:Nat):w.frozen? ⟨b,i,none⟩ = false:=by
 obtain ⟨ds,t,h⟩:=h;simp [World.frozen?,h]
theorem ew.setCell {w:World} {b:Nat} (h:ew w b) (b' q:Nat) (u:Value):ew (w.setCell ⟨b',q,none⟩ u) b:=by
 obtain ⟨ds,t,h⟩:=h;by_cases hp:b' = b
 ·subst hp;exact ⟨ds.setIfInBounds q u,t,by simp [World.setCell,Array.getElem?_modify,h]⟩
 ·exact ⟨ds,t,(Below.heap_setCell _ _ _ _ bz).trans h⟩
theorem abV {w:World} {b i:Nat} (h:ew w b) {v:Value} (hc:w.cell? ⟨b,i,none⟩ = some v) (u:Value):(w.setCell ⟨b,i,none⟩ u).cell? ⟨b,i,none⟩ = some u:=by
 obtain ⟨ds,t,h⟩:=h;rw [cell_of_row w b i ds t (0,0) h] at hc;have hi:=(Array.getElem?_eq_some_iff.1 hc).1;rw [cell_of_row _ b i (ds.setIfInBounds i u) t (0,0) ZQ];simp [hi]
theorem Qv {w:World} {b i j:Nat} (h:ew w b) (pG:i≠j) (u:Value):(w.setCell ⟨b,i,none⟩ u).cell? ⟨b,j,none⟩ = w.cell? ⟨b,j,none⟩:=by
 obtain ⟨ds,t,h⟩:=h;rw [cell_of_row w b j ds t (0,0) h,cell_of_row _ b j (ds.setIfInBounds i u) t (0,0) ZQ];rw [Array.getElem?_setIfInBounds_ne pG]
structure pb (w0 w:World) (b o:Nat) (ck:List Value) (Fk:List Nat):Prop where
 bX:nN (b :: Fk) w0 w
 cells:vX w b o ck
 rest:∀q,(q < o∨o+ck.length≤q)→w.cell? ⟨b,q,none⟩ = w0.cell? ⟨b,q,none⟩
 plain:ew w b
section
variable {w0 w w1:World} {b o:Nat} {ck:List Value} {Fk G:List Nat}
theorem pb.set (h:pb w0 w b o ck Fk) {j q:Nat} (hj:j < ck.length) (hq:q = o+j) (u:Value):pb w0 (w.setCell ⟨b,q,none⟩ u) b o (ck.set j u) Fk:=by
 subst hq;refine ⟨h.bX.setCell (List.mem_cons_self ..) u,fun i v hi=>?_,fun q hq=>?_,h.plain.setCell _ _ _⟩
 ·by_cases pG:j = i
  ·subst pG;rw [List.getElem?_set_self hj] at hi;cases hi
   exact abV h.plain (h.cells j _ (List.getElem?_eq_getElem hj)) u
  ·rw [List.getElem?_set_ne pG] at hi;rw [Qv h.plain J];exact h.cells i v hi
 ·rw [List.length_set] at hq;rw [Qv h.plain J];exact h.rest q hq
theorem pb.gj (h:pb w0 w b o ck Fk) {j q:Nat} (hq:q = o+j) {u:Value} (hj:ck[j]? = some u):w.cell? ⟨b,q,none⟩ = some u:=by
 subst hq;exact h.cells j u hj
theorem pb.step (h:pb w0 w b o ck Fk) (hu:nN G w w1) (hs:∀x∈G,x∈Fk) (hb:b∉G):pb w0 w1 b o ck Fk:=by
 have e:=hu.block b h.plain.lt hb;refine ⟨h.bX.trans (hu.mono fun x hx=>List.mem_cons_of_mem _ (hs x hx)),fun j u hj=>?_,fun q hq=>?_,?_⟩
 ·rw [World.cell?_of_block e];exact h.cells j u hj
 ·rw [World.cell?_of_block e];exact h.rest q hq
 ·obtain ⟨ds,t,hp⟩:=h.plain;exact ⟨ds,t,e.trans hp⟩
theorem pb.ext (h:pb w0 w b o ck Fk) (hb:Below w.heap.size w w1):pb w0 w1 b o ck Fk:=h.step (.lq [] hb) (fun _ hx=>by cases hx) S'
end
theorem jo.split {α:Type} [bd α] {w:World} {xs:List α} {ds:List Value} {G:List Nat} (h:jo w xs ds G) {k:Nat} (hk:k < xs.length) :
 ∃d1 ck d2 G1 Fk G2,ds = d1++(ck++d2)∧G = G1++(Fk++G2)∧jo w (xs.take k) d1 G1∧rd w xs[k] ck Fk∧jo w (xs.drop (k+1)) d2 G2∧d1.length = k * bd.size α:=by
 have e:xs = xs.take k++(xs[k] :: xs.drop (k+1)):=by rw [List.getElem_cons_drop,List.take_append_drop]
 rw [e] at h;obtain ⟨c1,c2,F1,F2,rfl,rfl,h1,ck,c3,Fk,F3,rfl,rfl,h2,h3⟩:=jo.fu h;refine ⟨c1,ck,c3,F1,Fk,F3,rfl,rfl,h1,h2,h3,?_⟩;rw [h1.len,List.length_take,Nat.min_eq_left J]
theorem am.KV {α:Type} [bd α] {w:World} {B n c:Nat} {xs:List α} {A:Option Addr} {F:List Nat} (h:am w B xs [.slice A n c] F) {k:Nat} (hk:k < xs.length) :
 ∃b o ck Fk,A = some ⟨b,o,none⟩∧b∈F∧(∀x∈Fk,x∈F)∧b∉Fk∧am w B xs[k] ck Fk∧pb w w b (o+k * bd.size α) ck Fk ∧
  ∀w' x' TY,am w' B x' TY Fk→pb w w' b (o+k * bd.size α) TY Fk→am w' B (xs.set k x') [.slice A n c] F:=by
 obtain ⟨⟨A',c',G,ds,e,da,ce,hc,h0⟩,hnd,du,hplain⟩:=h;simp at e;obtain ⟨rfl,rfl,rfl⟩:=e;rcases h0 with h0 | ⟨b,o,rfl,rfl,hb,cj⟩
 ·rw [h0.1] at hk;cases hk
 obtain ⟨d1,ck,d2,G1,Fk,G2,rfl,rfl,r1,r2,r3,we⟩:=hc.split hk;have KW:=bd.len r2;simp only [List.nodup_cons,List.nodup_append,List.mem_append,not_or] at hnd;have atq:ew w b:=hplain b (List.mem_cons_self ..);refine ⟨b,o,ck,Fk,rfl,List.mem_cons_self ..,fun x hx=>List.mem_cons_of_mem _ (by simp [hx]),hnd.1.2.1,⟨r2,hnd.2.2.1.1,fun x hx=>du x (by simp [hx]),fun x hx=>hplain x (by simp [hx])⟩,⟨.refl _ _,fun j u hj=>?_,fun _ _=>rfl,atq⟩,?_⟩
 ·have:=cj (k * bd.size α+j) u (by
   rw [List.getElem?_append_right J,List.getElem?_append_left (by have:=(List.getElem?_eq_some_iff.1 hj).1;omega)]
   rw [← hj];congr 1;omega)
  rwa [Nat.add_assoc]
 ·intro w' x' TY hx hE;have oe:∀y∈G1++G2,w'.heap[y]? = w.heap[y]?:=fun y hy=>by
   refine hE.bX.block y ?_ ?_
   ·rcases List.mem_append.1 hy with hy | hy
    ·exact r1.lt y hy
    ·exact r3.lt y hy
   ·intro hm;rcases List.mem_cons.1 hm with rfl | hm
    ·rcases List.mem_append.1 hy with hy | hy
     ·exact hnd.1.1 hy
     ·exact hnd.1.2.2 hy
    ·rcases List.mem_append.1 hy with hy | hy
     ·exact hnd.2.2.2 y hy y (Or.inl hm) rfl
     ·exact hnd.2.2.1.2.2 y hm y hy rfl
  have vR:=bd.len hx.rd;refine ⟨⟨_,c,G1++(Fk++G2),d1++(TY++d2),S',by simpa using da,ce,?_,.inr ⟨b,o,rfl,rfl,Nat.lt_of_lt_of_le hb hE.bX.size,?_⟩⟩,?_,?_,?_⟩
  ·have es:xs.set k x' = xs.take k++(x' :: xs.drop (k+1)):=List.set_eq_take_append_cons_drop.trans (if_pos hk);rw [es];exact (r1.frame (fun y hy=>oe y (List.mem_append_left _ hy)) hE.bX.size).append ⟨TY,d2,Fk,G2,rfl,rfl,hx.rd,r3.frame (fun y hy=>oe y (List.mem_append_right _ hy)) hE.bX.size⟩
  ·intro j u hj;by_cases SU:j < d1.length
   ·rw [List.getElem?_append_left SU] at hj;rw [hE.rest (o+j) J];exact cj j u (by rw [List.getElem?_append_left SU];exact hj)
   ·rw [List.getElem?_append_right J] at hj;by_cases Ao:j - d1.length < TY.length
    ·rw [List.getElem?_append_left Ao] at hj;have:=hE.cells _ u hj;rw [← this];congr 2;omega
    ·rw [List.getElem?_append_right J] at hj;rw [hE.rest (o+j) J];refine cj j u ?_;rw [List.getElem?_append_right J,List.getElem?_append_right J];rw [← hj];congr 1;omega
  ·simp only [List.nodup_cons,List.nodup_append,List.mem_append,not_or];exact hnd
  ·exact du
  ·intro y hy;rcases List.mem_cons.1 hy with rfl | hy
   ·exact hE.plain
   ·rcases List.mem_append.1 hy with hy | hy
    ·rw [oe y (List.mem_append_left _ hy)];exact hplain y (by simp [hy])
    ·rcases List.mem_append.1 hy with hy | hy
     ·exact hx.plain y hy
     ·rw [oe y (List.mem_append_right _ hy)];exact hplain y (by simp [hy])
theorem am.JA {α:Type} [bd α] {w:World} {B:Nat} {x:α} {cs:List Value} {F:List Nat} (h:am w B x cs F) {p:Addr} (hp:p.block∉F) (u:Value):am (w.setCell p u) B x cs F :=
 h.br (fun b hb=>Below.heap_setCell _ _ _ _ (by rintro rfl;exact hp hb)) fd
section
variable {α:Type} (mk:α→Int→α) (SV:α→Nat)
def cO:List α→Nat
 | []=>0
 | x :: xs=>SV x+cO xs
def EX:List α→Int→List α
 | [],_=>[]
 | x :: xs,k=>mk x k :: EX xs (k+SV x)
variable {mk SV} {xs:List α} {k:Int} {i:Nat}
end
end Go.Proofs.YtjahcnjmjahbaaaGreat
