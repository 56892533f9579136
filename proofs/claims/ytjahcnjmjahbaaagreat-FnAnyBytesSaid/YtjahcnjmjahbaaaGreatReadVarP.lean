/- ReadVar, in plain Lean. No condition. -/
import Derived.Test.YtjahcnjmjahbaaaGreatEq
namespace Go.Proofs.YtjahcnjmjahbaaaGreat
open Go.ChangeShapes Go.WideShapes Go.ChangeAt Go.RowKit
set_option linter.unusedVariables false
set_option linter.unusedSimpArgs false
set_option maxHeartbeats 4000000
set_option maxRecDepth 100000
theorem PS (i:Nat) (n m:Nat) (hn:n < 2 ^ i) (hm:m % 2 ^ i = 0) (ed:n < 2 ^ 63) (aat:m < 2 ^ 63):bits .or .i64 (n:Int) (m:Int) = ((n+m:Nat):Int):=by
 rw [(bits_nat .i64 63 (by decide) (λz h0 h1=>by rw [IntKind.wrap_i64];omega) n m ed aat).2,Nat.or_comm,nat_join i m n hm hn,Nat.add_comm]
def Xc (s:ByteArray) (a k n:Nat):Option (Nat × Nat) :=
 if h:k < 9/\a+k < s.size then
   if s[a+k].toNat < 128 then (if s[a+k].toNat = 0/\0 < k then none else some (n+s[a+k].toNat % 128 * 2 ^ (7 * k),a+k+1))
   else Xc s a (k+1) (n+s[a+k].toNat % 128 * 2 ^ (7 * k))
 else none
termination_by 9 - k
def Af (s:ByteArray) (at_:Int):Option (Nat × Nat):=if at_ < 0 then none else Xc s at_.toNat 0 0
def LB:Option (Nat × Nat)->Value
 | some (n,p)=>.tuple #[.int .i64 n,.int .i64 p]
 | none=>.tuple #[.int .i64 0,.int .i64 (-1)]
theorem UH {s:ByteArray} {a k n:Nat} (h:¬(k < 9/\a+k < s.size)):Xc s a k n = none:=by rw [Xc,dif_neg h]
theorem uT {s:ByteArray} {a k n:Nat} (hk:k < 9) (h:a+k < s.size) (hc:128<=s[a+k].toNat):Xc s a k n = Xc s a (k+1) (n+s[a+k].toNat % 128 * 2 ^ (7 * k)):=by
 rw [Xc,dif_pos ⟨hk,h⟩,if_neg J]
theorem x9 {s:ByteArray} {a k n:Nat} (hk:k < 9) (h:a+k < s.size) (hc:s[a+k].toNat < 128) (h0:¬(s[a+k].toNat = 0/\0 < k)):Xc s a k n = some (n+s[a+k].toNat % 128 * 2 ^ (7 * k),a+k+1):=by
 rw [Xc,dif_pos ⟨hk,h⟩,if_pos hc,if_neg h0]
theorem wX {s:ByteArray} {a k n:Nat} (hk:k < 9) (h:a+k < s.size) (h0:s[a+k].toNat = 0) (eZ:0 < k):Xc s a k n = none:=by
 rw [Xc,dif_pos ⟨hk,h⟩,if_pos J,if_pos ⟨h0,eZ⟩]
def LG (n:Nat):List UInt8:=if n < 128 then [n.toUInt8] else (n % 128+128).toUInt8 :: LG (n / 128)
termination_by n
theorem xU {n:Nat} (h:n < 128):LG n = [n.toUInt8]:=by rw [LG,if_pos h]
theorem D6 {n:Nat} (h:128<=n):LG n = (n % 128+128).toUInt8 :: LG (n / 128):=by rw [LG,if_neg J]
def jD (n:Int):ByteArray:=if n < 0 then ⟨#[]⟩ else ⟨(LG n.toNat).toArray⟩
theorem ami:∀(k n:Nat),n < 128 ^ (k+1)->(LG n).length<=k+1
 | 0,n,h=>by rw [xU Tl];simp
 | k+1,n,h=>by
   by_cases hn:n < 128
   ·rw [xU hn];simp
   ·rw [D6 J,List.length_cons];have:=ami k (n / 128) (by rw [Nat.pow_succ] at h;exact Nat.div_lt_of_lt_mul J);omega
theorem D8:(128:Nat) ^ (9+1) = 1180591620717411303424:=by decide +kernel
theorem W4 {n:Nat} (h:(n:Int)<=9223372036854775807):(LG n).length<=10:=by
 have h1:n < 128 ^ (9+1):=by rw [D8];omega
 have h2:=ami 9 n h1;omega
theorem D':(Tryz.prog.info? 5).map (λi=>(i.zero,i.size,i.bytes)) = some (some (.int .u8 0),1,1):=by kernel_rfl
theorem xV:DL Tryz.prog 22 5 (.int .u8 0) 1 1:=⟨Tryz.underlying22,D',rfl,J⟩
theorem OK (j:Nat):bits .or .u8 ((j:Int) % 256) 128 = ((j % 128+128:Nat):Int):=by
 have e:((j:Int) % 256) = ((j % 256:Nat):Int):=by omega
 rw [e,show (128:Int) = ((128:Nat):Int) from rfl,u8_or_nat _ _ J J];congr 1;have h:∀x:Fin 256,(x.val ||| 128) = x.val % 128+128:=by decide +kernel
 have:=h ⟨j % 256,J⟩;simp only at this;rw [this];omega
theorem TL (n:Nat) (h:n < 256):B8 n.toUInt8 = .int .u8 (n:Int):=by
 unfold B8;congr 1;have:n.toUInt8.toNat = n:=by simp [Nat.toUInt8,UInt8.toNat_ofNat'];omega
 rw [this]
theorem amk {p:List UInt8} {j m:Nat} (hp:p++LG j = LG m) (hj:j < 128):p++[j.toUInt8] = LG m:=by rw [<- hp,xU hj]
theorem aml {p:List UInt8} {j m:Nat} (hp:p++LG j = LG m) (hj:128<=j):(p++[(j % 128+128).toUInt8])++LG (j / 128) = LG m:=by rw [<- hp,D6 hj];simp
theorem aps {p:List UInt8} {j m:Nat} (hp:p++LG j = LG m) (hm:(LG m).length<=10):p.length<=9:=by
 have h:=congrArg List.length hp;rw [List.length_append] at h;have:1<=(LG j).length:=by unfold LG;split <;> simp
 omega
section
variable {α β:Type} [bd α] [bd β] {w:World} {B B2:Nat} {x:α} {y:β} {c1 c2:List Value} {F1 F2:List Nat}
theorem ai.pair (h1:ai w B x c1 F1) (h2:ai w B2 y c2 F2) (hB:B<=B2) (hF:∀b∈F1,b < B2):ai w B (x,y) (c1++c2) (F1++F2):=by
 refine ⟨⟨c1,c2,F1,F2,rfl,rfl,h1.rd,h2.rd⟩,?_,?_,?_⟩
 ·rw [List.nodup_append];exact ⟨h1.nodup,h2.nodup,λa ha b hb=>by have:=hF a ha;have:=h2.base b hb;omega⟩
 ·intro b hb;rcases List.mem_append.1 hb with hb | hb
  ·exact h1.base b hb
  ·exact Nat.le_trans hB (h2.base b hb)
 ·intro b hb;rcases List.mem_append.1 hb with hb | hb
  ·exact h1.plain b hb
  ·exact h2.plain b hb
theorem ai.up {γ:Type} {z:γ} {cs:List Value} {F:List Nat} {B':Nat} (g:γ->β) (h:ai w B' (g z) cs F) (hB:B<=B'):@ai γ (bd.pb g) w B z cs F :=
 @ai.mk γ (bd.pb g) w B z cs F h.rd h.nodup (λb hb=>Nat.le_trans hB (h.base b hb)) h.plain
theorem ai.cons (h1:Go.Proofs.YtjahcnjmjahbaaaGreat.bd.rd w x c1 []) (h2:ai w B y c2 F2):ai w B (x,y) (c1++c2) F2:=by
 have:=(ai.flat (B:=B) h1).pair h2 (Nat.le_refl _) (λb hb=>by cases hb);simpa using this
end
theorem ao2:(Tryz.prog.info? 9).map (λi=>(i.zero,i.size,i.bytes)) = some (some (.string ⟨#[]⟩),1,16):=by kernel_rfl
theorem qw:DL Tryz.prog 61 9 (.string ⟨#[]⟩) 1 16:=⟨Tryz.underlying61,ao2,rfl,J⟩
def tA (P:Program) (t:TypeId) (α:Type) [bd α]:Prop:=∀(H:Type) (enc:TypeId × Value->H) (w:World) (base fc:Nat) (spare:Nat->Bool) (held:Bool) (cs:List Value) (d:DataW H × List MemPlace),
 DataW.trod enc P w base spare held fc t cs = some d->∃(x:α) (F:List Nat),rd w x cs F
theorem yH {P:Program} {t e:TypeId} {α:Type} [bd α] (ht:P.underlying t = some (.slice e)) (hC:P.cellsOf e = bd.size α) (h:tA P e α):tA P t (List α):=by
 intro H enc w base fc spare held cs d hd;rcases Deep.open_slice ht hd with ⟨rfl,_⟩ | ⟨a,len,cap,m,n,D,Pl,rfl,hb,hl,hm,hmm,hx,hi⟩
 ·exact ⟨[],[],Sl.nil w none 0 (Nat.zero_le _)⟩
 ·rcases Nat.eq_zero_or_pos len with rfl | hpos
  ·exact ⟨[],[],Sl.nil w (some a) cap hm⟩
  ·have hlm:len<=m:=(by rw [hmm];split <;> omega);have aac:=bd.pos (α:=α);have jt:a.spot = none/\a.block < w.heap.size:=by
    obtain ⟨YD,hc,_⟩:=hi 0 J;obtain ⟨_,nt,cD⟩:=World.cells?_some hc;have h0:=cD (i:=0) J;simp only [Nat.zero_mul] at h0;have e0:(a.add 0).add 0 = a:=(by simp [Addr.add]);rw [e0] at h0;rw [List.getElem?_eq_getElem J] at h0;refine ⟨?_,World.block_lt_of_cell? w a h0⟩;unfold World.cell? at h0;split at h0
    ·split at h0
     ·cases h0
     ·rename_i hs;simpa using hs
    ·cases h0
   obtain ⟨b,o,sp⟩:=a;obtain ⟨rfl,hblt⟩:=jt;have step:∀k,k<=len->∃(xs:List α) (ds:List Value) (G:List Nat),xs.length = k/\jo w xs ds G/\∀j u,ds[j]? = some u->w.cell? ⟨b,o+j,none⟩ = some u:=by
    intro k;induction k with
    | zero=>exact λ_=>⟨[],[],[],rfl,⟨rfl,rfl⟩,λj u hu=>by simp at hu⟩
    | succ k ih =>
      intro hk;obtain ⟨xs,ds,G,gF,hr,hc⟩:=ih J;obtain ⟨YD,bS,htr⟩:=hi k J;obtain ⟨x,F,hxr⟩:=h H enc w base n spare held YD _ htr;obtain ⟨_,nt,cD⟩:=World.cells?_some bS;refine ⟨xs++[x],ds++YD,G++F,by simp [gF],hr.append (.single hxr),λj u hu=>?_⟩;have ga:=hr.len;rw [gF] at ga;by_cases hj:j < ds.length
      ·exact hc j u (by rwa [List.getElem?_append_left hj] at hu)
      ·rw [List.getElem?_append_right J] at hu;have OJ:=(List.getElem?_eq_some_iff.1 hu).1;have h1:=cD (i:=j - ds.length) J;rw [hu,hC] at h1;have e1:((⟨b,o,none⟩:Addr).add (k * bd.size α)).add (j - ds.length) = ⟨b,o+j,none⟩:=by
        rw [Deep.add_add];unfold Addr.add;split
        ·simp <;> omega
        ·simp <;> omega
       rw [e1] at h1;exact h1
   obtain ⟨xs,ds,G,gF,hr,hc⟩:=step len (Nat.le_refl _);subst gF;exact ⟨xs,b :: G,_,cap,G,ds,rfl,hl,hm,hr,.inr ⟨b,o,rfl,rfl,hblt,hc⟩⟩
structure nN (F:List Nat) (w w':World):Prop where
 os:w'.os = w.os
 tape:w'.tape = w.tape
 output:w'.output = w.output
 size:w.heap.size<=w'.heap.size
 block:∀k,k < w.heap.size->k∉F->w'.heap[k]? = w.heap[k]?
section
variable {F G:List Nat} {w w1 w2:World}
theorem nN.refl (F:List Nat) (w:World):nN F w w:=⟨rfl,rfl,rfl,Nat.le_refl _,λ_ _ _=>rfl⟩
theorem nN.trans (h:nN F w w1) (k:nN F w1 w2):nN F w w2 :=
 ⟨k.os.trans h.os,k.tape.trans h.tape,k.output.trans h.output,Nat.le_trans h.size k.size,λi hi hn=>(k.block i (Nat.lt_of_lt_of_le hi h.size) hn).trans (h.block i hi hn)⟩
theorem nN.mono (h:nN F w w1) (hs:∀b∈F,b∈G):nN G w w1:=⟨h.os,h.tape,h.output,h.size,λi hi hn=>h.block i hi λhb=>hn (hs i hb)⟩
theorem nN.lq (F:List Nat) (h:Below w.heap.size w w1):nN F w w1:=⟨h.os,h.tape,h.output,h.size,λi hi _=>h.block i hi⟩
theorem nN.drew (h:nN F w w1):nN F w w1.drew:=⟨h.os,h.tape,h.output,h.size,h.block⟩
theorem nN.setCell (h:nN F w w1) {p:Addr} (hp:p.block∈F) (u:Value):nN F w (w1.setCell p u) :=
 ⟨h.os,h.tape,h.output,by simpa [World.setCell] using h.size,λi hi hn=>(Below.heap_setCell _ _ _ _ (by rintro rfl;exact hn hp)).trans (h.block i hi hn)⟩
theorem nN.below {B:Nat} (h:nN F w w1) (hF:∀b∈F,B<=b) (hB:B<=w.heap.size):Below B w w1 :=
 ⟨h.os,h.tape,h.output,h.size,λi hi=>h.block i J λhb=>by have:=hF i hb;omega⟩
theorem nN.rd {α:Type} [bd α] (h:nN F w w1) {x:α} {cs:List Value} (hr:rd w x cs G) (hd:∀b∈G,b∉F):rd w1 x cs G :=
 bd.frame hr (λb hb=>h.block b (bd.lt hr b hb) (hd b hb)) h.size
theorem nN.own {α:Type} [bd α] (h:nN F w w1) {x:α} {cs:List Value} {B:Nat} (hr:ai w B x cs G) (hd:∀b∈G,b∉F):ai w1 B x cs G :=
 hr.keep (λb hb=>h.block b (hr.lt b hb) (hd b hb)) h.size
end
def z8 (w:World) (b o:Nat) (ds:List Value):Prop:=∀j u,ds[j]? = some u->w.cell? ⟨b,o+j,none⟩ = some u
def Plain (w:World) (b:Nat):Prop:=∃ds t,w.heap[b]? = some (.cells ds t (0,0))
theorem Plain.lt {w:World} {b:Nat} (h:Plain w b):b < w.heap.size:=by
 obtain ⟨ds,t,h⟩:=h;exact Dk
theorem Plain.frozen {w:World} {b:Nat} (h:Plain w b) (i:Nat):w.frozen? ⟨b,i,none⟩ = false:=by
 obtain ⟨ds,t,h⟩:=h;simp [World.frozen?,h]
theorem Plain.setCell {w:World} {b:Nat} (h:Plain w b) (b' q:Nat) (u:Value):Plain (w.setCell ⟨b',q,none⟩ u) b:=by
 obtain ⟨ds,t,h⟩:=h;by_cases hp:b' = b
 ·subst hp;exact ⟨ds.setIfInBounds q u,t,by simp [World.setCell,Array.getElem?_modify,h]⟩
 ·exact ⟨ds,t,(Below.heap_setCell _ _ _ _ bv).trans h⟩
theorem abV {w:World} {b i:Nat} (h:Plain w b) {v:Value} (hc:w.cell? ⟨b,i,none⟩ = some v) (u:Value):(w.setCell ⟨b,i,none⟩ u).cell? ⟨b,i,none⟩ = some u:=by
 obtain ⟨ds,t,h⟩:=h;rw [cell_of_row w b i ds t (0,0) h] at hc;have hi:=(Array.getElem?_eq_some_iff.1 hc).1;rw [cell_of_row _ b i (ds.setIfInBounds i u) t (0,0) aHb];simp [hi]
theorem Qv {w:World} {b i j:Nat} (h:Plain w b) (ry:i≠j) (u:Value):(w.setCell ⟨b,i,none⟩ u).cell? ⟨b,j,none⟩ = w.cell? ⟨b,j,none⟩:=by
 obtain ⟨ds,t,h⟩:=h;rw [cell_of_row w b j ds t (0,0) h,cell_of_row _ b j (ds.setIfInBounds i u) t (0,0) aHb];rw [Array.getElem?_setIfInBounds_ne ry]
structure qe (w0 w:World) (b o:Nat) (ck:List Value) (Fk:List Nat):Prop where
 bE:nN (b :: Fk) w0 w
 cells:z8 w b o ck
 rest:∀q,(q < o∨o+ck.length<=q)->w.cell? ⟨b,q,none⟩ = w0.cell? ⟨b,q,none⟩
 plain:Plain w b
section
variable {w0 w w1:World} {b o:Nat} {ck:List Value} {Fk G:List Nat}
theorem qe.set (h:qe w0 w b o ck Fk) {j q:Nat} (hj:j < ck.length) (hq:q = o+j) (u:Value):qe w0 (w.setCell ⟨b,q,none⟩ u) b o (ck.set j u) Fk:=by
 subst hq;refine ⟨h.bE.setCell (List.mem_cons_self ..) u,λi v hi=>?_,λq hq=>?_,h.plain.setCell _ _ _⟩
 ·by_cases ry:j = i
  ·subst ry;rw [List.getElem?_set_self hj] at hi;cases hi
   exact abV h.plain (h.cells j _ (List.getElem?_eq_getElem hj)) u
  ·rw [List.getElem?_set_ne ry] at hi;rw [Qv h.plain J];exact h.cells i v hi
 ·rw [List.length_set] at hq;rw [Qv h.plain J];exact h.rest q hq
theorem qe.at_ (h:qe w0 w b o ck Fk) {j q:Nat} (hq:q = o+j) {u:Value} (hj:ck[j]? = some u):w.cell? ⟨b,q,none⟩ = some u:=by
 subst hq;exact h.cells j u hj
theorem qe.step (h:qe w0 w b o ck Fk) (hu:nN G w w1) (hs:∀x∈G,x∈Fk) (hb:b∉G):qe w0 w1 b o ck Fk:=by
 have e:=hu.block b h.plain.lt hb;refine ⟨h.bE.trans (hu.mono λx hx=>List.mem_cons_of_mem _ (hs x hx)),λj u hj=>?_,λq hq=>?_,?_⟩
 ·rw [World.cell?_of_block e];exact h.cells j u hj
 ·rw [World.cell?_of_block e];exact h.rest q hq
 ·obtain ⟨ds,t,hp⟩:=h.plain;exact ⟨ds,t,e.trans hp⟩
theorem qe.ext (h:qe w0 w b o ck Fk) (hb:Below w.heap.size w w1):qe w0 w1 b o ck Fk:=h.step (.lq [] hb) (λ_ hx=>by cases hx) S'
end
theorem jo.split {α:Type} [bd α] {w:World} {xs:List α} {ds:List Value} {G:List Nat} (h:jo w xs ds G) {k:Nat} (hk:k < xs.length) :
 ∃d1 ck d2 G1 Fk G2,ds = d1++(ck++d2)/\G = G1++(Fk++G2)/\jo w (xs.take k) d1 G1/\rd w xs[k] ck Fk/\jo w (xs.drop (k+1)) d2 G2/\d1.length = k * bd.size α:=by
 have e:xs = xs.take k++(xs[k] :: xs.drop (k+1)):=by rw [List.getElem_cons_drop,List.take_append_drop]
 rw [e] at h;obtain ⟨c1,c2,F1,F2,rfl,rfl,h1,ck,c3,Fk,F3,rfl,rfl,h2,h3⟩:=jo.fy h;refine ⟨c1,ck,c3,F1,Fk,F3,rfl,rfl,h1,h2,h3,?_⟩;rw [h1.len,List.length_take,Nat.min_eq_left J]
theorem ai.ON {α:Type} [bd α] {w:World} {B n c:Nat} {xs:List α} {A:Option Addr} {F:List Nat} (h:ai w B xs [.slice A n c] F) {k:Nat} (hk:k < xs.length) :
 ∃b o ck Fk,A = some ⟨b,o,none⟩/\b∈F/\(∀x∈Fk,x∈F)/\b∉Fk/\ai w B xs[k] ck Fk/\qe w w b (o+k * bd.size α) ck Fk /\
  ∀w' x' TY,ai w' B x' TY Fk->qe w w' b (o+k * bd.size α) TY Fk->ai w' B (xs.set k x') [.slice A n c] F:=by
 obtain ⟨⟨A',c',G,ds,e,cO,bX,hc,h0⟩,hnd,dl,hplain⟩:=h;simp at e;obtain ⟨rfl,rfl,rfl⟩:=e;rcases h0 with h0 | ⟨b,o,rfl,rfl,hb,cf⟩
 ·rw [h0.1] at hk;cases hk
 obtain ⟨d1,ck,d2,G1,Fk,G2,rfl,rfl,r1,r2,r3,xm⟩:=hc.split hk;have OP:=bd.len r2;simp only [List.nodup_cons,List.nodup_append,List.mem_append,not_or] at hnd;have atq:Plain w b:=hplain b (List.mem_cons_self ..);refine ⟨b,o,ck,Fk,rfl,List.mem_cons_self ..,λx hx=>List.mem_cons_of_mem _ (by simp [hx]),hnd.1.2.1,⟨r2,hnd.2.2.1.1,λx hx=>dl x (by simp [hx]),λx hx=>hplain x (by simp [hx])⟩,⟨.refl _ _,λj u hj=>?_,λ_ _=>rfl,atq⟩,?_⟩
 ·have:=cf (k * bd.size α+j) u (by
   rw [List.getElem?_append_right J,List.getElem?_append_left (by have:=(List.getElem?_eq_some_iff.1 hj).1;omega)]
   rw [<- hj];congr 1;omega)
  rwa [Nat.add_assoc]
 ·intro w' x' TY hx hE;have pe:∀y∈G1++G2,w'.heap[y]? = w.heap[y]?:=λy hy=>by
   refine hE.bE.block y ?_ ?_
   ·rcases List.mem_append.1 hy with hy | hy
    ·exact r1.lt y hy
    ·exact r3.lt y hy
   ·intro hm;rcases List.mem_cons.1 hm with rfl | hm
    ·rcases List.mem_append.1 hy with hy | hy
     ·exact hnd.1.1 hy
     ·exact hnd.1.2.2 hy
    ·rcases List.mem_append.1 hy with hy | hy
     ·exact hnd.2.2.2 y hy y (Or.inl hm) rfl
     ·exact hnd.2.2.1.2.2 y hm y hy rfl
  have zZ:=bd.len hx.rd;refine ⟨⟨_,c,G1++(Fk++G2),d1++(TY++d2),S',by simpa using cO,bX,?_,.inr ⟨b,o,rfl,rfl,Nat.lt_of_lt_of_le hb hE.bE.size,?_⟩⟩,?_,?_,?_⟩
  ·have es:xs.set k x' = xs.take k++(x' :: xs.drop (k+1)):=List.set_eq_take_append_cons_drop.trans (if_pos hk);rw [es];exact (r1.frame (λy hy=>pe y (List.mem_append_left _ hy)) hE.bE.size).append ⟨TY,d2,Fk,G2,rfl,rfl,hx.rd,r3.frame (λy hy=>pe y (List.mem_append_right _ hy)) hE.bE.size⟩
  ·intro j u hj;by_cases W5:j < d1.length
   ·rw [List.getElem?_append_left W5] at hj;rw [hE.rest (o+j) J];exact cf j u (by rw [List.getElem?_append_left W5];exact hj)
   ·rw [List.getElem?_append_right J] at hj;by_cases DE:j - d1.length < TY.length
    ·rw [List.getElem?_append_left DE] at hj;have:=hE.cells _ u hj;rw [<- this];congr 2;omega
    ·rw [List.getElem?_append_right J] at hj;rw [hE.rest (o+j) J];refine cf j u ?_;rw [List.getElem?_append_right J,List.getElem?_append_right J];rw [<- hj];congr 1;omega
  ·simp only [List.nodup_cons,List.nodup_append,List.mem_append,not_or];exact hnd
  ·exact dl
  ·intro y hy;rcases List.mem_cons.1 hy with rfl | hy
   ·exact hE.plain
   ·rcases List.mem_append.1 hy with hy | hy
    ·rw [pe y (List.mem_append_left _ hy)];exact hplain y (by simp [hy])
    ·rcases List.mem_append.1 hy with hy | hy
     ·exact hx.plain y hy
     ·rw [pe y (List.mem_append_right _ hy)];exact hplain y (by simp [hy])
theorem ai.JA {α:Type} [bd α] {w:World} {B:Nat} {x:α} {cs:List Value} {F:List Nat} (h:ai w B x cs F) {p:Addr} (hp:p.block∉F) (u:Value):ai (w.setCell p u) B x cs F :=
 h.keep (λb hb=>Below.heap_setCell _ _ _ _ (by rintro rfl;exact hp hb)) d9
section
variable {α:Type} (mk:α->Int->α) (cnt:α->Nat)
variable {mk cnt} {xs:List α} {k:Int} {i:Nat}
end
theorem aqh (n a b:Int) (w:World):Calls Tryz.prog 52 #[.int .i64 n,.int .i64 a,.int .i64 b] w λe w'=>e = .returned (.bool (decide (a<=n)&&decide (n<=b)))/\w' = w:=by
 by_cases h1:a<=n <;> by_cases h2:n<=b
 all_goals
  go_enter Tryz.func52,Tryz.ntmps52;go_wp2;go_ret
  exact ⟨by simp [h1,h2] <;> first | rfl | omega,rfl⟩
theorem aci (s:ByteArray) (at_:Int) (w:World) (hs:(s.size:Int)<=1048576) (cD:aR at_) :
 Calls Tryz.prog 86 #[.string s,.int .i64 at_] w λe w'=>e = .returned (LB (Af s at_))/\Below w.heap.size w w':=by
 by_cases dz:at_ < 0
 ·have bb:Af s at_ = none:=by unfold Af;rw [if_pos dz]
  rw [bb];go_enter Tryz.func86,Tryz.ntmps86;go_wp2;go_returns
  exact ⟨rfl,aj _⟩
 ·obtain ⟨a,rfl⟩:=Int.eq_ofNat_of_zero_le (show 0<=at_ by omega);have bb:Af s (a:Int) = Xc s a 0 0:=by unfold Af;rw [if_neg dz];rfl
  have HF:=I bb;have x6:=cD.2;clear bb dz;by_cases tB:a < s.size
  ·have aaw:(a:Int)<=(s.size:Int) - 1:=J;go_enter Tryz.func86,Tryz.ntmps86;go_wp2_with fail
   refine (aqh (a:Int) 0 ((s.size:Int) - 1) _).mono ?_;rw [show (decide ((0:Int)<=(a:Int))&&decide ((a:Int)<=(s.size:Int) - 1)) = true by simp;omega];rintro e w3 ⟨rfl,hw⟩;simp only [hw];clear hw w3;go_wp2;go_loop [6,7] (λy z=>∃(k n:Nat),k<=9/\y = .int .i64 (n:Int)/\z = .int .i64 (k:Int)/\Hid (n < 2 ^ (7 * k))/\Hid (0 < k->a+k<=s.size)/\Hid (Xc s a 0 0 = Xc s a k n)) (λ_ z=>9 - (intOf z).toNat)
   case atStart=>exact ⟨0,0,J,rfl,rfl,by show 0 < 2 ^ (7 * 0);decide,λh=>by omega,rfl⟩
   case round =>
    obtain ⟨k,n,hk,rfl,rfl,HN,HA,HO⟩:=hrel;by_cases dc:k < 9
    ·by_cases am:a+k < s.size
     ·have GA:((a+k:Nat):Int) < s.size:=J;obtain rfl | rfl | rfl | rfl | rfl | rfl | rfl | rfl | rfl:k = 0∨k = 1∨k = 2∨k = 3∨k = 4∨k = 5∨k = 6∨k = 7∨k = 8:=by omega
      ·have Ic:(s[a].toNat:Int) < 256:=(by have:s[a].toNat < 256:=s[a].toNat_lt;omega);have Yl:0<=(s[a].toNat:Int):=J;have ie:n < 1:=(by have:=HN.out;rw [(show (2:Nat) ^ (7 * 0) = 1 by rfl)] at this;exact this);have nk:(n:Int) < 1:=J;have cS:n+s[a].toNat % 128 < 2 ^ (7 * (0+1)):=(by rw [show (2:Nat) ^ (7 * (0+1)) = 128 by rfl];omega);have hZ:IntKind.i64.wrap ((s[a].toNat:Int) % 128) = (s[a].toNat:Int) % 128:=IntWalk.i64_in _ J;have nF:IntKind.i64.wrap ((n:Int)+(s[a].toNat:Int) % 128) = (n:Int)+(s[a].toNat:Int) % 128:=IntWalk.i64_in _ J;clear ie nk;have MO:=I cS;clear cS;have HV:=I (show ((n+s[a].toNat % 128:Nat):Int) = (n:Int)+(s[a].toNat:Int) % 128 by omega);by_cases hc:s[a].toNat < 128
       ·have ee:(s[a].toNat:Int) < 128:=J;have Ie:=HO.out.trans (x9 (n:=n) dc am (by show s[a].toNat < 128;omega) (λh=>absurd h.2 (by decide)));rw [(show (2:Nat) ^ (7 * 0) = 1 by rfl),Nat.mul_one] at Ie;have HG:=I Ie;clear Ie;cases tD:((s[a].toNat:Int) == 0)
        all_goals
         go_wp2
         all_goals
          go_returns
          exact ⟨by rw [HF.out,HG.out];show _ = Ending.returned (Value.tuple #[.int .i64 ((n+s[a].toNat % 128:Nat):Int),.int .i64 ((a+0+1:Nat):Int)]);rw [HV.out];first | rfl | (push_cast;rfl) | simp,bc⟩
       ·have ee:¬(s[a].toNat:Int) < 128:=J;have Ie:=HO.out.trans (uT (n:=n) dc am (by show 128<=s[a].toNat;omega));rw [(show (2:Nat) ^ (7 * 0) = 1 by rfl),Nat.mul_one] at Ie;have HG:=I Ie;clear Ie;go_wp2;exact ⟨⟨0+1,n+s[a].toNat % 128,J,(by rw [HV.out]),N',MO.out,mu,HG.out⟩,by simp [intOf]⟩
      ·have Ic:(s[a+1].toNat:Int) < 256:=(by have:s[a+1].toNat < 256:=s[a+1].toNat_lt;omega);have Yl:0<=(s[a+1].toNat:Int):=J;have ie:n < 128:=(by have:=HN.out;rw [(show (2:Nat) ^ (7 * 1) = 128 by rfl)] at this;exact this);have nk:(n:Int) < 128:=J;have cS:n+s[a+1].toNat % 128 * 128 < 2 ^ (7 * (1+1)):=(by rw [show (2:Nat) ^ (7 * (1+1)) = 16384 by rfl];omega);have hZ:IntKind.i64.wrap ((s[a+1].toNat:Int) % 128 * 128) = (s[a+1].toNat:Int) % 128 * 128:=IntWalk.i64_in _ J;have nF:IntKind.i64.wrap ((n:Int)+(s[a+1].toNat:Int) % 128 * 128) = (n:Int)+(s[a+1].toNat:Int) % 128 * 128:=IntWalk.i64_in _ J;clear ie nk;have MO:=I cS;clear cS;have HV:=I (show ((n+s[a+1].toNat % 128 * 128:Nat):Int) = (n:Int)+(s[a+1].toNat:Int) % 128 * 128 by omega);by_cases hc:s[a+1].toNat < 128
       ·have ee:(s[a+1].toNat:Int) < 128:=J;by_cases hz:s[a+1].toNat = 0
        ·have HG:=I (HO.out.trans (wX (n:=n) dc am hz (by decide)));have eW:((s[a+1].toNat:Int) == 0) = true:=(by simp [hz]);have oS:(s[a+1].toNat:Int) = 0:=J;exact mI
        ·have Ie:=HO.out.trans (x9 (n:=n) dc am (by show s[a+1].toNat < 128;omega) (λh=>hz h.1));rw [(show (2:Nat) ^ (7 * 1) = 128 by rfl)] at Ie;have HG:=I Ie;clear Ie;have eW:((s[a+1].toNat:Int) == 0) = false:=(by rw [beq_eq_false_iff_ne];omega);clear hz;go_wp2
         all_goals
          go_returns
          exact ⟨by rw [HF.out,HG.out];show _ = Ending.returned (Value.tuple #[.int .i64 ((n+s[a+1].toNat % 128 * 128:Nat):Int),.int .i64 ((a+1+1:Nat):Int)]);rw [HV.out];first | rfl | (push_cast;rfl) | simp,bc⟩
       ·have ee:¬(s[a+1].toNat:Int) < 128:=J;have Ie:=HO.out.trans (uT (n:=n) dc am (by show 128<=s[a+1].toNat;omega));rw [(show (2:Nat) ^ (7 * 1) = 128 by rfl)] at Ie;have HG:=I Ie;clear Ie;go_wp2;exact ⟨⟨1+1,n+s[a+1].toNat % 128 * 128,J,(by rw [HV.out]),N',MO.out,mu,HG.out⟩,by simp [intOf]⟩
      ·have Ic:(s[a+2].toNat:Int) < 256:=(by have:s[a+2].toNat < 256:=s[a+2].toNat_lt;omega);have Yl:0<=(s[a+2].toNat:Int):=J;have ie:n < 16384:=(by have:=HN.out;rw [(show (2:Nat) ^ (7 * 2) = 16384 by rfl)] at this;exact this);have nk:(n:Int) < 16384:=J;have cS:n+s[a+2].toNat % 128 * 16384 < 2 ^ (7 * (2+1)):=(by rw [show (2:Nat) ^ (7 * (2+1)) = 2097152 by rfl];omega);have hZ:IntKind.i64.wrap ((s[a+2].toNat:Int) % 128 * 16384) = (s[a+2].toNat:Int) % 128 * 16384:=IntWalk.i64_in _ J;have nF:IntKind.i64.wrap ((n:Int)+(s[a+2].toNat:Int) % 128 * 16384) = (n:Int)+(s[a+2].toNat:Int) % 128 * 16384:=IntWalk.i64_in _ J;clear ie nk;have MO:=I cS;clear cS;have HV:=I (show ((n+s[a+2].toNat % 128 * 16384:Nat):Int) = (n:Int)+(s[a+2].toNat:Int) % 128 * 16384 by omega);by_cases hc:s[a+2].toNat < 128
       ·have ee:(s[a+2].toNat:Int) < 128:=J;by_cases hz:s[a+2].toNat = 0
        ·have HG:=I (HO.out.trans (wX (n:=n) dc am hz (by decide)));have eW:((s[a+2].toNat:Int) == 0) = true:=(by simp [hz]);have oS:(s[a+2].toNat:Int) = 0:=J;exact mI
        ·have Ie:=HO.out.trans (x9 (n:=n) dc am (by show s[a+2].toNat < 128;omega) (λh=>hz h.1));rw [(show (2:Nat) ^ (7 * 2) = 16384 by rfl)] at Ie;have HG:=I Ie;clear Ie;have eW:((s[a+2].toNat:Int) == 0) = false:=(by rw [beq_eq_false_iff_ne];omega);clear hz;go_wp2
         all_goals
          go_returns
          exact ⟨by rw [HF.out,HG.out];show _ = Ending.returned (Value.tuple #[.int .i64 ((n+s[a+2].toNat % 128 * 16384:Nat):Int),.int .i64 ((a+2+1:Nat):Int)]);rw [HV.out];first | rfl | (push_cast;rfl) | simp,bc⟩
       ·have ee:¬(s[a+2].toNat:Int) < 128:=J;have Ie:=HO.out.trans (uT (n:=n) dc am (by show 128<=s[a+2].toNat;omega));rw [(show (2:Nat) ^ (7 * 2) = 16384 by rfl)] at Ie;have HG:=I Ie;clear Ie;go_wp2;exact ⟨⟨2+1,n+s[a+2].toNat % 128 * 16384,J,(by rw [HV.out]),N',MO.out,mu,HG.out⟩,by simp [intOf]⟩
      ·have Ic:(s[a+3].toNat:Int) < 256:=(by have:s[a+3].toNat < 256:=s[a+3].toNat_lt;omega);have Yl:0<=(s[a+3].toNat:Int):=J;have ie:n < 2097152:=(by have:=HN.out;rw [(show (2:Nat) ^ (7 * 3) = 2097152 by rfl)] at this;exact this);have nk:(n:Int) < 2097152:=J;have cS:n+s[a+3].toNat % 128 * 2097152 < 2 ^ (7 * (3+1)):=(by rw [show (2:Nat) ^ (7 * (3+1)) = 268435456 by rfl];omega);have hZ:IntKind.i64.wrap ((s[a+3].toNat:Int) % 128 * 2097152) = (s[a+3].toNat:Int) % 128 * 2097152:=IntWalk.i64_in _ J;have nF:IntKind.i64.wrap ((n:Int)+(s[a+3].toNat:Int) % 128 * 2097152) = (n:Int)+(s[a+3].toNat:Int) % 128 * 2097152:=IntWalk.i64_in _ J;clear ie nk;have MO:=I cS;clear cS;have HV:=I (show ((n+s[a+3].toNat % 128 * 2097152:Nat):Int) = (n:Int)+(s[a+3].toNat:Int) % 128 * 2097152 by omega);by_cases hc:s[a+3].toNat < 128
       ·have ee:(s[a+3].toNat:Int) < 128:=J;by_cases hz:s[a+3].toNat = 0
        ·have HG:=I (HO.out.trans (wX (n:=n) dc am hz (by decide)));have eW:((s[a+3].toNat:Int) == 0) = true:=(by simp [hz]);have oS:(s[a+3].toNat:Int) = 0:=J;exact mI
        ·have Ie:=HO.out.trans (x9 (n:=n) dc am (by show s[a+3].toNat < 128;omega) (λh=>hz h.1));rw [(show (2:Nat) ^ (7 * 3) = 2097152 by rfl)] at Ie;have HG:=I Ie;clear Ie;have eW:((s[a+3].toNat:Int) == 0) = false:=(by rw [beq_eq_false_iff_ne];omega);clear hz;go_wp2
         all_goals
          go_returns
          exact ⟨by rw [HF.out,HG.out];show _ = Ending.returned (Value.tuple #[.int .i64 ((n+s[a+3].toNat % 128 * 2097152:Nat):Int),.int .i64 ((a+3+1:Nat):Int)]);rw [HV.out];first | rfl | (push_cast;rfl) | simp,bc⟩
       ·have ee:¬(s[a+3].toNat:Int) < 128:=J;have Ie:=HO.out.trans (uT (n:=n) dc am (by show 128<=s[a+3].toNat;omega));rw [(show (2:Nat) ^ (7 * 3) = 2097152 by rfl)] at Ie;have HG:=I Ie;clear Ie;go_wp2;exact ⟨⟨3+1,n+s[a+3].toNat % 128 * 2097152,J,(by rw [HV.out]),N',MO.out,mu,HG.out⟩,by simp [intOf]⟩
      ·have Ic:(s[a+4].toNat:Int) < 256:=(by have:s[a+4].toNat < 256:=s[a+4].toNat_lt;omega);have Yl:0<=(s[a+4].toNat:Int):=J;have ie:n < 268435456:=(by have:=HN.out;rw [(show (2:Nat) ^ (7 * 4) = 268435456 by rfl)] at this;exact this);have nk:(n:Int) < 268435456:=J;have cS:n+s[a+4].toNat % 128 * 268435456 < 2 ^ (7 * (4+1)):=(by rw [show (2:Nat) ^ (7 * (4+1)) = 34359738368 by rfl];omega);have hZ:IntKind.i64.wrap ((s[a+4].toNat:Int) % 128 * 268435456) = (s[a+4].toNat:Int) % 128 * 268435456:=IntWalk.i64_in _ J;have nF:IntKind.i64.wrap ((n:Int)+(s[a+4].toNat:Int) % 128 * 268435456) = (n:Int)+(s[a+4].toNat:Int) % 128 * 268435456:=IntWalk.i64_in _ J;clear ie nk;have MO:=I cS;clear cS;have HV:=I (show ((n+s[a+4].toNat % 128 * 268435456:Nat):Int) = (n:Int)+(s[a+4].toNat:Int) % 128 * 268435456 by omega);by_cases hc:s[a+4].toNat < 128
       ·have ee:(s[a+4].toNat:Int) < 128:=J;by_cases hz:s[a+4].toNat = 0
        ·have HG:=I (HO.out.trans (wX (n:=n) dc am hz (by decide)));have eW:((s[a+4].toNat:Int) == 0) = true:=(by simp [hz]);have oS:(s[a+4].toNat:Int) = 0:=J;exact mI
        ·have Ie:=HO.out.trans (x9 (n:=n) dc am (by show s[a+4].toNat < 128;omega) (λh=>hz h.1));rw [(show (2:Nat) ^ (7 * 4) = 268435456 by rfl)] at Ie;have HG:=I Ie;clear Ie;have eW:((s[a+4].toNat:Int) == 0) = false:=(by rw [beq_eq_false_iff_ne];omega);clear hz;go_wp2
         all_goals
          go_returns
          exact ⟨by rw [HF.out,HG.out];show _ = Ending.returned (Value.tuple #[.int .i64 ((n+s[a+4].toNat % 128 * 268435456:Nat):Int),.int .i64 ((a+4+1:Nat):Int)]);rw [HV.out];first | rfl | (push_cast;rfl) | simp,bc⟩
       ·have ee:¬(s[a+4].toNat:Int) < 128:=J;have Ie:=HO.out.trans (uT (n:=n) dc am (by show 128<=s[a+4].toNat;omega));rw [(show (2:Nat) ^ (7 * 4) = 268435456 by rfl)] at Ie;have HG:=I Ie;clear Ie;go_wp2;exact ⟨⟨4+1,n+s[a+4].toNat % 128 * 268435456,J,(by rw [HV.out]),N',MO.out,mu,HG.out⟩,by simp [intOf]⟩
      ·have Ic:(s[a+5].toNat:Int) < 256:=(by have:s[a+5].toNat < 256:=s[a+5].toNat_lt;omega);have Yl:0<=(s[a+5].toNat:Int):=J;have ie:n < 34359738368:=(by have:=HN.out;rw [(show (2:Nat) ^ (7 * 5) = 34359738368 by rfl)] at this;exact this);have nk:(n:Int) < 34359738368:=J;have cS:n+s[a+5].toNat % 128 * 34359738368 < 2 ^ (7 * (5+1)):=(by rw [show (2:Nat) ^ (7 * (5+1)) = 4398046511104 by rfl];omega);have hZ:IntKind.i64.wrap ((s[a+5].toNat:Int) % 128 * 34359738368) = (s[a+5].toNat:Int) % 128 * 34359738368:=IntWalk.i64_in _ J;have nF:IntKind.i64.wrap ((n:Int)+(s[a+5].toNat:Int) % 128 * 34359738368) = (n:Int)+(s[a+5].toNat:Int) % 128 * 34359738368:=IntWalk.i64_in _ J;clear ie nk;have MO:=I cS;clear cS;have HV:=I (show ((n+s[a+5].toNat % 128 * 34359738368:Nat):Int) = (n:Int)+(s[a+5].toNat:Int) % 128 * 34359738368 by omega);by_cases hc:s[a+5].toNat < 128
       ·have ee:(s[a+5].toNat:Int) < 128:=J;by_cases hz:s[a+5].toNat = 0
        ·have HG:=I (HO.out.trans (wX (n:=n) dc am hz (by decide)));have eW:((s[a+5].toNat:Int) == 0) = true:=(by simp [hz]);have oS:(s[a+5].toNat:Int) = 0:=J;exact mI
        ·have Ie:=HO.out.trans (x9 (n:=n) dc am (by show s[a+5].toNat < 128;omega) (λh=>hz h.1));rw [(show (2:Nat) ^ (7 * 5) = 34359738368 by rfl)] at Ie;have HG:=I Ie;clear Ie;have eW:((s[a+5].toNat:Int) == 0) = false:=(by rw [beq_eq_false_iff_ne];omega);clear hz;go_wp2
         all_goals
          go_returns
          exact ⟨by rw [HF.out,HG.out];show _ = Ending.returned (Value.tuple #[.int .i64 ((n+s[a+5].toNat % 128 * 34359738368:Nat):Int),.int .i64 ((a+5+1:Nat):Int)]);rw [HV.out];first | rfl | (push_cast;rfl) | simp,bc⟩
       ·have ee:¬(s[a+5].toNat:Int) < 128:=J;have Ie:=HO.out.trans (uT (n:=n) dc am (by show 128<=s[a+5].toNat;omega));rw [(show (2:Nat) ^ (7 * 5) = 34359738368 by rfl)] at Ie;have HG:=I Ie;clear Ie;go_wp2;exact ⟨⟨5+1,n+s[a+5].toNat % 128 * 34359738368,J,(by rw [HV.out]),N',MO.out,mu,HG.out⟩,by simp [intOf]⟩
      ·have Ic:(s[a+6].toNat:Int) < 256:=(by have:s[a+6].toNat < 256:=s[a+6].toNat_lt;omega);have Yl:0<=(s[a+6].toNat:Int):=J;have ie:n < 4398046511104:=(by have:=HN.out;rw [(show (2:Nat) ^ (7 * 6) = 4398046511104 by rfl)] at this;exact this);have nk:(n:Int) < 4398046511104:=J;have cS:n+s[a+6].toNat % 128 * 4398046511104 < 2 ^ (7 * (6+1)):=(by rw [show (2:Nat) ^ (7 * (6+1)) = 562949953421312 by rfl];omega);have hZ:IntKind.i64.wrap ((s[a+6].toNat:Int) % 128 * 4398046511104) = (s[a+6].toNat:Int) % 128 * 4398046511104:=IntWalk.i64_in _ J;have nF:IntKind.i64.wrap ((n:Int)+(s[a+6].toNat:Int) % 128 * 4398046511104) = (n:Int)+(s[a+6].toNat:Int) % 128 * 4398046511104:=IntWalk.i64_in _ J;clear ie nk;have MO:=I cS;clear cS;have HV:=I (show ((n+s[a+6].toNat % 128 * 4398046511104:Nat):Int) = (n:Int)+(s[a+6].toNat:Int) % 128 * 4398046511104 by omega);by_cases hc:s[a+6].toNat < 128
       ·have ee:(s[a+6].toNat:Int) < 128:=J;by_cases hz:s[a+6].toNat = 0
        ·have HG:=I (HO.out.trans (wX (n:=n) dc am hz (by decide)));have eW:((s[a+6].toNat:Int) == 0) = true:=(by simp [hz]);have oS:(s[a+6].toNat:Int) = 0:=J;exact mI
        ·have Ie:=HO.out.trans (x9 (n:=n) dc am (by show s[a+6].toNat < 128;omega) (λh=>hz h.1));rw [(show (2:Nat) ^ (7 * 6) = 4398046511104 by rfl)] at Ie;have HG:=I Ie;clear Ie;have eW:((s[a+6].toNat:Int) == 0) = false:=(by rw [beq_eq_false_iff_ne];omega);clear hz;go_wp2
         all_goals
          go_returns
          exact ⟨by rw [HF.out,HG.out];show _ = Ending.returned (Value.tuple #[.int .i64 ((n+s[a+6].toNat % 128 * 4398046511104:Nat):Int),.int .i64 ((a+6+1:Nat):Int)]);rw [HV.out];first | rfl | (push_cast;rfl) | simp,bc⟩
       ·have ee:¬(s[a+6].toNat:Int) < 128:=J;have Ie:=HO.out.trans (uT (n:=n) dc am (by show 128<=s[a+6].toNat;omega));rw [(show (2:Nat) ^ (7 * 6) = 4398046511104 by rfl)] at Ie;have HG:=I Ie;clear Ie;go_wp2;exact ⟨⟨6+1,n+s[a+6].toNat % 128 * 4398046511104,J,(by rw [HV.out]),N',MO.out,mu,HG.out⟩,by simp [intOf]⟩
      ·have Ic:(s[a+7].toNat:Int) < 256:=(by have:s[a+7].toNat < 256:=s[a+7].toNat_lt;omega);have Yl:0<=(s[a+7].toNat:Int):=J;have ie:n < 562949953421312:=(by have:=HN.out;rw [(show (2:Nat) ^ (7 * 7) = 562949953421312 by rfl)] at this;exact this);have nk:(n:Int) < 562949953421312:=J;have cS:n+s[a+7].toNat % 128 * 562949953421312 < 2 ^ (7 * (7+1)):=(by rw [show (2:Nat) ^ (7 * (7+1)) = 72057594037927936 by rfl];omega);have hZ:IntKind.i64.wrap ((s[a+7].toNat:Int) % 128 * 562949953421312) = (s[a+7].toNat:Int) % 128 * 562949953421312:=IntWalk.i64_in _ J;have nF:IntKind.i64.wrap ((n:Int)+(s[a+7].toNat:Int) % 128 * 562949953421312) = (n:Int)+(s[a+7].toNat:Int) % 128 * 562949953421312:=IntWalk.i64_in _ J;clear ie nk;have MO:=I cS;clear cS;have HV:=I (show ((n+s[a+7].toNat % 128 * 562949953421312:Nat):Int) = (n:Int)+(s[a+7].toNat:Int) % 128 * 562949953421312 by omega);by_cases hc:s[a+7].toNat < 128
       ·have ee:(s[a+7].toNat:Int) < 128:=J;by_cases hz:s[a+7].toNat = 0
        ·have HG:=I (HO.out.trans (wX (n:=n) dc am hz (by decide)));have eW:((s[a+7].toNat:Int) == 0) = true:=(by simp [hz]);have oS:(s[a+7].toNat:Int) = 0:=J;exact mI
        ·have Ie:=HO.out.trans (x9 (n:=n) dc am (by show s[a+7].toNat < 128;omega) (λh=>hz h.1));rw [(show (2:Nat) ^ (7 * 7) = 562949953421312 by rfl)] at Ie;have HG:=I Ie;clear Ie;have eW:((s[a+7].toNat:Int) == 0) = false:=(by rw [beq_eq_false_iff_ne];omega);clear hz;go_wp2
         all_goals
          go_returns
          exact ⟨by rw [HF.out,HG.out];show _ = Ending.returned (Value.tuple #[.int .i64 ((n+s[a+7].toNat % 128 * 562949953421312:Nat):Int),.int .i64 ((a+7+1:Nat):Int)]);rw [HV.out];first | rfl | (push_cast;rfl) | simp,bc⟩
       ·have ee:¬(s[a+7].toNat:Int) < 128:=J;have Ie:=HO.out.trans (uT (n:=n) dc am (by show 128<=s[a+7].toNat;omega));rw [(show (2:Nat) ^ (7 * 7) = 562949953421312 by rfl)] at Ie;have HG:=I Ie;clear Ie;go_wp2;exact ⟨⟨7+1,n+s[a+7].toNat % 128 * 562949953421312,J,(by rw [HV.out]),N',MO.out,mu,HG.out⟩,by simp [intOf]⟩
      ·have Ic:(s[a+8].toNat:Int) < 256:=(by have:s[a+8].toNat < 256:=s[a+8].toNat_lt;omega);have Yl:0<=(s[a+8].toNat:Int):=J;have ie:n < 72057594037927936:=(by have:=HN.out;rw [(show (2:Nat) ^ (7 * 8) = 72057594037927936 by rfl)] at this;exact this);have nk:(n:Int) < 72057594037927936:=J;have cS:n+s[a+8].toNat % 128 * 72057594037927936 < 2 ^ (7 * (8+1)):=(by rw [show (2:Nat) ^ (7 * (8+1)) = 9223372036854775808 by rfl];omega);have hZ:IntKind.i64.wrap ((s[a+8].toNat:Int) % 128 * 72057594037927936) = (s[a+8].toNat:Int) % 128 * 72057594037927936:=IntWalk.i64_in _ J;have nF:IntKind.i64.wrap ((n:Int)+(s[a+8].toNat:Int) % 128 * 72057594037927936) = (n:Int)+(s[a+8].toNat:Int) % 128 * 72057594037927936:=IntWalk.i64_in _ J;clear ie nk;have MO:=I cS;clear cS;have HV:=I (show ((n+s[a+8].toNat % 128 * 72057594037927936:Nat):Int) = (n:Int)+(s[a+8].toNat:Int) % 128 * 72057594037927936 by omega);by_cases hc:s[a+8].toNat < 128
       ·have ee:(s[a+8].toNat:Int) < 128:=J;by_cases hz:s[a+8].toNat = 0
        ·have HG:=I (HO.out.trans (wX (n:=n) dc am hz (by decide)));have eW:((s[a+8].toNat:Int) == 0) = true:=(by simp [hz]);have oS:(s[a+8].toNat:Int) = 0:=J;exact mI
        ·have Ie:=HO.out.trans (x9 (n:=n) dc am (by show s[a+8].toNat < 128;omega) (λh=>hz h.1));rw [(show (2:Nat) ^ (7 * 8) = 72057594037927936 by rfl)] at Ie;have HG:=I Ie;clear Ie;have eW:((s[a+8].toNat:Int) == 0) = false:=(by rw [beq_eq_false_iff_ne];omega);clear hz;go_wp2
         all_goals
          go_returns
          exact ⟨by rw [HF.out,HG.out];show _ = Ending.returned (Value.tuple #[.int .i64 ((n+s[a+8].toNat % 128 * 72057594037927936:Nat):Int),.int .i64 ((a+8+1:Nat):Int)]);rw [HV.out];first | rfl | (push_cast;rfl) | simp,bc⟩
       ·have ee:¬(s[a+8].toNat:Int) < 128:=J;have Ie:=HO.out.trans (uT (n:=n) dc am (by show 128<=s[a+8].toNat;omega));rw [(show (2:Nat) ^ (7 * 8) = 72057594037927936 by rfl)] at Ie;have HG:=I Ie;clear Ie;go_wp2;exact ⟨⟨8+1,n+s[a+8].toNat % 128 * 72057594037927936,J,(by rw [HV.out]),N',MO.out,mu,HG.out⟩,by simp [intOf]⟩
     ·have HG:=I (HO.out.trans (UH (λh=>am h.2)));have GA:¬((a:Int)+k) < s.size:=J;exact DD
    ·have HG:=I (HO.out.trans (UH (λh=>dc h.1)));have aav:¬(k:Int) < 9:=J;exact DD
  ·have HG:=I (UH (s:=s) (a:=a) (k:=0) (n:=0) (λh=>tB h.2));have aaw:¬(a:Int)<=(s.size:Int) - 1:=J;have hd:decide ((a:Int)<=(s.size:Int) - 1) = false:=(by simp;omega);go_enter Tryz.func86,Tryz.ntmps86;exact DD
end Go.Proofs.YtjahcnjmjahbaaaGreat
