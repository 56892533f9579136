/- How Go's data read in a world: 'rd w x cs F': the cells cs read as x, through the blocks F. No condition. -/
import Derived.Test.YtajbbmembionpaaGreatFrame
namespace Go.Proofs.YtajbbmembionpaaGreat
open Go.ChangeShapes Go.WideShapes Go.ChangeAt Go.RowKit
set_option linter.unusedVariables false
set_option linter.unusedSimpArgs false
def bt (n:Int):Prop:=-9223372036854775808≤n∧n≤9223372036854775807
class bb (α:Type) where
 size:Nat
 pos:0 < size
 rd:World→α→List Value→List Nat→Prop
 len:∀{w a cs F},rd w a cs F→cs.length = size
 one:∀{w a cs F},rd w a cs F→∀u∈cs,u.oneCell' = true
 lt:∀{w a cs F},rd w a cs F→∀b∈F,b < w.heap.size
 frame:∀{w w':World} {a cs F},rd w a cs F→(∀b∈F,w'.heap[b]? = w.heap[b]?)→w.heap.size≤w'.heap.size→rd w' a cs F
export bb (rd)
instance:bb Int where
 size:=1
 pos:=by omega
 rd _ n cs F:=cs = [.int .i64 n]∧F = []∧bt n
 len h:=by rw [h.1];rfl
 one h:=by rw [h.1];intro u hu;simp at hu;subst hu;rfl
 lt h:=by rw [h.2.1];intro b U;cases U
 frame h _ _:=h
instance:bb Bool where
 size:=1
 pos:=by omega
 rd _ n cs F:=cs = [.bool n]∧F = []
 len h:=by rw [h.1];rfl
 one h:=by rw [h.1];intro u hu;simp at hu;subst hu;rfl
 lt h:=by rw [h.2];intro b U;cases U
 frame h _ _:=h
instance:bb ByteArray where
 size:=1
 pos:=by omega
 rd _ n cs F:=cs = [.string n]∧F = []∧n.size≤maxLen
 len h:=by rw [h.1];rfl
 one h:=by rw [h.1];intro u hu;simp at hu;subst hu;rfl
 lt h:=by rw [h.2.1];intro b U;cases U
 frame h _ _:=h
instance {α β:Type} [bb α] [bb β]:bb (α × β) where
 size:=bb.size α+bb.size β
 pos:=by have:=bb.pos (α:=α);omega
 rd w x cs F:=∃c1 c2 F1 F2,cs = c1++c2∧F = F1++F2∧rd w x.1 c1 F1∧rd w x.2 c2 F2
 len h:=by obtain ⟨c1,c2,F1,F2,rfl,rfl,Z,h2⟩:=h;rw [List.length_append,bb.len Z,bb.len h2]
 one h:=by
  obtain ⟨c1,c2,F1,F2,rfl,rfl,Z,h2⟩:=h;intro u hu;rcases List.mem_append.1 hu with hu | hu
  ·exact bb.one Z u hu
  ·exact bb.one h2 u hu
 lt h:=by
   obtain ⟨c1,c2,F1,F2,rfl,rfl,Z,h2⟩:=h;intro b U;rcases List.mem_append.1 U with U | U
   ·exact bb.lt Z b U
   ·exact bb.lt h2 b U
 frame h hk hz:=by
  obtain ⟨c1,c2,F1,F2,rfl,rfl,Z,h2⟩:=h;exact ⟨c1,c2,F1,F2,rfl,rfl,bb.frame Z (fun b U=>hk b (List.mem_append_left _ U)) hz,bb.frame h2 (fun b U=>hk b (List.mem_append_right _ U)) hz⟩
@[reducible] def bb.mq {α β:Type} (f:α→β) [bb β]:bb α where
  size:=bb.size β
  pos:=bb.pos
  rd w x:=rd w (f x)
  len h:=bb.len h
  one h:=bb.one h
  lt h:=bb.lt h
  frame h:=bb.frame h
def jo {α:Type} [bb α] (w:World):List α→List Value→List Nat→Prop
 | [],cs,F=>cs = []∧F = []
 | x :: xs,cs,F=>∃c1 c2 F1 F2,cs = c1++c2∧F = F1++F2∧rd w x c1 F1∧jo w xs c2 F2
section
variable {α:Type} [bb α]
theorem jo.len {w:World} : ∀{xs:List α} {cs:List Value} {F:List Nat},jo w xs cs F→cs.length = xs.length * bb.size α
 | [],_,_,h=>by rw [h.1];simp
 | x :: xs,_,_,⟨c1,c2,F1,F2,rfl,rfl,Z,h2⟩=>by
   rw [List.length_append,bb.len Z,jo.len h2,List.length_cons,Nat.succ_mul];omega
theorem jo.one {w:World} : ∀{xs:List α} {cs:List Value} {F:List Nat},jo w xs cs F→∀u∈cs,u.oneCell' = true
 | [],_,_,h=>by rw [h.1];intro u hu;cases hu
 | x :: xs,_,_,⟨c1,c2,F1,F2,rfl,rfl,Z,h2⟩=>by
   intro u hu;rcases List.mem_append.1 hu with hu | hu
   ·exact bb.one Z u hu
   ·exact jo.one h2 u hu
theorem jo.lt {w:World} : ∀{xs:List α} {cs:List Value} {F:List Nat},jo w xs cs F→∀b∈F,b < w.heap.size
 | [],_,_,h=>by rw [h.2];intro b U;cases U
 | x :: xs,_,_,⟨c1,c2,F1,F2,rfl,rfl,Z,h2⟩=>by
   intro b U;rcases List.mem_append.1 U with U | U
   ·exact bb.lt Z b U
   ·exact jo.lt h2 b U
theorem jo.frame {w w':World} : ∀{xs:List α} {cs:List Value} {F:List Nat},jo w xs cs F→(∀b∈F,w'.heap[b]? = w.heap[b]?)→w.heap.size≤w'.heap.size→jo w' xs cs F
 | [],_,_,h,_,_=>h
 | x :: xs,_,_,⟨c1,c2,F1,F2,rfl,rfl,Z,h2⟩,hk,hz =>⟨c1,c2,F1,F2,rfl,rfl,bb.frame Z (fun b U=>hk b (List.mem_append_left _ U)) hz,jo.frame h2 (fun b U=>hk b (List.mem_append_right _ U)) hz⟩
theorem jo.append {w:World} : ∀{xs ys:List α} {c1 c2:List Value} {F1 F2:List Nat},jo w xs c1 F1→jo w ys c2 F2→jo w (xs++ys) (c1++c2) (F1++F2)
 | [],_,_,_,_,_,⟨rfl,rfl⟩,h2=>h2
 | x :: xs,ys,_,c2,_,F2,⟨d1,d2,G1,G2,rfl,rfl,Z,h2⟩,h3 =>⟨d1,d2++c2,G1,G2++F2,S',S',Z,jo.append h2 h3⟩
theorem jo.single {w:World} {x:α} {cs:List Value} {F:List Nat} (h:rd w x cs F):jo w [x] cs F:=⟨cs,[],F,[],S',S',h,rfl,rfl⟩
theorem jo.fJ {w:World} : ∀{xs ys:List α} {cs:List Value} {F:List Nat},jo w (xs++ys) cs F→∃c1 c2 F1 F2,cs = c1++c2∧F = F1++F2∧jo w xs c1 F1∧jo w ys c2 F2
 | [],_,cs,F,h=>⟨[],cs,[],F,rfl,rfl,⟨rfl,rfl⟩,h⟩
 | x :: xs,ys,_,_,⟨d1,d2,G1,G2,rfl,rfl,Z,h2⟩=>by
   obtain ⟨e1,e2,H1,H2,rfl,rfl,h3,h4⟩:=jo.fJ h2;exact ⟨d1++e1,e2,G1++H1,H2,S',S',⟨d1,e1,G1,H1,rfl,rfl,Z,h3⟩,h4⟩
theorem jo.get {w:World} {xs:List α} {cs:List Value} {F:List Nat} (h:jo w xs cs F) {k:Nat} (hk:k < xs.length) :
 ∃ck Fk,rd w xs[k] ck Fk∧(∀b∈Fk,b∈F)∧∀j,j < bb.size α→cs[k * bb.size α+j]? = ck[j]?:=by
 have e:xs = xs.take k++(xs[k] :: xs.drop (k+1)):=by rw [List.getElem_cons_drop,List.take_append_drop]
 rw [e] at h;obtain ⟨c1,c2,F1,F2,rfl,rfl,Z,ck,c3,Fk,F3,rfl,rfl,h2,h3⟩:=jo.fJ h;have hl:=Z.len;rw [List.length_take,Nat.min_eq_left J] at hl;refine ⟨ck,Fk,h2,fun b U=>by simp [U],fun j hj=>?_⟩;rw [List.getElem?_append_right J,List.getElem?_append_left (by have:=bb.len h2;omega)];congr 1;omega
end
theorem rV {s:ByteArray} (h:s.size≤maxLen):(s.size:Int)≤9223372036854775807:=by unfold maxLen at h;omega
theorem ed (w:World) (s:ByteArray) (h:(s.size:Int)≤9223372036854775807):rd w s [.string s] []:=⟨rfl,rfl,by unfold maxLen;omega⟩
theorem jL (w:World) (n:Int) (h:bt n):rd w n [.int .i64 n] []:=⟨rfl,rfl,h⟩
instance {α:Type} [bb α]:bb (List α) where
 size:=1
 pos:=by omega
 rd w xs cs F:=∃A c G ds,cs = [.slice A xs.length c]∧xs.length≤c∧c≤maxLen∧jo w xs ds G ∧
   ((xs = []∧F = [])∨∃b o,A = some ⟨b,o,none⟩∧F = b :: G∧b < w.heap.size∧∀j u,ds[j]? = some u→w.cell? ⟨b,o+j,none⟩ = some u)
 len h:=by obtain ⟨A,c,G,ds,rfl,_⟩:=h;rfl
 one h:=by obtain ⟨A,c,G,ds,rfl,_⟩:=h;intro u hu;simp at hu;subst hu;rfl
 lt h:=by
   obtain ⟨A,c,G,ds,rfl,_,_,hc,h | ⟨b,o,rfl,rfl,U,_⟩⟩:=h
   ·rw [h.2];intro b U;cases U
   ·intro x hx;rcases List.mem_cons.1 hx with rfl | hx
    ·exact U
    ·exact hc.lt x hx
 frame h hk hz:=by
  obtain ⟨A,c,G,ds,rfl,Z,h2,hc,h | ⟨b,o,rfl,rfl,U,bJ⟩⟩:=h
  ·obtain ⟨rfl,rfl⟩:=h;obtain ⟨rfl,rfl⟩:=hc;exact ⟨A,c,[],[],rfl,Z,h2,⟨rfl,rfl⟩,.inl ⟨rfl,rfl⟩⟩
  ·refine ⟨_,c,G,ds,rfl,Z,h2,hc.frame (fun x hx=>hk x (List.mem_cons_of_mem _ hx)) hz,.inr ⟨b,o,rfl,rfl,Nat.lt_of_lt_of_le U hz,fun j u hu=>?_⟩⟩;rw [← bJ j u hu];exact World.cell?_of_block (hk b (List.mem_cons_self ..))
def Sl {α:Type} [bb α] (w:World) (xs:List α) (A:Option Addr) (c:Nat) (F:List Nat):Prop:=rd w xs [.slice A xs.length c] F
section
variable {α:Type} [bb α] {w w':World} {xs:List α} {A:Option Addr} {c:Nat} {F:List Nat}
theorem jB {v:List Value} (h:rd w xs v F):∃A c,v = [.slice A xs.length c]∧Sl w xs A c F:=by
 have h0:=h;obtain ⟨A,c,G,ds,rfl,_⟩:=h;exact ⟨A,c,rfl,h0⟩
theorem Sl.lt (h:Sl w xs A c F):∀b∈F,b < w.heap.size:=bb.lt h
theorem Sl.frame (h:Sl w xs A c F) (hk:∀b∈F,w'.heap[b]? = w.heap[b]?) (hz:w.heap.size≤w'.heap.size):Sl w' xs A c F:=bb.frame h hk hz
theorem Sl.aE {B:Nat} (h:Sl w xs A c F) (U:Below B w w') (hB:∀b∈F,b < B):Sl w' xs A c F:=h.frame (fun b eo=>U.block b (hB b eo)) U.size
theorem Sl.ext (h:Sl w xs A c F) (U:Below w.heap.size w w'):Sl w' xs A c F:=h.aE U h.lt
theorem Sl.ar (h:Sl w xs A c F):xs.length≤c∧c≤maxLen:=by
 obtain ⟨A',c',G,ds,e,Z,h2,_⟩:=h;simp at e;obtain ⟨_,rfl⟩:=e;exact ⟨Z,h2⟩
theorem Sl.get (h:Sl w xs A c F) {k:Nat} (hk:k < xs.length) :
 ∃b o ck Fk,A = some ⟨b,o,none⟩∧b∈F∧b < w.heap.size∧rd w xs[k] ck Fk∧(∀x∈Fk,x∈F)∧∀j u,ck[j]? = some u→w.cell? ⟨b,o+(k * bb.size α+j),none⟩ = some u:=by
 obtain ⟨A',c',G,ds,e,_,_,hc,h | ⟨b,o,rfl,rfl,U,bJ⟩⟩:=h
 ·rw [h.1] at hk;cases hk
 ·simp at e;obtain ⟨rfl,rfl⟩:=e;obtain ⟨ck,Fk,hr,hs,hj⟩:=hc.get hk;refine ⟨b,o,ck,Fk,rfl,List.mem_cons_self ..,U,hr,fun x hx=>List.mem_cons_of_mem _ (hs x hx),fun j u hu=>bJ _ u ?_⟩;rw [hj j (by rw [← bb.len hr];exact (List.getElem?_eq_some_iff.1 hu).1)];exact hu
theorem Sl.nil (w:World) (A:Option Addr) (c:Nat) (hc:c≤maxLen):Sl w ([]:List α) A c []:=⟨A,c,[],[],rfl,Nat.zero_le _,hc,⟨rfl,rfl⟩,.inl ⟨rfl,rfl⟩⟩
end
structure ao where
 key:ByteArray
 value:ByteArray
instance:bb ao:=bb.mq fun l=>(l.key,l.value)
structure DL (P:Program) (t e:TypeId) (z:Value) (size bytes:Nat):Prop where
 ht:P.underlying t = some (.slice e)
 Yx:(P.info? e).map (fun i=>(i.zero,i.size,i.bytes)) = some (some z,size,bytes)
 j6:z.cells.size = size
 fX:0 < size
theorem lS {B size:Nat} {w0 w w':World} {v:Value} {e:TypeId} {n:Nat} {xs:List Value} (bi:w.ownsRow B e size v n xs) (hg:w.grownBy w' v.ownBlock) (U:Below B w0 w) (hB:B≤w.heap.size):Below B w0 w' :=
 U.grown hg hB fun k hk=>(bi.lt k hk).1
def B8 (u:UInt8):Value:=.int .u8 (u.toNat:Int)
section
variable {P:Program} {t e:TypeId} {z:Value} {size bytes:Nat}
theorem lC (hE:DL P t e z size bytes) {ops:Array Oper} {rest:List Oper} {o:Oper} {a:Act} {Q:Exit→Act→World→Prop} (rR:o.guard = none) (s x:Operand)
 (ho:o.op = .call { callee:=.builtin .append,args:=#[s,x],argTypes:=#[t,t] })
 (w:World) (base:Nat) (v:Value) (n:Nat) (xs:List Value) (bi:w.ownsRow base e size v n xs) (hs:a.eval s = v)
 (cs:List Value) (hx:a.eval x = .slice (some ⟨w.heap.size,0,none⟩) 1 1) (hl:cs.length = size) (Z:∀u∈cs,u.oneCell' = true)
 (X:n≤2097152) (lU:bytes≤4096) (db:base≤w.heap.size)
 (h:∀v' w',w'.ownsRow base e size v' (n+1) (xs++cs)→w.grownBy w' v.ownBlock→w.heap.size+1≤w'.heap.size→wpList P ops Q rest (a.put o.dst v') w'):wpList P ops Q (o :: rest) a (w.alloc (.cells cs.toArray e)):=by
 obtain ⟨ht,hi0,j6,fX⟩:=hE;obtain ⟨i,hi,hz,hsize,U⟩:=info_parts hi0;have iP:(n+1) * bytes≤2097153 * 4096:=Nat.mul_le_mul J lU;refine wpList_append_own (w.alloc (.cells cs.toArray e)) rR s x t ho base e i z size bytes ht hi hz hsize U j6 fX v n xs hs (bi.alloc _) ⟨w.heap.size,0,none⟩ 1 1 cs hx J ?_ Z j4 J (by simp;omega) ?_
 ·exact xy
 ·intro v' w' lV hg _;refine h v' w' lV ⟨hg.os,hg.tape,hg.output,Nat.le_trans S' hg.size,fun k hk bX=>?_⟩ RS;rw [hg.block k (by simp;omega) bX];exact Below.heap_alloc _ _ _ hk
theorem j7 (hE:DL P t e z size bytes) (lU:bytes≤4096) (n:Nat) (X:n≤2097152) (w:World) :
 (Instr.makeSlice t (.int .i64 (n:Int)) (.int .i64 (n:Int))).run P w = .ok (.slice (some ⟨w.heap.size,0,none⟩) n n) (w.alloc (.cells (madeCells z.cells (n * size)) e)):=by
 obtain ⟨ht,hi0,j6,fX⟩:=hE;obtain ⟨i,hi,hz,hsize,U⟩:=info_parts hi0;have iP:bytes * n≤4096 * 2097152:=Nat.mul_le_mul lU X;have h:((i.bytes * n:Nat):Int)≤281474976710656:=by rw [U];omega
 have hr:=run_make (P:=P) w t e i z ht hi hz .i64 .i64 n n J J (by rwa [Int.natCast_mul] at h) J;simp only [Int.toNat_natCast] at hr;rw [hsize] at hr;exact hr
end
def dc (w:World) (g:Nat) (t:TypeId) (N:Nat) (ds:List Value):Prop:=∃cs:Array Value,w.heap[g]? = some (.cells cs t (0,0))∧cs.size = N∧ds.length≤N∧∀(j:Nat) (u:Value),ds[j]? = some u→cs[j]? = some u
section
variable {w w':World} {g:Nat} {t:TypeId} {N:Nat} {ds:List Value}
theorem dc.lt (h:dc w g t N ds):g < w.heap.size:=by
 obtain ⟨cs,h,_⟩:=h;rcases Nat.lt_or_ge g w.heap.size with av | nB
 ·exact av
 ·rw [Array.getElem?_eq_none nB] at h;cases h
theorem dc.cell (h:dc w g t N ds) {i:Nat} (hi:i < N):∃u,w.cell? ⟨g,i,none⟩ = some u:=by
 obtain ⟨cs,h,rfl,_⟩:=h;exact ⟨cs[i],by rw [cell_of_row w g i cs t (0,0) h];exact Array.getElem?_eq_getElem hi⟩
theorem dc.frozen (h:dc w g t N ds) (i:Nat):w.frozen? ⟨g,i,none⟩ = false:=by
 obtain ⟨cs,h,_⟩:=h;simp [World.frozen?,h]
theorem dc.bm (h:dc w g t N ds) (hk:w'.heap[g]? = w.heap[g]?):dc w' g t N ds:=by
 obtain ⟨cs,h,r⟩:=h;exact ⟨cs,by rw [hk];exact h,r⟩
theorem dc.store (h:dc w g t N ds) (u:Value) (hi:ds.length < N):dc (w.setCell ⟨g,ds.length,none⟩ u) g t N (ds++[u]):=by
 obtain ⟨cs,h,rfl,hl,hc⟩:=h;refine ⟨cs.setIfInBounds ds.length u,?_,S',by simp;omega,fun j v hv=>?_⟩
 ·simp [World.setCell,Array.getElem?_modify,h]
 ·by_cases hj:j < ds.length
  ·rw [Array.getElem?_setIfInBounds_ne J];exact hc j v (by rwa [List.getElem?_append_left hj] at hv)
  ·have mr:j = ds.length:=by
    have:=(List.getElem?_eq_some_iff.1 hv).1;simp at this;omega
   subst mr;simp at hv;subst hv;rw [Array.getElem?_setIfInBounds_self_of_lt hi]
theorem dc.cells (h:dc w g t N ds):∀j u,ds[j]? = some u→w.cell? ⟨g,0+j,none⟩ = some u:=by
 obtain ⟨cs,h,_,_,hc⟩:=h;intro j u hu;rw [Nat.zero_add,cell_of_row w g j cs t (0,0) h];exact hc j u hu
end
structure am {α:Type} [bb α] (w:World) (B:Nat) (x:α) (cs:List Value) (F:List Nat):Prop where
 rd:rd w x cs F
 nodup:F.Nodup
 base:∀b∈F,B≤b
 plain:∀b∈F,∃ds t,w.heap[b]? = some (.cells ds t (0,0))
section
variable {α:Type} [bb α] {w w':World} {B:Nat} {x:α} {cs:List Value} {F:List Nat}
theorem am.lt (h:am w B x cs F):∀b∈F,b < w.heap.size:=bb.lt h.rd
theorem am.bm (h:am w B x cs F) (hk:∀b∈F,w'.heap[b]? = w.heap[b]?) (hz:w.heap.size≤w'.heap.size):am w' B x cs F :=
 ⟨bb.frame h.rd hk hz,h.nodup,h.base,fun b U=>by rw [hk b U];exact h.plain b U⟩
theorem am.ext (h:am w B x cs F) (U:Below w.heap.size w w'):am w' B x cs F:=h.bm (fun b eo=>U.block b (h.lt b eo)) U.size
theorem am.alloc (h:am w B x cs F) (o:Obj):am (w.alloc o) B x cs F:=h.ext (ak (aj _) o)
theorem am.setCell (h:am w B x cs F) {p:Addr} (hp:p.block < B) (u:Value):am (w.setCell p u) B x cs F :=
 h.bm (fun b U=>Below.heap_setCell _ _ _ _ (by have:=h.base b U;omega)) ew
theorem am.cQ (h:Go.Proofs.YtajbbmembionpaaGreat.bb.rd w x cs []):am w B x cs []:=⟨h,List.nodup_nil,(fun b U=>by cases U),(fun b U=>by cases U)⟩
theorem am.mono (h:am w B x cs F) {B':Nat} (hB:B'≤B):am w B' x cs F:=⟨h.rd,h.nodup,fun b U=>Nat.le_trans hB (h.base b U),h.plain⟩
end
structure aY {α:Type} [bb α] (w:World) (B:Nat) (xs:List α) (ds:List Value) (F:List Nat):Prop where
 rd:jo w xs ds F
 nodup:F.Nodup
 base:∀b∈F,B≤b
 plain:∀b∈F,∃ds t,w.heap[b]? = some (.cells ds t (0,0))
section
variable {α:Type} [bb α] {w w':World} {B:Nat} {xs:List α} {ds:List Value} {F:List Nat}
theorem aY.lt (h:aY w B xs ds F):∀b∈F,b < w.heap.size:=h.rd.lt
theorem aY.nil (w:World) (B:Nat):aY w B ([]:List α) [] []:=⟨⟨rfl,rfl⟩,List.nodup_nil,(fun b U=>by cases U),(fun b U=>by cases U)⟩
theorem aY.bm (h:aY w B xs ds F) (hk:∀b∈F,w'.heap[b]? = w.heap[b]?) (hz:w.heap.size≤w'.heap.size):aY w' B xs ds F :=
 ⟨h.rd.frame hk hz,h.nodup,h.base,fun b U=>by rw [hk b U];exact h.plain b U⟩
theorem aY.ext (h:aY w B xs ds F) (U:Below w.heap.size w w'):aY w' B xs ds F:=h.bm (fun b eo=>U.block b (h.lt b eo)) U.size
theorem aY.setCell (h:aY w B xs ds F) {p:Addr} (hp:p.block < B) (u:Value):aY (w.setCell p u) B xs ds F :=
 h.bm (fun b U=>Below.heap_setCell _ _ _ _ (by have:=h.base b U;omega)) ew
theorem aY.push (h:aY w B xs ds F) {x:α} {cs:List Value} {G:List Nat} {B':Nat} (hx:am w B' x cs G) (hB:B≤B') (hF:∀b∈F,b < B'):aY w B (xs++[x]) (ds++cs) (F++G):=by
 refine ⟨h.rd.append (.single hx.rd),?_,?_,?_⟩
 ·rw [List.nodup_append];exact ⟨h.nodup,hx.nodup,fun a ha b U=>by have:=hF a ha;have:=hx.base b U;omega⟩
 ·intro b U;rcases List.mem_append.1 U with U | U
  ·exact h.base b U
  ·exact Nat.le_trans hB (hx.base b U)
 ·intro b U;rcases List.mem_append.1 U with U | U
  ·exact h.plain b U
  ·exact hx.plain b U
theorem am.Ep {t:TypeId} {g N c:Nat} (hf:dc w g t N ds) (h:aY w (g+1) xs ds F) (hc:xs.length≤c) (hm:c≤maxLen):am w g xs [.slice (some ⟨g,0,none⟩) xs.length c] (g :: F):=by
 refine ⟨⟨_,c,F,ds,rfl,hc,hm,h.rd,.inr ⟨g,0,rfl,rfl,hf.lt,hf.cells⟩⟩,?_,?_,?_⟩
 ·rw [List.nodup_cons];exact ⟨fun U=>by have:=h.base g U;omega,h.nodup⟩
 ·intro b U;rcases List.mem_cons.1 U with rfl | U
  ·exact Nat.le_refl _
  ·have:=h.base b U;omega
 ·intro b U;rcases List.mem_cons.1 U with rfl | U
  ·obtain ⟨cs,cA,_⟩:=hf;exact ⟨cs,t,cA⟩
  ·exact h.plain b U
theorem am.oJ {e:TypeId} {v:Value} (h0:w.ownsRow B e (bb.size α) v xs.length ds) (h:aY w B xs ds F) (bX:∀g,v.ownBlock = some g→g∉F):∃A c G,v = .slice A xs.length c∧am w B xs [.slice A xs.length c] G:=by
 rcases h0 with ⟨hl,⟨rfl,X⟩ | ⟨g,ar,dT,rfl,U,hh,gL,hm,cA,ht⟩⟩
 ·obtain rfl:xs = []:=List.eq_nil_of_length_eq_zero X;exact ⟨none,0,[],rfl,Sl.nil w none 0 (Nat.zero_le _),List.nodup_nil,(fun b U=>by cases U),(fun b U=>by cases U)⟩
 ·have hg:g < w.heap.size:=by
   exact xA
  refine ⟨_,ar,g :: F,rfl,⟨_,ar,F,ds,rfl,gL,hm,h.rd,.inr ⟨g,0,rfl,rfl,hg,fun j u hu=>?_⟩⟩,?_,?_,?_⟩
  ·exact xp
  ·rw [List.nodup_cons];exact ⟨bX g rfl,h.nodup⟩
  ·intro b eo;rcases List.mem_cons.1 eo with rfl | eo
   ·exact U
   ·exact h.base b eo
  ·exact Dd
end
end Go.Proofs.YtajbbmembionpaaGreat
