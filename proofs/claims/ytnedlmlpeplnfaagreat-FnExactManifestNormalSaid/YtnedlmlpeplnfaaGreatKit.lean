/- How Go's data read in a world: 'rd w x cs F': the cells cs read as x, through the blocks F. No condition. -/
import Derived.Test.YtnedlmlpeplnfaaGreatFrame
import Derived.Sort.Grow
import Derived.Deep.Draws
import Derived.Shelf.Slices.In.SortAlone
import Derived.Shelf.Slices.In.SortNone
import Derived.Shelf.Slices.In.CompactS
import Derived.Test.YtnedlmlpeplnfaaGreatRows
import Derived.Lib.SlicesCompact
namespace Go.Proofs.YtnedlmlpeplnfaaGreat
open Go.ChangeShapes Go.WideShapes Go.ChangeAt Go.RowKit
set_option linter.unusedVariables false
set_option linter.unusedSimpArgs false
def I64 (n:Int):Prop:=-9223372036854775808≤n∧n≤9223372036854775807
class Dat (α:Type) where
 size:Nat
 pos:0 < size
 rd:World→α→List Value→List Nat→Prop
 len:∀{w a cs F},rd w a cs F→cs.length = size
 one:∀{w a cs F},rd w a cs F→∀u∈cs,u.oneCell' = true
 lt:∀{w a cs F},rd w a cs F→∀b∈F,b < w.heap.size
 frame:∀{w w':World} {a cs F},rd w a cs F→(∀b∈F,w'.heap[b]? = w.heap[b]?)→w.heap.size≤w'.heap.size→rd w' a cs F
export Dat (rd)
instance:Dat Int where
 size:=1
 pos:=by omega
 rd _ n cs F:=cs = [.int .i64 n]∧F = []∧I64 n
 len h:=by rw [h.1];rfl
 one h:=by rw [h.1];intro u hu;simp at hu;subst hu;rfl
 lt h:=by rw [h.2.1];intro b hb;cases hb
 frame h _ _:=h
instance:Dat Bool where
 size:=1
 pos:=by omega
 rd _ n cs F:=cs = [.bool n]∧F = []
 len h:=by rw [h.1];rfl
 one h:=by rw [h.1];intro u hu;simp at hu;subst hu;rfl
 lt h:=by rw [h.2];intro b hb;cases hb
 frame h _ _:=h
instance:Dat ByteArray where
 size:=1
 pos:=by omega
 rd _ n cs F:=cs = [.string n]∧F = []∧n.size≤maxLen
 len h:=by rw [h.1];rfl
 one h:=by rw [h.1];intro u hu;simp at hu;subst hu;rfl
 lt h:=by rw [h.2.1];intro b hb;cases hb
 frame h _ _:=h
instance {α β:Type} [Dat α] [Dat β]:Dat (α × β) where
 size:=Dat.size α+Dat.size β
 pos:=by have:=Dat.pos (α:=α);omega
 rd w x cs F:=∃c1 c2 F1 F2,cs = c1++c2∧F = F1++F2∧rd w x.1 c1 F1∧rd w x.2 c2 F2
 len h:=by obtain ⟨c1,c2,F1,F2,rfl,rfl,h1,h2⟩:=h;rw [List.length_append,Dat.len h1,Dat.len h2]
 one h:=by
  obtain ⟨c1,c2,F1,F2,rfl,rfl,h1,h2⟩:=h;intro u hu;rcases List.mem_append.1 hu with hu | hu
  ·exact Dat.one h1 u hu
  ·exact Dat.one h2 u hu
 lt h:=by
   obtain ⟨c1,c2,F1,F2,rfl,rfl,h1,h2⟩:=h;intro b hb;rcases List.mem_append.1 hb with hb | hb
   ·exact Dat.lt h1 b hb
   ·exact Dat.lt h2 b hb
 frame h hk hz:=by
  obtain ⟨c1,c2,F1,F2,rfl,rfl,h1,h2⟩:=h;exact ⟨c1,c2,F1,F2,rfl,rfl,Dat.frame h1 (fun b hb=>hk b (List.mem_append_left _ hb)) hz,Dat.frame h2 (fun b hb=>hk b (List.mem_append_right _ hb)) hz⟩
@[reducible] def Dat.iso {α β:Type} (f:α→β) [Dat β]:Dat α where
  size:=Dat.size β
  pos:=Dat.pos
  rd w x:=rd w (f x)
  len h:=Dat.len h
  one h:=Dat.one h
  lt h:=Dat.lt h
  frame h:=Dat.frame h
def jo {α:Type} [Dat α] (w:World):List α→List Value→List Nat→Prop
 | [],cs,F=>cs = []∧F = []
 | x :: xs,cs,F=>∃c1 c2 F1 F2,cs = c1++c2∧F = F1++F2∧rd w x c1 F1∧jo w xs c2 F2
section
variable {α:Type} [Dat α]
theorem jo.len {w:World} : ∀{xs:List α} {cs:List Value} {F:List Nat},jo w xs cs F→cs.length = xs.length * Dat.size α
 | [],_,_,h=>by rw [h.1];simp
 | x :: xs,_,_,⟨c1,c2,F1,F2,rfl,rfl,h1,h2⟩=>by
   rw [List.length_append,Dat.len h1,jo.len h2,List.length_cons,Nat.succ_mul];omega
theorem jo.one {w:World} : ∀{xs:List α} {cs:List Value} {F:List Nat},jo w xs cs F→∀u∈cs,u.oneCell' = true
 | [],_,_,h=>by rw [h.1];intro u hu;cases hu
 | x :: xs,_,_,⟨c1,c2,F1,F2,rfl,rfl,h1,h2⟩=>by
   intro u hu;rcases List.mem_append.1 hu with hu | hu
   ·exact Dat.one h1 u hu
   ·exact jo.one h2 u hu
theorem jo.lt {w:World} : ∀{xs:List α} {cs:List Value} {F:List Nat},jo w xs cs F→∀b∈F,b < w.heap.size
 | [],_,_,h=>by rw [h.2];intro b hb;cases hb
 | x :: xs,_,_,⟨c1,c2,F1,F2,rfl,rfl,h1,h2⟩=>by
   intro b hb;rcases List.mem_append.1 hb with hb | hb
   ·exact Dat.lt h1 b hb
   ·exact jo.lt h2 b hb
theorem jo.frame {w w':World} : ∀{xs:List α} {cs:List Value} {F:List Nat},jo w xs cs F→(∀b∈F,w'.heap[b]? = w.heap[b]?)→w.heap.size≤w'.heap.size→jo w' xs cs F
 | [],_,_,h,_,_=>h
 | x :: xs,_,_,⟨c1,c2,F1,F2,rfl,rfl,h1,h2⟩,hk,hz =>⟨c1,c2,F1,F2,rfl,rfl,Dat.frame h1 (fun b hb=>hk b (List.mem_append_left _ hb)) hz,jo.frame h2 (fun b hb=>hk b (List.mem_append_right _ hb)) hz⟩
theorem jo.append {w:World} : ∀{xs ys:List α} {c1 c2:List Value} {F1 F2:List Nat},jo w xs c1 F1→jo w ys c2 F2→jo w (xs++ys) (c1++c2) (F1++F2)
 | [],_,_,_,_,_,⟨rfl,rfl⟩,h2=>h2
 | x :: xs,ys,_,c2,_,F2,⟨d1,d2,G1,G2,rfl,rfl,h1,h2⟩,h3 =>⟨d1,d2++c2,G1,G2++F2,S',S',h1,jo.append h2 h3⟩
theorem jo.single {w:World} {x:α} {cs:List Value} {F:List Nat} (h:rd w x cs F):jo w [x] cs F:=⟨cs,[],F,[],S',S',h,rfl,rfl⟩
theorem jo.of_append {w:World} : ∀{xs ys:List α} {cs:List Value} {F:List Nat},jo w (xs++ys) cs F→∃c1 c2 F1 F2,cs = c1++c2∧F = F1++F2∧jo w xs c1 F1∧jo w ys c2 F2
 | [],_,cs,F,h=>⟨[],cs,[],F,rfl,rfl,⟨rfl,rfl⟩,h⟩
 | x :: xs,ys,_,_,⟨d1,d2,G1,G2,rfl,rfl,h1,h2⟩=>by
   obtain ⟨e1,e2,H1,H2,rfl,rfl,h3,h4⟩:=jo.of_append h2;exact ⟨d1++e1,e2,G1++H1,H2,S',S',⟨d1,e1,G1,H1,rfl,rfl,h1,h3⟩,h4⟩
theorem jo.get {w:World} {xs:List α} {cs:List Value} {F:List Nat} (h:jo w xs cs F) {k:Nat} (hk:k < xs.length) :
 ∃ck Fk,rd w xs[k] ck Fk∧(∀b∈Fk,b∈F)∧∀j,j < Dat.size α→cs[k * Dat.size α+j]? = ck[j]?:=by
 have e:xs = xs.take k++(xs[k] :: xs.drop (k+1)):=by rw [List.getElem_cons_drop,List.take_append_drop]
 rw [e] at h;obtain ⟨c1,c2,F1,F2,rfl,rfl,h1,ck,c3,Fk,F3,rfl,rfl,h2,h3⟩:=jo.of_append h;have hl:=h1.len;rw [List.length_take,Nat.min_eq_left O'] at hl;refine ⟨ck,Fk,h2,fun b hb=>by simp [hb],fun j hj=>?_⟩;rw [List.getElem?_append_right O',List.getElem?_append_left (by have:=Dat.len h2;omega)];congr 1;omega
end
theorem rV {s:ByteArray} (h:s.size≤maxLen):(s.size:Int)≤9223372036854775807:=by unfold maxLen at h;omega
theorem rdStr (w:World) (s:ByteArray) (h:(s.size:Int)≤9223372036854775807):rd w s [.string s] []:=⟨rfl,rfl,by unfold maxLen;omega⟩
theorem jL (w:World) (n:Int) (h:I64 n):rd w n [.int .i64 n] []:=⟨rfl,rfl,h⟩
theorem rdBool (w:World) (b:Bool):rd w b [.bool b] []:=⟨rfl,rfl⟩
instance {α:Type} [Dat α]:Dat (List α) where
 size:=1
 pos:=by omega
 rd w xs cs F:=∃A c G ds,cs = [.slice A xs.length c]∧xs.length≤c∧c≤maxLen∧jo w xs ds G ∧
   ((xs = []∧F = [])∨∃b o,A = some ⟨b,o,none⟩∧F = b :: G∧b < w.heap.size∧∀j u,ds[j]? = some u→w.cell? ⟨b,o+j,none⟩ = some u)
 len h:=by obtain ⟨A,c,G,ds,rfl,_⟩:=h;rfl
 one h:=by obtain ⟨A,c,G,ds,rfl,_⟩:=h;intro u hu;simp at hu;subst hu;rfl
 lt h:=by
   obtain ⟨A,c,G,ds,rfl,_,_,hc,h | ⟨b,o,rfl,rfl,hb,_⟩⟩:=h
   ·rw [h.2];intro b hb;cases hb
   ·intro x hx;rcases List.mem_cons.1 hx with rfl | hx
    ·exact hb
    ·exact hc.lt x hx
 frame h hk hz:=by
  obtain ⟨A,c,G,ds,rfl,h1,h2,hc,h | ⟨b,o,rfl,rfl,hb,hcell⟩⟩:=h
  ·obtain ⟨rfl,rfl⟩:=h;obtain ⟨rfl,rfl⟩:=hc;exact ⟨A,c,[],[],rfl,h1,h2,⟨rfl,rfl⟩,.inl ⟨rfl,rfl⟩⟩
  ·refine ⟨_,c,G,ds,rfl,h1,h2,hc.frame (fun x hx=>hk x (List.mem_cons_of_mem _ hx)) hz,.inr ⟨b,o,rfl,rfl,Nat.lt_of_lt_of_le hb hz,fun j u hu=>?_⟩⟩;rw [← hcell j u hu];exact World.cell?_of_block (hk b (List.mem_cons_self ..))
def Sl {α:Type} [Dat α] (w:World) (xs:List α) (A:Option Addr) (c:Nat) (F:List Nat):Prop:=rd w xs [.slice A xs.length c] F
section
variable {α:Type} [Dat α] {w w':World} {xs:List α} {A:Option Addr} {c:Nat} {F:List Nat}
theorem jB {v:List Value} (h:rd w xs v F):∃A c,v = [.slice A xs.length c]∧Sl w xs A c F:=by
 have h0:=h;obtain ⟨A,c,G,ds,rfl,_⟩:=h;exact ⟨A,c,rfl,h0⟩
theorem Sl.lt (h:Sl w xs A c F):∀b∈F,b < w.heap.size:=Dat.lt h
theorem Sl.frame (h:Sl w xs A c F) (hk:∀b∈F,w'.heap[b]? = w.heap[b]?) (hz:w.heap.size≤w'.heap.size):Sl w' xs A c F:=Dat.frame h hk hz
theorem Sl.below {B:Nat} (h:Sl w xs A c F) (hb:Below B w w') (hB:∀b∈F,b < B):Sl w' xs A c F:=h.frame (fun b hb'=>hb.block b (hB b hb')) hb.size
theorem Sl.ext (h:Sl w xs A c F) (hb:Below w.heap.size w w'):Sl w' xs A c F:=h.below hb h.lt
theorem Sl.cap (h:Sl w xs A c F):xs.length≤c∧c≤maxLen:=by
 obtain ⟨A',c',G,ds,e,h1,h2,_⟩:=h;simp at e;obtain ⟨_,rfl⟩:=e;exact ⟨h1,h2⟩
theorem Sl.get (h:Sl w xs A c F) {k:Nat} (hk:k < xs.length) :
 ∃b o ck Fk,A = some ⟨b,o,none⟩∧b∈F∧b < w.heap.size∧rd w xs[k] ck Fk∧(∀x∈Fk,x∈F)∧∀j u,ck[j]? = some u→w.cell? ⟨b,o+(k * Dat.size α+j),none⟩ = some u:=by
 obtain ⟨A',c',G,ds,e,_,_,hc,h | ⟨b,o,rfl,rfl,hb,hcell⟩⟩:=h
 ·rw [h.1] at hk;cases hk
 ·simp at e;obtain ⟨rfl,rfl⟩:=e;obtain ⟨ck,Fk,hr,hs,hj⟩:=hc.get hk;refine ⟨b,o,ck,Fk,rfl,List.mem_cons_self ..,hb,hr,fun x hx=>List.mem_cons_of_mem _ (hs x hx),fun j u hu=>hcell _ u ?_⟩;rw [hj j (by rw [← Dat.len hr];exact (List.getElem?_eq_some_iff.1 hu).1)];exact hu
theorem Sl.nil (w:World) (A:Option Addr) (c:Nat) (hc:c≤maxLen):Sl w ([]:List α) A c []:=⟨A,c,[],[],rfl,Nat.zero_le _,hc,⟨rfl,rfl⟩,.inl ⟨rfl,rfl⟩⟩
end
structure Label where
 key:ByteArray
 value:ByteArray
instance:Dat Label:=Dat.iso fun l=>(l.key,l.value)
end Go.Proofs.YtnedlmlpeplnfaaGreat
namespace Go.Proofs.YtnedlmlpeplnfaaGreat
open Go.ChangeShapes Go.WideShapes Go.ChangeAt Go.RowKit
def Gr (w w':World):Prop:=∃q os,w' = Go.Sort.grow (w.drewN q) os
theorem Gr.refl (w:World):Gr w w:=⟨0,#[],by simp [Go.Sort.grow,World.drewN]⟩
theorem Gr.alloc {w w':World} (h:Gr w w') (o:Obj):Gr w (w'.alloc o):=by
 obtain ⟨q,os,rfl⟩:=h;exact ⟨q,os.push o,by simp [Go.Sort.grow,World.alloc,World.drewN]⟩
theorem Gr.drew {w w':World} (h:Gr w w'):Gr w w'.drew:=by
 obtain ⟨q,os,rfl⟩:=h;exact ⟨q+1,os,rfl⟩
theorem Gr.trans {w w1 w2:World} (h:Gr w w1) (k:Gr w1 w2):Gr w w2:=by
 obtain ⟨q,os,rfl⟩:=h;obtain ⟨q2,os2,rfl⟩:=k;exact ⟨q+q2,os++os2,by simp [Go.Sort.grow,World.drewN,Nat.add_assoc]⟩
theorem Gr.below {w w':World} (h:Gr w w'):Below w.heap.size w w':=by
 obtain ⟨q,os,rfl⟩:=h;exact ⟨rfl,rfl,rfl,by simp [Go.Sort.grow,World.drewN],fun k hk=>by simp [Go.Sort.grow,World.drewN,Array.getElem?_append_left hk]⟩
end Go.Proofs.YtnedlmlpeplnfaaGreat
namespace Go.Proofs.YtnedlmlpeplnfaaGreat
open Go.Shelf
def renSort:Go.Shelf.Ren:={
 f:=fun x=>match x with
  | 125=>142
  | 128=>171
  | 129=>172
  | 190=>100
  | 258=>141
  | 302=>162
  | 303=>163
  | 304=>164
  | 305=>165
  | 306=>166
  | 307=>167
  | 308=>168
  | 309=>169
  | 310=>170
  | 329=>204
  | 330=>205
  | 333=>203
  | 334=>206
  | 335=>207
  | 336=>208
  | 344=>220
  | n=>n
 t:=fun x=>match x with
  | 0=>0
  | 3=>3
  | 4=>4
  | 5=>5
  | 9=>9
  | 31=>103
  | 46=>149
  | 51=>171
  | 53=>173
  | 131=>168
  | 182=>163
  | 183=>164
  | 218=>192
  | 222=>196
  | 228=>204
  | 229=>205
  | n=>n
 g:=fun n=>n }
theorem laySort:Lays.n190 Tryz.prog renSort:={
 mixed:=rfl
 f125:=Tryz.func142.trans (congrArg some rfl)
 f128:=Tryz.func171.trans (congrArg some rfl)
 f129:=Tryz.func172.trans (congrArg some rfl)
 f190:=Tryz.func100.trans (congrArg some rfl)
 f258:=Tryz.func141.trans (congrArg some rfl)
 f302:=Tryz.func162.trans (congrArg some rfl)
 f303:=Tryz.func163.trans (congrArg some rfl)
 f304:=Tryz.func164.trans (congrArg some rfl)
 f305:=Tryz.func165.trans (congrArg some rfl)
 f306:=Tryz.func166.trans (congrArg some rfl)
 f307:=Tryz.func167.trans (congrArg some rfl)
 f308:=Tryz.func168.trans (congrArg some rfl)
 f309:=Tryz.func169.trans (congrArg some rfl)
 f310:=Tryz.func170.trans (congrArg some rfl)
 f329:=Tryz.func204.trans (congrArg some rfl)
 f330:=Tryz.func205.trans (congrArg some rfl)
 f333:=Tryz.func203.trans (congrArg some rfl)
 f334:=Tryz.func206.trans (congrArg some rfl)
 f335:=Tryz.func207.trans (congrArg some rfl)
 f336:=Tryz.func208.trans (congrArg some rfl)
 f344:=Tryz.func220.trans (congrArg some rfl)
 t0:=Tryz.underlying0
 a0:=Tryz.isAgg0
 z0:=Tryz.sizeOf0
 v0:=Tryz.zeroValue0
 t3:=Tryz.underlying3
 a3:=Tryz.isAgg3
 z3:=Tryz.sizeOf3
 v3:=Tryz.zeroValue3
 t4:=Tryz.underlying4
 a4:=Tryz.isAgg4
 z4:=Tryz.sizeOf4
 v4:=Tryz.zeroValue4
 t5:=Tryz.underlying5
 a5:=Tryz.isAgg5
 z5:=Tryz.sizeOf5
 v5:=Tryz.zeroValue5
 t9:=Tryz.underlying9
 a9:=Tryz.isAgg9
 z9:=Tryz.sizeOf9
 v9:=Tryz.zeroValue9
 t31:=Tryz.underlying103
 a31:=Tryz.isAgg103
 z31:=Tryz.sizeOf103
 v31:=Tryz.zeroValue103
 t46:=Tryz.underlying149
 a46:=Tryz.isAgg149
 z46:=Tryz.sizeOf149
 v46:=Tryz.zeroValue149
 t51:=Tryz.underlying171
 a51:=Tryz.isAgg171
 z51:=Tryz.sizeOf171
 v51:=Tryz.zeroValue171
 t53:=Tryz.underlying173
 a53:=Tryz.isAgg173
 z53:=Tryz.sizeOf173
 v53:=Tryz.zeroValue173
 t131:=Tryz.underlying168
 a131:=Tryz.isAgg168
 z131:=Tryz.sizeOf168
 v131:=Tryz.zeroValue168
 t182:=Tryz.underlying163
 a182:=Tryz.isAgg163
 z182:=Tryz.sizeOf163
 v182:=Tryz.zeroValue163
 t183:=Tryz.underlying164
 a183:=Tryz.isAgg164
 z183:=Tryz.sizeOf164
 v183:=Tryz.zeroValue164
 t218:=Tryz.underlying192
 a218:=Tryz.isAgg192
 z218:=Tryz.sizeOf192
 v218:=Tryz.zeroValue192
 t222:=Tryz.underlying196
 a222:=Tryz.isAgg196
 z222:=Tryz.sizeOf196
 v222:=Tryz.zeroValue196
 t228:=Tryz.underlying204
 a228:=Tryz.isAgg204
 z228:=Tryz.sizeOf204
 v228:=Tryz.zeroValue204
 t229:=Tryz.underlying205
 a229:=Tryz.isAgg205
 z229:=Tryz.sizeOf205
 v229:=Tryz.zeroValue205 }
def renCompact:Go.Shelf.Ren:={
 f:=fun x=>match x with
  | 194=>101
  | n=>n
 t:=fun x=>match x with
  | 0=>0
  | 3=>3
  | 4=>4
  | 9=>9
  | 31=>103
  | n=>n
 g:=fun n=>n }
theorem layCompact:Lays.n194 Tryz.prog renCompact:={
 mixed:=rfl
 f194:=Tryz.func101.trans (congrArg some rfl)
 t0:=Tryz.underlying0
 a0:=Tryz.isAgg0
 z0:=Tryz.sizeOf0
 v0:=Tryz.zeroValue0
 t3:=Tryz.underlying3
 a3:=Tryz.isAgg3
 z3:=Tryz.sizeOf3
 v3:=Tryz.zeroValue3
 t4:=Tryz.underlying4
 a4:=Tryz.isAgg4
 z4:=Tryz.sizeOf4
 v4:=Tryz.zeroValue4
 t9:=Tryz.underlying9
 a9:=Tryz.isAgg9
 z9:=Tryz.sizeOf9
 v9:=Tryz.zeroValue9
 t31:=Tryz.underlying103
 a31:=Tryz.isAgg103
 z31:=Tryz.sizeOf103
 v31:=Tryz.zeroValue103 }
end Go.Proofs.YtnedlmlpeplnfaaGreat
namespace Go.Proofs.YtnedlmlpeplnfaaGreat
open Go.Proofs
abbrev S8:=List UInt8
theorem compact_memL (d:Array S8):∀(m:Nat),∀j,j < m→d[j]!∈Lib.compactUpTo d m
 | 0,j,h=>absurd h (Nat.not_lt_zero _)
 | m+1,j,h=>by
   rw [Lib.compactUpTo_succ,List.mem_append];by_cases hj:j < m
   ·exact Or.inl (compact_memL d m j hj)
   ·obtain rfl:j = m:=by omega
    by_cases hk:j = 0∨d[j]!≠d[j - 1]!
    ·exact Or.inr (by rw [show Lib.keeps d j = true from decide_eq_true hk];simp)
    ·have h1:¬j = 0:=fun e=>hk (Or.inl e);have h2:d[j]! = d[j - 1]!:=Classical.byContradiction fun e=>hk (Or.inr e);exact Or.inl (by rw [h2];exact compact_memL d j (j - 1) O')
theorem arr_get (zs:List S8) {j:Nat} (h:j < zs.length):zs.toArray[j]! = zs[j]:=by simp [getElem!_pos,h]
theorem mem_compact_iff (zs:List S8) (x:S8):x∈Lib.compact zs↔x∈zs:=by
 constructor
 ·intro h;unfold Lib.compact Lib.compactUpTo at h;rw [List.mem_map] at h;obtain ⟨j,hj,rfl⟩:=h;have hl:=List.mem_range.1 (List.mem_filter.1 hj).1;rw [arr_get zs hl];exact List.getElem_mem hl
 ·intro h;obtain ⟨j,hj,rfl⟩:=List.getElem_of_mem h;have:=compact_memL zs.toArray zs.length j hj;rwa [arr_get zs hj] at this
theorem compact_strict (zs:List S8) (h:zs.Pairwise (·≤·)):(Lib.compact zs).Pairwise (· < ·):=by
 unfold Lib.compact Lib.compactUpTo;rw [List.pairwise_map];have hp:=(List.pairwise_lt_range (n:=zs.length)).filter (Lib.keeps zs.toArray);refine List.Pairwise.imp_of_mem ?_ hp;intro i j hi hj hij;have hjl:=List.mem_range.1 (List.mem_filter.1 hj).1;have hk:=of_decide_eq_true (List.mem_filter.1 hj).2;rw [arr_get zs O',arr_get zs hjl];have hne:zs[j]≠zs[j - 1]:=by
  rcases hk with hk | hk
  ·omega
  ·rwa [arr_get zs hjl,arr_get zs O'] at hk
 have hget:=List.pairwise_iff_getElem.1 h;have h1:zs[j - 1]≤zs[j]:=hget (j - 1) j O' hjl O';have h2:zs[i]≤zs[j - 1]:=by
  by_cases e:i = j - 1
  ·subst e;exact List.le_refl _
  ·exact hget i (j - 1) O' O' O'
 have h3:zs[j - 1] < zs[j]:=by apply Classical.byContradiction;intro hh;exact hne (List.le_antisymm (List.not_lt.1 hh) h1)
 exact List.lt_of_le_of_lt h2 h3
theorem strict_eq:∀{a b:List S8},a.Pairwise (· < ·)→b.Pairwise (· < ·)→(∀x,x∈a↔x∈b)→a = b
 | [],[],_,_,_=>rfl
 | [],y :: b,_,_,h=>absurd ((h y).2 (List.mem_cons_self ..)) (List.not_mem_nil)
 | x :: a,[],_,_,h=>absurd ((h x).1 (List.mem_cons_self ..)) (List.not_mem_nil)
 | x :: a,y :: b,ha,hb,h=>by
   rw [List.pairwise_cons] at ha hb;have hxy:x = y:=by
    rcases List.mem_cons.1 ((h x).1 (List.mem_cons_self ..)) with e | e
    ·exact e
    ·rcases List.mem_cons.1 ((h y).2 (List.mem_cons_self ..)) with e2 | e2
     ·exact e2.symm
     ·exact absurd (List.lt_trans (hb.1 x e) (ha.1 y e2)) (List.lt_irrefl _)
   subst hxy;congr 1;refine strict_eq ha.2 hb.2 fun z=>⟨fun hz=>?_,fun hz=>?_⟩
   ·rcases List.mem_cons.1 ((h z).1 (List.mem_cons_of_mem _ hz)) with e | e
    ·subst e;exact absurd (ha.1 z hz) (List.lt_irrefl _)
    ·exact e
   ·rcases List.mem_cons.1 ((h z).2 (List.mem_cons_of_mem _ hz)) with e | e
    ·subst e;exact absurd (hb.1 z hz) (List.lt_irrefl _)
    ·exact e
def insUS (x:S8):List S8→List S8
 | []=>[x]
 | y :: r=>if y < x then y :: insUS x r else if y = x then y :: r else x :: y :: r
theorem insUS_mem (x:S8):∀(r:List S8) (z:S8),z∈insUS x r↔z = x∨z∈r
 | [],z=>by simp [insUS]
 | y :: r,z=>by
   unfold insUS;split
   ·rw [List.mem_cons,insUS_mem x r z,List.mem_cons];exact ⟨fun h=>by rcases h with h | h | h <;> simp [h],fun h=>by rcases h with h | h | h <;> simp [h]⟩
   ·split
    ·rename_i e;subst e;simp
    ·simp
theorem insUS_strict (x:S8):∀(r:List S8),r.Pairwise (· < ·)→(insUS x r).Pairwise (· < ·)
 | [],_=>by simp [insUS]
 | y :: r,h=>by
   unfold insUS;rw [List.pairwise_cons] at h;split
   ·rename_i hlt;rw [List.pairwise_cons];refine ⟨fun z hz=>?_,insUS_strict x r h.2⟩;rcases (insUS_mem x r z).1 hz with e | e
    ·subst e;exact hlt
    ·exact h.1 z e
   ·split
    ·rw [List.pairwise_cons];exact h
    ·rename_i h1 h2;have h3:x < y:=by
      apply Classical.byContradiction;intro hh;exact h2 (List.le_antisymm (List.not_lt.1 hh) (List.not_lt.1 h1))
     rw [List.pairwise_cons,List.pairwise_cons];refine ⟨fun z hz=>?_,h⟩;rcases List.mem_cons.1 hz with e | e
     ·subst e;exact h3
     ·exact List.lt_trans h3 (h.1 z e)
def valuesU (l:List S8):List S8:=l.foldl (fun r x=>insUS x r) []
theorem foldU (l:List S8):∀(r:List S8),r.Pairwise (· < ·)→(l.foldl (fun r x=>insUS x r) r).Pairwise (· < ·)∧∀z,z∈l.foldl (fun r x=>insUS x r) r↔z∈l∨z∈r:=by
 induction l with
 | nil=>exact fun r h=>⟨h,fun z=>by simp⟩
 | cons x l ih =>intro r h;obtain ⟨h1,h2⟩:=ih (insUS x r) (insUS_strict x r h);refine ⟨h1,fun z=>?_⟩;rw [List.foldl_cons,h2,insUS_mem,List.mem_cons];exact ⟨fun h=>by rcases h with h | h | h <;> simp [h],fun h=>by rcases h with (h | h) | h <;> simp [h]⟩
theorem sortU (l:List S8):Lib.compact (l.mergeSort fun x y=>decide (x≤y)) = valuesU l:=by
 have hs:(l.mergeSort fun x y=>decide (x≤y)).Pairwise (·≤·):=by have:=List.pairwise_mergeSort (le:=fun x y:S8=>decide (x≤y)) (fun a b c h1 h2=>by simp only [decide_eq_true_eq] at *;exact List.le_trans h1 h2) (fun a b=>by simp only [Bool.or_eq_true,decide_eq_true_eq];exact List.le_total a b) l;exact this.imp (fun h=>of_decide_eq_true h)
 obtain ⟨h1,h2⟩:=foldU l [] List.Pairwise.nil;refine strict_eq (compact_strict _ hs) h1 fun z=>?_;rw [mem_compact_iff,List.mem_mergeSort];exact ((h2 z).trans S').symm
end Go.Proofs.YtnedlmlpeplnfaaGreat
