/- Long division of 128 bits by 64, digit by digit, in plain Lean. No condition. -/
import Derived.Test.YtdegaofigemegaaGreatFrame
import Derived.Lib.ItoaNum
import Derived.Shelf.Slices.In.SortNone
import Derived.Shelf.Slices.In.CompactS
namespace Go.Proofs.YtdegaofigemegaaGreat
open Go.ChangeShapes Go.WideShapes Go.ChangeAt Go.RowKit
set_option linter.unusedVariables false
set_option linter.unusedSimpArgs false
set_option maxRecDepth 4000
structure tG (un v1 v0 u0 q r:Nat):Prop where
 sum:q * v1+r = un
 low:r < 4294967296
 above:un * 4294967296+u0 < (q+1) * (v1 * 4294967296+v0)
 few:q<=4294967297
theorem tG.start {un v1 v0 u0:Nat} (h:un < v1 * 4294967296+v0) (h1:2147483648<=v1) (h1b:v1 < 4294967296) (h0:v0 < 4294967296) (hu:u0 < 4294967296):tG un v1 v0 u0 (un / v1) (un - un / v1 * v1):=by
 have e:=Nat.div_add_mod' un v1;have m:=Nat.mod_lt un (by omega:0 < v1);refine ⟨J,J,?_,?_⟩
 ·have e2:(un / v1+1) * (v1 * 4294967296+v0) = un / v1 * v1 * 4294967296+un / v1 * v0+v1 * 4294967296+v0:=by
   rw [Nat.add_mul,Nat.mul_add,<- Nat.mul_assoc];omega
  rw [e2];have:(un % v1+1) * 4294967296<=v1 * 4294967296:=Nat.mul_le_mul_right _ J;omega
 ·have ap:un / v1 < 4294967298:=by
   rw [Nat.div_lt_iff_lt_mul J];omega
  omega
theorem afz {un v1 v0 u0 q r:Nat} (h:tG un v1 v0 u0 q r):q * (v1 * 4294967296+v0)+r * 4294967296 = un * 4294967296+q * v0:=by
 have e:=h.sum;rw [Nat.mul_add,<- Nat.mul_assoc,<- e,Nat.add_mul,Nat.add_right_comm]
theorem tG.over {un v1 v0 u0 q r:Nat} (h:tG un v1 v0 u0 q r) (Ir:un < v1 * 4294967296+v0) (h1:2147483648<=v1) (hu:u0 < 4294967296) (ht:4294967296<=q∨4294967296 * r+u0 < q * v0):un * 4294967296+u0 < q * (v1 * 4294967296+v0):=by
 rcases ht with ht | ht
 ·have:4294967296 * (v1 * 4294967296+v0)<=q * (v1 * 4294967296+v0):=Nat.mul_le_mul_right _ ht;omega
 ·have:=afz h;omega
theorem tG.done {un v1 v0 u0 q r:Nat} (h:tG un v1 v0 u0 q r) (h1:2147483648<=v1) (ht:q * v0<=4294967296 * r+u0):q = (un * 4294967296+u0) / (v1 * 4294967296+v0):=by
 have:=afz h;have ha:=h.above;have:(un * 4294967296+u0) / (v1 * 4294967296+v0) = q:=by
  rw [Nat.div_eq_iff J];have:(q+1) * (v1 * 4294967296+v0) = q * (v1 * 4294967296+v0)+(v1 * 4294967296+v0):=by rw [Nat.add_mul];omega
  omega
 exact this.symm
theorem tG.pos {un v1 v0 u0 q r:Nat} (h:un * 4294967296+u0 < q * (v1 * 4294967296+v0)):0 < q:=by
 cases q with
 | zero=>simp at h
 | succ q=>omega
theorem tG.next {un v1 v0 u0 q r:Nat} (h:tG un v1 v0 u0 q r) (ho:un * 4294967296+u0 < q * (v1 * 4294967296+v0)) (hr:r+v1 < 4294967296):tG un v1 v0 u0 (q - 1) (r+v1):=by
 have hq:=tG.pos (r:=r) ho;obtain ⟨k,rfl⟩:∃k,q = k+1:=⟨q - 1,J⟩;have e:=h.sum;rw [Nat.add_mul] at e;exact ⟨by simp only [Nat.add_sub_cancel];omega,hr,by simpa using ho,by have:=h.few;omega⟩
structure aqI (hi lo y S Y v1 v0 un L u1 u0:Nat):Prop where
 eY:IntKind.u64.wrap ((y:Int) * 2 ^ S) = (Y:Int)
 ev1:(Y:Int) / 4294967296 = (v1:Int)
 ev0:bits .and .u64 (Y:Int) 4294967295 = (v0:Int)
 eun:bits .or .u64 (IntKind.u64.wrap ((hi:Int) * 2 ^ S)) ((lo:Int) / 2 ^ (64 - S)) = (un:Int)
 eL:IntKind.u64.wrap ((lo:Int) * 2 ^ S) = (L:Int)
 eu1:(L:Int) / 4294967296 = (u1:Int)
 eu0:bits .and .u64 (L:Int) 4294967295 = (u0:Int)
 lv1:2147483648<=v1
 aaC:v1 < 4294967296
 lv0:v0 < 4294967296
 lu1:u1 < 4294967296
 lu0:u0 < 4294967296
 lY:Y = v1 * 4294967296+v0
 lun:un < Y
 whole:(un * 4294967296+u1) * 4294967296+u0 = (hi * 18446744073709551616+lo) * 2 ^ S
 yY:Y = y * 2 ^ S
theorem apY {part whole n rest:Nat} (h:n * whole+rest = 100 * part) (hr:rest < whole):n = 100 * part / whole:=by
 have:100 * part / whole = n:=by rw [Nat.div_eq_iff J];omega
 exact this.symm
end Go.Proofs.YtdegaofigemegaaGreat
namespace Go.Proofs.YtdegaofigemegaaGreat
open Go.Shelf
def z7:Go.Shelf.Ren:={
 f:=λx=>match x with
  | 125=>155
  | 128=>187
  | 129=>188
  | 190=>120
  | 258=>154
  | 302=>178
  | 303=>179
  | 304=>180
  | 305=>181
  | 306=>182
  | 307=>183
  | 308=>184
  | 309=>185
  | 310=>186
  | 329=>223
  | 330=>224
  | 333=>222
  | 334=>225
  | 335=>226
  | 336=>227
  | 344=>243
  | n=>n
 t:=λx=>match x with
  | 0=>0
  | 3=>3
  | 4=>4
  | 5=>5
  | 9=>9
  | 31=>101
  | 46=>133
  | 51=>194
  | 53=>196
  | 131=>142
  | 182=>187
  | 183=>188
  | 218=>213
  | 222=>217
  | 228=>227
  | 229=>228
  | n=>n
 g:=λn=>n }
theorem sa:Lays.n190 Tryz.prog z7:={
 mixed:=rfl
 f125:=Tryz.func155.trans (congrArg some rfl)
 f128:=Tryz.func187.trans (congrArg some rfl)
 f129:=Tryz.func188.trans (congrArg some rfl)
 f190:=Tryz.func120.trans (congrArg some rfl)
 f258:=Tryz.func154.trans (congrArg some rfl)
 f302:=Tryz.func178.trans (congrArg some rfl)
 f303:=Tryz.func179.trans (congrArg some rfl)
 f304:=Tryz.func180.trans (congrArg some rfl)
 f305:=Tryz.func181.trans (congrArg some rfl)
 f306:=Tryz.func182.trans (congrArg some rfl)
 f307:=Tryz.func183.trans (congrArg some rfl)
 f308:=Tryz.func184.trans (congrArg some rfl)
 f309:=Tryz.func185.trans (congrArg some rfl)
 f310:=Tryz.func186.trans (congrArg some rfl)
 f329:=Tryz.func223.trans (congrArg some rfl)
 f330:=Tryz.func224.trans (congrArg some rfl)
 f333:=Tryz.func222.trans (congrArg some rfl)
 f334:=Tryz.func225.trans (congrArg some rfl)
 f335:=Tryz.func226.trans (congrArg some rfl)
 f336:=Tryz.func227.trans (congrArg some rfl)
 f344:=Tryz.func243.trans (congrArg some rfl)
 t0:=Tryz.underlying0
 a0:=Tryz.isAgg0
 z0:=Tryz.sizeOf0
 v0:=Tryz.zeroValue0
 t3:=Tryz.underlying3
 a3:=Tryz.isAgg3
 z3:=Tryz.sizeOf3
 v3:=Tryz.zeroValue3
 t4:=Tryz.underlying4
 a4:=Tryz.isAgg4
 z4:=Tryz.sizeOf4
 v4:=Tryz.zeroValue4
 t5:=Tryz.underlying5
 a5:=Tryz.isAgg5
 z5:=Tryz.sizeOf5
 v5:=Tryz.zeroValue5
 t9:=Tryz.underlying9
 a9:=Tryz.isAgg9
 z9:=Tryz.sizeOf9
 v9:=Tryz.zeroValue9
 t31:=Tryz.underlying101
 a31:=Tryz.isAgg101
 z31:=Tryz.sizeOf101
 v31:=Tryz.zeroValue101
 t46:=Tryz.underlying133
 a46:=Tryz.isAgg133
 z46:=Tryz.sizeOf133
 v46:=Tryz.zeroValue133
 t51:=Tryz.underlying194
 a51:=Tryz.isAgg194
 z51:=Tryz.sizeOf194
 v51:=Tryz.zeroValue194
 t53:=Tryz.underlying196
 a53:=Tryz.isAgg196
 z53:=Tryz.sizeOf196
 v53:=Tryz.zeroValue196
 t131:=Tryz.underlying142
 a131:=Tryz.isAgg142
 z131:=Tryz.sizeOf142
 v131:=Tryz.zeroValue142
 t182:=Tryz.underlying187
 a182:=Tryz.isAgg187
 z182:=Tryz.sizeOf187
 v182:=Tryz.zeroValue187
 t183:=Tryz.underlying188
 a183:=Tryz.isAgg188
 z183:=Tryz.sizeOf188
 v183:=Tryz.zeroValue188
 t218:=Tryz.underlying213
 a218:=Tryz.isAgg213
 z218:=Tryz.sizeOf213
 v218:=Tryz.zeroValue213
 t222:=Tryz.underlying217
 a222:=Tryz.isAgg217
 z222:=Tryz.sizeOf217
 v222:=Tryz.zeroValue217
 t228:=Tryz.underlying227
 a228:=Tryz.isAgg227
 z228:=Tryz.sizeOf227
 v228:=Tryz.zeroValue227
 t229:=Tryz.underlying228
 a229:=Tryz.isAgg228
 z229:=Tryz.sizeOf228
 v229:=Tryz.zeroValue228 }
def qF:Go.Shelf.Ren:={
 f:=λx=>match x with
  | 194=>121
  | n=>n
 t:=λx=>match x with
  | 0=>0
  | 3=>3
  | 4=>4
  | 9=>9
  | 31=>101
  | n=>n
 g:=λn=>n }
theorem l7:Lays.n194 Tryz.prog qF:={
 mixed:=rfl
 f194:=Tryz.func121.trans (congrArg some rfl)
 t0:=Tryz.underlying0
 a0:=Tryz.isAgg0
 z0:=Tryz.sizeOf0
 v0:=Tryz.zeroValue0
 t3:=Tryz.underlying3
 a3:=Tryz.isAgg3
 z3:=Tryz.sizeOf3
 v3:=Tryz.zeroValue3
 t4:=Tryz.underlying4
 a4:=Tryz.isAgg4
 z4:=Tryz.sizeOf4
 v4:=Tryz.zeroValue4
 t9:=Tryz.underlying9
 a9:=Tryz.isAgg9
 z9:=Tryz.sizeOf9
 v9:=Tryz.zeroValue9
 t31:=Tryz.underlying101
 a31:=Tryz.isAgg101
 z31:=Tryz.sizeOf101
 v31:=Tryz.zeroValue101 }
end Go.Proofs.YtdegaofigemegaaGreat
namespace Go.Proofs.YtdegaofigemegaaGreat
open Go.ChangeShapes Go.WideShapes Go.ChangeAt Go.RowKit
set_option linter.unusedVariables false
set_option linter.unusedSimpArgs false
def bt (n:Int):Prop:=-9223372036854775808<=n/\n<=9223372036854775807
class ax (α:Type) where
 size:Nat
 pos:0 < size
 rd:World->α->List Value->List Nat->Prop
 len:∀{w a cs F},rd w a cs F->cs.length = size
 one:∀{w a cs F},rd w a cs F->∀u∈cs,u.oneCell' = true
 lt:∀{w a cs F},rd w a cs F->∀b∈F,b < w.heap.size
 frame:∀{w w':World} {a cs F},rd w a cs F->(∀b∈F,w'.heap[b]? = w.heap[b]?)->w.heap.size<=w'.heap.size->rd w' a cs F
export ax (rd)
instance:ax Int where
 size:=1
 pos:=by omega
 rd _ n cs F:=cs = [.int .i64 n]/\F = []/\bt n
 len h:=by rw [h.1];rfl
 one h:=by rw [h.1];intro u hu;simp at hu;subst hu;rfl
 lt h:=by rw [h.2.1];intro b hb;cases hb
 frame h _ _:=h
instance:ax Bool where
 size:=1
 pos:=by omega
 rd _ n cs F:=cs = [.bool n]/\F = []
 len h:=by rw [h.1];rfl
 one h:=by rw [h.1];intro u hu;simp at hu;subst hu;rfl
 lt h:=by rw [h.2];intro b hb;cases hb
 frame h _ _:=h
instance:ax ByteArray where
 size:=1
 pos:=by omega
 rd _ n cs F:=cs = [.string n]/\F = []/\n.size<=maxLen
 len h:=by rw [h.1];rfl
 one h:=by rw [h.1];intro u hu;simp at hu;subst hu;rfl
 lt h:=by rw [h.2.1];intro b hb;cases hb
 frame h _ _:=h
instance {α β:Type} [ax α] [ax β]:ax (α × β) where
 size:=ax.size α+ax.size β
 pos:=by have:=ax.pos (α:=α);omega
 rd w x cs F:=∃c1 c2 F1 F2,cs = c1++c2/\F = F1++F2/\rd w x.1 c1 F1/\rd w x.2 c2 F2
 len h:=by obtain ⟨c1,c2,F1,F2,rfl,rfl,h1,h2⟩:=h;rw [List.length_append,ax.len h1,ax.len h2]
 one h:=by
  obtain ⟨c1,c2,F1,F2,rfl,rfl,h1,h2⟩:=h;intro u hu;rcases List.mem_append.1 hu with hu | hu
  ·exact ax.one h1 u hu
  ·exact ax.one h2 u hu
 lt h:=by
   obtain ⟨c1,c2,F1,F2,rfl,rfl,h1,h2⟩:=h;intro b hb;rcases List.mem_append.1 hb with hb | hb
   ·exact ax.lt h1 b hb
   ·exact ax.lt h2 b hb
 frame h hk hz:=by
  obtain ⟨c1,c2,F1,F2,rfl,rfl,h1,h2⟩:=h;exact ⟨c1,c2,F1,F2,rfl,rfl,ax.frame h1 (λb hb=>hk b (List.mem_append_left _ hb)) hz,ax.frame h2 (λb hb=>hk b (List.mem_append_right _ hb)) hz⟩
@[reducible] def ax.rz {α β:Type} (f:α->β) [ax β]:ax α where
  size:=ax.size β
  pos:=ax.pos
  rd w x:=rd w (f x)
  len h:=ax.len h
  one h:=ax.one h
  lt h:=ax.lt h
  frame h:=ax.frame h
def jo {α:Type} [ax α] (w:World):List α->List Value->List Nat->Prop
 | [],cs,F=>cs = []/\F = []
 | x :: xs,cs,F=>∃c1 c2 F1 F2,cs = c1++c2/\F = F1++F2/\rd w x c1 F1/\jo w xs c2 F2
section
variable {α:Type} [ax α]
theorem jo.len {w:World} : ∀{xs:List α} {cs:List Value} {F:List Nat},jo w xs cs F->cs.length = xs.length * ax.size α
 | [],_,_,h=>by rw [h.1];simp
 | x :: xs,_,_,⟨c1,c2,F1,F2,rfl,rfl,h1,h2⟩=>by
   rw [List.length_append,ax.len h1,jo.len h2,List.length_cons,Nat.succ_mul];omega
theorem jo.one {w:World} : ∀{xs:List α} {cs:List Value} {F:List Nat},jo w xs cs F->∀u∈cs,u.oneCell' = true
 | [],_,_,h=>by rw [h.1];intro u hu;cases hu
 | x :: xs,_,_,⟨c1,c2,F1,F2,rfl,rfl,h1,h2⟩=>by
   intro u hu;rcases List.mem_append.1 hu with hu | hu
   ·exact ax.one h1 u hu
   ·exact jo.one h2 u hu
theorem jo.lt {w:World} : ∀{xs:List α} {cs:List Value} {F:List Nat},jo w xs cs F->∀b∈F,b < w.heap.size
 | [],_,_,h=>by rw [h.2];intro b hb;cases hb
 | x :: xs,_,_,⟨c1,c2,F1,F2,rfl,rfl,h1,h2⟩=>by
   intro b hb;rcases List.mem_append.1 hb with hb | hb
   ·exact ax.lt h1 b hb
   ·exact jo.lt h2 b hb
theorem jo.frame {w w':World} : ∀{xs:List α} {cs:List Value} {F:List Nat},jo w xs cs F->(∀b∈F,w'.heap[b]? = w.heap[b]?)->w.heap.size<=w'.heap.size->jo w' xs cs F
 | [],_,_,h,_,_=>h
 | x :: xs,_,_,⟨c1,c2,F1,F2,rfl,rfl,h1,h2⟩,hk,hz =>⟨c1,c2,F1,F2,rfl,rfl,ax.frame h1 (λb hb=>hk b (List.mem_append_left _ hb)) hz,jo.frame h2 (λb hb=>hk b (List.mem_append_right _ hb)) hz⟩
theorem jo.append {w:World} : ∀{xs ys:List α} {c1 c2:List Value} {F1 F2:List Nat},jo w xs c1 F1->jo w ys c2 F2->jo w (xs++ys) (c1++c2) (F1++F2)
 | [],_,_,_,_,_,⟨rfl,rfl⟩,h2=>h2
 | x :: xs,ys,_,c2,_,F2,⟨d1,d2,G1,G2,rfl,rfl,h1,h2⟩,h3 =>⟨d1,d2++c2,G1,G2++F2,S',S',h1,jo.append h2 h3⟩
theorem jo.single {w:World} {x:α} {cs:List Value} {F:List Nat} (h:rd w x cs F):jo w [x] cs F:=⟨cs,[],F,[],S',S',h,rfl,rfl⟩
theorem jo.gF {w:World} : ∀{xs ys:List α} {cs:List Value} {F:List Nat},jo w (xs++ys) cs F->∃c1 c2 F1 F2,cs = c1++c2/\F = F1++F2/\jo w xs c1 F1/\jo w ys c2 F2
 | [],_,cs,F,h=>⟨[],cs,[],F,rfl,rfl,⟨rfl,rfl⟩,h⟩
 | x :: xs,ys,_,_,⟨d1,d2,G1,G2,rfl,rfl,h1,h2⟩=>by
   obtain ⟨e1,e2,H1,H2,rfl,rfl,h3,h4⟩:=jo.gF h2;exact ⟨d1++e1,e2,G1++H1,H2,S',S',⟨d1,e1,G1,H1,rfl,rfl,h1,h3⟩,h4⟩
theorem jo.get {w:World} {xs:List α} {cs:List Value} {F:List Nat} (h:jo w xs cs F) {k:Nat} (hk:k < xs.length) :
 ∃ck Fk,rd w xs[k] ck Fk/\(∀b∈Fk,b∈F)/\∀j,j < ax.size α->cs[k * ax.size α+j]? = ck[j]?:=by
 have e:xs = xs.take k++(xs[k] :: xs.drop (k+1)):=by rw [List.getElem_cons_drop,List.take_append_drop]
 rw [e] at h;obtain ⟨c1,c2,F1,F2,rfl,rfl,h1,ck,c3,Fk,F3,rfl,rfl,h2,h3⟩:=jo.gF h;have hl:=h1.len;rw [List.length_take,Nat.min_eq_left J] at hl;refine ⟨ck,Fk,h2,λb hb=>by simp [hb],λj hj=>?_⟩;rw [List.getElem?_append_right J,List.getElem?_append_left (by have:=ax.len h2;omega)];congr 1;omega
end
theorem rV {s:ByteArray} (h:s.size<=maxLen):(s.size:Int)<=9223372036854775807:=by unfold maxLen at h;omega
theorem rdStr (w:World) (s:ByteArray) (h:(s.size:Int)<=9223372036854775807):rd w s [.string s] []:=⟨rfl,rfl,by unfold maxLen;omega⟩
theorem jL (w:World) (n:Int) (h:bt n):rd w n [.int .i64 n] []:=⟨rfl,rfl,h⟩
instance {α:Type} [ax α]:ax (List α) where
 size:=1
 pos:=by omega
 rd w xs cs F:=∃A c G ds,cs = [.slice A xs.length c]/\xs.length<=c/\c<=maxLen/\jo w xs ds G /\
   ((xs = []/\F = [])∨∃b o,A = some ⟨b,o,none⟩/\F = b :: G/\b < w.heap.size/\∀j u,ds[j]? = some u->w.cell? ⟨b,o+j,none⟩ = some u)
 len h:=by obtain ⟨A,c,G,ds,rfl,_⟩:=h;rfl
 one h:=by obtain ⟨A,c,G,ds,rfl,_⟩:=h;intro u hu;simp at hu;subst hu;rfl
 lt h:=by
   obtain ⟨A,c,G,ds,rfl,_,_,hc,h | ⟨b,o,rfl,rfl,hb,_⟩⟩:=h
   ·rw [h.2];intro b hb;cases hb
   ·intro x hx;rcases List.mem_cons.1 hx with rfl | hx
    ·exact hb
    ·exact hc.lt x hx
 frame h hk hz:=by
  obtain ⟨A,c,G,ds,rfl,h1,h2,hc,h | ⟨b,o,rfl,rfl,hb,bv⟩⟩:=h
  ·obtain ⟨rfl,rfl⟩:=h;obtain ⟨rfl,rfl⟩:=hc;exact ⟨A,c,[],[],rfl,h1,h2,⟨rfl,rfl⟩,.inl ⟨rfl,rfl⟩⟩
  ·refine ⟨_,c,G,ds,rfl,h1,h2,hc.frame (λx hx=>hk x (List.mem_cons_of_mem _ hx)) hz,.inr ⟨b,o,rfl,rfl,Nat.lt_of_lt_of_le hb hz,λj u hu=>?_⟩⟩;rw [<- bv j u hu];exact World.cell?_of_block (hk b (List.mem_cons_self ..))
def Sl {α:Type} [ax α] (w:World) (xs:List α) (A:Option Addr) (c:Nat) (F:List Nat):Prop:=rd w xs [.slice A xs.length c] F
section
variable {α:Type} [ax α] {w w':World} {xs:List α} {A:Option Addr} {c:Nat} {F:List Nat}
theorem jB {v:List Value} (h:rd w xs v F):∃A c,v = [.slice A xs.length c]/\Sl w xs A c F:=by
 have h0:=h;obtain ⟨A,c,G,ds,rfl,_⟩:=h;exact ⟨A,c,rfl,h0⟩
theorem Sl.lt (h:Sl w xs A c F):∀b∈F,b < w.heap.size:=ax.lt h
theorem Sl.frame (h:Sl w xs A c F) (hk:∀b∈F,w'.heap[b]? = w.heap[b]?) (hz:w.heap.size<=w'.heap.size):Sl w' xs A c F:=ax.frame h hk hz
theorem Sl.below {B:Nat} (h:Sl w xs A c F) (hb:Below B w w') (hB:∀b∈F,b < B):Sl w' xs A c F:=h.frame (λb dP=>hb.block b (hB b dP)) hb.size
theorem Sl.ext (h:Sl w xs A c F) (hb:Below w.heap.size w w'):Sl w' xs A c F:=h.below hb h.lt
theorem Sl.cap (h:Sl w xs A c F):xs.length<=c/\c<=maxLen:=by
 obtain ⟨A',c',G,ds,e,h1,h2,_⟩:=h;simp at e;obtain ⟨_,rfl⟩:=e;exact ⟨h1,h2⟩
theorem Sl.get (h:Sl w xs A c F) {k:Nat} (hk:k < xs.length) :
 ∃b o ck Fk,A = some ⟨b,o,none⟩/\b∈F/\b < w.heap.size/\rd w xs[k] ck Fk/\(∀x∈Fk,x∈F)/\∀j u,ck[j]? = some u->w.cell? ⟨b,o+(k * ax.size α+j),none⟩ = some u:=by
 obtain ⟨A',c',G,ds,e,_,_,hc,h | ⟨b,o,rfl,rfl,hb,bv⟩⟩:=h
 ·rw [h.1] at hk;cases hk
 ·simp at e;obtain ⟨rfl,rfl⟩:=e;obtain ⟨ck,Fk,hr,hs,hj⟩:=hc.get hk;refine ⟨b,o,ck,Fk,rfl,List.mem_cons_self ..,hb,hr,λx hx=>List.mem_cons_of_mem _ (hs x hx),λj u hu=>bv _ u ?_⟩;rw [hj j (by rw [<- ax.len hr];exact (List.getElem?_eq_some_iff.1 hu).1)];exact hu
theorem Sl.nil (w:World) (A:Option Addr) (c:Nat) (hc:c<=maxLen):Sl w ([]:List α) A c []:=⟨A,c,[],[],rfl,Nat.zero_le _,hc,⟨rfl,rfl⟩,.inl ⟨rfl,rfl⟩⟩
end
structure ao where
 key:ByteArray
 value:ByteArray
instance:ax ao:=ax.rz λl=>(l.key,l.value)
end Go.Proofs.YtdegaofigemegaaGreat
namespace Go.Proofs.YtdegaofigemegaaGreat
open Go.ChangeShapes Go.WideShapes Go.ChangeAt Go.RowKit
set_option linter.unusedVariables false
set_option linter.unusedSimpArgs false
structure DL (P:Program) (t e:TypeId) (z:Value) (size bytes:Nat):Prop where
 ht:P.underlying t = some (.slice e)
 aaA:(P.info? e).map (λi=>(i.zero,i.size,i.bytes)) = some (some z,size,bytes)
 gP:z.cells.size = size
 d9:0 < size
theorem lS {B size:Nat} {w0 w w':World} {v:Value} {e:TypeId} {n:Nat} {xs:List Value} (aw:w.ownsRow B e size v n xs) (hg:w.grownBy w' v.ownBlock) (hb:Below B w0 w) (hB:B<=w.heap.size):Below B w0 w' :=
 hb.grown hg hB λk hk=>(aw.lt k hk).1
section
variable {P:Program} {t e:TypeId} {z:Value} {size bytes:Nat}
theorem lC (hE:DL P t e z size bytes) {ops:Array Oper} {rest:List Oper} {o:Oper} {a:Act} {Q:Exit->Act->World->Prop} (xp:o.guard = none) (s x:Operand)
 (ho:o.op = .call { callee:=.builtin .append,args:=#[s,x],argTypes:=#[t,t] })
 (w:World) (base:Nat) (v:Value) (n:Nat) (xs:List Value) (aw:w.ownsRow base e size v n xs) (hs:a.eval s = v)
 (cs:List Value) (hx:a.eval x = .slice (some ⟨w.heap.size,0,none⟩) 1 1) (hl:cs.length = size) (h1:∀u∈cs,u.oneCell' = true)
 (hn:n<=2097152) (sx:bytes<=4096) (df:base<=w.heap.size)
 (h:∀v' w',w'.ownsRow base e size v' (n+1) (xs++cs)->w.grownBy w' v.ownBlock->w.heap.size+1<=w'.heap.size->wpList P ops Q rest (a.put o.dst v') w'):wpList P ops Q (o :: rest) a (w.alloc (.cells cs.toArray e)):=by
 obtain ⟨ht,gw,gP,d9⟩:=hE;obtain ⟨i,hi,hz,hsize,hb⟩:=info_parts gw;have pL:(n+1) * bytes<=2097153 * 4096:=Nat.mul_le_mul J sx;refine wpList_append_own (w.alloc (.cells cs.toArray e)) xp s x t ho base e i z size bytes ht hi hz hsize hb gP d9 v n xs hs (aw.alloc _) ⟨w.heap.size,0,none⟩ 1 1 cs hx J ?_ h1 pE J (by simp;omega) ?_
 ·exact DB
 ·intro v' w' oR hg _;refine h v' w' oR ⟨hg.os,hg.tape,hg.output,Nat.le_trans S' hg.size,λk hk bI=>?_⟩ avU;rw [hg.block k (by simp;omega) bI];exact Below.heap_alloc _ _ _ hk
end
def eo (w:World) (g:Nat) (t:TypeId) (N:Nat) (ds:List Value):Prop:=∃cs:Array Value,w.heap[g]? = some (.cells cs t (0,0))/\cs.size = N/\ds.length<=N/\∀(j:Nat) (u:Value),ds[j]? = some u->cs[j]? = some u
section
variable {w w':World} {g:Nat} {t:TypeId} {N:Nat} {ds:List Value}
theorem eo.lt (h:eo w g t N ds):g < w.heap.size:=by
 obtain ⟨cs,h,_⟩:=h;exact MM
theorem eo.cell (h:eo w g t N ds) {i:Nat} (hi:i < N):∃u,w.cell? ⟨g,i,none⟩ = some u:=by
 obtain ⟨cs,h,rfl,_⟩:=h;exact ⟨cs[i],by rw [cell_of_row w g i cs t (0,0) h];exact Array.getElem?_eq_getElem hi⟩
theorem eo.frozen (h:eo w g t N ds) (i:Nat):w.frozen? ⟨g,i,none⟩ = false:=by
 obtain ⟨cs,h,_⟩:=h;simp [World.frozen?,h]
theorem eo.keep (h:eo w g t N ds) (hk:w'.heap[g]? = w.heap[g]?):eo w' g t N ds:=by
 obtain ⟨cs,h,r⟩:=h;exact ⟨cs,by rw [hk];exact h,r⟩
theorem eo.store (h:eo w g t N ds) (u:Value) (hi:ds.length < N):eo (w.setCell ⟨g,ds.length,none⟩ u) g t N (ds++[u]):=by
 obtain ⟨cs,h,rfl,hl,hc⟩:=h;refine ⟨cs.setIfInBounds ds.length u,?_,S',by simp;omega,λj v hv=>?_⟩
 ·simp [World.setCell,Array.getElem?_modify,h]
 ·by_cases hj:j < ds.length
  ·rw [Array.getElem?_setIfInBounds_ne J];exact hc j v (by rwa [List.getElem?_append_left hj] at hv)
  ·have jH:j = ds.length:=by
    have:=(List.getElem?_eq_some_iff.1 hv).1;simp at this;omega
   subst jH;simp at hv;subst hv;rw [Array.getElem?_setIfInBounds_self_of_lt hi]
theorem eo.cells (h:eo w g t N ds):∀j u,ds[j]? = some u->w.cell? ⟨g,0+j,none⟩ = some u:=by
 obtain ⟨cs,h,_,_,hc⟩:=h;intro j u hu;rw [Nat.zero_add,cell_of_row w g j cs t (0,0) h];exact hc j u hu
end
structure ai {α:Type} [ax α] (w:World) (B:Nat) (x:α) (cs:List Value) (F:List Nat):Prop where
 rd:rd w x cs F
 nodup:F.Nodup
 base:∀b∈F,B<=b
 plain:∀b∈F,∃ds t,w.heap[b]? = some (.cells ds t (0,0))
section
variable {α:Type} [ax α] {w w':World} {B:Nat} {x:α} {cs:List Value} {F:List Nat}
theorem ai.lt (h:ai w B x cs F):∀b∈F,b < w.heap.size:=ax.lt h.rd
theorem ai.keep (h:ai w B x cs F) (hk:∀b∈F,w'.heap[b]? = w.heap[b]?) (hz:w.heap.size<=w'.heap.size):ai w' B x cs F :=
 ⟨ax.frame h.rd hk hz,h.nodup,h.base,λb hb=>by rw [hk b hb];exact h.plain b hb⟩
theorem ai.ext (h:ai w B x cs F) (hb:Below w.heap.size w w'):ai w' B x cs F:=h.keep (λb dP=>hb.block b (h.lt b dP)) hb.size
theorem ai.alloc (h:ai w B x cs F) (o:Obj):ai (w.alloc o) B x cs F:=h.ext (ak (aj _) o)
theorem ai.setCell (h:ai w B x cs F) {p:Addr} (hp:p.block < B) (u:Value):ai (w.setCell p u) B x cs F :=
 h.keep (λb hb=>Below.heap_setCell _ _ _ _ (by have:=h.base b hb;omega)) fw
theorem ai.flat (h:Go.Proofs.YtdegaofigemegaaGreat.ax.rd w x cs []):ai w B x cs []:=⟨h,List.nodup_nil,(λb hb=>by cases hb),(λb hb=>by cases hb)⟩
theorem ai.mono (h:ai w B x cs F) {B':Nat} (hB:B'<=B):ai w B' x cs F:=⟨h.rd,h.nodup,λb hb=>Nat.le_trans hB (h.base b hb),h.plain⟩
end
structure aY {α:Type} [ax α] (w:World) (B:Nat) (xs:List α) (ds:List Value) (F:List Nat):Prop where
 rd:jo w xs ds F
 nodup:F.Nodup
 base:∀b∈F,B<=b
 plain:∀b∈F,∃ds t,w.heap[b]? = some (.cells ds t (0,0))
section
variable {α:Type} [ax α] {w w':World} {B:Nat} {xs:List α} {ds:List Value} {F:List Nat}
theorem aY.lt (h:aY w B xs ds F):∀b∈F,b < w.heap.size:=h.rd.lt
theorem aY.nil (w:World) (B:Nat):aY w B ([]:List α) [] []:=⟨⟨rfl,rfl⟩,List.nodup_nil,(λb hb=>by cases hb),(λb hb=>by cases hb)⟩
theorem aY.keep (h:aY w B xs ds F) (hk:∀b∈F,w'.heap[b]? = w.heap[b]?) (hz:w.heap.size<=w'.heap.size):aY w' B xs ds F :=
 ⟨h.rd.frame hk hz,h.nodup,h.base,λb hb=>by rw [hk b hb];exact h.plain b hb⟩
theorem aY.ext (h:aY w B xs ds F) (hb:Below w.heap.size w w'):aY w' B xs ds F:=h.keep (λb dP=>hb.block b (h.lt b dP)) hb.size
theorem aY.setCell (h:aY w B xs ds F) {p:Addr} (hp:p.block < B) (u:Value):aY (w.setCell p u) B xs ds F :=
 h.keep (λb hb=>Below.heap_setCell _ _ _ _ (by have:=h.base b hb;omega)) fw
theorem aY.push (h:aY w B xs ds F) {x:α} {cs:List Value} {G:List Nat} {B':Nat} (hx:ai w B' x cs G) (hB:B<=B') (hF:∀b∈F,b < B'):aY w B (xs++[x]) (ds++cs) (F++G):=by
 refine ⟨h.rd.append (.single hx.rd),?_,?_,?_⟩
 ·rw [List.nodup_append];exact ⟨h.nodup,hx.nodup,λa ha b hb=>by have:=hF a ha;have:=hx.base b hb;omega⟩
 ·intro b hb;rcases List.mem_append.1 hb with hb | hb
  ·exact h.base b hb
  ·exact Nat.le_trans hB (hx.base b hb)
 ·intro b hb;rcases List.mem_append.1 hb with hb | hb
  ·exact h.plain b hb
  ·exact hx.plain b hb
theorem ai.Ep {t:TypeId} {g N c:Nat} (hf:eo w g t N ds) (h:aY w (g+1) xs ds F) (hc:xs.length<=c) (hm:c<=maxLen):ai w g xs [.slice (some ⟨g,0,none⟩) xs.length c] (g :: F):=by
 refine ⟨⟨_,c,F,ds,rfl,hc,hm,h.rd,.inr ⟨g,0,rfl,rfl,hf.lt,hf.cells⟩⟩,?_,?_,?_⟩
 ·rw [List.nodup_cons];exact ⟨λhb=>by have:=h.base g hb;omega,h.nodup⟩
 ·intro b hb;rcases List.mem_cons.1 hb with rfl | hb
  ·exact Nat.le_refl _
  ·have:=h.base b hb;omega
 ·intro b hb;rcases List.mem_cons.1 hb with rfl | hb
  ·obtain ⟨cs,dC,_⟩:=hf;exact ⟨cs,t,dC⟩
  ·exact h.plain b hb
theorem ai.oJ {e:TypeId} {v:Value} (h0:w.ownsRow B e (ax.size α) v xs.length ds) (h:aY w B xs ds F) (bI:∀g,v.ownBlock = some g->g∉F):∃A c G,v = .slice A xs.length c/\ai w B xs [.slice A xs.length c] G:=by
 rcases h0 with ⟨hl,⟨rfl,hn⟩ | ⟨g,cap,cj,rfl,hb,hh,eW,hm,dC,ht⟩⟩
 ·obtain rfl:xs = []:=List.eq_nil_of_length_eq_zero hn;exact ⟨none,0,[],rfl,Sl.nil w none 0 (Nat.zero_le _),List.nodup_nil,(λb hb=>by cases hb),(λb hb=>by cases hb)⟩
 ·have hg:g < w.heap.size:=by
   exact LN
  refine ⟨_,cap,g :: F,rfl,⟨_,cap,F,ds,rfl,eW,hm,h.rd,.inr ⟨g,0,rfl,rfl,hg,λj u hu=>?_⟩⟩,?_,?_,?_⟩
  ·exact Ls
  ·rw [List.nodup_cons];exact ⟨bI g rfl,h.nodup⟩
  ·exact K9
  ·exact K'
end
theorem vO {w:World} {x:ao} {cs:List Value} {F:List Nat} (h:rd w x cs F):cs = [.string x.key,.string x.value]/\F = []/\x.key.size<=maxLen/\x.value.size<=maxLen:=by
 obtain ⟨_,_,_,_,rfl,rfl,⟨rfl,rfl,b5⟩,⟨rfl,rfl,kP⟩⟩:=h;exact ⟨rfl,S',b5,kP⟩
theorem Ul (w:World) (x:ao) (b5:x.key.size<=maxLen) (kP:x.value.size<=maxLen):rd w x [.string x.key,.string x.value] []:=⟨_,_,_,_,rfl,rfl,⟨rfl,rfl,b5⟩,⟨rfl,rfl,kP⟩⟩
structure aL where
 key:ByteArray
 op:Int
 values:List ByteArray
instance:ax aL:=ax.rz λx=>(x.key,x.op,x.values)
theorem og {w:World} {x:aL} {cs:List Value} {F:List Nat} (h:rd w x cs F):∃(jy:Option Addr) (ji:Nat) (Bo:List Nat),cs = [.string x.key,.int .i64 x.op,.slice jy x.values.length ji]/\F = Bo/\x.key.size<=maxLen/\bt x.op/\Sl w x.values jy ji Bo:=by
 obtain ⟨_,_,_,_,rfl,rfl,⟨rfl,rfl,b5⟩,_,_,_,_,rfl,rfl,⟨rfl,rfl,gH⟩,kV⟩:=h;obtain ⟨jy,ji,rfl,kV⟩:=jB kV;exact ⟨jy,ji,_,rfl,S',b5,gH,kV⟩
structure iU where
 key:ByteArray
 value:ByteArray
 effect:Int
instance:ax iU:=ax.rz λx=>(x.key,x.value,x.effect)
theorem oK {w:World} {x:iU} {cs:List Value} {F:List Nat} (h:rd w x cs F):cs = [.string x.key,.string x.value,.int .i64 x.effect]/\F = []/\x.key.size<=maxLen/\x.value.size<=maxLen/\bt x.effect:=by
 obtain ⟨_,_,_,_,rfl,rfl,⟨rfl,rfl,b5⟩,_,_,_,_,rfl,rfl,⟨rfl,rfl,kP⟩,⟨rfl,rfl,lD⟩⟩:=h;exact ⟨rfl,S',b5,kP,lD⟩
theorem Q8 (w:World) (x:iU) (b5:x.key.size<=maxLen) (kP:x.value.size<=maxLen) (lD:bt x.effect):rd w x [.string x.key,.string x.value,.int .i64 x.effect] []:=⟨_,_,_,_,rfl,rfl,⟨rfl,rfl,b5⟩,_,_,_,_,rfl,rfl,⟨rfl,rfl,kP⟩,⟨rfl,rfl,lD⟩⟩
structure bH where
 key:ByteArray
 equal:Bool
 value:ByteArray
 effect:Int
instance:ax bH:=ax.rz λx=>(x.key,x.equal,x.value,x.effect)
theorem jv {w:World} {x:bH} {cs:List Value} {F:List Nat} (h:rd w x cs F):cs = [.string x.key,.bool x.equal,.string x.value,.int .i64 x.effect]/\F = []/\x.key.size<=maxLen/\x.value.size<=maxLen/\bt x.effect:=by
 obtain ⟨_,_,_,_,rfl,rfl,⟨rfl,rfl,b5⟩,_,_,_,_,rfl,rfl,⟨rfl,rfl⟩,_,_,_,_,rfl,rfl,⟨rfl,rfl,kP⟩,⟨rfl,rfl,lD⟩⟩:=h;exact ⟨rfl,S',b5,kP,lD⟩
theorem Ov (w:World) (x:bH) (b5:x.key.size<=maxLen) (kP:x.value.size<=maxLen) (lD:bt x.effect):rd w x [.string x.key,.bool x.equal,.string x.value,.int .i64 x.effect] []:=⟨_,_,_,_,rfl,rfl,⟨rfl,rfl,b5⟩,_,_,_,_,rfl,rfl,⟨rfl,rfl⟩,_,_,_,_,rfl,rfl,⟨rfl,rfl,kP⟩,⟨rfl,rfl,lD⟩⟩
structure nI where
 name:ByteArray
 labels:List ao
 aq:Int
 mem:Int
 av:Int
 af:List aL
 ae:List bH
instance:ax nI:=ax.rz λx=>(x.name,x.labels,x.aq,x.mem,x.av,x.af,x.ae)
theorem dL {w:World} {x:nI} {cs:List Value} {F:List Nat} (h:rd w x cs F):∃(gu:Option Addr) (gy:Nat) (jw:List Nat) (oh:Option Addr) (nT:Nat) (wG:List Nat) (fA:Option Addr) (fB:Nat) (jY:List Nat),cs = [.string x.name,.slice gu x.labels.length gy,.int .i64 x.aq,.int .i64 x.mem,.int .i64 x.av,.slice oh x.af.length nT,.slice fA x.ae.length fB]/\F = jw++(wG++(jY))/\x.name.size<=maxLen/\Sl w x.labels gu gy jw/\bt x.aq/\bt x.mem/\bt x.av/\Sl w x.af oh nT wG/\Sl w x.ae fA fB jY:=by
 obtain ⟨_,_,_,_,rfl,rfl,⟨rfl,rfl,hname⟩,_,_,_,_,rfl,rfl,dO,_,_,_,_,rfl,rfl,⟨rfl,rfl,vg⟩,_,_,_,_,rfl,rfl,⟨rfl,rfl,b8⟩,_,_,_,_,rfl,rfl,⟨rfl,rfl,BJ⟩,_,_,_,_,rfl,rfl,mX,eG⟩:=h;obtain ⟨gu,gy,rfl,dO⟩:=jB dO;obtain ⟨oh,nT,rfl,mX⟩:=jB mX;obtain ⟨fA,fB,rfl,eG⟩:=jB eG;exact ⟨gu,gy,_,oh,nT,_,fA,fB,_,rfl,S',hname,dO,vg,b8,BJ,mX,eG⟩
structure ba where
 name:ByteArray
 labels:List ao
 aq:Int
 mem:Int
 slots:Int
 aT:List iU
instance:ax ba:=ax.rz λx=>(x.name,x.labels,x.aq,x.mem,x.slots,x.aT)
theorem iy {w:World} {x:ba} {cs:List Value} {F:List Nat} (h:rd w x cs F):∃(gu:Option Addr) (gy:Nat) (jw:List Nat) (kJ:Option Addr) (kK:Nat) (qU:List Nat),cs = [.string x.name,.slice gu x.labels.length gy,.int .i64 x.aq,.int .i64 x.mem,.int .i64 x.slots,.slice kJ x.aT.length kK]/\F = jw++(qU)/\x.name.size<=maxLen/\Sl w x.labels gu gy jw/\bt x.aq/\bt x.mem/\bt x.slots/\Sl w x.aT kJ kK qU:=by
 obtain ⟨_,_,_,_,rfl,rfl,⟨rfl,rfl,hname⟩,_,_,_,_,rfl,rfl,dO,_,_,_,_,rfl,rfl,⟨rfl,rfl,vg⟩,_,_,_,_,rfl,rfl,⟨rfl,rfl,b8⟩,_,_,_,_,rfl,rfl,⟨rfl,rfl,uI⟩,jq⟩:=h;obtain ⟨gu,gy,rfl,dO⟩:=jB dO;obtain ⟨kJ,kK,rfl,jq⟩:=jB jq;exact ⟨gu,gy,_,kJ,kK,_,rfl,S',hname,dO,vg,b8,uI,jq⟩
structure rZ where
 pack:Int
 spread:Int
 soft:Int
instance:ax rZ:=ax.rz λx=>(x.pack,x.spread,x.soft)
theorem mg {w:World} {x:rZ} {cs:List Value} {F:List Nat} (h:rd w x cs F):cs = [.int .i64 x.pack,.int .i64 x.spread,.int .i64 x.soft]/\F = []/\bt x.pack/\bt x.spread/\bt x.soft:=by
 obtain ⟨_,_,_,_,rfl,rfl,⟨rfl,rfl,Um⟩,_,_,_,_,rfl,rfl,⟨rfl,rfl,U0⟩,⟨rfl,rfl,Un⟩⟩:=h;exact ⟨rfl,S',Um,U0,Un⟩
theorem Zj (w:World) (x:rZ) (Um:bt x.pack) (U0:bt x.spread) (Un:bt x.soft):rd w x [.int .i64 x.pack,.int .i64 x.spread,.int .i64 x.soft] []:=⟨_,_,_,_,rfl,rfl,⟨rfl,rfl,Um⟩,_,_,_,_,rfl,rfl,⟨rfl,rfl,U0⟩,⟨rfl,rfl,Un⟩⟩
structure ag where
 aS:nI
 on:ByteArray
 seq:Int
instance:ax ag:=ax.rz λx=>(x.aS,x.on,x.seq)
theorem kE {w:World} {x:ag} {cs:List Value} {F:List Nat} (h:rd w x cs F):∃(gV:Option Addr) (gW:Nat) (lF:List Nat) (iR:Option Addr) (iT:Nat) (mV:List Nat) (dD:Option Addr) (dF:Nat) (iH:List Nat),cs = [.string x.aS.name,.slice gV x.aS.labels.length gW,.int .i64 x.aS.aq,.int .i64 x.aS.mem,.int .i64 x.aS.av,.slice iR x.aS.af.length iT,.slice dD x.aS.ae.length dF,.string x.on,.int .i64 x.seq]/\F = lF++(mV++(iH))/\x.aS.name.size<=maxLen/\Sl w x.aS.labels gV gW lF/\bt x.aS.aq/\bt x.aS.mem/\bt x.aS.av/\Sl w x.aS.af iR iT mV/\Sl w x.aS.ae dD dF iH/\x.on.size<=maxLen/\bt x.seq:=by
 obtain ⟨_,_,_,_,rfl,rfl,WT,_,_,_,_,rfl,rfl,⟨rfl,rfl,eC⟩,⟨rfl,rfl,hseq⟩⟩:=h;obtain ⟨gV,gW,lF,iR,iT,mV,dD,dF,iH,rfl,rfl,nY,iE,rF,rG,oZ,je,dN⟩:=dL WT;exact ⟨gV,gW,_,iR,iT,_,dD,dF,_,rfl,S',nY,iE,rF,rG,oZ,je,dN,eC,hseq⟩
structure aU where
 O:List ba
 M:List ag
 next:Int
 weights:rZ
instance:ax aU:=ax.rz λx=>(x.O,x.M,x.next,x.weights)
theorem aO {w:World} {x:aU} {cs:List Value} {F:List Nat} (h:rd w x cs F):∃(bG:Option Addr) (bD:Nat) (fQ:List Nat) (dn:Option Addr) (bW:Nat) (jg:List Nat),cs = [.slice bG x.O.length bD,.slice dn x.M.length bW,.int .i64 x.next,.int .i64 x.weights.pack,.int .i64 x.weights.spread,.int .i64 x.weights.soft]/\F = fQ++(jg)/\Sl w x.O bG bD fQ/\Sl w x.M dn bW jg/\bt x.next/\bt x.weights.pack/\bt x.weights.spread/\bt x.weights.soft:=by
 obtain ⟨_,_,_,_,rfl,rfl,bQ,_,_,_,_,rfl,rfl,dM,_,_,_,_,rfl,rfl,⟨rfl,rfl,hnext⟩,xM⟩:=h;obtain ⟨bG,bD,rfl,bQ⟩:=jB bQ;obtain ⟨dn,bW,rfl,dM⟩:=jB dM;obtain ⟨rfl,rfl,aV,aP,aW⟩:=mg xM;exact ⟨bG,bD,_,dn,bW,_,rfl,S',bQ,dM,hnext,aV,aP,aW⟩
structure bN where
 kind:Int
 aS:nI
 aD:ba
instance:ax bN:=ax.rz λx=>(x.kind,x.aS,x.aD)
theorem NS {w:World} {x:bN} {cs:List Value} {F:List Nat} (h:rd w x cs F):∃(gV:Option Addr) (gW:Nat) (lF:List Nat) (iR:Option Addr) (iT:Nat) (mV:List Nat) (dD:Option Addr) (dF:Nat) (iH:List Nat) (yx:Option Addr) (yA:Nat) (JV:List Nat) (yB:Option Addr) (yC:Nat) (JW:List Nat),cs = [.int .i64 x.kind,.string x.aS.name,.slice gV x.aS.labels.length gW,.int .i64 x.aS.aq,.int .i64 x.aS.mem,.int .i64 x.aS.av,.slice iR x.aS.af.length iT,.slice dD x.aS.ae.length dF,.string x.aD.name,.slice yx x.aD.labels.length yA,.int .i64 x.aD.aq,.int .i64 x.aD.mem,.int .i64 x.aD.slots,.slice yB x.aD.aT.length yC]/\F = lF++(mV++(iH++(JV++(JW))))/\bt x.kind/\x.aS.name.size<=maxLen/\Sl w x.aS.labels gV gW lF/\bt x.aS.aq/\bt x.aS.mem/\bt x.aS.av/\Sl w x.aS.af iR iT mV/\Sl w x.aS.ae dD dF iH/\x.aD.name.size<=maxLen/\Sl w x.aD.labels yx yA JV/\bt x.aD.aq/\bt x.aD.mem/\bt x.aD.slots/\Sl w x.aD.aT yB yC JW:=by
 obtain ⟨_,_,_,_,rfl,rfl,⟨rfl,rfl,hkind⟩,_,_,_,_,rfl,rfl,WT,afd⟩:=h;obtain ⟨gV,gW,lF,iR,iT,mV,dD,dF,iH,rfl,rfl,nY,iE,rF,rG,oZ,je,dN⟩:=dL WT;obtain ⟨yx,yA,JV,yB,yC,JW,rfl,rfl,JX,EZ,NT,NU,Hf,E5⟩:=iy afd;exact ⟨gV,gW,_,iR,iT,_,dD,dF,_,yx,yA,_,yB,yC,_,rfl,S',hkind,nY,iE,rF,rG,oZ,je,dN,JX,EZ,NT,NU,Hf,E5⟩
structure tV where
 code:Int
 at_:Int
 path:ByteArray
instance:ax tV:=ax.rz λx=>(x.code,x.at_,x.path)
end Go.Proofs.YtdegaofigemegaaGreat
