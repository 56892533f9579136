/- How strings.Compare and the order of strings agree; short rows of ints. No condition. -/
import Derived.Test.YtajbbmembionpaaGreatDivP
import Derived.Test.YtajbbmembionpaaGreatAppendAt
import Derived.Lib.SlicesCompact
import Derived.Laws.Cover1
namespace Go.Proofs.YtajbbmembionpaaGreat
open Go.ChangeShapes Go.WideShapes Go.ChangeAt Go.RowKit
set_option linter.unusedVariables false
set_option linter.unusedSimpArgs false
set_option maxHeartbeats 1000000
set_option maxRecDepth 100000
theorem qj:∀a b:List UInt8,-1≤Lib.compareBytes a b∧Lib.compareBytes a b≤1
 | [],[]=>by decide
 | [],_ :: _=>by simp [Lib.compareBytes]
 | _ :: _,[]=>by simp [Lib.compareBytes]
 | x :: a,y :: b=>by
   have:=qj a b;unfold Lib.compareBytes;repeat' split
   all_goals omega
theorem J5:∀a b:List UInt8,Lib.compareBytes a b = 0↔a = b
 | [],[]=>by simp [Lib.compareBytes]
 | [],_ :: _=>by simp [Lib.compareBytes]
 | _ :: _,[]=>by simp [Lib.compareBytes]
 | x :: a,y :: b=>by
   have ih:=J5 a b;unfold Lib.compareBytes;by_cases h1:x < y
   ·rw [if_pos h1];constructor
    ·intro h;omega
    ·intro h;injection h with h2 _;subst h2;exact absurd h1 (UInt8.lt_irrefl _)
   ·rw [if_neg h1];by_cases h2:y < x
    ·rw [if_pos h2];constructor
     ·intro h;omega
     ·intro h;injection h with h3 _;subst h3;exact absurd h2 (UInt8.lt_irrefl _)
    ·rw [if_neg h2];have vz:x = y:=UInt8.le_antisymm (UInt8.not_lt.1 h2) (UInt8.not_lt.1 h1);subst vz;rw [ih];simp
theorem Wx:∀a b:List UInt8,Lib.compareBytes a b < 0↔Op.bytesLess a b = true
 | [],[]=>by simp [Lib.compareBytes,Op.bytesLess]
 | [],_ :: _=>by simp [Lib.compareBytes,Op.bytesLess]
 | _ :: _,[]=>by simp [Lib.compareBytes,Op.bytesLess]
 | x :: a,y :: b=>by
   have ih:=Wx a b;unfold Lib.compareBytes Op.bytesLess;by_cases h1:x < y
   ·rw [if_pos h1];simp [h1]
   ·rw [if_neg h1];by_cases h2:y < x
    ·rw [if_pos h2];have b4:(x == y) = false:=(by rw [beq_eq_false_iff_ne];rintro rfl;exact absurd h2 (UInt8.lt_irrefl _));simp [h1,b4]
    ·rw [if_neg h2];have vz:x = y:=UInt8.le_antisymm (UInt8.not_lt.1 h2) (UInt8.not_lt.1 h1);subst vz;rw [ih];simp [h1]
theorem FD:∀a:List UInt8,Op.bytesLess a a = false
 | []=>rfl
 | x :: a=>by
   unfold Op.bytesLess;have ih:=FD a;have h:decide (x < x) = false:=S';simp [ih]
theorem MD (x y:UInt8) (a b:List UInt8):Op.bytesLess (x :: a) (y :: b) = true↔x < y∨(x = y∧Op.bytesLess a b = true):=by
 conv=>lhs;unfold Op.bytesLess
 simp
theorem FE:∀a b c:List UInt8,Op.bytesLess a b = true→Op.bytesLess b c = true→Op.bytesLess a c = true
 | [],[],_,h,_=>by simp [Op.bytesLess] at h
 | [],_ :: _,[],_,h=>by simp [Op.bytesLess] at h
 | [],_ :: _,_ :: _,_,_=>by simp [Op.bytesLess]
 | _ :: _,[],_,h,_=>by simp [Op.bytesLess] at h
 | _ :: _,_ :: _,[],_,h=>by simp [Op.bytesLess] at h
 | x :: a,y :: b,z :: c,h1,h2=>by
   rw [MD] at h1 h2 ⊢;rcases h1 with h1 | ⟨rfl,h1⟩
   ·rcases h2 with h2 | ⟨rfl,h2⟩
    ·exact .inl (UInt8.lt_trans h1 h2)
    ·exact .inl h1
   ·rcases h2 with h2 | ⟨rfl,h2⟩
    ·exact .inl h2
    ·exact .inr ⟨rfl,FE a b c h1 h2⟩
theorem FF:∀a b:List UInt8,Op.bytesLess a b = false→Op.bytesLess b a = false→a = b
 | [],[],_,_=>rfl
 | [],_ :: _,h,_=>by simp [Op.bytesLess] at h
 | _ :: _,[],_,h=>by simp [Op.bytesLess] at h
 | x :: a,y :: b,h1,h2=>by
   have e1:¬(x < y∨(x = y∧Op.bytesLess a b = true)):=(by rw [← MD,h1];simp);have e2:¬(y < x∨(y = x∧Op.bytesLess b a = true)):=(by rw [← MD,h2];simp);have vz:x = y:=UInt8.le_antisymm (UInt8.not_lt.1 fun h=>e2 (.inl h)) (UInt8.not_lt.1 fun h=>e1 (.inl h));subst vz;rw [FF a b (by cases h:Op.bytesLess a b;rfl;exact absurd (.inr ⟨rfl,h⟩) e1) (by cases h:Op.bytesLess b a;rfl;exact absurd (.inr ⟨rfl,h⟩) e2)]
theorem Yv {a b:List UInt8} (h:Op.bytesLess a b = true):Op.bytesLess b a = false:=by
 cases h2:Op.bytesLess b a
 ·rfl
 ·have:=FE a b a h h2;rw [FD] at this;cases this
theorem uP (y z:ByteArray):Op.bytesLess y.data.toList z.data.toList = !(Op.bytesLess z.toList y.toList || z.toList == y.toList):=by
 rw [ByteArray.toList_eq,ByteArray.toList_eq];cases h1:Op.bytesLess z.data.toList y.data.toList with
 | true=>rw [Yv h1];rfl
 | false =>
   cases h2:(z.data.toList == y.data.toList) with
   | true =>rw [beq_iff_eq] at h2;rw [h2,FD];rfl
   | false =>
     cases h3:Op.bytesLess y.data.toList z.data.toList with
     | true=>rfl
     | false =>have:=FF _ _ h1 h3;rw [this] at h2;simp at h2
theorem qQ {P:Program} {t e:TypeId} {z:Value} {size bytes:Nat} (hE:DL P t e z size bytes) {o:Oper} {a:Act} {K:Act→World→Prop} {Q:Exit→Act→World→Prop} (s x:Operand)
 (ho:o.op = .call { callee:=.builtin .append,args:=#[s,x],argTypes:=#[t,t] })
 (w:World) (base:Nat) (v:Value) (n:Nat) (xs:List Value) (bk:w.ownsRow base e size v n xs) (hs:a.eval s = v)
 (ad:Addr) (m c:Nat) (fr:List Value) (hx:a.eval x = .slice (some ad) m c) (hl:fr.length = m * size) (i8:∀j u,fr[j]? = some u→w.cell? (ad.add j) = some u) (h1:∀u∈fr,u.oneCell' = true)
 (Z:n+m≤2097152) (mU:bytes≤4096) (dk:base≤w.heap.size)
 (h:∀v' w',w'.ownsRow base e size v' (n+m) (xs++fr)→w.grownBy w' v.ownBlock→(v'.ownBlock = v.ownBlock∨v'.ownBlock = some w.heap.size)→K (a.put o.dst v') w'):o.wp P a w K Q:=by
 obtain ⟨ht,hi0,lB,gT⟩:=hE;obtain ⟨i,hi,hz,hsize,X⟩:=info_parts hi0;have i7:(n+m) * bytes≤2097152 * 4096:=Nat.mul_le_mul J mU;obtain ⟨v',w',hr,h2,h3,h4,h5⟩:=run_append_own_at (P:=P) w base t o.type e i z size bytes ht hi hz hsize X lB gT v n xs bk ad m c fr hl i8 h1 kD J dk;unfold Oper.wp execOp;simp only [ho,resolve,invoke,builtin,Sem.run_bind,Sem.run_pure,Result.andThen_ok,List.map_toArray,List.map_cons,List.map_nil,hs,hx,hr];exact h v' w' h2 h3 h5
theorem xW {P:Program} {t e:TypeId} {z:Value} {size bytes:Nat} (hE:DL P t e z size bytes) {ops:Array Oper} {rest:List Oper} {o:Oper} {a:Act} {Q:Exit→Act→World→Prop} (sl:o.guard = none) (s x:Operand)
 (ho:o.op = .call { callee:=.builtin .append,args:=#[s,x],argTypes:=#[t,t] })
 (w:World) (base:Nat) (v:Value) (n:Nat) (xs:List Value) (bk:w.ownsRow base e size v n xs) (hs:a.eval s = v)
 (ad:Addr) (m c:Nat) (fr:List Value) (hx:a.eval x = .slice (some ad) m c) (hl:fr.length = m * size) (i8:∀j u,fr[j]? = some u→w.cell? (ad.add j) = some u) (h1:∀u∈fr,u.oneCell' = true)
 (Z:n+m≤2097152) (mU:bytes≤4096) (dk:base≤w.heap.size)
 (h:∀v' w',w'.ownsRow base e size v' (n+m) (xs++fr)→w.grownBy w' v.ownBlock→(v'.ownBlock = v.ownBlock∨v'.ownBlock = some w.heap.size)→wpList P ops Q rest (a.put o.dst v') w'):wpList P ops Q (o :: rest) a w :=
 wpList_plain sl fun K hK=>qQ hE s x ho w base v n xs bk hs ad m c fr hx hl i8 h1 Z mU dk fun v' w' h1 h2 h3=>hK _ _ (h v' w' h1 h2 h3)
theorem D9 (W:World) (e:TypeId) (size N:Nat) (hN:W.heap.size = N):(W.alloc (.cells #[] e)).ownsRow N e size (.slice (some ⟨N,0,none⟩) 0 0) 0 []:=by
 subst hN;exact World.ownsRow_made W #[] 0 (Nat.le_refl _) (Nat.zero_le _) S'
theorem DI (W:World) (e:TypeId) (EQ:List Value) (N:Nat) (hN:W.heap.size = N):∀q u,EQ[q]? = some u→(W.alloc (.cells EQ.toArray e)).cell? ((⟨N,0,none⟩:Addr).add q) = some u:=by
 subst hN;intro q u hu;rw [Addr.add_lit,Nat.zero_add,cell_of_row _ _ _ _ _ _ (heap_alloc_new W _)];simpa using hu
theorem wW {w:World} {B e size n:Nat} {v:Value} {xs:List Value} (h:w.ownsRow B e size v n xs) (Z:0 < n):∃g aq,v = .slice (some ⟨g,0,none⟩) n aq∧B≤g∧n≤aq∧g < w.heap.size:=by
 rcases h.2 with h | ⟨g,aq,dx,h1,h2,h3,h4,h5⟩
 ·omega
 ·refine ⟨g,aq,h1,h2,h4,?_⟩;exact D4
theorem IE {w:World} {B e size n g aq:Nat} {xs:List Value} (h:w.ownsRow B e size (.slice (some ⟨g,0,none⟩) n aq) n xs):B≤g∧g < w.heap.size∧n≤aq∧∀j u,xs[j]? = some u→w.cell? ⟨g,j,none⟩ = some u:=by
 rcases h.2 with ⟨h,_⟩ | ⟨g',cap',dx,h1,h2,h3,h4,h5⟩
 ·cases h
 ·simp only [Value.slice.injEq,Option.some.injEq,Addr.mk.injEq,and_true,true_and] at h1;obtain ⟨rfl,rfl⟩:=h1;refine ⟨h2,?_,h4,fun j u hu=>?_⟩
  ·exact D4
  ·rw [cell_of_row w g j dx e (0,0) h3];have hj:=(List.getElem?_eq_some_iff.1 hu).1;rw [← h5.2.2,List.getElem?_take] at hu;split at hu
   ·simpa using hu
   ·cases hu
theorem PY {β:Type} {lt:β→β→Bool} {y:β} : ∀(s1 s2:List β),(∀x∈s1,lt y x = false)→(s2 = []∨∃x s',s2 = x :: s'∧lt y x = true)→OM lt y (s1++s2) = s1++y :: s2
 | [],s2,_,h2=>by
   rcases h2 with rfl | ⟨x,s',rfl,h⟩
   ·rfl
   ·simp only [List.nil_append];rw [OM,if_pos h]
 | x :: s1,s2,h1,h2=>by
   have h0:=h1 x (List.mem_cons_self ..);simp only [List.cons_append];rw [OM,if_neg (by rw [h0];simp),PY s1 s2 (fun z hz=>h1 z (List.mem_cons_of_mem _ hz)) h2]
def blt (x y:ByteArray):Bool:=Op.bytesLess x.toList y.toList
theorem yP:ub blt:=⟨fun x=>FD _,fun x y z=>FE _ _ _,fun x y h1 h2=>Ce (by rw [beq_iff_eq];exact FF _ _ h1 h2)⟩
def gr (xs:List ByteArray):List ByteArray:=eh blt [] xs
theorem Rz (xs:List ByteArray):(gr xs).length≤xs.length:=by have:=vA blt xs [];unfold gr;simpa using this
theorem RA {xs:List ByteArray} {z:ByteArray} (h:z∈gr xs):z∈xs:=by
 rcases (Bx yP z xs []).1 h with h | h
 ·cases h
 ·exact h
theorem RB (xs:List ByteArray):kL ByteArray.size (gr xs)≤kL ByteArray.size xs:=by
 have h:=By ByteArray.size blt xs [];have hl:=vA blt xs [];unfold gr kL;exact xY
theorem Qq (a b:List UInt8) (h1:Op.bytesLess a b = true):Lib.compareBytes a b = -1:=by
 have h3:=qj a b;have h4:=(Wx a b).2 h1;omega
theorem JC:∀a b:List UInt8,Lib.compareBytes b a = - Lib.compareBytes a b
 | [],[]=>rfl
 | [],_ :: _=>rfl
 | _ :: _,[]=>rfl
 | x :: a,y :: b=>by
   have ih:=JC a b;unfold Lib.compareBytes;by_cases h1:x < y
   ·have h2:¬y < x:=fun h=>absurd (UInt8.lt_trans h1 h) (UInt8.lt_irrefl _);rw [if_pos h1,if_neg h2,if_pos h1];rfl
   ·by_cases h2:y < x
    ·rw [if_pos h2,if_neg h1,if_pos h2]
    ·rw [if_neg h1,if_neg h2,if_neg h2,if_neg h1];exact ih
theorem Yb (a b:ByteArray) (w:World):Calls Tryz.prog 63 #[.string a,.string b] w fun e w'=>e = .returned (.int .i64 (Lib.compareBytes a.data.toList b.data.toList))∧w' = w:=by
 have haa:(a.toList == a.toList) = true:=by simp
 have i7:(b.toList == b.toList) = true:=by simp
 cases h1:Op.bytesLess a.toList b.toList with
 | true =>have hf:=Qq _ _ h1;rw [ByteArray.toList_eq,ByteArray.toList_eq] at hf;rw [hf];exact xT
 | false =>
   cases h2:Op.bytesLess b.toList a.toList with
   | true =>
     have hf:=Qq _ _ h2;rw [JC,ByteArray.toList_eq,ByteArray.toList_eq] at hf;have h9:(a.toList == b.toList) = false:=by rw [beq_eq_false_iff_ne];intro e;rw [ByteArray.toList_eq,ByteArray.toList_eq,← J5] at e;omega
     rw [show Lib.compareBytes a.data.toList b.data.toList = 1 by omega];exact xT
   | false =>
     have h3:¬Lib.compareBytes a.toList b.toList < 0:=fun h=>by rw [Wx,h1] at h;cases h
     have h4:¬Lib.compareBytes b.toList a.toList < 0:=fun h=>by rw [Wx,h2] at h;cases h
     rw [JC] at h4;rw [ByteArray.toList_eq,ByteArray.toList_eq] at h3 h4;have h8:Lib.compareBytes a.data.toList b.data.toList = 0:=J;have h9:(a.toList == b.toList) = true:=by rw [beq_iff_eq,ByteArray.toList_eq,ByteArray.toList_eq];exact (J5 _ _).1 h8
     rw [h8];exact xT
def qW:List ByteArray→List ByteArray→Int
 | [],[]=>0
 | [],_ :: _=>-1
 | _ :: _,[]=>1
 | x :: xs,y :: ys=>if Lib.compareBytes x.data.toList y.data.toList = 0 then qW xs ys else Lib.compareBytes x.data.toList y.data.toList
theorem V8 {xs ys:List ByteArray} {k:Nat} (h:k < xs.length) (h':k < ys.length):qW (xs.drop k) (ys.drop k) = if Lib.compareBytes xs[k].data.toList ys[k].data.toList = 0 then qW (xs.drop (k+1)) (ys.drop (k+1)) else Lib.compareBytes xs[k].data.toList ys[k].data.toList:=by
 rw [← List.getElem_cons_drop h,← List.getElem_cons_drop h'];rfl
theorem V' {xs ys:List ByteArray} {k:Nat} (h:k < xs.length) (h':ys.length≤k):qW (xs.drop k) (ys.drop k) = 1:=by
 rw [← List.getElem_cons_drop h,List.drop_eq_nil_of_le h'];rfl
theorem Wa {xs ys:List ByteArray} {k:Nat} (h:xs.length≤k):qW (xs.drop k) (ys.drop k) = if k < ys.length then -1 else 0:=by
 rw [List.drop_eq_nil_of_le h];by_cases h':k < ys.length
 ·rw [if_pos h',← List.getElem_cons_drop h'];rfl
 ·rw [if_neg h',List.drop_eq_nil_of_le J];rfl
def W9 (x y:aM):List Int:=[Lib.compareBytes x.key.data.toList y.key.data.toList,Lib.compareInt x.op y.op,qW x.values y.values]
def nD (x y:aM):Bool:=decide (Qa (W9 x y) < 0)
def uB (x y:iU):List Int:=[Lib.compareBytes x.key.data.toList y.key.data.toList,Lib.compareBytes x.value.data.toList y.value.data.toList,Lib.compareInt x.ao y.ao]
def uC (a b:Bool):Int:=if a == b then 0 else if b then -1 else 1
def tw (x y:bH):List Int:=[Lib.compareBytes x.key.data.toList y.key.data.toList,uC x.equal y.equal,Lib.compareBytes x.value.data.toList y.value.data.toList,Lib.compareInt x.ao y.ao]
def qo (x y:iU):Bool:=decide (Qa (uB x y) < 0)
theorem VV {x y:iU} (h:(x.key.toList == y.key.toList) = false):qo x y = Op.bytesLess x.key.toList y.key.toList:=by
 have h1:Lib.compareBytes x.key.data.toList y.key.data.toList≠0:=fun e=>by
  exact pP
 unfold qo uB;simp only [Qa,if_neg h1];exact pN
theorem VW {x y:iU} (hk:(x.key.toList == y.key.toList) = true) (h:(x.value.toList == y.value.toList) = false):qo x y = Op.bytesLess x.value.toList y.value.toList:=by
 have h0:Lib.compareBytes x.key.data.toList y.key.data.toList = 0:=by rw [J5,← ByteArray.toList_eq,← ByteArray.toList_eq];simpa using hk
 have h1:Lib.compareBytes x.value.data.toList y.value.data.toList≠0:=fun e=>by
  exact pP
 unfold qo uB;simp only [Qa,if_pos h0,if_neg h1];exact pN
theorem V0 {x y:iU} (hk:(x.key.toList == y.key.toList) = true) (h:(x.value.toList == y.value.toList) = true):qo x y = decide (x.ao < y.ao):=by
 have h0:Lib.compareBytes x.key.data.toList y.key.data.toList = 0:=by rw [J5,← ByteArray.toList_eq,← ByteArray.toList_eq];simpa using hk
 have h1:Lib.compareBytes x.value.data.toList y.value.data.toList = 0:=by rw [J5,← ByteArray.toList_eq,← ByteArray.toList_eq];simpa using h
 unfold qo uB;simp only [Qa,if_pos h0,if_pos h1];exact xL
theorem PV (x y:iU) (cs ds:List Value) (F G:List Nat) (w:World) (h:rd w x cs F) (h':rd w y ds G) :
 Calls Tryz.prog 139 #[.agg cs.toArray,.agg ds.toArray] w fun e w'=>e = .returned (.bool (qo x y))∧Below w.heap.size w w':=by
 obtain ⟨aE,hF1,xO,xk,zT⟩:=oK h;obtain ⟨jU,nW,vC,rP,uY⟩:=oK h';subst aE jU;subst hF1 nW;cases h1:(x.key.toList == y.key.toList) with
 | false =>rw [VV h1];go_enter Tryz.func139,Tryz.ntmps139;exact lV
 | true =>
   cases h2:(x.value.toList == y.value.toList) with
   | false =>rw [VW h1 h2];go_enter Tryz.func139,Tryz.ntmps139;exact lV
   | true =>rw [V0 h1 h2];go_enter Tryz.func139,Tryz.ntmps139;exact lV
def vJ (x y:bH):Bool:=decide (Qa (tw x y) < 0)
theorem V1 {x y:bH} (h:(x.key.toList == y.key.toList) = false):vJ x y = Op.bytesLess x.key.toList y.key.toList:=by
 have h1:Lib.compareBytes x.key.data.toList y.key.data.toList≠0:=fun e=>by
  exact pP
 unfold vJ tw;simp only [Qa,if_neg h1];exact pN
theorem V2 {x y:bH} (hk:(x.key.toList == y.key.toList) = true) (h:x.equal≠y.equal):vJ x y = y.equal:=by
 have h0:Lib.compareBytes x.key.data.toList y.key.data.toList = 0:=by rw [J5,← ByteArray.toList_eq,← ByteArray.toList_eq];simpa using hk
 unfold vJ tw;simp only [Qa,if_pos h0];cases hx:x.equal <;> cases hy:y.equal <;> simp_all [uC]
theorem V5 {x y:bH} (hk:(x.key.toList == y.key.toList) = true) (hq:x.equal = y.equal) (h:(x.value.toList == y.value.toList) = false):vJ x y = Op.bytesLess x.value.toList y.value.toList:=by
 have h0:Lib.compareBytes x.key.data.toList y.key.data.toList = 0:=by rw [J5,← ByteArray.toList_eq,← ByteArray.toList_eq];simpa using hk
 have h1:Lib.compareBytes x.value.data.toList y.value.data.toList≠0:=fun e=>by
  exact pP
 have h2:uC x.equal y.equal = 0:=by unfold uC;simp [hq]
 unfold vJ tw;simp only [Qa,if_pos h0,if_pos h2,if_neg h1];exact pN
theorem V7 {x y:bH} (hk:(x.key.toList == y.key.toList) = true) (hq:x.equal = y.equal) (h:(x.value.toList == y.value.toList) = true):vJ x y = decide (x.ao < y.ao):=by
 have h0:Lib.compareBytes x.key.data.toList y.key.data.toList = 0:=by rw [J5,← ByteArray.toList_eq,← ByteArray.toList_eq];simpa using hk
 have h1:Lib.compareBytes x.value.data.toList y.value.data.toList = 0:=by rw [J5,← ByteArray.toList_eq,← ByteArray.toList_eq];simpa using h
 have h2:uC x.equal y.equal = 0:=by unfold uC;simp [hq]
 unfold vJ tw;simp only [Qa,if_pos h0,if_pos h2,if_pos h1];exact xL
theorem PZ (x y:bH) (cs ds:List Value) (F G:List Nat) (w:World) (h:rd w x cs F) (h':rd w y ds G) :
 Calls Tryz.prog 79 #[.agg cs.toArray,.agg ds.toArray] w fun e w'=>e = .returned (.bool (vJ x y))∧Below w.heap.size w w':=by
 obtain ⟨aE,hF1,xO,xk,zT⟩:=jv h;obtain ⟨jU,nW,vC,rP,uY⟩:=jv h';subst aE jU;subst hF1 nW;cases h1:(x.key.toList == y.key.toList) with
 | false =>rw [V1 h1];go_enter Tryz.func79,Tryz.ntmps79;exact lV
 | true =>
   by_cases h3:x.equal = y.equal
   ·cases h2:(x.value.toList == y.value.toList) with
    | false =>rw [V5 h1 h3 h2];exact ED
    | true =>rw [V7 h1 h3 h2];exact ED
   ·rw [V2 h1 h3];have h4:(x.equal == y.equal) = false:=(by simp [h3]);go_enter Tryz.func79,Tryz.ntmps79;exact lV
end Go.Proofs.YtajbbmembionpaaGreat
