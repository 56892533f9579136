/- How strings.Compare and the order of strings agree; short rows of ints. No condition. -/
import Derived.Test.YtajbbmembionpaaGreatGr
import Derived.Test.YtajbbmembionpaaGreatAppendAt
import Derived.Test.YtajbbmembionpaaGreatRegion
import Derived.Laws.Cover1
namespace Go.Proofs.YtajbbmembionpaaGreat
open Go.ChangeShapes Go.WideShapes Go.ChangeAt Go.RowKit
set_option linter.unusedVariables false
set_option linter.unusedSimpArgs false
set_option maxHeartbeats 2000000
set_option maxRecDepth 100000
theorem qj:∀a b:List UInt8,-1≤Lib.compareBytes a b∧Lib.compareBytes a b≤1
 | [],[]=>by decide
 | [],_ :: _=>by simp [Lib.compareBytes]
 | _ :: _,[]=>by simp [Lib.compareBytes]
 | x :: a,y :: b=>by
   have:=qj a b;unfold Lib.compareBytes;repeat' split
   all_goals omega
theorem J5:∀a b:List UInt8,Lib.compareBytes a b = 0↔a = b
 | [],[]=>by simp [Lib.compareBytes]
 | [],_ :: _=>by simp [Lib.compareBytes]
 | _ :: _,[]=>by simp [Lib.compareBytes]
 | x :: a,y :: b=>by
   have ih:=J5 a b;unfold Lib.compareBytes;by_cases h1:x < y
   ·rw [if_pos h1];constructor
    ·intro h;omega
    ·intro h;injection h with h2 _;subst h2;exact absurd h1 (UInt8.lt_irrefl _)
   ·rw [if_neg h1];by_cases h2:y < x
    ·rw [if_pos h2];constructor
     ·intro h;omega
     ·intro h;injection h with h3 _;subst h3;exact absurd h2 (UInt8.lt_irrefl _)
    ·rw [if_neg h2];have xH:x = y:=UInt8.le_antisymm (UInt8.not_lt.1 h2) (UInt8.not_lt.1 h1);subst xH;rw [ih];simp
theorem Wx:∀a b:List UInt8,Lib.compareBytes a b < 0↔Op.bytesLess a b = true
 | [],[]=>by simp [Lib.compareBytes,Op.bytesLess]
 | [],_ :: _=>by simp [Lib.compareBytes,Op.bytesLess]
 | _ :: _,[]=>by simp [Lib.compareBytes,Op.bytesLess]
 | x :: a,y :: b=>by
   have ih:=Wx a b;unfold Lib.compareBytes Op.bytesLess;by_cases h1:x < y
   ·rw [if_pos h1];simp [h1]
   ·rw [if_neg h1];by_cases h2:y < x
    ·rw [if_pos h2];have bN:(x == y) = false:=(by rw [beq_eq_false_iff_ne];rintro rfl;exact absurd h2 (UInt8.lt_irrefl _));simp [h1,bN]
    ·rw [if_neg h2];have xH:x = y:=UInt8.le_antisymm (UInt8.not_lt.1 h2) (UInt8.not_lt.1 h1);subst xH;rw [ih];simp [h1]
theorem UB (a b:List UInt8) (h1:Op.bytesLess a b = true):Lib.compareBytes a b = -1:=by
 have h3:=qj a b;have h4:=(Wx a b).2 h1;omega
theorem MD:∀a b:List UInt8,Lib.compareBytes b a = - Lib.compareBytes a b
 | [],[]=>rfl
 | [],_ :: _=>rfl
 | _ :: _,[]=>rfl
 | x :: a,y :: b=>by
   have ih:=MD a b;unfold Lib.compareBytes;by_cases h1:x < y
   ·have h2:¬y < x:=fun h=>absurd (UInt8.lt_trans h1 h) (UInt8.lt_irrefl _);rw [if_pos h1,if_neg h2,if_pos h1];rfl
   ·by_cases h2:y < x
    ·rw [if_pos h2,if_neg h1,if_pos h2]
    ·rw [if_neg h1,if_neg h2,if_neg h2,if_neg h1];exact ih
theorem Yb (a b:ByteArray) (w:World):Calls Tryz.prog 63 #[.string a,.string b] w fun e w'=>e = .returned (.int .i64 (Lib.compareBytes a.data.toList b.data.toList))∧w' = w:=by
 have haa:(a.toList == a.toList) = true:=by simp
 have fL:(b.toList == b.toList) = true:=by simp
 cases h1:Op.bytesLess a.toList b.toList with
 | true =>have hf:=UB _ _ h1;rw [ByteArray.toList_eq,ByteArray.toList_eq] at hf;rw [hf];exact zC
 | false =>
   cases h2:Op.bytesLess b.toList a.toList with
   | true =>
     have hf:=UB _ _ h2;rw [MD,ByteArray.toList_eq,ByteArray.toList_eq] at hf;have h9:(a.toList == b.toList) = false:=by rw [beq_eq_false_iff_ne];intro e;rw [ByteArray.toList_eq,ByteArray.toList_eq,← J5] at e;omega
     rw [show Lib.compareBytes a.data.toList b.data.toList = 1 by omega];exact zC
   | false =>
     have h3:¬Lib.compareBytes a.toList b.toList < 0:=fun h=>by rw [Wx,h1] at h;cases h
     have h4:¬Lib.compareBytes b.toList a.toList < 0:=fun h=>by rw [Wx,h2] at h;cases h
     rw [MD] at h4;rw [ByteArray.toList_eq,ByteArray.toList_eq] at h3 h4;have h8:Lib.compareBytes a.data.toList b.data.toList = 0:=J;have h9:(a.toList == b.toList) = true:=by rw [beq_iff_eq,ByteArray.toList_eq,ByteArray.toList_eq];exact (J5 _ _).1 h8
     rw [h8];exact zC
def qW:List ByteArray→List ByteArray→Int
 | [],[]=>0
 | [],_ :: _=>-1
 | _ :: _,[]=>1
 | x :: xs,y :: ys=>if Lib.compareBytes x.data.toList y.data.toList = 0 then qW xs ys else Lib.compareBytes x.data.toList y.data.toList
theorem ab5 {xs ys:List ByteArray} {k:Nat} (h:k < xs.length) (h':k < ys.length):qW (xs.drop k) (ys.drop k) = if Lib.compareBytes xs[k].data.toList ys[k].data.toList = 0 then qW (xs.drop (k+1)) (ys.drop (k+1)) else Lib.compareBytes xs[k].data.toList ys[k].data.toList:=by
 rw [← List.getElem_cons_drop h,← List.getElem_cons_drop h'];rfl
theorem ab6 {xs ys:List ByteArray} {k:Nat} (h:k < xs.length) (h':ys.length≤k):qW (xs.drop k) (ys.drop k) = 1:=by
 rw [← List.getElem_cons_drop h,List.drop_eq_nil_of_le h'];rfl
theorem adS {xs ys:List ByteArray} {k:Nat} (h:xs.length≤k):qW (xs.drop k) (ys.drop k) = if k < ys.length then -1 else 0:=by
 rw [List.drop_eq_nil_of_le h];by_cases h':k < ys.length
 ·rw [if_pos h',← List.getElem_cons_drop h'];rfl
 ·rw [if_neg h',List.drop_eq_nil_of_le J];rfl
def W9 (x y:aD):List Int:=[Lib.compareBytes x.key.data.toList y.key.data.toList,Lib.compareInt x.op y.op,qW x.values y.values]
def nD (x y:aD):Bool:=decide (Qa (W9 x y) < 0)
def wv (x y:iU):List Int:=[Lib.compareBytes x.key.data.toList y.key.data.toList,Lib.compareBytes x.value.data.toList y.value.data.toList,Lib.compareInt x.effect y.effect]
def wy (a b:Bool):Int:=if a == b then 0 else if b then -1 else 1
def uS (x y:bH):List Int:=[Lib.compareBytes x.key.data.toList y.key.data.toList,wy x.equal y.equal,Lib.compareBytes x.value.data.toList y.value.data.toList,Lib.compareInt x.effect y.effect]
def qo (x y:iU):Bool:=decide (Qa (wv x y) < 0)
theorem aiw {x y:iU} (h:(x.key.toList == y.key.toList) = false):qo x y = Op.bytesLess x.key.toList y.key.toList:=by
 have h1:Lib.compareBytes x.key.data.toList y.key.data.toList≠0:=fun e=>by
  exact ry
 unfold qo wv;simp only [Qa,if_neg h1];exact rv
theorem aeU {x y:iU} (hk:(x.key.toList == y.key.toList) = true) (h:(x.value.toList == y.value.toList) = false):qo x y = Op.bytesLess x.value.toList y.value.toList:=by
 have h0:Lib.compareBytes x.key.data.toList y.key.data.toList = 0:=by rw [J5,← ByteArray.toList_eq,← ByteArray.toList_eq];simpa using hk
 have h1:Lib.compareBytes x.value.data.toList y.value.data.toList≠0:=fun e=>by
  exact ry
 unfold qo wv;simp only [Qa,if_pos h0,if_neg h1];exact rv
theorem adu {x y:iU} (hk:(x.key.toList == y.key.toList) = true) (h:(x.value.toList == y.value.toList) = true):qo x y = decide (x.effect < y.effect):=by
 have h0:Lib.compareBytes x.key.data.toList y.key.data.toList = 0:=by rw [J5,← ByteArray.toList_eq,← ByteArray.toList_eq];simpa using hk
 have h1:Lib.compareBytes x.value.data.toList y.value.data.toList = 0:=by rw [J5,← ByteArray.toList_eq,← ByteArray.toList_eq];simpa using h
 unfold qo wv;simp only [Qa,if_pos h0,if_pos h1];exact zw
theorem TS (x y:iU) (cs ds:List Value) (F G:List Nat) (w:World) (h:rd w x cs F) (h':rd w y ds G) :
 Calls Tryz.prog 139 #[.agg cs.toArray,.agg ds.toArray] w fun e w'=>e = .returned (.bool (qo x y))∧Below w.heap.size w w':=by
 obtain ⟨aw,hF1,xO,xk,zT⟩:=oK h;obtain ⟨jU,oX,vC,rP,uY⟩:=oK h';subst aw jU;subst hF1 oX;cases h1:(x.key.toList == y.key.toList) with
 | false =>rw [aiw h1];go_enter Tryz.func139,Tryz.ntmps139;exact my
 | true =>
   cases h2:(x.value.toList == y.value.toList) with
   | false =>rw [aeU h1 h2];go_enter Tryz.func139,Tryz.ntmps139;exact my
   | true =>rw [adu h1 h2];go_enter Tryz.func139,Tryz.ntmps139;exact my
def vJ (x y:bH):Bool:=decide (Qa (uS x y) < 0)
theorem anr {x y:bH} (h:(x.key.toList == y.key.toList) = false):vJ x y = Op.bytesLess x.key.toList y.key.toList:=by
 have h1:Lib.compareBytes x.key.data.toList y.key.data.toList≠0:=fun e=>by
  exact ry
 unfold vJ uS;simp only [Qa,if_neg h1];exact rv
theorem aiA {x y:bH} (hk:(x.key.toList == y.key.toList) = true) (h:x.equal≠y.equal):vJ x y = y.equal:=by
 have h0:Lib.compareBytes x.key.data.toList y.key.data.toList = 0:=by rw [J5,← ByteArray.toList_eq,← ByteArray.toList_eq];simpa using hk
 unfold vJ uS;simp only [Qa,if_pos h0];cases hx:x.equal <;> cases hy:y.equal <;> simp_all [wy]
theorem aiB {x y:bH} (hk:(x.key.toList == y.key.toList) = true) (hq:x.equal = y.equal) (h:(x.value.toList == y.value.toList) = false):vJ x y = Op.bytesLess x.value.toList y.value.toList:=by
 have h0:Lib.compareBytes x.key.data.toList y.key.data.toList = 0:=by rw [J5,← ByteArray.toList_eq,← ByteArray.toList_eq];simpa using hk
 have h1:Lib.compareBytes x.value.data.toList y.value.data.toList≠0:=fun e=>by
  exact ry
 have h2:wy x.equal y.equal = 0:=by unfold wy;simp [hq]
 unfold vJ uS;simp only [Qa,if_pos h0,if_pos h2,if_neg h1];exact rv
theorem ahL {x y:bH} (hk:(x.key.toList == y.key.toList) = true) (hq:x.equal = y.equal) (h:(x.value.toList == y.value.toList) = true):vJ x y = decide (x.effect < y.effect):=by
 have h0:Lib.compareBytes x.key.data.toList y.key.data.toList = 0:=by rw [J5,← ByteArray.toList_eq,← ByteArray.toList_eq];simpa using hk
 have h1:Lib.compareBytes x.value.data.toList y.value.data.toList = 0:=by rw [J5,← ByteArray.toList_eq,← ByteArray.toList_eq];simpa using h
 have h2:wy x.equal y.equal = 0:=by unfold wy;simp [hq]
 unfold vJ uS;simp only [Qa,if_pos h0,if_pos h2,if_pos h1];exact zw
theorem TT (x y:bH) (cs ds:List Value) (F G:List Nat) (w:World) (h:rd w x cs F) (h':rd w y ds G) :
 Calls Tryz.prog 79 #[.agg cs.toArray,.agg ds.toArray] w fun e w'=>e = .returned (.bool (vJ x y))∧Below w.heap.size w w':=by
 obtain ⟨aw,hF1,xO,xk,zT⟩:=jv h;obtain ⟨jU,oX,vC,rP,uY⟩:=jv h';subst aw jU;subst hF1 oX;cases h1:(x.key.toList == y.key.toList) with
 | false =>rw [anr h1];go_enter Tryz.func79,Tryz.ntmps79;exact my
 | true =>
   by_cases h3:x.equal = y.equal
   ·cases h2:(x.value.toList == y.value.toList) with
    | false =>rw [aiB h1 h3 h2];exact Iy
    | true =>rw [ahL h1 h3 h2];exact Iy
   ·rw [aiA h1 h3];have h4:(x.equal == y.equal) = false:=(by simp [h3]);go_enter Tryz.func79,Tryz.ntmps79;exact my
theorem akQ {x y:aD} (h:(x.key.toList == y.key.toList) = false):nD x y = Op.bytesLess x.key.toList y.key.toList:=by
 have h1:Lib.compareBytes x.key.data.toList y.key.data.toList≠0:=fun e=>by
  exact ry
 unfold nD W9;simp only [Qa,if_neg h1];exact rv
theorem amw {x y:aD} (hk:(x.key.toList == y.key.toList) = true) (h:x.op≠y.op):nD x y = decide (x.op < y.op):=by
 have h0:Lib.compareBytes x.key.data.toList y.key.data.toList = 0:=by rw [J5,← ByteArray.toList_eq,← ByteArray.toList_eq];simpa using hk
 have h1:Lib.compareInt x.op y.op≠0:=by unfold Lib.compareInt;repeat' split <;> omega
 unfold nD W9;simp only [Qa,if_pos h0,if_neg h1];exact zw
theorem aeD {x y:aD} (hk:(x.key.toList == y.key.toList) = true) (h:x.op = y.op):nD x y = decide (qW x.values y.values < 0):=by
 have h0:Lib.compareBytes x.key.data.toList y.key.data.toList = 0:=by rw [J5,← ByteArray.toList_eq,← ByteArray.toList_eq];simpa using hk
 have h1:Lib.compareInt x.op y.op = 0:=by unfold Lib.compareInt;repeat' split <;> omega
 unfold nD W9;simp only [Qa,if_pos h0,if_pos h1];by_cases h2:qW x.values y.values = 0
 ·rw [if_pos h2,h2]
 ·rw [if_neg h2]
theorem TN (x y:aD) (cs ds:List Value) (F G:List Nat) (w:World) (h:rd w x cs F) (h':rd w y ds G) (hl:(x.values.length:Int)≤1048576) (C1:(y.values.length:Int)≤1048576) :
 Calls Tryz.prog 77 #[.agg cs.toArray,.agg ds.toArray] w fun e w'=>e = .returned (.bool (nD x y))∧Below w.heap.size w w':=by
 obtain ⟨pX,pY,KG,aw,hF1,xO,oa,wO⟩:=og h;obtain ⟨qO,qP,KL,jU,oX,vC,hop2,zS⟩:=og h';subst aw jU;cases h1:(x.key.toList == y.key.toList) with
 | false =>rw [akQ h1];go_enter Tryz.func77,Tryz.ntmps77;exact my
 | true =>
   by_cases h3:x.op = y.op
   ·have bi:=aeD h1 h3;have HF:=I bi;clear bi;have h4:(x.op == y.op) = true:=(by simp [h3]);go_enter Tryz.func77,Tryz.ntmps77;go_wp2;go_loopw [5] (fun i wr=>∃k:Nat,k≤x.values.length∧i = .int .i64 k∧Hid (k≤y.values.length)∧Hid (qW x.values y.values = qW (x.values.drop k) (y.values.drop k))∧wr.cell? ⟨w.heap.size,2,none⟩ = some (.slice pX x.values.length pY)∧wr.cell? ⟨w.heap.size+1,2,none⟩ = some (.slice qO y.values.length qP)∧Below w.heap.size w wr) (fun i _=>x.values.length - (intOf i).toNat)
    case atStart =>
     refine ⟨0,Nat.zero_le _,rfl,Nat.zero_le _,rfl,?_,?_,bx⟩
     ·exact zj
     ·simp
    case round =>
     obtain ⟨k,hk,rfl,HK,HO,tB,uT,ax⟩:=hrel;have hky:=HK.out;have cg:=World.block_lt_of_cell? wr _ tB;have cj:=World.block_lt_of_cell? wr _ uT;simp only at cg cj;by_cases aq:k < x.values.length
     ·by_cases hly:k < y.values.length
      ·obtain ⟨b,o,ck,Fk,rfl,o9,bc,hr,bv,hc⟩:=(Sl.ext (w':=wr) (A:=pX) (c:=pY) wO ax).get aq;obtain ⟨aw,su,gg⟩:=hr;subst aw su;have q0:wr.cell? ⟨b,o+k,none⟩ = some (.string x.values[k]):=(by have:=hc 0 _ rfl;rwa [show o+(k * ba.size ByteArray+0) = o+k from by show o+(k * 1+0) = _;omega] at this);clear hc;obtain ⟨b2,o2,ck2,Fk2,rfl,ayO,uO,fR,oY,bX⟩:=(Sl.ext (w':=wr) (A:=qO) (c:=qP) zS ax).get hly;obtain ⟨aw,su,hsz2⟩:=fR;subst aw su;have p0:wr.cell? ⟨b2,o2+k,none⟩ = some (.string y.values[k]):=(by have:=bX 0 _ rfl;rwa [show o2+(k * ba.size ByteArray+0) = o2+k from by show o2+(k * 1+0) = _;omega] at this);clear bX;have hd:=ab5 aq hly;cases he:(x.values[k].toList == y.values[k].toList) with
       | true =>
         have h0:Lib.compareBytes x.values[k].data.toList y.values[k].data.toList = 0:=(by rw [J5,← ByteArray.toList_eq,← ByteArray.toList_eq];simpa using he);rw [if_pos h0] at hd;have HN:=I (HO.out.trans hd);clear hd h0;go_wp2_with fail
         refine aF _ U' U' (aj _) ?_
         repeat ((first | refine aG O ?_ | refine aH _ O dE ?_);simp only [Act.put,pz])
         refine aN ?_;intro wn hn;replace hn:=hn.out;replace tB:=r' hn tB cg;replace uT:=r' hn uT cj;replace q0:=r' hn q0 bc;replace p0:=r' hn p0 uO;replace cg:=Nat.lt_of_lt_of_le cg hn.size;replace cj:=Nat.lt_of_lt_of_le cj hn.size;replace bc:=Nat.lt_of_lt_of_le bc hn.size;replace uO:=Nat.lt_of_lt_of_le uO hn.size;replace ax:=ah ax hn;go_wp2;exact ⟨⟨k+1,J,N',by show k+1≤y.values.length;omega,HN.out,tB,uT,ax⟩,by simp [intOf];omega⟩
       | false =>
         have h0:Lib.compareBytes x.values[k].data.toList y.values[k].data.toList≠0:=fun e=>by
          rw [J5,← ByteArray.toList_eq,← ByteArray.toList_eq] at e;simp [e] at he
         rw [if_neg h0] at hd;have hg:nD x y = Op.bytesLess x.values[k].toList y.values[k].toList:=by rw [HF.out,HO.out,hd,Bool.eq_iff_iff,decide_eq_true_eq,Wx,ByteArray.toList_eq,ByteArray.toList_eq]
         have HG:=I hg;clear hd h0 hg;go_wp2_with fail
         refine aF _ U' U' (aj _) ?_
         repeat ((first | refine aG O ?_ | refine aH _ O dE ?_);simp only [Act.put,pz])
         refine aN ?_;intro wn hn;replace hn:=hn.out;replace tB:=r' hn tB cg;replace uT:=r' hn uT cj;replace q0:=r' hn q0 bc;replace p0:=r' hn p0 uO;replace cg:=Nat.lt_of_lt_of_le cg hn.size;replace cj:=Nat.lt_of_lt_of_le cj hn.size;replace bc:=Nat.lt_of_lt_of_le bc hn.size;replace uO:=Nat.lt_of_lt_of_le uO hn.size;replace ax:=ah ax hn;clear hn;go_wp2_with fail
         first
          | (go_ret;exact ⟨by rw [HG.out];first | rfl | simp_all,ax⟩)
          | (refine aF _ U' U' (aj _) ?_
             repeat ((first | refine aG O ?_ | refine aH _ O dE ?_);simp only [Act.put,pz])
             refine aN ?_;intro wn2 IG;replace IG:=IG.out;go_wp2;go_ret
             exact ⟨by rw [HG.out];first | rfl | simp_all,ah ax IG⟩)
      ·have hg:nD x y = false:=(by rw [HF.out,HO.out,ab6 aq J];rfl);have HG:=I hg;have IH:¬(x.values.length:Int) < y.values.length:=J;clear hg;exact zB
     ·have bB:k = x.values.length:=J;subst bB;have he:=HO.out.trans (adS (Nat.le_refl _));by_cases hly:x.values.length < y.values.length
      ·rw [if_pos hly] at he;have hg:nD x y = true:=(by rw [HF.out,he];rfl);have HG:=I hg;have IH:(x.values.length:Int) < y.values.length:=J;clear hg he;exact zB
      ·rw [if_neg hly] at he;have hg:nD x y = false:=(by rw [HF.out,he];rfl);have HG:=I hg;have IH:¬(x.values.length:Int) < y.values.length:=J;clear hg he;exact zB
   ·rw [amw h1 h3];have h4:(x.op == y.op) = false:=(by simp [h3]);go_enter Tryz.func77,Tryz.ntmps77;exact my
end Go.Proofs.YtajbbmembionpaaGreat
