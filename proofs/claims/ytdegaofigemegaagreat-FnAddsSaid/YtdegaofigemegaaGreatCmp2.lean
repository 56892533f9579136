/- How strings.Compare and the order of strings agree; short rows of ints. No condition. -/
import Derived.Test.YtdegaofigemegaaGreatToBase
import Derived.Laws.Cover1
namespace Go.Proofs.YtdegaofigemegaaGreat
open Go.ChangeShapes Go.WideShapes Go.ChangeAt Go.RowKit
set_option linter.unusedVariables false
set_option linter.unusedSimpArgs false
set_option maxHeartbeats 1000000
set_option maxRecDepth 100000
theorem qj:∀a b:List UInt8,-1<=Lib.compareBytes a b/\Lib.compareBytes a b<=1
 | [],[]=>by decide
 | [],_ :: _=>by simp [Lib.compareBytes]
 | _ :: _,[]=>by simp [Lib.compareBytes]
 | x :: a,y :: b=>by
   have:=qj a b;unfold Lib.compareBytes;repeat' split
   all_goals omega
theorem J5:∀a b:List UInt8,Lib.compareBytes a b = 0↔a = b
 | [],[]=>by simp [Lib.compareBytes]
 | [],_ :: _=>by simp [Lib.compareBytes]
 | _ :: _,[]=>by simp [Lib.compareBytes]
 | x :: a,y :: b=>by
   have ih:=J5 a b;unfold Lib.compareBytes;by_cases h1:x < y
   ·rw [if_pos h1];constructor
    ·intro h;omega
    ·intro h;injection h with h2 _;subst h2;exact absurd h1 (UInt8.lt_irrefl _)
   ·rw [if_neg h1];by_cases h2:y < x
    ·rw [if_pos h2];constructor
     ·intro h;omega
     ·intro h;injection h with h3 _;subst h3;exact absurd h2 (UInt8.lt_irrefl _)
    ·rw [if_neg h2];have xS:x = y:=UInt8.le_antisymm (UInt8.not_lt.1 h2) (UInt8.not_lt.1 h1);subst xS;rw [ih];simp
theorem Wx:∀a b:List UInt8,Lib.compareBytes a b < 0↔Op.bytesLess a b = true
 | [],[]=>by simp [Lib.compareBytes,Op.bytesLess]
 | [],_ :: _=>by simp [Lib.compareBytes,Op.bytesLess]
 | _ :: _,[]=>by simp [Lib.compareBytes,Op.bytesLess]
 | x :: a,y :: b=>by
   have ih:=Wx a b;unfold Lib.compareBytes Op.bytesLess;by_cases h1:x < y
   ·rw [if_pos h1];simp [h1]
   ·rw [if_neg h1];by_cases h2:y < x
    ·rw [if_pos h2];have bI:(x == y) = false:=(by rw [beq_eq_false_iff_ne];rintro rfl;exact absurd h2 (UInt8.lt_irrefl _));simp [h1,bI]
    ·rw [if_neg h2];have xS:x = y:=UInt8.le_antisymm (UInt8.not_lt.1 h2) (UInt8.not_lt.1 h1);subst xS;rw [ih];simp [h1]
theorem OP:∀a:List UInt8,Op.bytesLess a a = false
 | []=>rfl
 | x :: a=>by
   unfold Op.bytesLess;have ih:=OP a;have h:decide (x < x) = false:=S';simp [ih]
theorem Se (x y:UInt8) (a b:List UInt8):Op.bytesLess (x :: a) (y :: b) = true↔x < y∨(x = y/\Op.bytesLess a b = true):=by
 conv=>lhs;unfold Op.bytesLess
 simp
theorem Bp:∀a b c:List UInt8,Op.bytesLess a b = true->Op.bytesLess b c = true->Op.bytesLess a c = true
 | [],[],_,h,_=>by simp [Op.bytesLess] at h
 | [],_ :: _,[],_,h=>by simp [Op.bytesLess] at h
 | [],_ :: _,_ :: _,_,_=>by simp [Op.bytesLess]
 | _ :: _,[],_,h,_=>by simp [Op.bytesLess] at h
 | _ :: _,_ :: _,[],_,h=>by simp [Op.bytesLess] at h
 | x :: a,y :: b,z :: c,h1,h2=>by
   rw [Se] at h1 h2 |-;rcases h1 with h1 | ⟨rfl,h1⟩
   ·rcases h2 with h2 | ⟨rfl,h2⟩
    ·exact .inl (UInt8.lt_trans h1 h2)
    ·exact .inl h1
   ·rcases h2 with h2 | ⟨rfl,h2⟩
    ·exact .inl h2
    ·exact .inr ⟨rfl,Bp a b c h1 h2⟩
theorem OR:∀a b:List UInt8,Op.bytesLess a b = false->Op.bytesLess b a = false->a = b
 | [],[],_,_=>rfl
 | [],_ :: _,h,_=>by simp [Op.bytesLess] at h
 | _ :: _,[],_,h=>by simp [Op.bytesLess] at h
 | x :: a,y :: b,h1,h2=>by
   have e1:¬(x < y∨(x = y/\Op.bytesLess a b = true)):=(by rw [<- Se,h1];simp);have e2:¬(y < x∨(y = x/\Op.bytesLess b a = true)):=(by rw [<- Se,h2];simp);have xS:x = y:=UInt8.le_antisymm (UInt8.not_lt.1 λh=>e2 (.inl h)) (UInt8.not_lt.1 λh=>e1 (.inl h));subst xS;rw [OR a b (by cases h:Op.bytesLess a b;rfl;exact absurd (.inr ⟨rfl,h⟩) e1) (by cases h:Op.bytesLess b a;rfl;exact absurd (.inr ⟨rfl,h⟩) e2)]
theorem atx {a b:List UInt8} (h:Op.bytesLess a b = true):Op.bytesLess b a = false:=by
 cases h2:Op.bytesLess b a
 ·rfl
 ·have:=Bp a b a h h2;rw [OP] at this;cases this
theorem Br (y z:ByteArray):Op.bytesLess y.data.toList z.data.toList = !(Op.bytesLess z.toList y.toList || z.toList == y.toList):=by
 rw [ByteArray.toList_eq,ByteArray.toList_eq];cases h1:Op.bytesLess z.data.toList y.data.toList with
 | true=>rw [atx h1];rfl
 | false =>
   cases h2:(z.data.toList == y.data.toList) with
   | true =>rw [beq_iff_eq] at h2;rw [h2,OP];rfl
   | false =>
     cases h3:Op.bytesLess y.data.toList z.data.toList with
     | true=>rfl
     | false =>have:=OR _ _ h1 h3;rw [this] at h2;simp at h2
def blt (x y:ByteArray):Bool:=Op.bytesLess x.toList y.toList
theorem vo:ot blt:=⟨λx=>OP _,λx y z=>Bp _ _ _,λx y h1 h2=>Ce (by rw [beq_iff_eq];exact OR _ _ h1 h2)⟩
def gm (xs:List ByteArray):List ByteArray:=dx blt [] xs
theorem aAP (xs:List ByteArray):(gm xs).length<=xs.length:=by have:=xT blt xs [];unfold gm;simpa using this
theorem aA4 {xs:List ByteArray} {z:ByteArray} (h:z∈gm xs):z∈xs:=by
 rcases (Cr vo z xs []).1 h with h | h
 ·cases h
 ·exact h
theorem aB3 (xs:List ByteArray):kL ByteArray.size (gm xs)<=kL ByteArray.size xs:=by
 have h:=I7 ByteArray.size blt xs [];have hl:=xT blt xs [];unfold gm kL;exact Eg
def rA (x y:iU):List Int:=[Lib.compareBytes x.key.data.toList y.key.data.toList,Lib.compareBytes x.value.data.toList y.value.data.toList,Lib.compareInt x.effect y.effect]
theorem ayk (x y:iU) (cs ds:List Value) (F G:List Nat) (w:World) (h:rd w x cs F) (h':rd w y ds G) :
 Calls Tryz.prog 108 #[.agg cs.toArray,.agg ds.toArray] w λe w'=>e = .returned (.int .i64 (Qa (rA x y)))/\Gr w w':=by
 obtain ⟨ar,hF1,xO,xk,zT⟩:=oK h;obtain ⟨jU,mI,vC,rP,uY⟩:=oK h';subst ar jU;subst hF1 mI;have iB:=qj x.key.data.toList y.key.data.toList;have eT:=qj x.value.data.toList y.value.data.toList;have gO:=BU x.effect y.effect;go_enter Tryz.func108,Tryz.ntmps108;go_wp2_with fail
 refine nS ((w.alloc (.cells #[.string x.key,.string x.value,.int .i64 x.effect] 116)).alloc (.cells #[.string y.key,.string y.value,.int .i64 y.effect] 116)) [0,1,2,3,5,6,7,8,10,11,12,13] [4,9,14,15,16,17] U' U' H' (aj _) ?_;simp only [pick,List.getElem?_cons_succ,List.getElem?_cons_zero]
 iterate 12
  (apply dR
   case hy =>exact D3
   simp only [Act.put,pz])
 refine fE ?_;have bo:=aA (aj ((w.alloc (.cells #[.string x.key,.string x.value,.int .i64 x.effect] 116)).alloc (.cells #[.string y.key,.string y.value,.int .i64 y.effect] 116)));refine aK rfl (λK hK=>?_);go_simp;refine (N8 x.key y.key _).mono ?_;rintro e wz ⟨rfl,hw⟩;simp only [hw];clear hw wz;refine hK _ _ bo (λ_=>?_);try simp only [Act.put,pz]
 clear hK K;refine aK rfl (λK hK=>?_);go_simp;refine (N8 x.value y.value _).mono ?_;rintro e wz ⟨rfl,hw⟩;simp only [hw];clear hw wz;refine hK _ _ bo (λ_=>?_);try simp only [Act.put,pz]
 clear hK K;refine aK rfl (λK hK=>?_);go_simp;refine (EI x.effect y.effect _).mono ?_;rintro e wz ⟨rfl,hw⟩;simp only [hw];clear hw wz;refine hK _ _ bo (λ_=>?_);try simp only [Act.put,pz]
 clear hK K;refine aK rfl (λK hK=>?_);go_simp;replace bo:=ak bo (.cells #[.int .i64 (Lib.compareBytes x.key.data.toList y.key.data.toList),.int .i64 (Lib.compareBytes x.value.data.toList y.value.data.toList),.int .i64 (Lib.compareInt x.effect y.effect)] 3);refine hK _ _ bo (λ_=>?_);try simp only [Act.put,pz]
 clear hK K;have hS:=Sl.Up (Sl.Bf ((w.alloc (.cells #[.string x.key,.string x.value,.int .i64 x.effect] 116)).alloc (.cells #[.string y.key,.string y.value,.int .i64 y.effect] 116)) _ _ _ 3 (bt.small iB) (bt.small eT) (bt.small gO) (w.heap.size+2) S');refine aK rfl (λK hK=>?_);go_simp;refine (Uo _ _ 3 _ _ _ hS rfl S').mono ?_;rintro e wz ⟨rfl,hw⟩;simp only [hw];clear hw wz;refine hK _ _ bo (λ_=>?_);try simp only [Act.put,pz]
 clear hK K;refine aK rfl (λK hK=>?_);go_simp;refine hK _ _ bo (λ_=>?_);try simp only [Act.put,pz]
 clear hK K;refine dX ?_;go_wp2;go_ret
 exact ⟨rfl,Uh⟩
theorem acE (x y:iU) (cs ds:List Value) (F G:List Nat) (w:World) (h:rd w x cs F) (h':rd w y ds G) :
 Calls Tryz.prog 108 #[.agg cs.toArray,.agg ds.toArray] w λe w'=>e = .returned (.int .i64 (Qa (rA x y)))/\Below w.heap.size w w' :=
 (ayk x y cs ds F G w h h').mono λ_ _ hh=>⟨hh.1,hh.2.below⟩
def qo (x y:iU):Bool:=decide (Qa (rA x y) < 0)
theorem aiw {x y:iU} (h:(x.key.toList == y.key.toList) = false):qo x y = Op.bytesLess x.key.toList y.key.toList:=by
 have h1:Lib.compareBytes x.key.data.toList y.key.data.toList≠0:=λe=>by
  exact ui
 unfold qo rA;simp only [Qa,if_neg h1];exact ue
theorem aeU {x y:iU} (hk:(x.key.toList == y.key.toList) = true) (h:(x.value.toList == y.value.toList) = false):qo x y = Op.bytesLess x.value.toList y.value.toList:=by
 have h0:Lib.compareBytes x.key.data.toList y.key.data.toList = 0:=by rw [J5,<- ByteArray.toList_eq,<- ByteArray.toList_eq];simpa using hk
 have h1:Lib.compareBytes x.value.data.toList y.value.data.toList≠0:=λe=>by
  exact ui
 unfold qo rA;simp only [Qa,if_pos h0,if_neg h1];exact ue
theorem adu {x y:iU} (hk:(x.key.toList == y.key.toList) = true) (h:(x.value.toList == y.value.toList) = true):qo x y = decide (x.effect < y.effect):=by
 have h0:Lib.compareBytes x.key.data.toList y.key.data.toList = 0:=by rw [J5,<- ByteArray.toList_eq,<- ByteArray.toList_eq];simpa using hk
 have h1:Lib.compareBytes x.value.data.toList y.value.data.toList = 0:=by rw [J5,<- ByteArray.toList_eq,<- ByteArray.toList_eq];simpa using h
 unfold qo rA;simp only [Qa,if_pos h0,if_pos h1];exact DX
theorem Z3 (x y:iU) (cs ds:List Value) (F G:List Nat) (w:World) (h:rd w x cs F) (h':rd w y ds G) :
 Calls Tryz.prog 145 #[.agg cs.toArray,.agg ds.toArray] w λe w'=>e = .returned (.bool (qo x y))/\Below w.heap.size w w':=by
 obtain ⟨ar,hF1,xO,xk,zT⟩:=oK h;obtain ⟨jU,mI,vC,rP,uY⟩:=oK h';subst ar jU;subst hF1 mI;cases h1:(x.key.toList == y.key.toList) with
 | false =>rw [aiw h1];go_enter Tryz.func145,Tryz.ntmps145;exact sn
 | true =>
   cases h2:(x.value.toList == y.value.toList) with
   | false =>rw [aeU h1 h2];go_enter Tryz.func145,Tryz.ntmps145;exact sn
   | true =>rw [adu h1 h2];go_enter Tryz.func145,Tryz.ntmps145;exact sn
theorem asO (a b:List UInt8) (h1:Op.bytesLess a b = true):Lib.compareBytes a b = -1:=by
 have h3:=qj a b;have h4:=(Wx a b).2 h1;omega
theorem RO:∀a b:List UInt8,Lib.compareBytes b a = - Lib.compareBytes a b
 | [],[]=>rfl
 | [],_ :: _=>rfl
 | _ :: _,[]=>rfl
 | x :: a,y :: b=>by
   have ih:=RO a b;unfold Lib.compareBytes;by_cases h1:x < y
   ·have h2:¬y < x:=λh=>absurd (UInt8.lt_trans h1 h) (UInt8.lt_irrefl _);rw [if_pos h1,if_neg h2,if_pos h1];rfl
   ·by_cases h2:y < x
    ·rw [if_pos h2,if_neg h1,if_pos h2]
    ·rw [if_neg h1,if_neg h2,if_neg h2,if_neg h1];exact ih
theorem Yb (a b:ByteArray) (w:World):Calls Tryz.prog 197 #[.string a,.string b] w λe w'=>e = .returned (.int .i64 (Lib.compareBytes a.data.toList b.data.toList))/\w' = w:=by
 have haa:(a.toList == a.toList) = true:=by simp
 have pL:(b.toList == b.toList) = true:=by simp
 cases h1:Op.bytesLess a.toList b.toList with
 | true =>have hf:=asO _ _ h1;rw [ByteArray.toList_eq,ByteArray.toList_eq] at hf;rw [hf];exact D5
 | false =>
   cases h2:Op.bytesLess b.toList a.toList with
   | true =>
     have hf:=asO _ _ h2;rw [RO,ByteArray.toList_eq,ByteArray.toList_eq] at hf;have h9:(a.toList == b.toList) = false:=by rw [beq_eq_false_iff_ne];intro e;rw [ByteArray.toList_eq,ByteArray.toList_eq,<- J5] at e;omega
     rw [show Lib.compareBytes a.data.toList b.data.toList = 1 by omega];exact D5
   | false =>
     have h3:¬Lib.compareBytes a.toList b.toList < 0:=λh=>by rw [Wx,h1] at h;cases h
     have h4:¬Lib.compareBytes b.toList a.toList < 0:=λh=>by rw [Wx,h2] at h;cases h
     rw [RO] at h4;rw [ByteArray.toList_eq,ByteArray.toList_eq] at h3 h4;have h8:Lib.compareBytes a.data.toList b.data.toList = 0:=J;have h9:(a.toList == b.toList) = true:=by rw [beq_iff_eq,ByteArray.toList_eq,ByteArray.toList_eq];exact (J5 _ _).1 h8
     rw [h8];exact D5
def qW:List ByteArray->List ByteArray->Int
 | [],[]=>0
 | [],_ :: _=>-1
 | _ :: _,[]=>1
 | x :: xs,y :: ys=>if Lib.compareBytes x.data.toList y.data.toList = 0 then qW xs ys else Lib.compareBytes x.data.toList y.data.toList
theorem ab5 {xs ys:List ByteArray} {k:Nat} (h:k < xs.length) (h':k < ys.length):qW (xs.drop k) (ys.drop k) = if Lib.compareBytes xs[k].data.toList ys[k].data.toList = 0 then qW (xs.drop (k+1)) (ys.drop (k+1)) else Lib.compareBytes xs[k].data.toList ys[k].data.toList:=by
 rw [<- List.getElem_cons_drop h,<- List.getElem_cons_drop h'];rfl
theorem ab6 {xs ys:List ByteArray} {k:Nat} (h:k < xs.length) (h':ys.length<=k):qW (xs.drop k) (ys.drop k) = 1:=by
 rw [<- List.getElem_cons_drop h,List.drop_eq_nil_of_le h'];rfl
theorem adS {xs ys:List ByteArray} {k:Nat} (h:xs.length<=k):qW (xs.drop k) (ys.drop k) = if k < ys.length then -1 else 0:=by
 rw [List.drop_eq_nil_of_le h];by_cases h':k < ys.length
 ·rw [if_pos h',<- List.getElem_cons_drop h'];rfl
 ·rw [if_neg h',List.drop_eq_nil_of_le J];rfl
theorem ZR:∀xs ys:List ByteArray,-1<=qW xs ys/\qW xs ys<=1
 | [],[]=>by simp [qW]
 | [],_ :: _=>by simp [qW]
 | _ :: _,[]=>by simp [qW]
 | x :: xs,y :: ys=>by
   have h1:=ZR xs ys;have h2:=qj x.data.toList y.data.toList;unfold qW;split <;> omega
theorem aeC (xs ys:List ByteArray) (A B:Option Addr) (n m c d:Nat) (F G:List Nat) (w:World) (h:Sl w xs A c F) (h':Sl w ys B d G) (hn:n = xs.length) (hm:m = ys.length) (hl:(xs.length:Int)<=1048576) (pq:(ys.length:Int)<=1048576) :
 Calls Tryz.prog 157 #[.slice A n c,.slice B m d] w λe w'=>e = .returned (.int .i64 (qW xs ys))/\w' = w:=by
 subst hn hm;go_enter Tryz.func157,Tryz.ntmps157;go_wp2_with fail
 go_loop [11] (λi=>∃k:Nat,k<=xs.length/\i = .int .i64 k/\Hid (k<=ys.length)/\Hid (qW xs ys = qW (xs.drop k) (ys.drop k))) (λi=>xs.length - (intOf i).toNat)
 case atStart=>exact ⟨0,Nat.zero_le _,rfl,Nat.zero_le _,rfl⟩
 case round =>
  obtain ⟨k,hk,rfl,HK,HO⟩:=hrel;have hky:=HK.out;by_cases ap:k < xs.length
  ·obtain ⟨b,o,ck,Fk,rfl,o9,hbs,hr,bi,hc⟩:=h.get ap;obtain ⟨ar,su,d9⟩:=hr;subst ar su;have q0:w.cell? ⟨b,o+k,none⟩ = some (.string xs[k]):=(by have:=hc 0 _ rfl;rwa [show o+(k * ax.size ByteArray+0) = o+k from by show o+(k * 1+0) = _;omega] at this);clear hc;by_cases hly:k < ys.length
   ·obtain ⟨b2,o2,ck2,Fk2,rfl,ayO,uO,eT,mN,bM⟩:=h'.get hly;obtain ⟨ar,su,hsz2⟩:=eT;subst ar su;have p0:w.cell? ⟨b2,o2+k,none⟩ = some (.string ys[k]):=(by have:=bM 0 _ rfl;rwa [show o2+(k * ax.size ByteArray+0) = o2+k from by show o2+(k * 1+0) = _;omega] at this);clear bM;have hd:=ab5 ap hly;have hC:=Yb xs[k] ys[k] w;generalize hz:Lib.compareBytes xs[k].data.toList ys[k].data.toList = z at hd hC;by_cases h0:z = 0
    ·rw [if_pos h0] at hd;have HN:=I (HO.out.trans hd);have HC:=I hC;clear hd hC hz;subst h0;go_wp2_with (go_at_call 197;refine HC.out.mono ?_;rintro e w2 ⟨rfl,rfl⟩)
     exact ⟨⟨k+1,J,N',by show k+1<=ys.length;omega,HN.out⟩,by simp [intOf];omega⟩
    ·rw [if_neg h0] at hd;have HN:=I (HO.out.trans hd);have HC:=I hC;have cY:(z == 0) = false:=(by simp [h0]);have aR:(z != 0) = true:=(by simp [h0]);clear hd hC hz;go_wp2_with (go_at_call 197;refine HC.out.mono ?_;rintro e w2 ⟨rfl,rfl⟩)
     go_ret
     exact ⟨by rw [HN.out];rfl,rfl⟩
   ·have HN:=I (HO.out.trans (ab6 ap J));have rv:(ys.length:Int)<=k:=J;exact ul
  ·have bz:k = xs.length:=J;subst bz;have he:=HO.out.trans (adS (Nat.le_refl _));by_cases hly:xs.length < ys.length
   ·rw [if_pos hly] at he;have HN:=I he;clear he;have Us:(xs.length:Int) < ys.length:=J;exact ul
   ·rw [if_neg hly] at he;have HN:=I he;clear he;have Us:¬(xs.length:Int) < ys.length:=J;exact ul
def W9 (x y:aL):List Int:=[Lib.compareBytes x.key.data.toList y.key.data.toList,Lib.compareInt x.op y.op,qW x.values y.values]
def nD (x y:aL):Bool:=decide (Qa (W9 x y) < 0)
theorem ayN (x y:aL) (cs ds:List Value) (F G:List Nat) (w:World) (h:rd w x cs F) (h':rd w y ds G) (hl:(x.values.length:Int)<=1048576) (pq:(y.values.length:Int)<=1048576) :
 Calls Tryz.prog 123 #[.agg cs.toArray,.agg ds.toArray] w λe w'=>e = .returned (.int .i64 (Qa (W9 x y)))/\Gr w w':=by
 obtain ⟨pX,pY,KG,ar,hF1,xO,kw,wO⟩:=og h;obtain ⟨qO,qP,KL,jU,mI,vC,hop2,zS⟩:=og h';subst ar jU;subst hF1 mI;have iB:=qj x.key.data.toList y.key.data.toList;have eT:=BU x.op y.op;have gO:=ZR x.values y.values;go_enter Tryz.func123,Tryz.ntmps123;go_wp2_with fail
 refine nS ((w.alloc (.cells #[.string x.key,.int .i64 x.op,.slice pX x.values.length pY] 138)).alloc (.cells #[.string y.key,.int .i64 y.op,.slice qO y.values.length qP] 138)) [0,1,2,3,5,6,7,8,10,11,12,13] [4,9,14,15,16,17] U' U' H' (aj _) ?_;simp only [pick,List.getElem?_cons_succ,List.getElem?_cons_zero]
 iterate 12
  (apply dR
   case hy =>exact D3
   simp only [Act.put,pz])
 refine fE ?_;have bo:=aA (aj ((w.alloc (.cells #[.string x.key,.int .i64 x.op,.slice pX x.values.length pY] 138)).alloc (.cells #[.string y.key,.int .i64 y.op,.slice qO y.values.length qP] 138)));refine aK rfl (λK hK=>?_);go_simp;refine (N8 x.key y.key _).mono ?_;rintro e wz ⟨rfl,hw⟩;simp only [hw];clear hw wz;refine hK _ _ bo (λ_=>?_);try simp only [Act.put,pz]
 clear hK K;refine aK rfl (λK hK=>?_);go_simp;refine (EI x.op y.op _).mono ?_;rintro e wz ⟨rfl,hw⟩;simp only [hw];clear hw wz;refine hK _ _ bo (λ_=>?_);try simp only [Act.put,pz]
 clear hK K;have rB:=ah (ak (ak (aj w) (.cells #[.string x.key,.int .i64 x.op,.slice pX x.values.length pY] 138)) (.cells #[.string y.key,.int .i64 y.op,.slice qO y.values.length qP] 138)) bo;refine aK rfl (λK hK=>?_);go_simp;refine (aeC x.values y.values _ _ _ _ _ _ _ _ _ (wO.ext rB) (zS.ext rB) rfl rfl hl pq).mono ?_;rintro e wz ⟨rfl,hw⟩;simp only [hw];clear hw wz;refine hK _ _ bo (λ_=>?_);try simp only [Act.put,pz]
 clear hK K;refine aK rfl (λK hK=>?_);go_simp;replace bo:=ak bo (.cells #[.int .i64 (Lib.compareBytes x.key.data.toList y.key.data.toList),.int .i64 (Lib.compareInt x.op y.op),.int .i64 (qW x.values y.values)] 3);refine hK _ _ bo (λ_=>?_);try simp only [Act.put,pz]
 clear hK K;have hS:=Sl.Up (Sl.Bf ((w.alloc (.cells #[.string x.key,.int .i64 x.op,.slice pX x.values.length pY] 138)).alloc (.cells #[.string y.key,.int .i64 y.op,.slice qO y.values.length qP] 138)) _ _ _ 3 (bt.small iB) (bt.small eT) (bt.small gO) (w.heap.size+2) S');refine aK rfl (λK hK=>?_);go_simp;refine (Uo _ _ 3 _ _ _ hS rfl S').mono ?_;rintro e wz ⟨rfl,hw⟩;simp only [hw];clear hw wz;refine hK _ _ bo (λ_=>?_);try simp only [Act.put,pz]
 clear hK K;refine aK rfl (λK hK=>?_);go_simp;refine hK _ _ bo (λ_=>?_);try simp only [Act.put,pz]
 clear hK K;refine dX ?_;go_wp2;go_ret
 exact ⟨rfl,Uh⟩
theorem UA (x y:aL) (cs ds:List Value) (F G:List Nat) (w:World) (h:rd w x cs F) (h':rd w y ds G) (hl:(x.values.length:Int)<=1048576) (pq:(y.values.length:Int)<=1048576) :
 Calls Tryz.prog 123 #[.agg cs.toArray,.agg ds.toArray] w λe w'=>e = .returned (.int .i64 (Qa (W9 x y)))/\Below w.heap.size w w' :=
 (ayN x y cs ds F G w h h' hl pq).mono λ_ _ hh=>⟨hh.1,hh.2.below⟩
theorem ail (x y:aL) (cs ds:List Value) (F G:List Nat) (w:World) (h:rd w x cs F) (h':rd w y ds G) (hl:(x.values.length:Int)<=1048576) (pq:(y.values.length:Int)<=1048576) :
 Calls Tryz.prog 110 #[.agg cs.toArray,.agg ds.toArray] w λe w'=>e = .returned (.bool (nD x y))/\Below w.heap.size w w':=by
 have hC:∀wq,Below w.heap.size w wq->Calls Tryz.prog 123 #[.agg cs.toArray,.agg ds.toArray] wq λe w'=>e = .returned (.int .i64 (Qa (W9 x y)))/\Below wq.heap.size wq w' :=
  λwq hq=>UA x y cs ds F G wq (ax.frame h (λb dP=>hq.block b (ax.lt h b dP)) hq.size) (ax.frame h' (λb dP=>hq.block b (ax.lt h' b dP)) hq.size) hl pq
 have hz:nD x y = decide (Qa (W9 x y) < 0):=rfl;generalize Qa (W9 x y) = z at hC hz;rw [hz];clear hz;obtain ⟨pX,pY,KG,ar,hF1,xO,kw,wO⟩:=og h;obtain ⟨qO,qP,KL,jU,mI,vC,hop2,zS⟩:=og h';subst ar jU;have HC:=I hC;clear hC;go_enter Tryz.func110,Tryz.ntmps110;go_wp2_with fail
 refine (HC.out _ bJ).mono ?_;rintro e w2 ⟨rfl,am⟩;go_wp2;go_ret
 exact ⟨rfl,bJ⟩
end Go.Proofs.YtdegaofigemegaaGreat
