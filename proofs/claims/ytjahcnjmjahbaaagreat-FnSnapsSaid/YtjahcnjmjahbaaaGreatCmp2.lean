/- How strings.Compare and the order of strings agree; short rows of ints. No condition. -/
import Derived.Test.YtjahcnjmjahbaaaGreatAt
import Derived.Test.YtjahcnjmjahbaaaGreatDeed
namespace Go.Proofs.YtjahcnjmjahbaaaGreat
open Go.ChangeShapes Go.WideShapes Go.ChangeAt Go.RowKit
set_option linter.unusedVariables false
set_option linter.unusedSimpArgs false
set_option maxHeartbeats 2000000
set_option maxRecDepth 100000
theorem qj:∀a b:List UInt8,-1≤Lib.compareBytes a b∧Lib.compareBytes a b≤1
 | [],[]=>by decide
 | [],_ :: _=>by simp [Lib.compareBytes]
 | _ :: _,[]=>by simp [Lib.compareBytes]
 | x :: a,y :: b=>by
   have:=qj a b;unfold Lib.compareBytes;repeat' split
   all_goals omega
theorem J5:∀a b:List UInt8,Lib.compareBytes a b = 0↔a = b
 | [],[]=>by simp [Lib.compareBytes]
 | [],_ :: _=>by simp [Lib.compareBytes]
 | _ :: _,[]=>by simp [Lib.compareBytes]
 | x :: a,y :: b=>by
   have ih:=J5 a b;unfold Lib.compareBytes;by_cases h1:x < y
   ·rw [if_pos h1];constructor
    ·intro h;omega
    ·intro h;injection h with h2 _;subst h2;exact absurd h1 (UInt8.lt_irrefl _)
   ·rw [if_neg h1];by_cases h2:y < x
    ·rw [if_pos h2];constructor
     ·intro h;omega
     ·intro h;injection h with h3 _;subst h3;exact absurd h2 (UInt8.lt_irrefl _)
    ·rw [if_neg h2];have xT:x = y:=UInt8.le_antisymm (UInt8.not_lt.1 h2) (UInt8.not_lt.1 h1);subst xT;rw [ih];simp
theorem Wx:∀a b:List UInt8,Lib.compareBytes a b < 0↔Op.bytesLess a b = true
 | [],[]=>by simp [Lib.compareBytes,Op.bytesLess]
 | [],_ :: _=>by simp [Lib.compareBytes,Op.bytesLess]
 | _ :: _,[]=>by simp [Lib.compareBytes,Op.bytesLess]
 | x :: a,y :: b=>by
   have ih:=Wx a b;unfold Lib.compareBytes Op.bytesLess;by_cases h1:x < y
   ·rw [if_pos h1];simp [h1]
   ·rw [if_neg h1];by_cases h2:y < x
    ·rw [if_pos h2];have cq:(x == y) = false:=(by rw [beq_eq_false_iff_ne];rintro rfl;exact absurd h2 (UInt8.lt_irrefl _));simp [h1,cq]
    ·rw [if_neg h2];have xT:x = y:=UInt8.le_antisymm (UInt8.not_lt.1 h2) (UInt8.not_lt.1 h1);subst xT;rw [ih];simp [h1]
theorem LC:∀a:List UInt8,Op.bytesLess a a = false
 | []=>rfl
 | x :: a=>by
   unfold Op.bytesLess;have ih:=LC a;have h:decide (x < x) = false:=S';simp [ih]
theorem TX (x y:UInt8) (a b:List UInt8):Op.bytesLess (x :: a) (y :: b) = true↔x < y∨(x = y∧Op.bytesLess a b = true):=by
 conv=>lhs;unfold Op.bytesLess
 simp
theorem LD:∀a b c:List UInt8,Op.bytesLess a b = true→Op.bytesLess b c = true→Op.bytesLess a c = true
 | [],[],_,h,_=>by simp [Op.bytesLess] at h
 | [],_ :: _,[],_,h=>by simp [Op.bytesLess] at h
 | [],_ :: _,_ :: _,_,_=>by simp [Op.bytesLess]
 | _ :: _,[],_,h,_=>by simp [Op.bytesLess] at h
 | _ :: _,_ :: _,[],_,h=>by simp [Op.bytesLess] at h
 | x :: a,y :: b,z :: c,h1,h2=>by
   rw [TX] at h1 h2 ⊢;rcases h1 with h1 | ⟨rfl,h1⟩
   ·rcases h2 with h2 | ⟨rfl,h2⟩
    ·exact .inl (UInt8.lt_trans h1 h2)
    ·exact .inl h1
   ·rcases h2 with h2 | ⟨rfl,h2⟩
    ·exact .inl h2
    ·exact .inr ⟨rfl,LD a b c h1 h2⟩
theorem LF:∀a b:List UInt8,Op.bytesLess a b = false→Op.bytesLess b a = false→a = b
 | [],[],_,_=>rfl
 | [],_ :: _,h,_=>by simp [Op.bytesLess] at h
 | _ :: _,[],_,h=>by simp [Op.bytesLess] at h
 | x :: a,y :: b,h1,h2=>by
   have e1:¬(x < y∨(x = y∧Op.bytesLess a b = true)):=(by rw [← TX,h1];simp);have e2:¬(y < x∨(y = x∧Op.bytesLess b a = true)):=(by rw [← TX,h2];simp);have xT:x = y:=UInt8.le_antisymm (UInt8.not_lt.1 fun h=>e2 (.inl h)) (UInt8.not_lt.1 fun h=>e1 (.inl h));subst xT;rw [LF a b (by cases h:Op.bytesLess a b;rfl;exact absurd (.inr ⟨rfl,h⟩) e1) (by cases h:Op.bytesLess b a;rfl;exact absurd (.inr ⟨rfl,h⟩) e2)]
theorem atx {a b:List UInt8} (h:Op.bytesLess a b = true):Op.bytesLess b a = false:=by
 cases h2:Op.bytesLess b a
 ·rfl
 ·have:=LD a b a h h2;rw [LC] at this;cases this
theorem wC (y z:ByteArray):Op.bytesLess y.data.toList z.data.toList = !(Op.bytesLess z.toList y.toList || z.toList == y.toList):=by
 rw [ByteArray.toList_eq,ByteArray.toList_eq];cases h1:Op.bytesLess z.data.toList y.data.toList with
 | true=>rw [atx h1];rfl
 | false =>
   cases h2:(z.data.toList == y.data.toList) with
   | true =>rw [beq_iff_eq] at h2;rw [h2,LC];rfl
   | false =>
     cases h3:Op.bytesLess y.data.toList z.data.toList with
     | true=>rfl
     | false =>have:=LF _ _ h1 h3;rw [this] at h2;simp at h2
def pD (x y:iU):List Int:=[Lib.compareBytes x.key.data.toList y.key.data.toList,Lib.compareBytes x.value.data.toList y.value.data.toList,Lib.compareInt x.al y.al]
theorem ayk (x y:iU) (cs ds:List Value) (F G:List Nat) (w:World) (h:rd w x cs F) (h':rd w y ds G) :
 Calls Tryz.prog 126 #[.agg cs.toArray,.agg ds.toArray] w fun e w'=>e = .returned (.int .i64 (Qa (pD x y)))∧Gr w w':=by
 obtain ⟨aw,hF1,xO,xk,zT⟩:=oK h;obtain ⟨jU,ld,vC,rP,uY⟩:=oK h';subst aw jU;subst hF1 ld;have fX:=qj x.key.data.toList y.key.data.toList;have fc:=qj x.value.data.toList y.value.data.toList;have eN:=BU x.al y.al;go_enter Tryz.func126,Tryz.ntmps126;go_wp2_with fail
 refine nS ((w.alloc (.cells #[.string x.key,.string x.value,.int .i64 x.al] 84)).alloc (.cells #[.string y.key,.string y.value,.int .i64 y.al] 84)) [0,1,2,3,5,6,7,8,10,11,12,13] [4,9,14,15,16,17] U' U' H' (aj _) ?_;simp only [cH,List.getElem?_cons_succ,List.getElem?_cons_zero]
 iterate 12
  (apply dR
   case hy =>exact Ab
   simp only [Act.put,pz])
 refine fE ?_;have bu:=aA (aj ((w.alloc (.cells #[.string x.key,.string x.value,.int .i64 x.al] 84)).alloc (.cells #[.string y.key,.string y.value,.int .i64 y.al] 84)));refine aK rfl (fun K hK=>?_);go_simp;refine (N8 x.key y.key _).mono ?_;rintro e wz ⟨rfl,hw⟩;simp only [hw];clear hw wz;refine hK _ _ bu (fun _=>?_);try simp only [Act.put,pz]
 clear hK K;refine aK rfl (fun K hK=>?_);go_simp;refine (N8 x.value y.value _).mono ?_;rintro e wz ⟨rfl,hw⟩;simp only [hw];clear hw wz;refine hK _ _ bu (fun _=>?_);try simp only [Act.put,pz]
 clear hK K;refine aK rfl (fun K hK=>?_);go_simp;refine (EI x.al y.al _).mono ?_;rintro e wz ⟨rfl,hw⟩;simp only [hw];clear hw wz;refine hK _ _ bu (fun _=>?_);try simp only [Act.put,pz]
 clear hK K;refine aK rfl (fun K hK=>?_);go_simp;replace bu:=ak bu (.cells #[.int .i64 (Lib.compareBytes x.key.data.toList y.key.data.toList),.int .i64 (Lib.compareBytes x.value.data.toList y.value.data.toList),.int .i64 (Lib.compareInt x.al y.al)] 3);refine hK _ _ bu (fun _=>?_);try simp only [Act.put,pz]
 clear hK K;have hS:=Sl.Sz (Sl.vL ((w.alloc (.cells #[.string x.key,.string x.value,.int .i64 x.al] 84)).alloc (.cells #[.string y.key,.string y.value,.int .i64 y.al] 84)) _ _ _ 3 (bi.small fX) (bi.small fc) (bi.small eN) (w.heap.size+2) S');refine aK rfl (fun K hK=>?_);go_simp;refine (Sy _ _ 3 _ _ _ hS rfl S').mono ?_;rintro e wz ⟨rfl,hw⟩;simp only [hw];clear hw wz;refine hK _ _ bu (fun _=>?_);try simp only [Act.put,pz]
 clear hK K;refine aK rfl (fun K hK=>?_);go_simp;refine hK _ _ bu (fun _=>?_);try simp only [Act.put,pz]
 clear hK K;refine dX ?_;go_wp2;go_ret
 exact ⟨rfl,Sh⟩
theorem acE (x y:iU) (cs ds:List Value) (F G:List Nat) (w:World) (h:rd w x cs F) (h':rd w y ds G) :
 Calls Tryz.prog 126 #[.agg cs.toArray,.agg ds.toArray] w fun e w'=>e = .returned (.int .i64 (Qa (pD x y)))∧Below w.heap.size w w' :=
 (ayk x y cs ds F G w h h').mono fun _ _ hh=>⟨hh.1,hh.2.aM⟩
def qo (x y:iU):Bool:=decide (Qa (pD x y) < 0)
theorem aiw {x y:iU} (h:(x.key.toList == y.key.toList) = false):qo x y = Op.bytesLess x.key.toList y.key.toList:=by
 have h1:Lib.compareBytes x.key.data.toList y.key.data.toList≠0:=fun e=>by
  exact qu
 unfold qo pD;simp only [Qa,if_neg h1];exact qt
theorem aeU {x y:iU} (hk:(x.key.toList == y.key.toList) = true) (h:(x.value.toList == y.value.toList) = false):qo x y = Op.bytesLess x.value.toList y.value.toList:=by
 have h0:Lib.compareBytes x.key.data.toList y.key.data.toList = 0:=by rw [J5,← ByteArray.toList_eq,← ByteArray.toList_eq];simpa using hk
 have h1:Lib.compareBytes x.value.data.toList y.value.data.toList≠0:=fun e=>by
  exact qu
 unfold qo pD;simp only [Qa,if_pos h0,if_neg h1];exact qt
theorem adu {x y:iU} (hk:(x.key.toList == y.key.toList) = true) (h:(x.value.toList == y.value.toList) = true):qo x y = decide (x.al < y.al):=by
 have h0:Lib.compareBytes x.key.data.toList y.key.data.toList = 0:=by rw [J5,← ByteArray.toList_eq,← ByteArray.toList_eq];simpa using hk
 have h1:Lib.compareBytes x.value.data.toList y.value.data.toList = 0:=by rw [J5,← ByteArray.toList_eq,← ByteArray.toList_eq];simpa using h
 unfold qo pD;simp only [Qa,if_pos h0,if_pos h1];exact zH
theorem YK (x y:iU) (cs ds:List Value) (F G:List Nat) (w:World) (h:rd w x cs F) (h':rd w y ds G) :
 Calls Tryz.prog 142 #[.agg cs.toArray,.agg ds.toArray] w fun e w'=>e = .returned (.bool (qo x y))∧Below w.heap.size w w':=by
 obtain ⟨aw,hF1,xO,xk,zT⟩:=oK h;obtain ⟨jU,ld,vC,rP,uY⟩:=oK h';subst aw jU;subst hF1 ld;cases h1:(x.key.toList == y.key.toList) with
 | false =>rw [aiw h1];go_enter Tryz.func142,Tryz.ntmps142;exact oW
 | true =>
   cases h2:(x.value.toList == y.value.toList) with
   | false =>rw [aeU h1 h2];go_enter Tryz.func142,Tryz.ntmps142;exact oW
   | true =>rw [adu h1 h2];go_enter Tryz.func142,Tryz.ntmps142;exact oW
def La (xs:List iU):Bool:=lE Dp qo 4 xs
theorem ZK (xs:List iU) (A:Option Addr) (n c:Nat) (F:List Nat) (w:World) (h:Sl w xs A c F) (hn:n = xs.length) (hl:(xs.length:Int)≤1048576) (cX:∀l∈xs,(l.key.size:Int)≤1048576∧(l.value.size:Int)≤1048576) :
 Calls Tryz.prog 77 #[.slice A n c] w fun e w'=>e = .returned (.bool (La xs))∧Below w.heap.size w w':=by
 subst hn;have Eo:=I cX;clear cX;go_enter Tryz.func77,Tryz.ntmps77;go_wp2_with fail
 go_loopw [7] (fun i wr=>∃k:Nat,k≤xs.length∧i = .int .i64 k∧Hid (∀j,j < k→bB Dp qo xs j = true)∧Below w.heap.size w wr) (fun i _=>xs.length - (intOf i).toNat)
 case atStart=>exact ⟨0,Nat.zero_le _,rfl,(fun j hj=>by omega),bs⟩
 case round =>
  obtain ⟨k,hk,rfl,hall,aE⟩:=hrel;by_cases ap:k < xs.length
  ·obtain rfl | ⟨j,rfl⟩:k = 0∨∃j,k = j+1:=by cases k with | zero=>exact .inl rfl | succ j=>exact .inr ⟨j,rfl⟩
   ·obtain ⟨b,o,ck,Fk,rfl,o9,hbs,hr,bv,hc⟩:=(Sl.ext (w':=wr) (A:=A) (c:=c) h aE).get ap;obtain ⟨aw,su,ca,kP,lD⟩:=oK hr;subst aw;obtain ⟨q0,q1,q2⟩:=iX 3 hc;clear hc;simp only [Nat.zero_mul,Nat.add_zero] at q0 q1 q2;have cJ:=(Eo.out xs[0] (List.getElem_mem ..)).1;have cE:=(Eo.out xs[0] (List.getElem_mem ..)).2;subst su;have cS:=hr;cases h1:Dp xs[0]
    all_goals
     have hp:=bR (ok:=Dp) (less:=qo) ap;rw [h1] at hp;try simp only [Bool.false_and,Bool.and_false,Bool.and_true,Bool.and_self] at hp
     change bB Dp qo xs _ = _ at hp;have H1:=I h1
     first
      | have HN:=I (gq hall.out hp)
      | have HF:=I (wU (most:=4) ap hp)
     clear h1 hp;go_wp2_with fail
     refine aF _ U' U' (aj _) ?_
     repeat (first
      | (apply aG
         case hw=>rfl
         simp only [Act.put,pz])
      | (apply aH
         case hw=>rfl
         case h =>
          intro wq hq;have dc:=(aB hq).1;have lJ:=(aB hq).2;go_simp
          first
           | exact ⟨hq,rfl⟩
           | exact ⟨aQ hq _,rfl⟩
           | (first | (refine (V9 xs[0] _ [] _ (aJ cS vE) cJ cE).mono ?_;rw [H1.out];rintro e w2 ⟨rfl,av⟩;exact ⟨rfl,aI hq av⟩) | (refine (mC.out _ sE).mono ?_;rintro e w2 ⟨rfl,av⟩;exact ⟨rfl,aI hq av⟩))
           | (simp only [↓IntWalk.iteOmega];exact ⟨hq,rfl⟩)
         simp only [Act.put,pz]))
     refine aN ?_;intro wn hn;replace hn:=hn.out;go_wp2
     first
      | exact ⟨⟨0+1,J,N',HN.out,ah (ak aE _) hn⟩,by simp [intOf];omega⟩
      | (go_ret;exact ⟨by unfold La;rw [HF.out];rfl,ah (ak aE _) hn⟩)
   ·obtain ⟨b,o,ck,Fk,rfl,o9,hbs,hr,bv,hc⟩:=(Sl.ext (w':=wr) (A:=A) (c:=c) h aE).get ap;obtain ⟨aw,su,ca,kP,lD⟩:=oK hr;subst aw;obtain ⟨q0,q1,q2⟩:=iX 3 hc;clear hc;obtain ⟨b',o',TY,Xw,e,Ht,hbs',cN,zQ,hc'⟩:=Sl.get (Sl.ext (w':=wr) (c:=c) h aE) (show j < xs.length by omega);obtain ⟨jU,abT,vC,rP,uY⟩:=oK cN;subst jU;obtain ⟨rfl,rfl⟩:b' = b∧o' = o:=by simpa using e.symm
    clear e;obtain ⟨p0,p1,p2⟩:=iX 3 hc';clear hc';have pa:IntKind.i64.wrap (j:Int) = j:=IntWalk.i64_in _ J;have gC:j < xs.length:=J;have cJ:=(Eo.out xs[j+1] (List.getElem_mem ..)).1;have cE:=(Eo.out xs[j+1] (List.getElem_mem ..)).2;subst su;have cS:=hr;cases h1:Dp xs[j+1] <;> cases h3:qo xs[j] xs[j+1]
    all_goals
     have hp:=yS (ok:=Dp) (less:=qo) ap;rw [h1,h3] at hp;try simp only [Bool.false_and,Bool.and_false,Bool.and_true,Bool.and_self] at hp
     change bB Dp qo xs _ = _ at hp;have H1:=I h1
     first
      | have HN:=I (gq hall.out hp)
      | have HF:=I (wU (most:=4) ap hp)
     have hC:∀wq,Below wr.heap.size wr wq→Calls Tryz.prog 126 #[.agg #[.string xs[j].key,.string xs[j].value,.int .i64 xs[j].al],.agg #[.string xs[j+1].key,.string xs[j+1].value,.int .i64 xs[j+1].al]] wq fun e w'=>e = .returned (.int .i64 (Qa (pD xs[j] xs[j+1])))∧Below wq.heap.size wq w' :=
      fun wq hq=>acE xs[j] xs[j+1] _ _ _ _ _ (aJ cN hq) (aJ cS hq)
     have mC:=I hC;clear hC;have hz:=h3;unfold qo at hz;simp only [decide_eq_true_eq,decide_eq_false_iff_not,Int.not_lt] at hz;generalize Qa (pD xs[j] xs[j+1]) = z at mC hz;clear h1 hp;go_wp2_with fail
     refine aF _ U' U' (aj _) ?_
     repeat (first
      | (apply aG
         case hw=>rfl
         simp only [Act.put,pz])
      | (apply aH
         case hw=>rfl
         case h =>
          intro wq hq;have dc:=(aB hq).1;have lJ:=(aB hq).2;go_simp
          first
           | exact ⟨hq,rfl⟩
           | exact ⟨aQ hq _,rfl⟩
           | (first | (refine (V9 xs[j+1] _ [] _ (aJ cS vE) cJ cE).mono ?_;rw [H1.out];rintro e w2 ⟨rfl,av⟩;exact ⟨rfl,aI hq av⟩) | (refine (mC.out _ sE).mono ?_;rintro e w2 ⟨rfl,av⟩;exact ⟨rfl,aI hq av⟩))
           | (simp only [↓IntWalk.iteOmega];exact ⟨hq,rfl⟩)
         simp only [Act.put,pz]))
     refine aN ?_;intro wn hn;replace hn:=hn.out;go_wp2
     first
      | exact ⟨⟨j+1+1,J,N',HN.out,ah (ak aE _) hn⟩,by simp [intOf];omega⟩
      | (go_ret;exact ⟨by unfold La;rw [HF.out];rfl,ah (ak aE _) hn⟩)
  ·have bx:k = xs.length:=J;subst bx;by_cases hm:(xs.length:Int)≤4
   ·have HF:=I (Jy hm hall.out);go_wp2;go_ret
    exact ⟨by unfold La;rw [HF.out];first | rfl | simp [hm],aE⟩
   ·have HF:=I (Jz (ok:=Dp) (less:=qo) hm);go_wp2;go_ret
    exact ⟨by unfold La;rw [HF.out];first | rfl | simp [hm],aE⟩
theorem ZL (xs:List iU) (A:Option Addr) (n c:Nat) (F:List Nat) (w:World) (h:Sl w xs A c F) (hn:n = xs.length) (hl:(xs.length:Int)≤1048576) (cX:∀l∈xs,(l.key.size:Int)≤1048576∧(l.value.size:Int)≤1048576) :
 Calls Tryz.prog 93 #[.slice A n c] w fun e w'=>e = .returned (.bool (La xs))∧Below w.heap.size w w':=by
 subst hn;have Eo:=I cX;clear cX;by_cases hm:(xs.length:Int)≤4
 ·go_enter Tryz.func93,Tryz.ntmps93;go_wp2_with fail
  go_loopw [3] (fun i wr=>∃k:Nat,k≤xs.length∧i = .int .i64 k∧Hid (∀j,j < k→bB Dp qo xs j = true)∧Below w.heap.size w wr) (fun i _=>xs.length - (intOf i).toNat)
  case atStart=>exact ⟨0,Nat.zero_le _,rfl,(fun j hj=>by omega),bs⟩
  case round =>
   obtain ⟨k,hk,rfl,hall,aE⟩:=hrel;by_cases ap:k < xs.length
   ·obtain rfl | ⟨j,rfl⟩:k = 0∨∃j,k = j+1:=by cases k with | zero=>exact .inl rfl | succ j=>exact .inr ⟨j,rfl⟩
    ·obtain ⟨b,o,ck,Fk,rfl,o9,hbs,hr,bv,hc⟩:=(Sl.ext (w':=wr) (A:=A) (c:=c) h aE).get ap;obtain ⟨aw,su,ca,kP,lD⟩:=oK hr;subst aw;obtain ⟨q0,q1,q2⟩:=iX 3 hc;clear hc;simp only [Nat.zero_mul,Nat.add_zero] at q0 q1 q2;have cJ:=(Eo.out xs[0] (List.getElem_mem ..)).1;have cE:=(Eo.out xs[0] (List.getElem_mem ..)).2;subst su;have cS:=hr;cases h1:Dp xs[0]
     all_goals
      have hp:=bR (ok:=Dp) (less:=qo) ap;rw [h1] at hp;try simp only [Bool.false_and,Bool.and_false,Bool.and_true,Bool.and_self] at hp
      change bB Dp qo xs _ = _ at hp;have H1:=I h1
      first
       | have HN:=I (gq hall.out hp)
       | have HF:=I (wU (most:=4) ap hp)
      clear h1 hp;go_wp2_with fail
      refine aF _ U' U' (aj _) ?_
      repeat (first
       | (apply aG
          case hw=>rfl
          simp only [Act.put,pz])
       | (apply aH
          case hw=>rfl
          case h =>
           intro wq hq;have dc:=(aB hq).1;have lJ:=(aB hq).2;go_simp
           first
            | exact ⟨hq,rfl⟩
            | exact ⟨aQ hq _,rfl⟩
            | (first | (refine (Wh xs[0] _ [] _ (aJ cS vE) cJ cE).mono ?_;rw [H1.out];rintro e w2 ⟨rfl,av⟩;exact ⟨rfl,aI hq av⟩) | (refine (mC.out _ sE).mono ?_;rintro e w2 ⟨rfl,av⟩;exact ⟨rfl,aI hq av⟩))
            | (simp only [↓IntWalk.iteOmega];exact ⟨hq,rfl⟩)
          simp only [Act.put,pz]))
      refine aN ?_;intro wn hn;replace hn:=hn.out;go_wp2
      first
       | exact ⟨⟨0+1,J,N',HN.out,ah aE hn⟩,by simp [intOf];omega⟩
       | (go_ret;exact ⟨by unfold La;rw [HF.out];rfl,ah aE hn⟩)
    ·obtain ⟨b,o,ck,Fk,rfl,o9,hbs,hr,bv,hc⟩:=(Sl.ext (w':=wr) (A:=A) (c:=c) h aE).get ap;obtain ⟨aw,su,ca,kP,lD⟩:=oK hr;subst aw;obtain ⟨q0,q1,q2⟩:=iX 3 hc;clear hc;obtain ⟨b',o',TY,Xw,e,Ht,hbs',cN,zQ,hc'⟩:=Sl.get (Sl.ext (w':=wr) (c:=c) h aE) (show j < xs.length by omega);obtain ⟨jU,abT,vC,rP,uY⟩:=oK cN;subst jU;obtain ⟨rfl,rfl⟩:b' = b∧o' = o:=by simpa using e.symm
     clear e;obtain ⟨p0,p1,p2⟩:=iX 3 hc';clear hc';have pa:IntKind.i64.wrap (j:Int) = j:=IntWalk.i64_in _ J;have gC:j < xs.length:=J;have cJ:=(Eo.out xs[j+1] (List.getElem_mem ..)).1;have cE:=(Eo.out xs[j+1] (List.getElem_mem ..)).2;subst su;have cS:=hr;cases h1:Dp xs[j+1] <;> cases h3:qo xs[j] xs[j+1]
     all_goals
      have hp:=yS (ok:=Dp) (less:=qo) ap;rw [h1,h3] at hp;try simp only [Bool.false_and,Bool.and_false,Bool.and_true,Bool.and_self] at hp
      change bB Dp qo xs _ = _ at hp;have H1:=I h1
      first
       | have HN:=I (gq hall.out hp)
       | have HF:=I (wU (most:=4) ap hp)
      have hC:∀wq,Below wr.heap.size wr wq→Calls Tryz.prog 142 #[.agg #[.string xs[j].key,.string xs[j].value,.int .i64 xs[j].al],.agg #[.string xs[j+1].key,.string xs[j+1].value,.int .i64 xs[j+1].al]] wq fun e w'=>e = .returned (.bool (qo xs[j] xs[j+1]))∧Below wq.heap.size wq w' :=
       fun wq hq=>YK xs[j] xs[j+1] _ _ _ _ _ (aJ cN hq) (aJ cS hq)
      rw [h3] at hC;have mC:=I hC;clear hC;clear h1 hp;go_wp2_with fail
      refine aF _ U' U' (aj _) ?_
      repeat (first
       | (apply aG
          case hw=>rfl
          simp only [Act.put,pz])
       | (apply aH
          case hw=>rfl
          case h =>
           intro wq hq;have dc:=(aB hq).1;have lJ:=(aB hq).2;go_simp
           first
            | exact ⟨hq,rfl⟩
            | exact ⟨aQ hq _,rfl⟩
            | (first | (refine (Wh xs[j+1] _ [] _ (aJ cS vE) cJ cE).mono ?_;rw [H1.out];rintro e w2 ⟨rfl,av⟩;exact ⟨rfl,aI hq av⟩) | (refine (mC.out _ sE).mono ?_;rintro e w2 ⟨rfl,av⟩;exact ⟨rfl,aI hq av⟩))
            | (simp only [↓IntWalk.iteOmega];exact ⟨hq,rfl⟩)
          simp only [Act.put,pz]))
      refine aN ?_;intro wn hn;replace hn:=hn.out;go_wp2
      first
       | exact ⟨⟨j+1+1,J,N',HN.out,ah aE hn⟩,by simp [intOf];omega⟩
       | (go_ret;exact ⟨by unfold La;rw [HF.out];rfl,ah aE hn⟩)
   ·have bx:k = xs.length:=J;subst bx;have HF:=I (Jy hm hall.out);go_wp2;go_ret
    exact ⟨by unfold La;rw [HF.out];rfl,aE⟩
 ·have HF:=I (Jz (ok:=Dp) (less:=qo) hm);go_enter Tryz.func93,Tryz.ntmps93;go_wp2;go_ret
  exact ⟨by unfold La;rw [HF.out];rfl,bs⟩
end Go.Proofs.YtjahcnjmjahbaaaGreat
