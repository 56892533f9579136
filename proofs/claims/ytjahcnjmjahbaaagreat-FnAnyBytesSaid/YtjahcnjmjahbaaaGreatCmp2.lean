/- How strings.Compare and the order of strings agree; short rows of ints. No condition. -/
import Derived.Test.YtjahcnjmjahbaaaGreatRegion
import Derived.Test.YtjahcnjmjahbaaaGreatAppendAt
namespace Go.Proofs.YtjahcnjmjahbaaaGreat
open Go.ChangeShapes Go.WideShapes Go.ChangeAt Go.RowKit
set_option linter.unusedVariables false
set_option linter.unusedSimpArgs false
set_option maxHeartbeats 1000000
set_option maxRecDepth 100000
theorem qj:∀a b:List UInt8,-1<=Lib.compareBytes a b/\Lib.compareBytes a b<=1
 | [],[]=>by decide
 | [],_ :: _=>by simp [Lib.compareBytes]
 | _ :: _,[]=>by simp [Lib.compareBytes]
 | x :: a,y :: b=>by
   have:=qj a b;unfold Lib.compareBytes;repeat' split
   all_goals omega
theorem J5:∀a b:List UInt8,Lib.compareBytes a b = 0↔a = b
 | [],[]=>by simp [Lib.compareBytes]
 | [],_ :: _=>by simp [Lib.compareBytes]
 | _ :: _,[]=>by simp [Lib.compareBytes]
 | x :: a,y :: b=>by
   have ih:=J5 a b;unfold Lib.compareBytes;by_cases h1:x < y
   ·rw [if_pos h1];constructor
    ·intro h;omega
    ·intro h;injection h with h2 _;subst h2;exact absurd h1 (UInt8.lt_irrefl _)
   ·rw [if_neg h1];by_cases h2:y < x
    ·rw [if_pos h2];constructor
     ·intro h;omega
     ·intro h;injection h with h3 _;subst h3;exact absurd h2 (UInt8.lt_irrefl _)
    ·rw [if_neg h2];have Bt:x = y:=UInt8.le_antisymm (UInt8.not_lt.1 h2) (UInt8.not_lt.1 h1);subst Bt;rw [ih];simp
theorem Wx:∀a b:List UInt8,Lib.compareBytes a b < 0↔Op.bytesLess a b = true
 | [],[]=>by simp [Lib.compareBytes,Op.bytesLess]
 | [],_ :: _=>by simp [Lib.compareBytes,Op.bytesLess]
 | _ :: _,[]=>by simp [Lib.compareBytes,Op.bytesLess]
 | x :: a,y :: b=>by
   have ih:=Wx a b;unfold Lib.compareBytes Op.bytesLess;by_cases h1:x < y
   ·rw [if_pos h1];simp [h1]
   ·rw [if_neg h1];by_cases h2:y < x
    ·rw [if_pos h2];have bN:(x == y) = false:=(by rw [beq_eq_false_iff_ne];rintro rfl;exact absurd h2 (UInt8.lt_irrefl _));simp [h1,bN]
    ·rw [if_neg h2];have Bt:x = y:=UInt8.le_antisymm (UInt8.not_lt.1 h2) (UInt8.not_lt.1 h1);subst Bt;rw [ih];simp [h1]
def ru (x y:iU):List Int:=[Lib.compareBytes x.key.data.toList y.key.data.toList,Lib.compareBytes x.value.data.toList y.value.data.toList,Lib.compareInt x.effect y.effect]
theorem ayk (x y:iU) (cs ds:List Value) (F G:List Nat) (w:World) (h:rd w x cs F) (h':rd w y ds G) :
 Calls Tryz.prog 126 #[.agg cs.toArray,.agg ds.toArray] w λe w'=>e = .returned (.int .i64 (Qa (ru x y)))/\Gr w w':=by
 obtain ⟨aq,hF1,xO,xk,zT⟩:=oK h;obtain ⟨jU,kt,vC,rP,uY⟩:=oK h';subst aq jU;subst hF1 kt;have f':=qj x.key.data.toList y.key.data.toList;have fb:=qj x.value.data.toList y.value.data.toList;have ek:=BU x.effect y.effect;go_enter Tryz.func126,Tryz.ntmps126;go_wp2_with fail
 refine nS ((w.alloc (.cells #[.string x.key,.string x.value,.int .i64 x.effect] 84)).alloc (.cells #[.string y.key,.string y.value,.int .i64 y.effect] 84)) [0,1,2,3,5,6,7,8,10,11,12,13] [4,9,14,15,16,17] U' U' H' (aj _) ?_;simp only [pick,List.getElem?_cons_succ,List.getElem?_cons_zero]
 iterate 12
  (apply dR
   case hy =>exact Dy
   simp only [Act.put,pz])
 refine fE ?_;have bo:=aA (aj ((w.alloc (.cells #[.string x.key,.string x.value,.int .i64 x.effect] 84)).alloc (.cells #[.string y.key,.string y.value,.int .i64 y.effect] 84)));refine aK rfl (λK hK=>?_);go_simp;refine (N8 x.key y.key _).mono ?_;rintro e wz ⟨rfl,hw⟩;simp only [hw];clear hw wz;refine hK _ _ bo (λ_=>?_);try simp only [Act.put,pz]
 clear hK K;refine aK rfl (λK hK=>?_);go_simp;refine (N8 x.value y.value _).mono ?_;rintro e wz ⟨rfl,hw⟩;simp only [hw];clear hw wz;refine hK _ _ bo (λ_=>?_);try simp only [Act.put,pz]
 clear hK K;refine aK rfl (λK hK=>?_);go_simp;refine (EI x.effect y.effect _).mono ?_;rintro e wz ⟨rfl,hw⟩;simp only [hw];clear hw wz;refine hK _ _ bo (λ_=>?_);try simp only [Act.put,pz]
 clear hK K;refine aK rfl (λK hK=>?_);go_simp;replace bo:=ak bo (.cells #[.int .i64 (Lib.compareBytes x.key.data.toList y.key.data.toList),.int .i64 (Lib.compareBytes x.value.data.toList y.value.data.toList),.int .i64 (Lib.compareInt x.effect y.effect)] 3);refine hK _ _ bo (λ_=>?_);try simp only [Act.put,pz]
 clear hK K;have hS:=Sl.WK (Sl.zP ((w.alloc (.cells #[.string x.key,.string x.value,.int .i64 x.effect] 84)).alloc (.cells #[.string y.key,.string y.value,.int .i64 y.effect] 84)) _ _ _ 3 (aR.small f') (aR.small fb) (aR.small ek) (w.heap.size+2) S');refine aK rfl (λK hK=>?_);go_simp;refine (WH _ _ 3 _ _ _ hS rfl S').mono ?_;rintro e wz ⟨rfl,hw⟩;simp only [hw];clear hw wz;refine hK _ _ bo (λ_=>?_);try simp only [Act.put,pz]
 clear hK K;refine aK rfl (λK hK=>?_);go_simp;refine hK _ _ bo (λ_=>?_);try simp only [Act.put,pz]
 clear hK K;refine dX ?_;go_wp2;go_ret
 exact ⟨rfl,Wt⟩
theorem acE (x y:iU) (cs ds:List Value) (F G:List Nat) (w:World) (h:rd w x cs F) (h':rd w y ds G) :
 Calls Tryz.prog 126 #[.agg cs.toArray,.agg ds.toArray] w λe w'=>e = .returned (.int .i64 (Qa (ru x y)))/\Below w.heap.size w w' :=
 (ayk x y cs ds F G w h h').mono λ_ _ hh=>⟨hh.1,hh.2.below⟩
def qo (x y:iU):Bool:=decide (Qa (ru x y) < 0)
theorem aiw {x y:iU} (h:(x.key.toList == y.key.toList) = false):qo x y = Op.bytesLess x.key.toList y.key.toList:=by
 have h1:Lib.compareBytes x.key.data.toList y.key.data.toList≠0:=λe=>by
  exact sz
 unfold qo ru;simp only [Qa,if_neg h1];exact sy
theorem aeU {x y:iU} (hk:(x.key.toList == y.key.toList) = true) (h:(x.value.toList == y.value.toList) = false):qo x y = Op.bytesLess x.value.toList y.value.toList:=by
 have h0:Lib.compareBytes x.key.data.toList y.key.data.toList = 0:=by rw [J5,<- ByteArray.toList_eq,<- ByteArray.toList_eq];simpa using hk
 have h1:Lib.compareBytes x.value.data.toList y.value.data.toList≠0:=λe=>by
  exact sz
 unfold qo ru;simp only [Qa,if_pos h0,if_neg h1];exact sy
theorem adu {x y:iU} (hk:(x.key.toList == y.key.toList) = true) (h:(x.value.toList == y.value.toList) = true):qo x y = decide (x.effect < y.effect):=by
 have h0:Lib.compareBytes x.key.data.toList y.key.data.toList = 0:=by rw [J5,<- ByteArray.toList_eq,<- ByteArray.toList_eq];simpa using hk
 have h1:Lib.compareBytes x.value.data.toList y.value.data.toList = 0:=by rw [J5,<- ByteArray.toList_eq,<- ByteArray.toList_eq];simpa using h
 unfold qo ru;simp only [Qa,if_pos h0,if_pos h1];exact Dj
theorem anf (x y:iU) (cs ds:List Value) (F G:List Nat) (w:World) (h:rd w x cs F) (h':rd w y ds G) :
 Calls Tryz.prog 142 #[.agg cs.toArray,.agg ds.toArray] w λe w'=>e = .returned (.bool (qo x y))/\Below w.heap.size w w':=by
 obtain ⟨aq,hF1,xO,xk,zT⟩:=oK h;obtain ⟨jU,kt,vC,rP,uY⟩:=oK h';subst aq jU;subst hF1 kt;cases h1:(x.key.toList == y.key.toList) with
 | false =>rw [aiw h1];go_enter Tryz.func142,Tryz.ntmps142;exact pM
 | true =>
   cases h2:(x.value.toList == y.value.toList) with
   | false =>rw [aeU h1 h2];go_enter Tryz.func142,Tryz.ntmps142;exact pM
   | true =>rw [adu h1 h2];go_enter Tryz.func142,Tryz.ntmps142;exact pM
def rv (a b:Bool):Int:=if a == b then 0 else if b then -1 else 1
theorem anp (a b:Bool):-1<=rv a b/\rv a b<=1:=by cases a <;> cases b <;> decide
theorem adw (a b:Bool) (w:World):Calls Tryz.prog 170 #[.bool a,.bool b] w λe w'=>e = .returned (.int .i64 (rv a b))/\w' = w:=by
 cases a <;> cases b
 all_goals
  go_enter Tryz.func170,Tryz.ntmps170;go_wp2;go_ret
  exact ⟨rfl,rfl⟩
theorem Sl.OE (W:World) (a b c d:Int) (t:TypeId) (ha:aR a) (hb:aR b) (hc:aR c) (hd:aR d) (N:Nat) (hN:W.heap.size = N):Sl (W.alloc (.cells #[.int .i64 a,.int .i64 b,.int .i64 c,.int .i64 d] t)) [a,b,c,d] (some ⟨N,0,none⟩) 4 [N]:=by
 subst hN;exact Sl.Va W [a,b,c,d] t (by intro x hx;simp only [List.mem_cons,List.not_mem_nil,or_false] at hx;rcases hx with rfl | rfl | rfl | rfl <;> assumption) (by unfold maxLen;simp)
def qa (x y:bH):List Int:=[Lib.compareBytes x.key.data.toList y.key.data.toList,rv x.equal y.equal,Lib.compareBytes x.value.data.toList y.value.data.toList,Lib.compareInt x.effect y.effect]
theorem aw1 (x y:bH) (cs ds:List Value) (F G:List Nat) (w:World) (h:rd w x cs F) (h':rd w y ds G) :
 Calls Tryz.prog 130 #[.agg cs.toArray,.agg ds.toArray] w λe w'=>e = .returned (.int .i64 (Qa (qa x y)))/\Gr w w':=by
 obtain ⟨aq,hF1,xO,xk,zT⟩:=jv h;obtain ⟨jU,kt,vC,rP,uY⟩:=jv h';subst aq jU;subst hF1 kt;have f':=qj x.key.data.toList y.key.data.toList;have lN:=anp x.equal y.equal;have fb:=qj x.value.data.toList y.value.data.toList;have ek:=BU x.effect y.effect;go_enter Tryz.func130,Tryz.ntmps130;go_wp2_with fail
 refine nS ((w.alloc (.cells #[.string x.key,.bool x.equal,.string x.value,.int .i64 x.effect] 91)).alloc (.cells #[.string y.key,.bool y.equal,.string y.value,.int .i64 y.effect] 91)) [0,1,2,3,5,6,7,8,10,11,12,13,15,16,17,18] [4,9,14,19,20,21,22] U' U' H' (aj _) ?_;simp only [pick,List.getElem?_cons_succ,List.getElem?_cons_zero]
 iterate 16
  (apply dR
   case hy =>exact Dy
   simp only [Act.put,pz])
 refine fE ?_;have bo:=aA (aj ((w.alloc (.cells #[.string x.key,.bool x.equal,.string x.value,.int .i64 x.effect] 91)).alloc (.cells #[.string y.key,.bool y.equal,.string y.value,.int .i64 y.effect] 91)));refine aK rfl (λK hK=>?_);go_simp;refine (N8 x.key y.key _).mono ?_;rintro e wz ⟨rfl,hw⟩;simp only [hw];clear hw wz;refine hK _ _ bo (λ_=>?_);try simp only [Act.put,pz]
 clear hK K;refine aK rfl (λK hK=>?_);go_simp;refine (adw x.equal y.equal _).mono ?_;rintro e wz ⟨rfl,hw⟩;simp only [hw];clear hw wz;refine hK _ _ bo (λ_=>?_);try simp only [Act.put,pz]
 clear hK K;refine aK rfl (λK hK=>?_);go_simp;refine (N8 x.value y.value _).mono ?_;rintro e wz ⟨rfl,hw⟩;simp only [hw];clear hw wz;refine hK _ _ bo (λ_=>?_);try simp only [Act.put,pz]
 clear hK K;refine aK rfl (λK hK=>?_);go_simp;refine (EI x.effect y.effect _).mono ?_;rintro e wz ⟨rfl,hw⟩;simp only [hw];clear hw wz;refine hK _ _ bo (λ_=>?_);try simp only [Act.put,pz]
 clear hK K;refine aK rfl (λK hK=>?_);go_simp;replace bo:=ak bo (.cells #[.int .i64 (Lib.compareBytes x.key.data.toList y.key.data.toList),.int .i64 (rv x.equal y.equal),.int .i64 (Lib.compareBytes x.value.data.toList y.value.data.toList),.int .i64 (Lib.compareInt x.effect y.effect)] 3);refine hK _ _ bo (λ_=>?_);try simp only [Act.put,pz]
 clear hK K;have hS:=Sl.WK (Sl.OE ((w.alloc (.cells #[.string x.key,.bool x.equal,.string x.value,.int .i64 x.effect] 91)).alloc (.cells #[.string y.key,.bool y.equal,.string y.value,.int .i64 y.effect] 91)) _ _ _ _ 3 (aR.small f') (aR.small lN) (aR.small fb) (aR.small ek) (w.heap.size+2) S');refine aK rfl (λK hK=>?_);go_simp;refine (WH _ _ 4 _ _ _ hS rfl S').mono ?_;rintro e wz ⟨rfl,hw⟩;simp only [hw];clear hw wz;refine hK _ _ bo (λ_=>?_);try simp only [Act.put,pz]
 clear hK K;refine aK rfl (λK hK=>?_);go_simp;refine hK _ _ bo (λ_=>?_);try simp only [Act.put,pz]
 clear hK K;refine dX ?_;go_wp2;go_ret
 exact ⟨rfl,Wt⟩
theorem Xd (x y:bH) (cs ds:List Value) (F G:List Nat) (w:World) (h:rd w x cs F) (h':rd w y ds G) :
 Calls Tryz.prog 130 #[.agg cs.toArray,.agg ds.toArray] w λe w'=>e = .returned (.int .i64 (Qa (qa x y)))/\Below w.heap.size w w' :=
 (aw1 x y cs ds F G w h h').mono λ_ _ hh=>⟨hh.1,hh.2.below⟩
def vJ (x y:bH):Bool:=decide (Qa (qa x y) < 0)
theorem anr {x y:bH} (h:(x.key.toList == y.key.toList) = false):vJ x y = Op.bytesLess x.key.toList y.key.toList:=by
 have h1:Lib.compareBytes x.key.data.toList y.key.data.toList≠0:=λe=>by
  exact sz
 unfold vJ qa;simp only [Qa,if_neg h1];exact sy
theorem aiA {x y:bH} (hk:(x.key.toList == y.key.toList) = true) (h:x.equal≠y.equal):vJ x y = y.equal:=by
 have h0:Lib.compareBytes x.key.data.toList y.key.data.toList = 0:=by rw [J5,<- ByteArray.toList_eq,<- ByteArray.toList_eq];simpa using hk
 unfold vJ qa;simp only [Qa,if_pos h0];cases hx:x.equal <;> cases hy:y.equal <;> simp_all [rv]
theorem aiB {x y:bH} (hk:(x.key.toList == y.key.toList) = true) (hq:x.equal = y.equal) (h:(x.value.toList == y.value.toList) = false):vJ x y = Op.bytesLess x.value.toList y.value.toList:=by
 have h0:Lib.compareBytes x.key.data.toList y.key.data.toList = 0:=by rw [J5,<- ByteArray.toList_eq,<- ByteArray.toList_eq];simpa using hk
 have h1:Lib.compareBytes x.value.data.toList y.value.data.toList≠0:=λe=>by
  exact sz
 have h2:rv x.equal y.equal = 0:=by unfold rv;simp [hq]
 unfold vJ qa;simp only [Qa,if_pos h0,if_pos h2,if_neg h1];exact sy
theorem ahL {x y:bH} (hk:(x.key.toList == y.key.toList) = true) (hq:x.equal = y.equal) (h:(x.value.toList == y.value.toList) = true):vJ x y = decide (x.effect < y.effect):=by
 have h0:Lib.compareBytes x.key.data.toList y.key.data.toList = 0:=by rw [J5,<- ByteArray.toList_eq,<- ByteArray.toList_eq];simpa using hk
 have h1:Lib.compareBytes x.value.data.toList y.value.data.toList = 0:=by rw [J5,<- ByteArray.toList_eq,<- ByteArray.toList_eq];simpa using h
 have h2:rv x.equal y.equal = 0:=by unfold rv;simp [hq]
 unfold vJ qa;simp only [Qa,if_pos h0,if_pos h2,if_pos h1];exact Dj
theorem aiC (x y:bH) (cs ds:List Value) (F G:List Nat) (w:World) (h:rd w x cs F) (h':rd w y ds G) :
 Calls Tryz.prog 140 #[.agg cs.toArray,.agg ds.toArray] w λe w'=>e = .returned (.bool (vJ x y))/\Below w.heap.size w w':=by
 obtain ⟨aq,hF1,xO,xk,zT⟩:=jv h;obtain ⟨jU,kt,vC,rP,uY⟩:=jv h';subst aq jU;subst hF1 kt;cases h1:(x.key.toList == y.key.toList) with
 | false =>rw [anr h1];exact xL
 | true =>
   by_cases h3:x.equal = y.equal
   ·cases h2:(x.value.toList == y.value.toList) with
    | false =>rw [aiB h1 h3 h2];have h4:(x.equal == y.equal) = true:=(by simp [h3]);exact xL
    | true =>rw [ahL h1 h3 h2];have h4:(x.equal == y.equal) = true:=(by simp [h3]);exact xL
   ·rw [aiA h1 h3];have h4:(x.equal == y.equal) = false:=(by simp [h3]);exact xL
end Go.Proofs.YtjahcnjmjahbaaaGreat
