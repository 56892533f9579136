/- Label keys and values, of the program and of the reference. No condition. -/
import Derived.Test.YtjahcnjmjahbaaaGreatWords
import Derived.Test.YtjahcnjmjahbaaaGreatData
namespace Go.Proofs.YtjahcnjmjahbaaaGreat
open Go.ChangeShapes Go.WideShapes Go.ChangeAt Go.RowKit
set_option linter.unusedVariables false
set_option linter.unusedSimpArgs false
set_option maxHeartbeats 1000000
set_option maxRecDepth 100000
def z6:ByteArray:=⟨#[45,95,46,47]⟩
def sX:ByteArray:=⟨#[45,95,46]⟩
def Cm (s:ByteArray):Bool:=decide ((s.size:Int)<=30)&&GN z6 s
def AQ (s:ByteArray):Bool:=decide (s.size = 0) || (decide ((s.size:Int)<=20)&&GN sX s)
theorem Ou {o s:ByteArray} (h:¬0 < s.size):GN o s = false:=by unfold GN;simp [h]
theorem Y4 {s:ByteArray} (h:s.size = 0):s = ⟨#[]⟩:=by
 obtain ⟨d⟩:=s;congr 1;exact Array.eq_empty_of_size_eq_zero h
theorem Y3 {s:ByteArray} (h:0 < s.size):(s.toList == []) = false:=by
 rw [beq_eq_false_iff_ne];intro e;rw [ByteArray.toList_eq] at e;have h2:s.data.toList.length = 0:=by rw [e];rfl
 rw [Array.length_toList] at h2;have h3:s.size = s.data.size:=rfl;omega
theorem rX (s:ByteArray) (w:World) (cC:(s.size:Int)<=1048576):Calls Tryz.prog 123 #[.string s] w λe w'=>e = .returned (.bool (Cm s))/\Below w.heap.size w w':=by
 by_cases hs:0 < s.size
 ·have hz:((s.size:Int) == 0) = false:=by rw [beq_eq_false_iff_ne];omega
  by_cases h30:(s.size:Int)<=30
  ·cases hW:GN z6 s
   all_goals
    have bb:Cm s = _:=(by unfold Cm;rw [hW]);simp only [h30,decide_true,Bool.true_and] at bb;have HF:=I bb;have HW:=I hW;clear bb hW;go_enter Tryz.func123,Tryz.ntmps123;go_wp2_with (first | (go_at_call 167;refine (aef s z6 _ hs J).mono ?_;rw [HW.out];rintro e w2 ⟨rfl,hw⟩;rw [hw];clear hw w2) | go_in)
    go_ret
    exact ⟨by rw [HF.out];rfl,bc⟩
  ·have bb:Cm s = false:=(by unfold Cm;simp [h30]);have HF:=I bb;clear bb;go_enter Tryz.func123,Tryz.ntmps123;exact ep
 ·have bb:Cm s = false:=by unfold Cm;rw [Ou hs];simp
  have HF:=I bb;have jx:(s.size:Int) = 0:=by omega
  have HW:=I (Ou (o:=z6) hs);clear bb;go_enter Tryz.func123,Tryz.ntmps123;exact ep
theorem xQ (s:ByteArray) (w:World) (cC:(s.size:Int)<=1048576):Calls Tryz.prog 124 #[.string s] w λe w'=>e = .returned (.bool (AQ s))/\Below w.heap.size w w':=by
 by_cases hs:0 < s.size
 ·have hz:((s.size:Int) == 0) = false:=by rw [beq_eq_false_iff_ne];omega
  have bN:=Y3 hs;have jx:¬s.size = 0:=by omega
  by_cases h30:(s.size:Int)<=20
  ·cases hW:GN sX s
   all_goals
    have bb:AQ s = _:=(by unfold AQ;rw [hW]);simp only [h30,jx,decide_true,decide_false,Bool.true_and,Bool.false_or] at bb;have HF:=I bb;have HW:=I hW;clear bb hW;go_enter Tryz.func124,Tryz.ntmps124;go_wp2_with (first | (go_at_call 167;refine (aef s sX _ hs J).mono ?_;rw [HW.out];rintro e w2 ⟨rfl,hw⟩;rw [hw];clear hw w2) | go_in)
    go_ret
    exact ⟨by rw [HF.out];rfl,bc⟩
  ·have bb:AQ s = false:=(by unfold AQ;simp [h30,jx]);have HF:=I bb;clear bb;go_enter Tryz.func124,Tryz.ntmps124;exact ep
 ·obtain rfl:=Y4 (s:=s) J;go_enter Tryz.func124,Tryz.ntmps124;go_wp2;go_ret
  exact ⟨J',bc⟩
theorem qK (s:ByteArray) (w:World) (cC:(s.size:Int)<=1048576):Calls Tryz.prog 136 #[.string s] w λe w'=>e = .returned (.bool (Cm s))/\Below w.heap.size w w':=by
 by_cases hs:0 < s.size
 ·have hz:((s.size:Int) == 0) = false:=by rw [beq_eq_false_iff_ne];omega
  by_cases h30:(s.size:Int)<=30
  ·cases hW:GN z6 s
   all_goals
    have bb:Cm s = _:=(by unfold Cm;rw [hW]);simp only [h30,decide_true,Bool.true_and] at bb;have HF:=I bb;have HW:=I hW;clear bb hW;go_enter Tryz.func136,Tryz.ntmps136;go_wp2_with (first | (go_at_call 171;refine (Wu s z6 _ J (by decide)).mono ?_;rw [HW.out];rintro e w2 ⟨rfl,ap⟩) | go_in)
    go_ret
    exact ⟨by rw [HF.out];rfl,bc⟩
  ·have bb:Cm s = false:=(by unfold Cm;simp [h30]);have HF:=I bb;clear bb;go_enter Tryz.func136,Tryz.ntmps136;exact ep
 ·have bb:Cm s = false:=by unfold Cm;rw [Ou hs];simp
  have HF:=I bb;have jx:(s.size:Int) = 0:=by omega
  have HW:=I (Ou (o:=z6) hs);clear bb;go_enter Tryz.func136,Tryz.ntmps136;go_wp2_with (first | (go_at_call 171;refine (Wu s z6 _ J (by decide)).mono ?_;rw [HW.out];rintro e w2 ⟨rfl,ap⟩) | go_in)
  go_ret
  exact ⟨by rw [HF.out];rfl,bc⟩
theorem vH (s:ByteArray) (w:World) (cC:(s.size:Int)<=1048576):Calls Tryz.prog 137 #[.string s] w λe w'=>e = .returned (.bool (AQ s))/\Below w.heap.size w w':=by
 by_cases hs:0 < s.size
 ·have hz:((s.size:Int) == 0) = false:=by rw [beq_eq_false_iff_ne];omega
  have bN:=Y3 hs;have jx:¬s.size = 0:=by omega
  by_cases h30:(s.size:Int)<=20
  ·cases hW:GN sX s
   all_goals
    have bb:AQ s = _:=(by unfold AQ;rw [hW]);simp only [h30,jx,decide_true,decide_false,Bool.true_and,Bool.false_or] at bb;have HF:=I bb;have HW:=I hW;clear bb hW;go_enter Tryz.func137,Tryz.ntmps137;go_wp2_with (first | (go_at_call 171;refine (Wu s sX _ J (by decide)).mono ?_;rw [HW.out];rintro e w2 ⟨rfl,ap⟩) | go_in)
    go_ret
    exact ⟨by rw [HF.out];rfl,bc⟩
  ·have bb:AQ s = false:=(by unfold AQ;simp [h30,jx]);have HF:=I bb;clear bb;go_enter Tryz.func137,Tryz.ntmps137;exact ep
 ·obtain rfl:=Y4 (s:=s) J;go_enter Tryz.func137,Tryz.ntmps137;go_wp2;go_ret
  exact ⟨J',bc⟩
theorem aJ {α:Type} [bd α] {w w':World} {x:α} {cs:List Value} {F:List Nat} (h:rd w x cs F) (hb:Below w.heap.size w w'):rd w' x cs F :=
 bd.frame h (λb d8=>hb.block b (bd.lt h b d8)) hb.size
theorem YG {p:Nat->Bool} {n:Nat} (h:∀j,j < n->p j = true):(List.range n).all p = true:=by
 rw [List.all_eq_true];intro x hx;exact h x (List.mem_range.1 hx)
theorem YF {p:Nat->Bool} {n k:Nat} (hk:k < n) (h:p k = false):(List.range n).all p = false:=by
 rw [List.all_eq_false];exact ⟨k,List.mem_range.2 hk,by simp [h]⟩
theorem gq {p:Nat->Bool} {k:Nat} (h:∀j,j < k->p j = true) (hp:p k = true):∀j,j < k+1->p j = true:=λj hj=>by
 rcases Nat.lt_or_ge j k with h1 | h1
 ·exact h j h1
 ·obtain rfl:j = k:=by omega
  exact hp
def rowAt {α:Type} (ok:α->Bool) (less:α->α->Bool) (xs:List α) (k:Nat):Bool :=
 match xs[k]? with
 | none=>false
 | some l=>ok l&&(match k with | 0=>true | j+1=>match xs[j]? with | none=>false | some p=>less p l)
theorem bF {α:Type} {ok:α->Bool} {less:α->α->Bool} {xs:List α} (h:0 < xs.length):rowAt ok less xs 0 = ok xs[0]:=by
 unfold rowAt;rw [List.getElem?_eq_getElem h];simp
theorem yS {α:Type} {ok:α->Bool} {less:α->α->Bool} {xs:List α} {j:Nat} (h:j+1 < xs.length):rowAt ok less xs (j+1) = (ok xs[j+1]&&less xs[j] xs[j+1]):=by
 simp only [rowAt,List.getElem?_eq_getElem h,List.getElem?_eq_getElem (show j < xs.length by omega)]
def mw {α:Type} (ok:α->Bool) (less:α->α->Bool) (most:Int) (xs:List α):Bool:=decide ((xs.length:Int)<=most)&&(List.range xs.length).all (rowAt ok less xs)
theorem wU {α:Type} {ok:α->Bool} {less:α->α->Bool} {most:Int} {xs:List α} {k:Nat} (hk:k < xs.length) (h:rowAt ok less xs k = false):mw ok less most xs = false:=by unfold mw;rw [YF hk h];simp
theorem Jz {α:Type} {ok:α->Bool} {less:α->α->Bool} {most:Int} {xs:List α} (h:¬(xs.length:Int)<=most):mw ok less most xs = false:=by unfold mw;simp [h]
theorem Jy {α:Type} {ok:α->Bool} {less:α->α->Bool} {most:Int} {xs:List α} (hl:(xs.length:Int)<=most) (h:∀j,j < xs.length->rowAt ok less xs j = true):mw ok less most xs = true:=by unfold mw;rw [YG h];simp [hl]
def bl (a b:ByteArray):Bool:=Op.bytesLess a.toList b.toList
def uh (x:aE):Bool:=Cm x.key&&(decide (1<=x.op)&&decide (x.op<=4))&&(if 2 < x.op then decide (x.values.length = 0) else decide (1<=x.values.length)&&mw AQ bl 4 x.values)
theorem aiY {x:aE} (h:Cm x.key = false):uh x = false:=by unfold uh;rw [h];simp
theorem amy {x:aE} (h:¬(1<=x.op/\x.op<=4)):uh x = false:=by
 have:(decide (1<=x.op)&&decide (x.op<=4)) = false:=by rw [<- Bool.not_eq_true,Bool.and_eq_true,decide_eq_true_eq,decide_eq_true_eq];exact h
 unfold uh;rw [this];simp
theorem aiZ {x:aE} (hk:Cm x.key = true) (h:1<=x.op/\x.op<=4) (h2:2 < x.op):uh x = decide (x.values.length = 0):=by
 unfold uh;rw [hk,if_pos h2];simp [h.1,h.2]
theorem amx {x:aE} (hk:Cm x.key = true) (h:1<=x.op/\x.op<=4) (h2:¬2 < x.op):uh x = (decide (1<=x.values.length)&&mw AQ bl 4 x.values):=by
 unfold uh;rw [hk,if_neg h2];simp [h.1,h.2]
theorem Wn {s:ByteArray} (h:(s.toList == []) = true):AQ s = true:=by
 have h1:s.toList = []:=by simpa using h
 have h2:s.size = 0:=by exact Ns
 unfold AQ;simp [h2]
theorem Wp {s:ByteArray} (h:(s.toList == []) = true):Cm s = false:=by
 have h1:s.toList = []:=by simpa using h
 have h2:s.size = 0:=by exact Ns
 unfold Cm;rw [Ou J];simp
theorem Kz (l:List UInt8):l.isEmpty = (l == []):=by cases l <;> rfl
def Dp (x:iU):Bool:=Cm x.key&&AQ x.value&&(decide (1<=x.effect)&&decide (x.effect<=2))
theorem V9 (x:iU) (cs:List Value) (F:List Nat) (w:World) (h:rd w x cs F) (kO:(x.key.size:Int)<=1048576) (oo:(x.value.size:Int)<=1048576) :
 Calls Tryz.prog 125 #[.agg cs.toArray] w λe w'=>e = .returned (.bool (Dp x))/\Below w.heap.size w w':=by
 obtain ⟨aq,qp,b9,kP,lD⟩:=oK h;subst aq;clear qp h;have gP:=I (Wn (s:=x.value));have gR:=I (Wp (s:=x.key));go_enter Tryz.func125,Tryz.ntmps125
 go_wp2_with (first
  | (go_at_call 123;refine (rX x.key _ kO).mono ?_;rintro e w2 ⟨rfl,ap⟩;obtain ⟨bX,cE⟩:=ay ap;have cr:w.heap.size < w2.heap.size:=(sq ap.size))
  | (go_at_call 124;refine (xQ x.value _ oo).mono ?_;rintro e w3 ⟨rfl,ba⟩;obtain ⟨cK,hf3⟩:=ay ba;have eN:w.heap.size < w3.heap.size:=(sq ba.size))
  | go_in)
 all_goals first
  | (go_ret;refine ⟨?_,bc⟩;refine congrArg (λb=>Ending.returned (Value.bool b)) ?_;show (_:Bool) = _;(try clear bX cE);(try clear cK hf3);unfold Dp;(try simp only [Kz]);first | (simp [*];done) | (simp [*];omega) | (have QL:=gP.out;have QM:=gR.out;clear gP gR;(try clear ap);(try clear ba);simp at QL QM;simp_all;done) | (have QL:=gP.out;have QM:=gR.out;clear gP gR;(try clear ap);(try clear ba);simp at QL QM;simp_all;omega) | (have QL:=gP.out;have QM:=gR.out;clear gP gR;(try clear ap);(try clear ba);simp at QL QM;simp_all;exact Bool.or_comm _ _))
  | skip
theorem Wh (x:iU) (cs:List Value) (F:List Nat) (w:World) (h:rd w x cs F) (kO:(x.key.size:Int)<=1048576) (oo:(x.value.size:Int)<=1048576) :
 Calls Tryz.prog 141 #[.agg cs.toArray] w λe w'=>e = .returned (.bool (Dp x))/\Below w.heap.size w w':=by
 obtain ⟨aq,qp,b9,kP,lD⟩:=oK h;subst aq;clear qp h;have gP:=I (Wn (s:=x.value));have gR:=I (Wp (s:=x.key));go_enter Tryz.func141,Tryz.ntmps141
 go_wp2_with (first
  | (go_at_call 136;refine (qK x.key _ kO).mono ?_;rintro e w2 ⟨rfl,ap⟩;obtain ⟨bX,cE⟩:=ay ap;have cr:w.heap.size < w2.heap.size:=(sq ap.size))
  | (go_at_call 137;refine (vH x.value _ oo).mono ?_;rintro e w3 ⟨rfl,ba⟩;obtain ⟨cK,hf3⟩:=ay ba;have eN:w.heap.size < w3.heap.size:=(sq ba.size))
  | go_in)
 all_goals first
  | (go_ret;refine ⟨?_,bc⟩;refine congrArg (λb=>Ending.returned (Value.bool b)) ?_;show (_:Bool) = _;(try clear bX cE);(try clear cK hf3);unfold Dp;(try simp only [Kz]);first | (simp [*];done) | (simp [*];omega) | (have QL:=gP.out;have QM:=gR.out;clear gP gR;(try clear ap);(try clear ba);simp at QL QM;simp_all;done) | (have QL:=gP.out;have QM:=gR.out;clear gP gR;(try clear ap);(try clear ba);simp at QL QM;simp_all;omega) | (have QL:=gP.out;have QM:=gR.out;clear gP gR;(try clear ap);(try clear ba);simp at QL QM;simp_all;exact Bool.or_comm _ _))
  | skip
def Q5 (x:bH):Bool:=(Cm x.key || (x.key.toList == [])&&!x.equal)&&AQ x.value&&((x.value.toList == []) || x.equal)&&(decide (0<=x.effect)&&decide (x.effect<=2))
def AY (t:bH) (x:iU):Bool:=Q5 t&&Dp x&&((t.key.toList == []) || t.key.toList == x.key.toList)&&(!t.equal || t.value.toList == x.value.toList)&&(t.effect == 0 || t.effect == x.effect)
theorem Na (x:bH) (cs:List Value) (F:List Nat) (w:World) (h:rd w x cs F) (kO:(x.key.size:Int)<=1048576) (oo:(x.value.size:Int)<=1048576) :
 Calls Tryz.prog 129 #[.agg cs.toArray] w λe w'=>e = .returned (.bool (Q5 x))/\Below w.heap.size w w':=by
 obtain ⟨aq,qp,b9,kP,lD⟩:=jv h;subst aq;clear qp h;have gP:=I (Wn (s:=x.value));have gR:=I (Wp (s:=x.key));go_enter Tryz.func129,Tryz.ntmps129
 go_wp2_with (first
  | (go_at_call 123;refine (rX x.key _ kO).mono ?_;rintro e w2 ⟨rfl,ap⟩;obtain ⟨bX,cE⟩:=ay ap;have cr:w.heap.size < w2.heap.size:=(sq ap.size))
  | (go_at_call 124;refine (xQ x.value _ oo).mono ?_;rintro e w3 ⟨rfl,ba⟩;obtain ⟨cK,hf3⟩:=ay ba;have eN:w.heap.size < w3.heap.size:=(sq ba.size))
  | go_in)
 all_goals first
  | (go_ret;refine ⟨?_,bc⟩;refine congrArg (λb=>Ending.returned (Value.bool b)) ?_;show (_:Bool) = _;(try clear bX cE);(try clear cK hf3);unfold Q5;(try simp only [Kz]);first | (simp [*];done) | (simp [*];omega) | (have QL:=gP.out;have QM:=gR.out;clear gP gR;(try clear ap);(try clear ba);simp at QL QM;simp_all;done) | (have QL:=gP.out;have QM:=gR.out;clear gP gR;(try clear ap);(try clear ba);simp at QL QM;simp_all;omega) | (have QL:=gP.out;have QM:=gR.out;clear gP gR;(try clear ap);(try clear ba);simp at QL QM;simp_all;exact Bool.or_comm _ _))
  | skip
theorem Nb (x:bH) (cs:List Value) (F:List Nat) (w:World) (h:rd w x cs F) (kO:(x.key.size:Int)<=1048576) (oo:(x.value.size:Int)<=1048576) :
 Calls Tryz.prog 139 #[.agg cs.toArray] w λe w'=>e = .returned (.bool (Q5 x))/\Below w.heap.size w w':=by
 obtain ⟨aq,qp,b9,kP,lD⟩:=jv h;subst aq;clear qp h;have gP:=I (Wn (s:=x.value));have gR:=I (Wp (s:=x.key));go_enter Tryz.func139,Tryz.ntmps139
 go_wp2_with (first
  | (go_at_call 136;refine (qK x.key _ kO).mono ?_;rintro e w2 ⟨rfl,ap⟩;obtain ⟨bX,cE⟩:=ay ap;have cr:w.heap.size < w2.heap.size:=(sq ap.size))
  | (go_at_call 137;refine (vH x.value _ oo).mono ?_;rintro e w3 ⟨rfl,ba⟩;obtain ⟨cK,hf3⟩:=ay ba;have eN:w.heap.size < w3.heap.size:=(sq ba.size))
  | go_in)
 all_goals first
  | (go_ret;refine ⟨?_,bc⟩;refine congrArg (λb=>Ending.returned (Value.bool b)) ?_;show (_:Bool) = _;(try clear bX cE);(try clear cK hf3);unfold Q5;(try simp only [Kz]);first | (simp [*];done) | (simp [*];omega) | (have QL:=gP.out;have QM:=gR.out;clear gP gR;(try clear ap);(try clear ba);simp at QL QM;simp_all;done) | (have QL:=gP.out;have QM:=gR.out;clear gP gR;(try clear ap);(try clear ba);simp at QL QM;simp_all;omega) | (have QL:=gP.out;have QM:=gR.out;clear gP gR;(try clear ap);(try clear ba);simp at QL QM;simp_all;exact Bool.or_comm _ _))
  | skip
end Go.Proofs.YtjahcnjmjahbaaaGreat
