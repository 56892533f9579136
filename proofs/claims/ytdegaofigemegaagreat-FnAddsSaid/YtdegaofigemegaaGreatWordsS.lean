/- l14Word, of the reference. No condition. -/
import Derived.Test.YtdegaofigemegaaGreatAppendAt
import Derived.Test.YtdegaofigemegaaGreatRegion
import Derived.Laws.Cover1
namespace Go.Proofs.YtdegaofigemegaaGreat
open Go.ChangeShapes Go.WideShapes Go.ChangeAt Go.RowKit
set_option linter.unusedVariables false
set_option linter.unusedSimpArgs false
set_option maxHeartbeats 2000000
set_option maxRecDepth 100000
def yZ (o:ByteArray) (c:UInt8) (k:Nat):Bool:=GL c.toNat || (o.data.toList.take k).contains c
theorem apb (o:ByteArray) (c:UInt8):yZ o c 0 = GL c.toNat:=by simp [yZ]
theorem apc (o:ByteArray) (c:UInt8):yZ o c o.size = okB o c:=by
 unfold yZ okB;rw [List.take_of_length_le (by rw [Array.length_toList];exact Nat.le_refl _)]
theorem apd {o:ByteArray} {c:UInt8} {k:Nat} (hk:k < o.size):yZ o c (k+1) = (yZ o c k || ((c.toNat:Int) == (o[k].toNat:Int))):=by
 have so:k < o.data.toList.length:=by simpa using hk
 unfold yZ;rw [List.take_succ_eq_append_getElem so,List.contains_eq_any_beq,List.contains_eq_any_beq,List.any_append,Bool.or_assoc];congr 2;simp only [List.any_cons,List.any_nil,Bool.or_false,Array.getElem_toList];rw [Bool.eq_iff_iff,beq_iff_eq,beq_iff_eq,ByteArray.getElem_eq_getElem_data];constructor
 ·intro h;rw [<- h]
 ·intro h;exact UInt8.toNat_inj.1 J
theorem Wu (s o:ByteArray) (w:World) (cO:(s.size:Int)<=1048576) (ho:(o.size:Int)<=1048576):Calls Tryz.prog 218 #[.string s,.string o] w λe w'=>e = .returned (.bool (GN o s))/\Below w.heap.size w w':=by
 by_cases hs:0 < s.size
 ·have hz:((s.size:Int) == 0) = false:=by rw [beq_eq_false_iff_ne];omega
  cases h1:GL (s[0].toNat:Int) with
  | false =>
    have br:GN o s = false:=(by unfold GN;rw [DF hs,h1];simp);have HF:=I br;have H1:=I h1;clear h1 br;go_enter Tryz.func218,Tryz.ntmps218;go_wp2_with fail
    refine (Gm (s[0].toNat:Int) _).mono ?_;rw [H1.out];exact Mu
  | true =>
    cases h2:GL (s[s.size - 1].toNat:Int) with
    | false =>
      have br:GN o s = false:=(by unfold GN;rw [DF hs,DF (show s.size - 1 < s.size by omega),h1,h2];simp);have HF:=I br;have H1:=I h1;have H2:=I h2;clear h1 h2 br;go_enter Tryz.func218,Tryz.ntmps218;go_wp2_with fail
      refine (Gm (s[0].toNat:Int) _).mono ?_;rw [H1.out];rintro e w2 ⟨rfl,hw⟩;rw [hw];clear hw w2;go_wp2_with fail
      refine (Gm (s[s.size - 1].toNat:Int) _).mono ?_;rw [H2.out];exact Mu
    | true =>
      have br:GN o s = s.data.toList.all (okB o):=(by unfold GN;rw [DF hs,DF (show s.size - 1 < s.size by omega),h1,h2];simp [hs]);have HF:=I br;have H1:=I h1;have H2:=I h2;clear h1 h2 br;go_enter Tryz.func218,Tryz.ntmps218;go_wp2_with fail
      refine (Gm (s[0].toNat:Int) _).mono ?_;rw [H1.out];rintro e w2 ⟨rfl,hw⟩;rw [hw];clear hw w2;go_wp2_with fail
      refine (Gm (s[s.size - 1].toNat:Int) _).mono ?_;rw [H2.out];rintro e w2 ⟨rfl,hw⟩;rw [hw];clear hw w2;go_wp2_with fail
      go_loopw [5] (λv wr=>∃(k:Nat),k<=s.size/\v = .int .i64 k/\Hid (∀j (hj:j < s.size),j < k->okB o s[j] = true)/\Below w.heap.size w wr) (λv _=>s.size - (intOf v).toNat)
      case atStart=>exact ⟨0,Nat.zero_le _,rfl,λj _ hj=>by omega,aj _⟩
      case round =>
       obtain ⟨k,hk,rfl,hall,aM⟩:=hrel;by_cases ap:k < s.size
       ·go_wp2_with fail
        refine (Gm (s[k].toNat:Int) _).mono ?_;rw [<- apb o s[k]];rintro e w2 ⟨rfl,hw⟩;rw [hw];clear hw w2;go_wp2_with fail
        go_loopw [6,7] (λv u wi=>∃(j:Nat),j<=o.size/\u = .int .i64 j/\v = .bool (yZ o s[k] j)/\Below w.heap.size w wi) (λ_ u _=>o.size - (intOf u).toNat)
        case atStart=>exact ⟨0,Nat.zero_le _,rfl,rfl,aM⟩
        case round =>
         obtain ⟨j,hj,rfl,rfl,hbi⟩:=hrel;by_cases jH:j < o.size
         ·have HA:=I (apd (c:=s[k]) jH);generalize hb:yZ o s[k] j = b at *;cases b
          all_goals
           clear hb;go_wp2_with fail
           refine aF _ U' U' (aj _) ?_
           repeat ((first | refine aG J' ?_ | refine aH _ J' cZ ?_);simp only [Act.put,pz])
           refine aN ?_;intro wn hn;replace hn:=hn.out;go_wp2;exact ⟨⟨j+1,J,N',by rw [HA.out];rfl,ah hbi hn⟩,by simp [intOf];omega⟩
         ·have UG:j = o.size:=J;subst UG;rw [apc];cases eN:okB o s[k] with
          | true =>have HN:=I (X4 ap hall.out eN);clear eN;go_wp2;exact ⟨⟨k+1,J,N',HN.out,hbi⟩,by simp [intOf];omega⟩
          | false =>
            have HG:=I (TM ap eN);clear eN;go_wp2;go_ret
            exact ⟨by rw [HF.out,HG.out];rfl,hbi⟩
       ·have bz:k = s.size:=J;subst bz;have HG:=I (YX (p:=okB o) (λj hj=>hall.out j hj hj));go_wp2;go_ret
        exact ⟨by rw [HF.out,HG.out];rfl,aM⟩
 ·have ky:s.size = 0:=by omega
  have br:GN o s = false:=by unfold GN;simp [ky]
  have HF:=I br;clear br;go_enter Tryz.func218,Tryz.ntmps218;go_wp2;go_ret
  exact ⟨by rw [HF.out];rfl,aj _⟩
def Bj:ByteArray:=⟨#[45,95,46,47]⟩
def uN:ByteArray:=⟨#[45,95,46]⟩
def Cm (s:ByteArray):Bool:=decide ((s.size:Int)<=30)&&GN Bj s
def AQ (s:ByteArray):Bool:=decide (s.size = 0) || (decide ((s.size:Int)<=20)&&GN uN s)
theorem Ou {o s:ByteArray} (h:¬0 < s.size):GN o s = false:=by unfold GN;simp [h]
theorem Y4 {s:ByteArray} (h:s.size = 0):s = ⟨#[]⟩:=by
 obtain ⟨d⟩:=s;congr 1;exact Array.eq_empty_of_size_eq_zero h
theorem Y3 {s:ByteArray} (h:0 < s.size):(s.toList == []) = false:=by
 rw [beq_eq_false_iff_ne];intro e;rw [ByteArray.toList_eq] at e;have h2:s.data.toList.length = 0:=by rw [e];rfl
 rw [Array.length_toList] at h2;have h3:s.size = s.data.size:=rfl;omega
theorem rX (s:ByteArray) (w:World) (cO:(s.size:Int)<=1048576):Calls Tryz.prog 105 #[.string s] w λe w'=>e = .returned (.bool (Cm s))/\Below w.heap.size w w':=by
 by_cases hs:0 < s.size
 ·have hz:((s.size:Int) == 0) = false:=by rw [beq_eq_false_iff_ne];omega
  by_cases h30:(s.size:Int)<=30
  ·cases hW:GN Bj s
   all_goals
    have br:Cm s = _:=(by unfold Cm;rw [hW]);simp only [h30,decide_true,Bool.true_and] at br;have HF:=I br;have HW:=I hW;clear br hW;go_enter Tryz.func105,Tryz.ntmps105;go_wp2_with (first | (go_at_call 147;refine (aef s Bj _ hs J).mono ?_;rw [HW.out];rintro e w2 ⟨rfl,hw⟩;rw [hw];clear hw w2) | go_in)
    go_ret
    exact ⟨by rw [HF.out];rfl,bJ⟩
  ·have br:Cm s = false:=(by unfold Cm;simp [h30]);have HF:=I br;clear br;go_enter Tryz.func105,Tryz.ntmps105;exact fg
 ·have br:Cm s = false:=by unfold Cm;rw [Ou hs];simp
  have HF:=I br;have ky:(s.size:Int) = 0:=by omega
  have HW:=I (Ou (o:=Bj) hs);clear br;go_enter Tryz.func105,Tryz.ntmps105;exact fg
theorem xQ (s:ByteArray) (w:World) (cO:(s.size:Int)<=1048576):Calls Tryz.prog 106 #[.string s] w λe w'=>e = .returned (.bool (AQ s))/\Below w.heap.size w w':=by
 by_cases hs:0 < s.size
 ·have hz:((s.size:Int) == 0) = false:=by rw [beq_eq_false_iff_ne];omega
  have bI:=Y3 hs;have ky:¬s.size = 0:=by omega
  by_cases h30:(s.size:Int)<=20
  ·cases hW:GN uN s
   all_goals
    have br:AQ s = _:=(by unfold AQ;rw [hW]);simp only [h30,ky,decide_true,decide_false,Bool.true_and,Bool.false_or] at br;have HF:=I br;have HW:=I hW;clear br hW;go_enter Tryz.func106,Tryz.ntmps106;go_wp2_with (first | (go_at_call 147;refine (aef s uN _ hs J).mono ?_;rw [HW.out];rintro e w2 ⟨rfl,hw⟩;rw [hw];clear hw w2) | go_in)
    go_ret
    exact ⟨by rw [HF.out];rfl,bJ⟩
  ·have br:AQ s = false:=(by unfold AQ;simp [h30,ky]);have HF:=I br;clear br;go_enter Tryz.func106,Tryz.ntmps106;exact fg
 ·obtain rfl:=Y4 (s:=s) J;go_enter Tryz.func106,Tryz.ntmps106;go_wp2;go_ret
  exact ⟨J',bJ⟩
theorem qK (s:ByteArray) (w:World) (cO:(s.size:Int)<=1048576):Calls Tryz.prog 165 #[.string s] w λe w'=>e = .returned (.bool (Cm s))/\Below w.heap.size w w':=by
 by_cases hs:0 < s.size
 ·have hz:((s.size:Int) == 0) = false:=by rw [beq_eq_false_iff_ne];omega
  by_cases h30:(s.size:Int)<=30
  ·cases hW:GN Bj s
   all_goals
    have br:Cm s = _:=(by unfold Cm;rw [hW]);simp only [h30,decide_true,Bool.true_and] at br;have HF:=I br;have HW:=I hW;clear br hW;go_enter Tryz.func165,Tryz.ntmps165;go_wp2_with (first | (go_at_call 218;refine (Wu s Bj _ J (by decide)).mono ?_;rw [HW.out];rintro e w2 ⟨rfl,am⟩) | go_in)
    go_ret
    exact ⟨by rw [HF.out];rfl,bJ⟩
  ·have br:Cm s = false:=(by unfold Cm;simp [h30]);have HF:=I br;clear br;go_enter Tryz.func165,Tryz.ntmps165;exact fg
 ·have br:Cm s = false:=by unfold Cm;rw [Ou hs];simp
  have HF:=I br;have ky:(s.size:Int) = 0:=by omega
  have HW:=I (Ou (o:=Bj) hs);clear br;go_enter Tryz.func165,Tryz.ntmps165;go_wp2_with (first | (go_at_call 218;refine (Wu s Bj _ J (by decide)).mono ?_;rw [HW.out];rintro e w2 ⟨rfl,am⟩) | go_in)
  go_ret
  exact ⟨by rw [HF.out];rfl,bJ⟩
theorem vH (s:ByteArray) (w:World) (cO:(s.size:Int)<=1048576):Calls Tryz.prog 166 #[.string s] w λe w'=>e = .returned (.bool (AQ s))/\Below w.heap.size w w':=by
 by_cases hs:0 < s.size
 ·have hz:((s.size:Int) == 0) = false:=by rw [beq_eq_false_iff_ne];omega
  have bI:=Y3 hs;have ky:¬s.size = 0:=by omega
  by_cases h30:(s.size:Int)<=20
  ·cases hW:GN uN s
   all_goals
    have br:AQ s = _:=(by unfold AQ;rw [hW]);simp only [h30,ky,decide_true,decide_false,Bool.true_and,Bool.false_or] at br;have HF:=I br;have HW:=I hW;clear br hW;go_enter Tryz.func166,Tryz.ntmps166;go_wp2_with (first | (go_at_call 218;refine (Wu s uN _ J (by decide)).mono ?_;rw [HW.out];rintro e w2 ⟨rfl,am⟩) | go_in)
    go_ret
    exact ⟨by rw [HF.out];rfl,bJ⟩
  ·have br:AQ s = false:=(by unfold AQ;simp [h30,ky]);have HF:=I br;clear br;go_enter Tryz.func166,Tryz.ntmps166;exact fg
 ·obtain rfl:=Y4 (s:=s) J;go_enter Tryz.func166,Tryz.ntmps166;go_wp2;go_ret
  exact ⟨J',bJ⟩
theorem aJ {α:Type} [ax α] {w w':World} {x:α} {cs:List Value} {F:List Nat} (h:rd w x cs F) (hb:Below w.heap.size w w'):rd w' x cs F :=
 ax.frame h (λb dP=>hb.block b (ax.lt h b dP)) hb.size
theorem YG {p:Nat->Bool} {n:Nat} (h:∀j,j < n->p j = true):(List.range n).all p = true:=by
 rw [List.all_eq_true];intro x hx;exact h x (List.mem_range.1 hx)
theorem YF {p:Nat->Bool} {n k:Nat} (hk:k < n) (h:p k = false):(List.range n).all p = false:=by
 rw [List.all_eq_false];exact ⟨k,List.mem_range.2 hk,by simp [h]⟩
theorem gq {p:Nat->Bool} {k:Nat} (h:∀j,j < k->p j = true) (hp:p k = true):∀j,j < k+1->p j = true:=λj hj=>by
 rcases Nat.lt_or_ge j k with h1 | h1
 ·exact h j h1
 ·obtain rfl:j = k:=by omega
  exact hp
def rowAt {α:Type} (ok:α->Bool) (less:α->α->Bool) (xs:List α) (k:Nat):Bool :=
 match xs[k]? with
 | none=>false
 | some l=>ok l&&(match k with | 0=>true | j+1=>match xs[j]? with | none=>false | some p=>less p l)
theorem bR {α:Type} {ok:α->Bool} {less:α->α->Bool} {xs:List α} (h:0 < xs.length):rowAt ok less xs 0 = ok xs[0]:=by
 unfold rowAt;rw [List.getElem?_eq_getElem h];simp
theorem yS {α:Type} {ok:α->Bool} {less:α->α->Bool} {xs:List α} {j:Nat} (h:j+1 < xs.length):rowAt ok less xs (j+1) = (ok xs[j+1]&&less xs[j] xs[j+1]):=by
 simp only [rowAt,List.getElem?_eq_getElem h,List.getElem?_eq_getElem (show j < xs.length by omega)]
def oS {α:Type} (ok:α->Bool) (less:α->α->Bool) (most:Int) (xs:List α):Bool:=decide ((xs.length:Int)<=most)&&(List.range xs.length).all (rowAt ok less xs)
theorem wU {α:Type} {ok:α->Bool} {less:α->α->Bool} {most:Int} {xs:List α} {k:Nat} (hk:k < xs.length) (h:rowAt ok less xs k = false):oS ok less most xs = false:=by unfold oS;rw [YF hk h];simp
theorem Jz {α:Type} {ok:α->Bool} {less:α->α->Bool} {most:Int} {xs:List α} (h:¬(xs.length:Int)<=most):oS ok less most xs = false:=by unfold oS;simp [h]
theorem Jy {α:Type} {ok:α->Bool} {less:α->α->Bool} {most:Int} {xs:List α} (hl:(xs.length:Int)<=most) (h:∀j,j < xs.length->rowAt ok less xs j = true):oS ok less most xs = true:=by unfold oS;rw [YG h];simp [hl]
def bl (a b:ByteArray):Bool:=Op.bytesLess a.toList b.toList
def uh (x:aL):Bool:=Cm x.key&&(decide (1<=x.op)&&decide (x.op<=4))&&(if 2 < x.op then decide (x.values.length = 0) else decide (1<=x.values.length)&&oS AQ bl 4 x.values)
theorem aiY {x:aL} (h:Cm x.key = false):uh x = false:=by unfold uh;rw [h];simp
theorem amy {x:aL} (h:¬(1<=x.op/\x.op<=4)):uh x = false:=by
 have:(decide (1<=x.op)&&decide (x.op<=4)) = false:=by rw [<- Bool.not_eq_true,Bool.and_eq_true,decide_eq_true_eq,decide_eq_true_eq];exact h
 unfold uh;rw [this];simp
theorem aiZ {x:aL} (hk:Cm x.key = true) (h:1<=x.op/\x.op<=4) (h2:2 < x.op):uh x = decide (x.values.length = 0):=by
 unfold uh;rw [hk,if_pos h2];simp [h.1,h.2]
theorem amx {x:aL} (hk:Cm x.key = true) (h:1<=x.op/\x.op<=4) (h2:¬2 < x.op):uh x = (decide (1<=x.values.length)&&oS AQ bl 4 x.values):=by
 unfold uh;rw [hk,if_neg h2];simp [h.1,h.2]
theorem Wn {s:ByteArray} (h:(s.toList == []) = true):AQ s = true:=by
 have h1:s.toList = []:=by simpa using h
 have h2:s.size = 0:=by exact MG
 unfold AQ;simp [h2]
theorem Wp {s:ByteArray} (h:(s.toList == []) = true):Cm s = false:=by
 have h1:s.toList = []:=by simpa using h
 have h2:s.size = 0:=by exact MG
 unfold Cm;rw [Ou J];simp
theorem Kz (l:List UInt8):l.isEmpty = (l == []):=by cases l <;> rfl
def Dp (x:iU):Bool:=Cm x.key&&AQ x.value&&(decide (1<=x.effect)&&decide (x.effect<=2))
theorem V9 (x:iU) (cs:List Value) (F:List Nat) (w:World) (h:rd w x cs F) (lL:(x.key.size:Int)<=1048576) (uC:(x.value.size:Int)<=1048576) :
 Calls Tryz.prog 107 #[.agg cs.toArray] w λe w'=>e = .returned (.bool (Dp x))/\Below w.heap.size w w':=by
 obtain ⟨ar,qp,b5,kP,lD⟩:=oK h;subst ar;clear qp h;have jI:=I (Wn (s:=x.value));have gz:=I (Wp (s:=x.key));go_enter Tryz.func107,Tryz.ntmps107
 go_wp2_with (first
  | (go_at_call 105;refine (rX x.key _ lL).mono ?_;rintro e w2 ⟨rfl,am⟩;obtain ⟨bM,cB⟩:=ay am;have ca:w.heap.size < w2.heap.size:=(sq am.size))
  | (go_at_call 106;refine (xQ x.value _ uC).mono ?_;rintro e w3 ⟨rfl,az⟩;obtain ⟨cw,hf3⟩:=ay az;have eB:w.heap.size < w3.heap.size:=(sq az.size))
  | go_in)
 all_goals first
  | (go_ret;refine ⟨?_,bJ⟩;refine congrArg (λb=>Ending.returned (Value.bool b)) ?_;show (_:Bool) = _;(try clear bM cB);(try clear cw hf3);unfold Dp;(try simp only [Kz]);first | (simp [*];done) | (simp [*];omega) | (have QL:=jI.out;have QM:=gz.out;clear jI gz;(try clear am);(try clear az);simp at QL QM;simp_all;done) | (have QL:=jI.out;have QM:=gz.out;clear jI gz;(try clear am);(try clear az);simp at QL QM;simp_all;omega) | (have QL:=jI.out;have QM:=gz.out;clear jI gz;(try clear am);(try clear az);simp at QL QM;simp_all;exact Bool.or_comm _ _))
  | skip
theorem Wh (x:iU) (cs:List Value) (F:List Nat) (w:World) (h:rd w x cs F) (lL:(x.key.size:Int)<=1048576) (uC:(x.value.size:Int)<=1048576) :
 Calls Tryz.prog 169 #[.agg cs.toArray] w λe w'=>e = .returned (.bool (Dp x))/\Below w.heap.size w w':=by
 obtain ⟨ar,qp,b5,kP,lD⟩:=oK h;subst ar;clear qp h;have jI:=I (Wn (s:=x.value));have gz:=I (Wp (s:=x.key));go_enter Tryz.func169,Tryz.ntmps169
 go_wp2_with (first
  | (go_at_call 165;refine (qK x.key _ lL).mono ?_;rintro e w2 ⟨rfl,am⟩;obtain ⟨bM,cB⟩:=ay am;have ca:w.heap.size < w2.heap.size:=(sq am.size))
  | (go_at_call 166;refine (vH x.value _ uC).mono ?_;rintro e w3 ⟨rfl,az⟩;obtain ⟨cw,hf3⟩:=ay az;have eB:w.heap.size < w3.heap.size:=(sq az.size))
  | go_in)
 all_goals first
  | (go_ret;refine ⟨?_,bJ⟩;refine congrArg (λb=>Ending.returned (Value.bool b)) ?_;show (_:Bool) = _;(try clear bM cB);(try clear cw hf3);unfold Dp;(try simp only [Kz]);first | (simp [*];done) | (simp [*];omega) | (have QL:=jI.out;have QM:=gz.out;clear jI gz;(try clear am);(try clear az);simp at QL QM;simp_all;done) | (have QL:=jI.out;have QM:=gz.out;clear jI gz;(try clear am);(try clear az);simp at QL QM;simp_all;omega) | (have QL:=jI.out;have QM:=gz.out;clear jI gz;(try clear am);(try clear az);simp at QL QM;simp_all;exact Bool.or_comm _ _))
  | skip
def Q5 (x:bH):Bool:=(Cm x.key || (x.key.toList == [])&&!x.equal)&&AQ x.value&&((x.value.toList == []) || x.equal)&&(decide (0<=x.effect)&&decide (x.effect<=2))
def AY (t:bH) (x:iU):Bool:=Q5 t&&Dp x&&((t.key.toList == []) || t.key.toList == x.key.toList)&&(!t.equal || t.value.toList == x.value.toList)&&(t.effect == 0 || t.effect == x.effect)
theorem Na (x:bH) (cs:List Value) (F:List Nat) (w:World) (h:rd w x cs F) (lL:(x.key.size:Int)<=1048576) (uC:(x.value.size:Int)<=1048576) :
 Calls Tryz.prog 111 #[.agg cs.toArray] w λe w'=>e = .returned (.bool (Q5 x))/\Below w.heap.size w w':=by
 obtain ⟨ar,qp,b5,kP,lD⟩:=jv h;subst ar;clear qp h;have jI:=I (Wn (s:=x.value));have gz:=I (Wp (s:=x.key));go_enter Tryz.func111,Tryz.ntmps111
 go_wp2_with (first
  | (go_at_call 105;refine (rX x.key _ lL).mono ?_;rintro e w2 ⟨rfl,am⟩;obtain ⟨bM,cB⟩:=ay am;have ca:w.heap.size < w2.heap.size:=(sq am.size))
  | (go_at_call 106;refine (xQ x.value _ uC).mono ?_;rintro e w3 ⟨rfl,az⟩;obtain ⟨cw,hf3⟩:=ay az;have eB:w.heap.size < w3.heap.size:=(sq az.size))
  | go_in)
 all_goals first
  | (go_ret;refine ⟨?_,bJ⟩;refine congrArg (λb=>Ending.returned (Value.bool b)) ?_;show (_:Bool) = _;(try clear bM cB);(try clear cw hf3);unfold Q5;(try simp only [Kz]);first | (simp [*];done) | (simp [*];omega) | (have QL:=jI.out;have QM:=gz.out;clear jI gz;(try clear am);(try clear az);simp at QL QM;simp_all;done) | (have QL:=jI.out;have QM:=gz.out;clear jI gz;(try clear am);(try clear az);simp at QL QM;simp_all;omega) | (have QL:=jI.out;have QM:=gz.out;clear jI gz;(try clear am);(try clear az);simp at QL QM;simp_all;exact Bool.or_comm _ _))
  | skip
theorem Nb (x:bH) (cs:List Value) (F:List Nat) (w:World) (h:rd w x cs F) (lL:(x.key.size:Int)<=1048576) (uC:(x.value.size:Int)<=1048576) :
 Calls Tryz.prog 168 #[.agg cs.toArray] w λe w'=>e = .returned (.bool (Q5 x))/\Below w.heap.size w w':=by
 obtain ⟨ar,qp,b5,kP,lD⟩:=jv h;subst ar;clear qp h;have jI:=I (Wn (s:=x.value));have gz:=I (Wp (s:=x.key));go_enter Tryz.func168,Tryz.ntmps168
 go_wp2_with (first
  | (go_at_call 165;refine (qK x.key _ lL).mono ?_;rintro e w2 ⟨rfl,am⟩;obtain ⟨bM,cB⟩:=ay am;have ca:w.heap.size < w2.heap.size:=(sq am.size))
  | (go_at_call 166;refine (vH x.value _ uC).mono ?_;rintro e w3 ⟨rfl,az⟩;obtain ⟨cw,hf3⟩:=ay az;have eB:w.heap.size < w3.heap.size:=(sq az.size))
  | go_in)
 all_goals first
  | (go_ret;refine ⟨?_,bJ⟩;refine congrArg (λb=>Ending.returned (Value.bool b)) ?_;show (_:Bool) = _;(try clear bM cB);(try clear cw hf3);unfold Q5;(try simp only [Kz]);first | (simp [*];done) | (simp [*];omega) | (have QL:=jI.out;have QM:=gz.out;clear jI gz;(try clear am);(try clear az);simp at QL QM;simp_all;done) | (have QL:=jI.out;have QM:=gz.out;clear jI gz;(try clear am);(try clear az);simp at QL QM;simp_all;omega) | (have QL:=jI.out;have QM:=gz.out;clear jI gz;(try clear am);(try clear az);simp at QL QM;simp_all;exact Bool.or_comm _ _))
  | skip
theorem ahN (x:bH) (y:iU) (cs ds:List Value) (F G:List Nat) (w:World) (h:rd w x cs F) (h':rd w y ds G) (lL:(x.key.size:Int)<=1048576) (uC:(x.value.size:Int)<=1048576) (aiD:(y.key.size:Int)<=1048576) (W4:(y.value.size:Int)<=1048576) :
 Calls Tryz.prog 248 #[.agg cs.toArray,.agg ds.toArray] w λe w'=>e = .returned (.bool (AY x y))/\Below w.heap.size w w':=by
 obtain ⟨ar,hF1,xO,xk,zT⟩:=jv h;obtain ⟨jU,mI,vC,rP,uY⟩:=oK h';subst ar jU;subst hF1 mI;go_enter Tryz.func248,Tryz.ntmps248
 go_wp2_with (first
  | (go_at_call 168;refine (Nb x _ [] _ (aJ h bJ) lL uC).mono ?_;rintro e w2 ⟨rfl,am⟩;obtain ⟨bM,cB⟩:=ay am;have ca:w.heap.size+1 < w2.heap.size:=(sq am.size);have rj:w.heap.size < w2.heap.size:=J)
  | (go_at_call 169;refine (Wh y _ [] _ (aJ h' bJ) aiD W4).mono ?_;rintro e w3 ⟨rfl,az⟩;obtain ⟨cw,hf3⟩:=ay az;have eB:w.heap.size+1 < w3.heap.size:=(sq az.size);have Jx:w.heap.size < w3.heap.size:=J))
 all_goals first
  | (go_ret;refine ⟨?_,bJ⟩;refine congrArg (λb=>Ending.returned (Value.bool b)) ?_;show (_:Bool) = _;(try clear bM cB am);(try clear cw hf3 az);unfold AY;(try simp only [Kz]);first | (simp [*];done) | (simp_all;done) | (simp_all;omega) | (simp_all;exact Bool.or_comm _ _))
  | skip
def zX (l:ao):Bool:=Cm l.key&&AQ l.value
def zi (a b:ao):Bool:=Op.bytesLess a.key.toList b.key.toList
def sD (xs:List ao):Bool:=oS zX zi 6 xs
theorem Jv (xs:List ao) (A:Option Addr) (n c:Nat) (F:List Nat) (w:World) (h:Sl w xs A c F) (hn:n = xs.length) (hl:(xs.length:Int)<=1048576) (cN:∀l∈xs,(l.key.size:Int)<=1048576/\(l.value.size:Int)<=1048576) :
 Calls Tryz.prog 65 #[.slice A n c] w λe w'=>e = .returned (.bool (sD xs))/\Below w.heap.size w w':=by
 subst hn;have Eo:=I cN;clear cN;go_enter Tryz.func65,Tryz.ntmps65;go_wp2_with fail
 go_loopw [7] (λi wr=>∃k:Nat,k<=xs.length/\i = .int .i64 k/\Hid (∀j,j < k->rowAt zX zi xs j = true)/\Below w.heap.size w wr) (λi _=>xs.length - (intOf i).toNat)
 case atStart=>exact ⟨0,Nat.zero_le _,rfl,(λj hj=>by omega),bJ⟩
 case round =>
  obtain ⟨k,hk,rfl,hall,aM⟩:=hrel;by_cases ap:k < xs.length
  ·obtain rfl | ⟨j,rfl⟩:k = 0∨∃j,k = j+1:=by cases k with | zero=>exact .inl rfl | succ j=>exact .inr ⟨j,rfl⟩
   ·obtain ⟨b,o,ck,Fk,rfl,o9,hbs,hr,bi,hc⟩:=(Sl.ext (w':=wr) (A:=A) (c:=c) h aM).get ap;obtain ⟨ar,su,b5,kP⟩:=vO hr;subst ar;obtain ⟨q0,q1⟩:=EC 2 hc;clear hc;simp only [Nat.zero_mul,Nat.add_zero] at q0 q1;have cS:=(Eo.out xs[0] (List.getElem_mem ..)).1;have cO:=(Eo.out xs[0] (List.getElem_mem ..)).2;cases h1:Cm xs[0].key <;> cases h2:AQ xs[0].value
    all_goals
     have hp:=bR (ok:=zX) (less:=zi) ap;unfold zX at hp;rw [h1,h2] at hp;simp only [Bool.false_and,Bool.and_false,Bool.and_true,Bool.and_self] at hp;change rowAt zX zi xs _ = _ at hp;have H1:=I h1;have H2:=I h2
     first
      | have HN:=I (gq hall.out hp)
      | have HF:=I (wU (most:=6) ap hp)
     clear h1 h2 hp;go_wp2_with fail
     refine aF _ U' U' (aj _) ?_
     repeat (first
      | (apply aG
         case hw=>rfl
         simp only [Act.put,pz])
      | (apply aH
         case hw=>rfl
         case h =>
          intro wq hq;have et:=(aB hq).1;have lJ:=(aB hq).2;go_simp
          first
           | exact ⟨hq,rfl⟩
           | exact ⟨aQ hq _,rfl⟩
           | (first | (refine (rX xs[0].key _ cS).mono ?_;rw [H1.out];rintro e w2 ⟨rfl,am⟩;exact ⟨rfl,aI hq am⟩) | (refine (xQ xs[0].value _ cO).mono ?_;rw [H2.out];rintro e w2 ⟨rfl,am⟩;exact ⟨rfl,aI hq am⟩))
           | (simp only [↓IntWalk.iteOmega];exact ⟨hq,rfl⟩)
         simp only [Act.put,pz]))
     refine aN ?_;intro wn hn;replace hn:=hn.out;go_wp2
     first
      | exact ⟨⟨0+1,J,N',HN.out,ah (ak aM _) hn⟩,by simp [intOf];omega⟩
      | (go_ret;exact ⟨by unfold sD;rw [HF.out];rfl,ah (ak aM _) hn⟩)
   ·obtain ⟨b,o,ck,Fk,rfl,o9,hbs,hr,bi,hc⟩:=(Sl.ext (w':=wr) (A:=A) (c:=c) h aM).get ap;obtain ⟨ar,su,b5,kP⟩:=vO hr;subst ar;obtain ⟨q0,q1⟩:=EC 2 hc;clear hc;obtain ⟨b',o',TY,Xw,e,Ht,hbs',dE,zQ,hc'⟩:=Sl.get (Sl.ext (w':=wr) (c:=c) h aM) (show j < xs.length by omega);obtain ⟨jU,abT,vC,rP⟩:=vO dE;subst jU;obtain ⟨rfl,rfl⟩:b' = b/\o' = o:=by simpa using e.symm
    clear e;obtain ⟨p0,p1⟩:=EC 2 hc';clear hc';have rE:IntKind.i64.wrap (j:Int) = j:=IntWalk.i64_in _ J;have jH:j < xs.length:=J;have cS:=(Eo.out xs[j+1] (List.getElem_mem ..)).1;have cO:=(Eo.out xs[j+1] (List.getElem_mem ..)).2;cases h1:Cm xs[j+1].key <;> cases h2:AQ xs[j+1].value <;> cases h3:Op.bytesLess xs[j].key.toList xs[j+1].key.toList
    all_goals
     have hp:=yS (ok:=zX) (less:=zi) ap;unfold zX zi at hp;rw [h1,h2,h3] at hp;simp only [Bool.false_and,Bool.and_false,Bool.and_true,Bool.and_self] at hp;change rowAt zX zi xs _ = _ at hp;have H1:=I h1;have H2:=I h2
     first
      | have HN:=I (gq hall.out hp)
      | have HF:=I (wU (most:=6) ap hp)
     clear h1 h2 hp;go_wp2_with fail
     refine aF _ U' U' (aj _) ?_
     repeat (first
      | (apply aG
         case hw=>rfl
         simp only [Act.put,pz])
      | (apply aH
         case hw=>rfl
         case h =>
          intro wq hq;have et:=(aB hq).1;have lJ:=(aB hq).2;go_simp
          first
           | exact ⟨hq,rfl⟩
           | exact ⟨aQ hq _,rfl⟩
           | (first | (refine (rX xs[j+1].key _ cS).mono ?_;rw [H1.out];rintro e w2 ⟨rfl,am⟩;exact ⟨rfl,aI hq am⟩) | (refine (xQ xs[j+1].value _ cO).mono ?_;rw [H2.out];rintro e w2 ⟨rfl,am⟩;exact ⟨rfl,aI hq am⟩))
           | (simp only [↓IntWalk.iteOmega];exact ⟨hq,rfl⟩)
         simp only [Act.put,pz]))
     refine aN ?_;intro wn hn;replace hn:=hn.out;go_wp2
     first
      | exact ⟨⟨j+1+1,J,N',HN.out,ah (ak aM _) hn⟩,by simp [intOf];omega⟩
      | (go_ret;exact ⟨by unfold sD;rw [HF.out];rfl,ah (ak aM _) hn⟩)
  ·have bz:k = xs.length:=J;subst bz;by_cases hm:(xs.length:Int)<=6
   ·have HF:=I (Jy hm hall.out);go_wp2;go_ret
    exact ⟨by unfold sD;rw [HF.out];first | rfl | simp [hm],aM⟩
   ·have HF:=I (Jz (ok:=zX) (less:=zi) hm);go_wp2;go_ret
    exact ⟨by unfold sD;rw [HF.out];first | rfl | simp [hm],aM⟩
theorem Jw (xs:List ao) (A:Option Addr) (n c:Nat) (F:List Nat) (w:World) (h:Sl w xs A c F) (hn:n = xs.length) (hl:(xs.length:Int)<=1048576) (cN:∀l∈xs,(l.key.size:Int)<=1048576/\(l.value.size:Int)<=1048576) :
 Calls Tryz.prog 137 #[.slice A n c] w λe w'=>e = .returned (.bool (sD xs))/\Below w.heap.size w w':=by
 subst hn;have Eo:=I cN;clear cN;by_cases hm:(xs.length:Int)<=6
 ·go_enter Tryz.func137,Tryz.ntmps137;go_wp2_with fail
  go_loopw [3] (λi wr=>∃k:Nat,k<=xs.length/\i = .int .i64 k/\Hid (∀j,j < k->rowAt zX zi xs j = true)/\Below w.heap.size w wr) (λi _=>xs.length - (intOf i).toNat)
  case atStart=>exact ⟨0,Nat.zero_le _,rfl,(λj hj=>by omega),bJ⟩
  case round =>
   obtain ⟨k,hk,rfl,hall,aM⟩:=hrel;by_cases ap:k < xs.length
   ·obtain rfl | ⟨j,rfl⟩:k = 0∨∃j,k = j+1:=by cases k with | zero=>exact .inl rfl | succ j=>exact .inr ⟨j,rfl⟩
    ·obtain ⟨b,o,ck,Fk,rfl,o9,hbs,hr,bi,hc⟩:=(Sl.ext (w':=wr) (A:=A) (c:=c) h aM).get ap;obtain ⟨ar,su,b5,kP⟩:=vO hr;subst ar;obtain ⟨q0,q1⟩:=EC 2 hc;clear hc;simp only [Nat.zero_mul,Nat.add_zero] at q0 q1;have cS:=(Eo.out xs[0] (List.getElem_mem ..)).1;have cO:=(Eo.out xs[0] (List.getElem_mem ..)).2;cases h1:Cm xs[0].key <;> cases h2:AQ xs[0].value
     all_goals
      have hp:=bR (ok:=zX) (less:=zi) ap;unfold zX at hp;rw [h1,h2] at hp;simp only [Bool.false_and,Bool.and_false,Bool.and_true,Bool.and_self] at hp;change rowAt zX zi xs _ = _ at hp;have H1:=I h1;have H2:=I h2
      first
       | have HN:=I (gq hall.out hp)
       | have HF:=I (wU (most:=6) ap hp)
      clear h1 h2 hp;go_wp2_with fail
      refine aF _ U' U' (aj _) ?_
      repeat (first
       | (apply aG
          case hw=>rfl
          simp only [Act.put,pz])
       | (apply aH
          case hw=>rfl
          case h =>
           intro wq hq;have et:=(aB hq).1;have lJ:=(aB hq).2;go_simp
           first
            | exact ⟨hq,rfl⟩
            | exact ⟨aQ hq _,rfl⟩
            | (first | (refine (qK xs[0].key _ cS).mono ?_;rw [H1.out];rintro e w2 ⟨rfl,am⟩;exact ⟨rfl,aI hq am⟩) | (refine (vH xs[0].value _ cO).mono ?_;rw [H2.out];rintro e w2 ⟨rfl,am⟩;exact ⟨rfl,aI hq am⟩))
            | (simp only [↓IntWalk.iteOmega];exact ⟨hq,rfl⟩)
          simp only [Act.put,pz]))
      refine aN ?_;intro wn hn;replace hn:=hn.out;go_wp2
      first
       | exact ⟨⟨0+1,J,N',HN.out,ah aM hn⟩,by simp [intOf];omega⟩
       | (go_ret;exact ⟨by unfold sD;rw [HF.out];rfl,ah aM hn⟩)
    ·obtain ⟨b,o,ck,Fk,rfl,o9,hbs,hr,bi,hc⟩:=(Sl.ext (w':=wr) (A:=A) (c:=c) h aM).get ap;obtain ⟨ar,su,b5,kP⟩:=vO hr;subst ar;obtain ⟨q0,q1⟩:=EC 2 hc;clear hc;obtain ⟨b',o',TY,Xw,e,Ht,hbs',dE,zQ,hc'⟩:=Sl.get (Sl.ext (w':=wr) (c:=c) h aM) (show j < xs.length by omega);obtain ⟨jU,abT,vC,rP⟩:=vO dE;subst jU;obtain ⟨rfl,rfl⟩:b' = b/\o' = o:=by simpa using e.symm
     clear e;obtain ⟨p0,p1⟩:=EC 2 hc';clear hc';have rE:IntKind.i64.wrap (j:Int) = j:=IntWalk.i64_in _ J;have jH:j < xs.length:=J;have cS:=(Eo.out xs[j+1] (List.getElem_mem ..)).1;have cO:=(Eo.out xs[j+1] (List.getElem_mem ..)).2;cases h1:Cm xs[j+1].key <;> cases h2:AQ xs[j+1].value <;> cases h3:Op.bytesLess xs[j].key.toList xs[j+1].key.toList
     all_goals
      have hp:=yS (ok:=zX) (less:=zi) ap;unfold zX zi at hp;rw [h1,h2,h3] at hp;simp only [Bool.false_and,Bool.and_false,Bool.and_true,Bool.and_self] at hp;change rowAt zX zi xs _ = _ at hp;have H1:=I h1;have H2:=I h2
      first
       | have HN:=I (gq hall.out hp)
       | have HF:=I (wU (most:=6) ap hp)
      clear h1 h2 hp;go_wp2_with fail
      refine aF _ U' U' (aj _) ?_
      repeat (first
       | (apply aG
          case hw=>rfl
          simp only [Act.put,pz])
       | (apply aH
          case hw=>rfl
          case h =>
           intro wq hq;have et:=(aB hq).1;have lJ:=(aB hq).2;go_simp
           first
            | exact ⟨hq,rfl⟩
            | exact ⟨aQ hq _,rfl⟩
            | (first | (refine (qK xs[j+1].key _ cS).mono ?_;rw [H1.out];rintro e w2 ⟨rfl,am⟩;exact ⟨rfl,aI hq am⟩) | (refine (vH xs[j+1].value _ cO).mono ?_;rw [H2.out];rintro e w2 ⟨rfl,am⟩;exact ⟨rfl,aI hq am⟩))
            | (simp only [↓IntWalk.iteOmega];exact ⟨hq,rfl⟩)
          simp only [Act.put,pz]))
      refine aN ?_;intro wn hn;replace hn:=hn.out;go_wp2
      first
       | exact ⟨⟨j+1+1,J,N',HN.out,ah aM hn⟩,by simp [intOf];omega⟩
       | (go_ret;exact ⟨by unfold sD;rw [HF.out];rfl,ah aM hn⟩)
   ·have bz:k = xs.length:=J;subst bz;have HF:=I (Jy hm hall.out);go_wp2;go_ret
    exact ⟨by unfold sD;rw [HF.out];rfl,aM⟩
 ·have HF:=I (Jz (ok:=zX) (less:=zi) hm);go_enter Tryz.func137,Tryz.ntmps137;go_wp2;go_ret
  exact ⟨by unfold sD;rw [HF.out];rfl,bJ⟩
theorem aaF (n a b:Int) (w:World):Calls Tryz.prog 31 #[.int .i64 n,.int .i64 a,.int .i64 b] w λe w'=>e = .returned (.bool (decide (a<=n)&&decide (n<=b)))/\w' = w:=by
 by_cases h1:a<=n <;> by_cases h2:n<=b
 all_goals
  go_enter Tryz.func31,Tryz.ntmps31;go_wp2;go_ret
  exact ⟨by simp [h1,h2] <;> first | rfl | omega,rfl⟩
theorem Rw (x:aL) (cs:List Value) (F:List Nat) (w:World) (h:rd w x cs F) (lL:(x.key.size:Int)<=1048576) (hl:(x.values.length:Int)<=1048576) (cN:∀v∈x.values,(v.size:Int)<=1048576) :
 Calls Tryz.prog 109 #[.agg cs.toArray] w λe w'=>e = .returned (.bool (uh x))/\Below w.heap.size w w':=by
 have Eo:=I cN;clear cN;obtain ⟨jy,ji,Bo,ar,qp,b5,gH,kV⟩:=og h;subst ar;clear qp;cases hK:Cm x.key with
 | false =>have HF:=I (aiY hK);have HK:=I hK;clear hK;exact yN
 | true =>
   have HK:=I hK;by_cases gH:1<=x.op/\x.op<=4
   ·by_cases h2:2 < x.op
    ·have hg:=aiZ hK gH h2;obtain ⟨kw,hop2⟩:=gH;by_cases h0:x.values.length = 0
     ·rw [decide_eq_true h0] at hg;have HF:=I hg;have H0:=I h0;clear hK hg h0;go_enter Tryz.func109,Tryz.ntmps109;go_wp2_with fail
      refine (rX x.key _ lL).mono ?_;exact Li
     ·rw [decide_eq_false h0] at hg;have HF:=I hg;have ZZ:((x.values.length:Int) == 0) = false:=(by rw [beq_eq_false_iff_ne];omega);clear hK hg;exact yN
    ·have HI:=I (amx hK gH h2);obtain ⟨kw,hop2⟩:=gH;have h2':x.op<=2:=J;clear hK;go_enter Tryz.func109,Tryz.ntmps109;go_wp2_with fail
     refine (rX x.key _ lL).mono ?_;rw [HK.out];rintro e w2 ⟨rfl,am⟩;obtain ⟨bM,cB⟩:=ay am;have ca:w.heap.size < w2.heap.size:=(by have:=am.size;simp at this;omega);have x3:w2.cell? ⟨w.heap.size,1,none⟩ = some (.int .i64 x.op):=(by rw [bM _ _ S',cell_of_row _ _ _ _ _ _ (heap_alloc_new w _)];rfl);have pB:w2.cell? ⟨w.heap.size,2,none⟩ = some (.slice jy x.values.length ji):=(by rw [bM _ _ S',cell_of_row _ _ _ _ _ _ (heap_alloc_new w _)];rfl);have gL:Below w.heap.size w w2:=bJ;clear bM cB;go_wp2_with fail
     refine (aaF x.op 1 4 _).mono ?_;rw [show (decide ((1:Int)<=x.op)&&decide (x.op<=4)) = true by simp [kw,hop2]];rintro e w3 ⟨rfl,hw⟩;simp only [hw];clear hw w3;go_wp2;go_loopw [25] (λi wr=>∃k:Nat,k<=x.values.length/\i = .int .i64 k/\Hid (∀j,j < k->rowAt AQ bl x.values j = true)/\wr.cell? ⟨w.heap.size,2,none⟩ = some (.slice jy x.values.length ji)/\Below w.heap.size w wr) (λi _=>x.values.length - (intOf i).toNat)
     case atStart=>exact ⟨0,Nat.zero_le _,rfl,(λj hj=>by omega),pB,gL⟩
     case round =>
      obtain ⟨k,hk,rfl,hall,bo,aM⟩:=hrel;have ij:w.heap.size < wr.heap.size:=World.block_lt_of_cell? wr _ bo;by_cases ap:k < x.values.length
      ·obtain rfl | ⟨j,rfl⟩:k = 0∨∃j,k = j+1:=by cases k with | zero=>exact .inl rfl | succ j=>exact .inr ⟨j,rfl⟩
       ·obtain ⟨b,o,ck,Fk,rfl,o9,hbs,hr,bi,hc⟩:=(Sl.ext (w':=wr) (A:=jy) (c:=ji) kV aM).get ap;obtain ⟨ar,su,d9⟩:=hr;subst ar su;have q0:wr.cell? ⟨b,o+0,none⟩ = some (.string x.values[0]):=(by have:=hc 0 _ rfl;rwa [show o+(0 * ax.size ByteArray+0) = o+0 from by show o+(0 * 1+0) = _;omega] at this);clear hc;simp only [Nat.add_zero] at q0;have cS:=Eo.out x.values[0] (List.getElem_mem ..);cases h1:AQ x.values[0]
        all_goals
         have hp:=bR (ok:=AQ) (less:=bl) ap;rw [h1] at hp;try simp only [Bool.false_and,Bool.and_false,Bool.and_true,Bool.and_self] at hp
         change rowAt AQ bl x.values _ = _ at hp;have H1:=I h1
         first
          | have HN:=I (gq hall.out hp)
          | have HF:=I (show uh x = false by rw [HI.out,wU (most:=4) ap hp];simp)
         clear h1 hp;go_wp2_with fail
         refine (xQ x.values[0] _ cS).mono ?_;rw [H1.out];rintro e wn ⟨rfl,hn⟩;obtain ⟨kq,mZ⟩:=ay hn;go_wp2
         first
          | exact ⟨⟨0+1,J,N',HN.out,((ay hn).1 _ _ ij).trans bo,ah aM hn⟩,by simp [intOf];omega⟩
          | (go_ret;exact ⟨by rw [HF.out];rfl,ah aM hn⟩)
          | (go_roundw
             case rel=>exact ⟨0+1,J,N',HN.out,((ay hn).1 _ _ ij).trans bo,ah aM hn⟩
             case measure=>simp [intOf];omega)
       ·obtain ⟨b,o,ck,Fk,rfl,o9,hbs,hr,bi,hc⟩:=(Sl.ext (w':=wr) (A:=jy) (c:=ji) kV aM).get ap;obtain ⟨ar,su,d9⟩:=hr;subst ar su;have q0:wr.cell? ⟨b,o+(j+1),none⟩ = some (.string x.values[j+1]):=(by have:=hc 0 _ rfl;rwa [show o+((j+1) * ax.size ByteArray+0) = o+(j+1) from by show o+((j+1) * 1+0) = _;omega] at this);clear hc;obtain ⟨b',o',TY,Xw,e,Ht,hbs',dE,zQ,hc'⟩:=Sl.get (Sl.ext (w':=wr) (c:=ji) kV aM) (show j < x.values.length by omega);obtain ⟨jU,abT,hsz2⟩:=dE;subst jU;obtain ⟨rfl,rfl⟩:b' = b/\o' = o:=by simpa using e.symm
        clear e;have p0:wr.cell? ⟨b',o'+j,none⟩ = some (.string x.values[j]):=(by have:=hc' 0 _ rfl;rwa [show o'+(j * ax.size ByteArray+0) = o'+j from by show o'+(j * 1+0) = _;omega] at this);clear hc';have rE:IntKind.i64.wrap (j:Int) = j:=IntWalk.i64_in _ J;have jH:j < x.values.length:=J;have cS:=Eo.out x.values[j+1] (List.getElem_mem ..);cases h1:AQ x.values[j+1] <;> cases h3:Op.bytesLess x.values[j].toList x.values[j+1].toList
        all_goals
         have hp:=yS (ok:=AQ) (less:=bl) ap;unfold bl at hp;rw [h1,h3] at hp;try simp only [Bool.false_and,Bool.and_false,Bool.and_true,Bool.and_self] at hp
         change rowAt AQ bl x.values _ = _ at hp;have H1:=I h1
         first
          | have HN:=I (gq hall.out hp)
          | have HF:=I (show uh x = false by rw [HI.out,wU (most:=4) ap hp];simp)
         clear h1 hp;go_wp2_with fail
         refine (xQ x.values[j+1] _ cS).mono ?_;rw [H1.out];rintro e wn ⟨rfl,hn⟩;obtain ⟨kq,mZ⟩:=ay hn;go_wp2
         first
          | exact ⟨⟨j+1+1,J,N',HN.out,((ay hn).1 _ _ ij).trans bo,ah aM hn⟩,by simp [intOf];omega⟩
          | (go_ret;exact ⟨by rw [HF.out];rfl,ah aM hn⟩)
          | (go_roundw
             case rel=>exact ⟨j+1+1,J,N',HN.out,((ay hn).1 _ _ ij).trans bo,ah aM hn⟩
             case measure=>simp [intOf];omega)
      ·have bz:k = x.values.length:=J;subst bz;by_cases hm:(x.values.length:Int)<=4
       ·by_cases pn:1<=x.values.length
        ·exact NF
        ·have HF:=I (show uh x = false by rw [HI.out];simp [pn]);have pm:(x.values.length:Int) < 1:=J;exact DQ
       ·have HF:=I (show uh x = false by rw [HI.out,Jz (ok:=AQ) (less:=bl) hm];simp);have pm:(1:Int)<=x.values.length:=J;have hd5:decide ((x.values.length:Int)<=4) = false:=(by simp;omega);exact DQ
   ·have HF:=I (amy gH);clear hK;by_cases h1:x.op < 1
    ·exact yN
    ·have UL:1<=x.op:=J;have h4':4 < x.op:=J;have hd4:decide (x.op<=4) = false:=(by simp;omega);exact yN
theorem Rx (x:aL) (cs:List Value) (F:List Nat) (w:World) (h:rd w x cs F) (lL:(x.key.size:Int)<=1048576) (hl:(x.values.length:Int)<=1048576) (cN:∀v∈x.values,(v.size:Int)<=1048576) :
 Calls Tryz.prog 167 #[.agg cs.toArray] w λe w'=>e = .returned (.bool (uh x))/\Below w.heap.size w w':=by
 have Eo:=I cN;clear cN;obtain ⟨jy,ji,Bo,ar,qp,b5,gH,kV⟩:=og h;subst ar;clear qp;cases hK:Cm x.key with
 | false =>have HF:=I (aiY hK);have HK:=I hK;clear hK;exact yP
 | true =>
   have HK:=I hK;by_cases gH:1<=x.op/\x.op<=4
   ·by_cases h2:2 < x.op
    ·have hg:=aiZ hK gH h2;obtain ⟨kw,hop2⟩:=gH;by_cases h0:x.values.length = 0
     ·rw [decide_eq_true h0] at hg;have HF:=I hg;have H0:=I h0;clear hK hg h0;go_enter Tryz.func167,Tryz.ntmps167;go_wp2_with fail
      refine (qK x.key _ lL).mono ?_;exact Li
     ·rw [decide_eq_false h0] at hg;have HF:=I hg;have ZZ:((x.values.length:Int) == 0) = false:=(by rw [beq_eq_false_iff_ne];omega);clear hK hg;exact yP
    ·have HI:=I (amx hK gH h2);obtain ⟨kw,hop2⟩:=gH;have h2':x.op<=2:=J;clear hK;go_enter Tryz.func167,Tryz.ntmps167;go_wp2_with fail
     refine (qK x.key _ lL).mono ?_;rw [HK.out];rintro e w2 ⟨rfl,am⟩;obtain ⟨bM,cB⟩:=ay am;have ca:w.heap.size < w2.heap.size:=(by have:=am.size;simp at this;omega);have x3:w2.cell? ⟨w.heap.size,1,none⟩ = some (.int .i64 x.op):=(by rw [bM _ _ S',cell_of_row _ _ _ _ _ _ (heap_alloc_new w _)];rfl);have pB:w2.cell? ⟨w.heap.size,2,none⟩ = some (.slice jy x.values.length ji):=(by rw [bM _ _ S',cell_of_row _ _ _ _ _ _ (heap_alloc_new w _)];rfl);have gL:Below w.heap.size w w2:=bJ;clear bM cB;by_cases pn:1<=x.values.length
     ·have aaB:(1:Int)<=x.values.length:=J;by_cases hm:(x.values.length:Int)<=4
      ·go_wp2;go_loopw [3] (λi wr=>∃k:Nat,k<=x.values.length/\i = .int .i64 k/\Hid (∀j,j < k->rowAt AQ bl x.values j = true)/\wr.cell? ⟨w.heap.size,2,none⟩ = some (.slice jy x.values.length ji)/\Below w.heap.size w wr) (λi _=>x.values.length - (intOf i).toNat)
       case atStart=>exact ⟨0,Nat.zero_le _,rfl,(λj hj=>by omega),pB,gL⟩
       case round =>
        obtain ⟨k,hk,rfl,hall,bo,aM⟩:=hrel;have ij:w.heap.size < wr.heap.size:=World.block_lt_of_cell? wr _ bo;by_cases ap:k < x.values.length
        ·obtain rfl | ⟨j,rfl⟩:k = 0∨∃j,k = j+1:=by cases k with | zero=>exact .inl rfl | succ j=>exact .inr ⟨j,rfl⟩
         ·obtain ⟨b,o,ck,Fk,rfl,o9,hbs,hr,bi,hc⟩:=(Sl.ext (w':=wr) (A:=jy) (c:=ji) kV aM).get ap;obtain ⟨ar,su,d9⟩:=hr;subst ar su;have q0:wr.cell? ⟨b,o+0,none⟩ = some (.string x.values[0]):=(by have:=hc 0 _ rfl;rwa [show o+(0 * ax.size ByteArray+0) = o+0 from by show o+(0 * 1+0) = _;omega] at this);clear hc;simp only [Nat.add_zero] at q0;have cS:=Eo.out x.values[0] (List.getElem_mem ..);cases h1:AQ x.values[0]
          all_goals
           have hp:=bR (ok:=AQ) (less:=bl) ap;rw [h1] at hp;try simp only [Bool.false_and,Bool.and_false,Bool.and_true,Bool.and_self] at hp
           change rowAt AQ bl x.values _ = _ at hp;have H1:=I h1
           first
            | have HN:=I (gq hall.out hp)
            | have HF:=I (show uh x = false by rw [HI.out,wU (most:=4) ap hp];simp)
           clear h1 hp;go_wp2_with fail
           refine aF _ U' U' (aj _) ?_
           repeat (first
            | (apply aG
               case hw=>rfl
               simp only [Act.put,pz])
            | (apply aH
               case hw=>rfl
               case h =>
                intro wq hq;have et:=(aB hq).1;have lJ:=(aB hq).2;go_simp
                first
                 | exact ⟨hq,rfl⟩
                 | exact ⟨aQ hq _,rfl⟩
                 | ((refine (vH x.values[0] _ cS).mono ?_;rw [H1.out];rintro e w2 ⟨rfl,am⟩;exact ⟨rfl,aI hq am⟩))
                 | (simp only [↓IntWalk.iteOmega];exact ⟨hq,rfl⟩)
               simp only [Act.put,pz]))
           refine aN ?_;intro wn hn;replace hn:=hn.out;go_wp2
           first
            | exact ⟨⟨0+1,J,N',HN.out,((ay hn).1 _ _ ij).trans bo,ah aM hn⟩,by simp [intOf];omega⟩
            | (go_ret;exact ⟨by rw [HF.out];rfl,ah aM hn⟩)
            | (go_roundw
               case rel=>exact ⟨0+1,J,N',HN.out,((ay hn).1 _ _ ij).trans bo,ah aM hn⟩
               case measure=>simp [intOf];omega)
         ·obtain ⟨b,o,ck,Fk,rfl,o9,hbs,hr,bi,hc⟩:=(Sl.ext (w':=wr) (A:=jy) (c:=ji) kV aM).get ap;obtain ⟨ar,su,d9⟩:=hr;subst ar su;have q0:wr.cell? ⟨b,o+(j+1),none⟩ = some (.string x.values[j+1]):=(by have:=hc 0 _ rfl;rwa [show o+((j+1) * ax.size ByteArray+0) = o+(j+1) from by show o+((j+1) * 1+0) = _;omega] at this);clear hc;obtain ⟨b',o',TY,Xw,e,Ht,hbs',dE,zQ,hc'⟩:=Sl.get (Sl.ext (w':=wr) (c:=ji) kV aM) (show j < x.values.length by omega);obtain ⟨jU,abT,hsz2⟩:=dE;subst jU;obtain ⟨rfl,rfl⟩:b' = b/\o' = o:=by simpa using e.symm
          clear e;have p0:wr.cell? ⟨b',o'+j,none⟩ = some (.string x.values[j]):=(by have:=hc' 0 _ rfl;rwa [show o'+(j * ax.size ByteArray+0) = o'+j from by show o'+(j * 1+0) = _;omega] at this);clear hc';have rE:IntKind.i64.wrap (j:Int) = j:=IntWalk.i64_in _ J;have jH:j < x.values.length:=J;have cS:=Eo.out x.values[j+1] (List.getElem_mem ..);cases h1:AQ x.values[j+1] <;> cases h3:Op.bytesLess x.values[j].toList x.values[j+1].toList
          all_goals
           have hp:=yS (ok:=AQ) (less:=bl) ap;unfold bl at hp;rw [h1,h3] at hp;try simp only [Bool.false_and,Bool.and_false,Bool.and_true,Bool.and_self] at hp
           change rowAt AQ bl x.values _ = _ at hp;have H1:=I h1
           first
            | have HN:=I (gq hall.out hp)
            | have HF:=I (show uh x = false by rw [HI.out,wU (most:=4) ap hp];simp)
           clear h1 hp;go_wp2_with fail
           refine aF _ U' U' (aj _) ?_
           repeat (first
            | (apply aG
               case hw=>rfl
               simp only [Act.put,pz])
            | (apply aH
               case hw=>rfl
               case h =>
                intro wq hq;have et:=(aB hq).1;have lJ:=(aB hq).2;go_simp
                first
                 | exact ⟨hq,rfl⟩
                 | exact ⟨aQ hq _,rfl⟩
                 | ((refine (vH x.values[j+1] _ cS).mono ?_;rw [H1.out];rintro e w2 ⟨rfl,am⟩;exact ⟨rfl,aI hq am⟩))
                 | (simp only [↓IntWalk.iteOmega];exact ⟨hq,rfl⟩)
               simp only [Act.put,pz]))
           refine aN ?_;intro wn hn;replace hn:=hn.out;go_wp2
           first
            | exact ⟨⟨j+1+1,J,N',HN.out,((ay hn).1 _ _ ij).trans bo,ah aM hn⟩,by simp [intOf];omega⟩
            | (go_ret;exact ⟨by rw [HF.out];rfl,ah aM hn⟩)
            | (go_roundw
               case rel=>exact ⟨j+1+1,J,N',HN.out,((ay hn).1 _ _ ij).trans bo,ah aM hn⟩
               case measure=>simp [intOf];omega)
        ·have bz:k = x.values.length:=J;subst bz;exact NF
      ·have HF:=I (show uh x = false by rw [HI.out,Jz (ok:=AQ) (less:=bl) hm];simp);have hd5:decide ((x.values.length:Int)<=4) = false:=(by simp;omega);go_wp2;go_ret
       exact ⟨by rw [HF.out];rfl,gL⟩
     ·have HF:=I (show uh x = false by rw [HI.out];simp [pn]);have pm:(x.values.length:Int) < 1:=J;go_wp2;go_ret
      exact ⟨by rw [HF.out];rfl,gL⟩
   ·have HF:=I (amy gH);clear hK;by_cases h1:x.op < 1
    ·exact yP
    ·have UL:1<=x.op:=J;have h4':4 < x.op:=J;have hd4:decide (x.op<=4) = false:=(by simp;omega);exact yP
end Go.Proofs.YtdegaofigemegaaGreat
