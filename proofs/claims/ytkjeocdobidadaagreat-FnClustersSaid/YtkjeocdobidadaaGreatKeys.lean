/- Label keys and values, of the program and of the reference. No condition. -/
import Derived.Test.YtkjeocdobidadaaGreatWords
import Derived.Test.YtkjeocdobidadaaGreatRegionCut
import Derived.Test.YtkjeocdobidadaaGreatData
import Derived.Test.YtkjeocdobidadaaGreatKit
namespace Go.Proofs.YtkjeocdobidadaaGreat
open Go.ChangeShapes Go.WideShapes Go.ChangeAt Go.RowKit
set_option linter.unusedVariables false
set_option linter.unusedSimpArgs false
set_option maxHeartbeats 1000000
set_option maxRecDepth 100000
def anG:ByteArray:=⟨#[45,95,46,47]⟩
def oVal:ByteArray:=⟨#[45,95,46]⟩
def Cm (s:ByteArray):Bool:=decide ((s.size:Int)≤30)&&GN anG s
def AQ (s:ByteArray):Bool:=decide (s.size = 0) || (decide ((s.size:Int)≤20)&&GN oVal s)
theorem Ou {o s:ByteArray} (h:¬0 < s.size):GN o s = false:=by unfold GN;simp [h]
theorem Y4 {s:ByteArray} (h:s.size = 0):s = ⟨#[]⟩:=by
 obtain ⟨d⟩:=s;congr 1;exact Array.eq_empty_of_size_eq_zero h
theorem Y3 {s:ByteArray} (h:0 < s.size):(s.toList == []) = false:=by
 rw [beq_eq_false_iff_ne];intro e;rw [ByteArray.toList_eq] at e;have h2:s.data.toList.length = 0:=by rw [e];rfl
 rw [Array.length_toList] at h2;have h3:s.size = s.data.size:=rfl;omega
theorem rX (s:ByteArray) (w:World) (hs2:(s.size:Int)≤1048576):Calls Tryz.prog 152 #[.string s] w fun e w'=>e = .returned (.bool (Cm s))∧Below w.heap.size w w':=by
 by_cases hs:0 < s.size
 ·have hz:((s.size:Int) == 0) = false:=by rw [beq_eq_false_iff_ne];omega
  by_cases h30:(s.size:Int)≤30
  ·cases hW:GN anG s
   all_goals
    have hfin:Cm s = _:=(by unfold Cm;rw [hW]);simp only [h30,decide_true,Bool.true_and] at hfin;have HF:=I' hfin;have HW:=I' hW;clear hfin hW;go_enter Tryz.func152,Tryz.ntmps152;go_wp2_with (first | (go_at_call 197;refine (aef s anG _ hs O').mono ?_;rw [HW.out];rintro e w2 ⟨rfl,hw⟩;rw [hw];clear hw w2) | go_in)
    go_ret
    exact ⟨by rw [HF.out];rfl,atS⟩
  ·have hfin:Cm s = false:=(by unfold Cm;simp [h30]);have HF:=I' hfin;clear hfin;go_enter Tryz.func152,Tryz.ntmps152;exact Zaa0
 ·have hfin:Cm s = false:=by unfold Cm;rw [Ou hs];simp
  have HF:=I' hfin;have hs0:(s.size:Int) = 0:=by omega
  have HW:=I' (Ou (o:=anG) hs);clear hfin;go_enter Tryz.func152,Tryz.ntmps152;exact Zaa0
theorem xQ (s:ByteArray) (w:World) (hs2:(s.size:Int)≤1048576):Calls Tryz.prog 153 #[.string s] w fun e w'=>e = .returned (.bool (AQ s))∧Below w.heap.size w w':=by
 by_cases hs:0 < s.size
 ·have hz:((s.size:Int) == 0) = false:=by rw [beq_eq_false_iff_ne];omega
  have hne:=Y3 hs;have hs0:¬s.size = 0:=by omega
  by_cases h30:(s.size:Int)≤20
  ·cases hW:GN oVal s
   all_goals
    have hfin:AQ s = _:=(by unfold AQ;rw [hW]);simp only [h30,hs0,decide_true,decide_false,Bool.true_and,Bool.false_or] at hfin;have HF:=I' hfin;have HW:=I' hW;clear hfin hW;go_enter Tryz.func153,Tryz.ntmps153;go_wp2_with (first | (go_at_call 197;refine (aef s oVal _ hs O').mono ?_;rw [HW.out];rintro e w2 ⟨rfl,hw⟩;rw [hw];clear hw w2) | go_in)
    go_ret
    exact ⟨by rw [HF.out];rfl,atS⟩
  ·have hfin:AQ s = false:=(by unfold AQ;simp [h30,hs0]);have HF:=I' hfin;clear hfin;go_enter Tryz.func153,Tryz.ntmps153;exact Zaa0
 ·obtain rfl:=Y4 (s:=s) O';go_enter Tryz.func153,Tryz.ntmps153;go_wp2;go_ret
  exact ⟨J',atS⟩
theorem qK (s:ByteArray) (w:World) (hs2:(s.size:Int)≤1048576):Calls Tryz.prog 175 #[.string s] w fun e w'=>e = .returned (.bool (Cm s))∧Below w.heap.size w w':=by
 by_cases hs:0 < s.size
 ·have hz:((s.size:Int) == 0) = false:=by rw [beq_eq_false_iff_ne];omega
  by_cases h30:(s.size:Int)≤30
  ·cases hW:GN anG s
   all_goals
    have hfin:Cm s = _:=(by unfold Cm;rw [hW]);simp only [h30,decide_true,Bool.true_and] at hfin;have HF:=I' hfin;have HW:=I' hW;clear hfin hW;go_enter Tryz.func175,Tryz.ntmps175;go_wp2_with (first | (go_at_call 204;refine (Wu s anG _ O' (by decide)).mono ?_;rw [HW.out];rintro e w2 ⟨rfl,hb2⟩) | go_in)
    go_ret
    exact ⟨by rw [HF.out];rfl,atS⟩
  ·have hfin:Cm s = false:=(by unfold Cm;simp [h30]);have HF:=I' hfin;clear hfin;go_enter Tryz.func175,Tryz.ntmps175;exact Zaa0
 ·have hfin:Cm s = false:=by unfold Cm;rw [Ou hs];simp
  have HF:=I' hfin;have hs0:(s.size:Int) = 0:=by omega
  have HW:=I' (Ou (o:=anG) hs);clear hfin;go_enter Tryz.func175,Tryz.ntmps175;go_wp2_with (first | (go_at_call 204;refine (Wu s anG _ O' (by decide)).mono ?_;rw [HW.out];rintro e w2 ⟨rfl,hb2⟩) | go_in)
  go_ret
  exact ⟨by rw [HF.out];rfl,atS⟩
theorem vH (s:ByteArray) (w:World) (hs2:(s.size:Int)≤1048576):Calls Tryz.prog 176 #[.string s] w fun e w'=>e = .returned (.bool (AQ s))∧Below w.heap.size w w':=by
 by_cases hs:0 < s.size
 ·have hz:((s.size:Int) == 0) = false:=by rw [beq_eq_false_iff_ne];omega
  have hne:=Y3 hs;have hs0:¬s.size = 0:=by omega
  by_cases h30:(s.size:Int)≤20
  ·cases hW:GN oVal s
   all_goals
    have hfin:AQ s = _:=(by unfold AQ;rw [hW]);simp only [h30,hs0,decide_true,decide_false,Bool.true_and,Bool.false_or] at hfin;have HF:=I' hfin;have HW:=I' hW;clear hfin hW;go_enter Tryz.func176,Tryz.ntmps176;go_wp2_with (first | (go_at_call 204;refine (Wu s oVal _ O' (by decide)).mono ?_;rw [HW.out];rintro e w2 ⟨rfl,hb2⟩) | go_in)
    go_ret
    exact ⟨by rw [HF.out];rfl,atS⟩
  ·have hfin:AQ s = false:=(by unfold AQ;simp [h30,hs0]);have HF:=I' hfin;clear hfin;go_enter Tryz.func176,Tryz.ntmps176;exact Zaa0
 ·obtain rfl:=Y4 (s:=s) O';go_enter Tryz.func176,Tryz.ntmps176;go_wp2;go_ret
  exact ⟨J',atS⟩
theorem aJ {α:Type} [Dat α] {w w':World} {x:α} {cs:List Value} {F:List Nat} (h:rd w x cs F) (hb:Below w.heap.size w w'):rd w' x cs F :=
 Dat.frame h (fun b hb'=>hb.block b (Dat.lt h b hb')) hb.size
theorem YG {p:Nat→Bool} {n:Nat} (h:∀j,j < n→p j = true):(List.range n).all p = true:=by
 rw [List.all_eq_true];intro x hx;exact h x (List.mem_range.1 hx)
theorem YF {p:Nat→Bool} {n k:Nat} (hk:k < n) (h:p k = false):(List.range n).all p = false:=by
 rw [List.all_eq_false];exact ⟨k,List.mem_range.2 hk,by simp [h]⟩
theorem gq {p:Nat→Bool} {k:Nat} (h:∀j,j < k→p j = true) (hp:p k = true):∀j,j < k+1→p j = true:=fun j hj=>by
 rcases Nat.lt_or_ge j k with h1 | h1
 ·exact h j h1
 ·obtain rfl:j = k:=by omega
  exact hp
def rowAt {α:Type} (ok:α→Bool) (less:α→α→Bool) (xs:List α) (k:Nat):Bool :=
 match xs[k]? with
 | none=>false
 | some l=>ok l&&(match k with | 0=>true | j+1=>match xs[j]? with | none=>false | some p=>less p l)
theorem rowAt_zero {α:Type} {ok:α→Bool} {less:α→α→Bool} {xs:List α} (h:0 < xs.length):rowAt ok less xs 0 = ok xs[0]:=by
 unfold rowAt;rw [List.getElem?_eq_getElem h];simp
theorem yS {α:Type} {ok:α→Bool} {less:α→α→Bool} {xs:List α} {j:Nat} (h:j+1 < xs.length):rowAt ok less xs (j+1) = (ok xs[j+1]&&less xs[j] xs[j+1]):=by
 simp only [rowAt,List.getElem?_eq_getElem h,List.getElem?_eq_getElem (show j < xs.length by omega)]
def adb {α:Type} (ok:α→Bool) (less:α→α→Bool) (most:Int) (xs:List α):Bool:=decide ((xs.length:Int)≤most)&&(List.range xs.length).all (rowAt ok less xs)
theorem wU {α:Type} {ok:α→Bool} {less:α→α→Bool} {most:Int} {xs:List α} {k:Nat} (hk:k < xs.length) (h:rowAt ok less xs k = false):adb ok less most xs = false:=by unfold adb;rw [YF hk h];simp
theorem Jz {α:Type} {ok:α→Bool} {less:α→α→Bool} {most:Int} {xs:List α} (h:¬(xs.length:Int)≤most):adb ok less most xs = false:=by unfold adb;simp [h]
theorem Jy {α:Type} {ok:α→Bool} {less:α→α→Bool} {most:Int} {xs:List α} (hl:(xs.length:Int)≤most) (h:∀j,j < xs.length→rowAt ok less xs j = true):adb ok less most xs = true:=by unfold adb;rw [YG h];simp [hl]
def bl (a b:ByteArray):Bool:=Op.bytesLess a.toList b.toList
def uh (x:Need):Bool:=Cm x.key&&(decide (1≤x.op)&&decide (x.op≤4))&&(if 2 < x.op then decide (x.values.length = 0) else decide (1≤x.values.length)&&adb AQ bl 4 x.values)
theorem aiY {x:Need} (h:Cm x.key = false):uh x = false:=by unfold uh;rw [h];simp
theorem amy {x:Need} (h:¬(1≤x.op∧x.op≤4)):uh x = false:=by
 have:(decide (1≤x.op)&&decide (x.op≤4)) = false:=by rw [← Bool.not_eq_true,Bool.and_eq_true,decide_eq_true_eq,decide_eq_true_eq];exact h
 unfold uh;rw [this];simp
theorem aiZ {x:Need} (hk:Cm x.key = true) (h:1≤x.op∧x.op≤4) (h2:2 < x.op):uh x = decide (x.values.length = 0):=by
 unfold uh;rw [hk,if_pos h2];simp [h.1,h.2]
theorem amx {x:Need} (hk:Cm x.key = true) (h:1≤x.op∧x.op≤4) (h2:¬2 < x.op):uh x = (decide (1≤x.values.length)&&adb AQ bl 4 x.values):=by
 unfold uh;rw [hk,if_neg h2];simp [h.1,h.2]
theorem Wn {s:ByteArray} (h:(s.toList == []) = true):AQ s = true:=by
 have h1:s.toList = []:=by simpa using h
 have h2:s.size = 0:=by
  have h3:s.data.toList.length = 0:=by rw [← ByteArray.toList_eq,h1];rfl
  rw [Array.length_toList] at h3;exact h3
 unfold AQ;simp [h2]
theorem Wp {s:ByteArray} (h:(s.toList == []) = true):Cm s = false:=by
 have h1:s.toList = []:=by simpa using h
 have h2:s.size = 0:=by
  have h3:s.data.toList.length = 0:=by rw [← ByteArray.toList_eq,h1];rfl
  rw [Array.length_toList] at h3;exact h3
 unfold Cm;rw [Ou O'];simp
theorem Kz (l:List UInt8):l.isEmpty = (l == []):=by cases l <;> rfl
def Dp (x:iU):Bool:=Cm x.key&&AQ x.value&&(decide (1≤x.effect)&&decide (x.effect≤2))
theorem V9 (x:iU) (cs:List Value) (F:List Nat) (w:World) (h:rd w x cs F) (hks:(x.key.size:Int)≤1048576) (hvs:(x.value.size:Int)≤1048576) :
 Calls Tryz.prog 154 #[.agg cs.toArray] w fun e w'=>e = .returned (.bool (Dp x))∧Below w.heap.size w w':=by
 obtain ⟨hck,qp,hkey,kP,lD⟩:=oK h;subst hck;clear qp h;have hve:=I' (Wn (s:=x.value));have hke:=I' (Wp (s:=x.key));go_enter Tryz.func154,Tryz.ntmps154
 go_wp2_with (first
  | (go_at_call 152;refine (rX x.key _ hks).mono ?_;rintro e w2 ⟨rfl,hb2⟩;obtain ⟨hc2,hf2⟩:=ay hb2;have hz2:w.heap.size < w2.heap.size:=(sq hb2.size))
  | (go_at_call 153;refine (xQ x.value _ hvs).mono ?_;rintro e w3 ⟨rfl,hb3⟩;obtain ⟨hc3,hf3⟩:=ay hb3;have hz3:w.heap.size < w3.heap.size:=(sq hb3.size))
  | go_in)
 all_goals first
  | (go_ret;refine ⟨?_,atS⟩;refine congrArg (fun b=>Ending.returned (Value.bool b)) ?_;show (_:Bool) = _;(try clear hc2 hf2);(try clear hc3 hf3);unfold Dp;(try simp only [Kz]);first | (simp [*];done) | (simp [*];omega) | (have QL:=hve.out;have QM:=hke.out;clear hve hke;(try clear hb2);(try clear hb3);simp at QL QM;simp_all;done) | (have QL:=hve.out;have QM:=hke.out;clear hve hke;(try clear hb2);(try clear hb3);simp at QL QM;simp_all;omega) | (have QL:=hve.out;have QM:=hke.out;clear hve hke;(try clear hb2);(try clear hb3);simp at QL QM;simp_all;exact Bool.or_comm _ _))
  | skip
theorem Wh (x:iU) (cs:List Value) (F:List Nat) (w:World) (h:rd w x cs F) (hks:(x.key.size:Int)≤1048576) (hvs:(x.value.size:Int)≤1048576) :
 Calls Tryz.prog 186 #[.agg cs.toArray] w fun e w'=>e = .returned (.bool (Dp x))∧Below w.heap.size w w':=by
 obtain ⟨hck,qp,hkey,kP,lD⟩:=oK h;subst hck;clear qp h;have hve:=I' (Wn (s:=x.value));have hke:=I' (Wp (s:=x.key));go_enter Tryz.func186,Tryz.ntmps186
 go_wp2_with (first
  | (go_at_call 175;refine (qK x.key _ hks).mono ?_;rintro e w2 ⟨rfl,hb2⟩;obtain ⟨hc2,hf2⟩:=ay hb2;have hz2:w.heap.size < w2.heap.size:=(sq hb2.size))
  | (go_at_call 176;refine (vH x.value _ hvs).mono ?_;rintro e w3 ⟨rfl,hb3⟩;obtain ⟨hc3,hf3⟩:=ay hb3;have hz3:w.heap.size < w3.heap.size:=(sq hb3.size))
  | go_in)
 all_goals first
  | (go_ret;refine ⟨?_,atS⟩;refine congrArg (fun b=>Ending.returned (Value.bool b)) ?_;show (_:Bool) = _;(try clear hc2 hf2);(try clear hc3 hf3);unfold Dp;(try simp only [Kz]);first | (simp [*];done) | (simp [*];omega) | (have QL:=hve.out;have QM:=hke.out;clear hve hke;(try clear hb2);(try clear hb3);simp at QL QM;simp_all;done) | (have QL:=hve.out;have QM:=hke.out;clear hve hke;(try clear hb2);(try clear hb3);simp at QL QM;simp_all;omega) | (have QL:=hve.out;have QM:=hke.out;clear hve hke;(try clear hb2);(try clear hb3);simp at QL QM;simp_all;exact Bool.or_comm _ _))
  | skip
def Q5 (x:bH):Bool:=(Cm x.key || (x.key.toList == [])&&!x.equal)&&AQ x.value&&((x.value.toList == []) || x.equal)&&(decide (0≤x.effect)&&decide (x.effect≤2))
def AY (t:bH) (x:iU):Bool:=Q5 t&&Dp x&&((t.key.toList == []) || t.key.toList == x.key.toList)&&(!t.equal || t.value.toList == x.value.toList)&&(t.effect == 0 || t.effect == x.effect)
theorem Na (x:bH) (cs:List Value) (F:List Nat) (w:World) (h:rd w x cs F) (hks:(x.key.size:Int)≤1048576) (hvs:(x.value.size:Int)≤1048576) :
 Calls Tryz.prog 158 #[.agg cs.toArray] w fun e w'=>e = .returned (.bool (Q5 x))∧Below w.heap.size w w':=by
 obtain ⟨hck,qp,hkey,kP,lD⟩:=jv h;subst hck;clear qp h;have hve:=I' (Wn (s:=x.value));have hke:=I' (Wp (s:=x.key));go_enter Tryz.func158,Tryz.ntmps158
 go_wp2_with (first
  | (go_at_call 152;refine (rX x.key _ hks).mono ?_;rintro e w2 ⟨rfl,hb2⟩;obtain ⟨hc2,hf2⟩:=ay hb2;have hz2:w.heap.size < w2.heap.size:=(sq hb2.size))
  | (go_at_call 153;refine (xQ x.value _ hvs).mono ?_;rintro e w3 ⟨rfl,hb3⟩;obtain ⟨hc3,hf3⟩:=ay hb3;have hz3:w.heap.size < w3.heap.size:=(sq hb3.size))
  | go_in)
 all_goals first
  | (go_ret;refine ⟨?_,atS⟩;refine congrArg (fun b=>Ending.returned (Value.bool b)) ?_;show (_:Bool) = _;(try clear hc2 hf2);(try clear hc3 hf3);unfold Q5;(try simp only [Kz]);first | (simp [*];done) | (simp [*];omega) | (have QL:=hve.out;have QM:=hke.out;clear hve hke;(try clear hb2);(try clear hb3);simp at QL QM;simp_all;done) | (have QL:=hve.out;have QM:=hke.out;clear hve hke;(try clear hb2);(try clear hb3);simp at QL QM;simp_all;omega) | (have QL:=hve.out;have QM:=hke.out;clear hve hke;(try clear hb2);(try clear hb3);simp at QL QM;simp_all;exact Bool.or_comm _ _))
  | skip
theorem Nb (x:bH) (cs:List Value) (F:List Nat) (w:World) (h:rd w x cs F) (hks:(x.key.size:Int)≤1048576) (hvs:(x.value.size:Int)≤1048576) :
 Calls Tryz.prog 178 #[.agg cs.toArray] w fun e w'=>e = .returned (.bool (Q5 x))∧Below w.heap.size w w':=by
 obtain ⟨hck,qp,hkey,kP,lD⟩:=jv h;subst hck;clear qp h;have hve:=I' (Wn (s:=x.value));have hke:=I' (Wp (s:=x.key));go_enter Tryz.func178,Tryz.ntmps178
 go_wp2_with (first
  | (go_at_call 175;refine (qK x.key _ hks).mono ?_;rintro e w2 ⟨rfl,hb2⟩;obtain ⟨hc2,hf2⟩:=ay hb2;have hz2:w.heap.size < w2.heap.size:=(sq hb2.size))
  | (go_at_call 176;refine (vH x.value _ hvs).mono ?_;rintro e w3 ⟨rfl,hb3⟩;obtain ⟨hc3,hf3⟩:=ay hb3;have hz3:w.heap.size < w3.heap.size:=(sq hb3.size))
  | go_in)
 all_goals first
  | (go_ret;refine ⟨?_,atS⟩;refine congrArg (fun b=>Ending.returned (Value.bool b)) ?_;show (_:Bool) = _;(try clear hc2 hf2);(try clear hc3 hf3);unfold Q5;(try simp only [Kz]);first | (simp [*];done) | (simp [*];omega) | (have QL:=hve.out;have QM:=hke.out;clear hve hke;(try clear hb2);(try clear hb3);simp at QL QM;simp_all;done) | (have QL:=hve.out;have QM:=hke.out;clear hve hke;(try clear hb2);(try clear hb3);simp at QL QM;simp_all;omega) | (have QL:=hve.out;have QM:=hke.out;clear hve hke;(try clear hb2);(try clear hb3);simp at QL QM;simp_all;exact Bool.or_comm _ _))
  | skip
end Go.Proofs.YtkjeocdobidadaaGreat
