/- TaintOk, of the program and of the reference. No condition. -/
import Derived.Test.YtogkjlcoadhpgaaGreatWordsS
import Derived.Test.YtogkjlcoadhpgaaGreatRegion
namespace Go.Proofs.YtogkjlcoadhpgaaGreat
open Go.ChangeShapes Go.WideShapes Go.ChangeAt Go.RowKit
set_option linter.unusedVariables false
set_option linter.unusedSimpArgs false
theorem Wn {s:ByteArray} (h:(s.toList == []) = true):AQ s = true:=by
 have h1:s.toList = []:=by simpa using h
 have h2:s.size = 0:=by
  have h3:s.data.toList.length = 0:=by rw [← ByteArray.toList_eq,h1];rfl
  rw [Array.length_toList] at h3
  exact h3
 unfold AQ
 simp [h2]
theorem Wp {s:ByteArray} (h:(s.toList == []) = true):Cm s = false:=by
 have h1:s.toList = []:=by simpa using h
 have h2:s.size = 0:=by
  have h3:s.data.toList.length = 0:=by rw [← ByteArray.toList_eq,h1];rfl
  rw [Array.length_toList] at h3
  exact h3
 unfold Cm
 rw [Ou (by omega)]
 simp
theorem Kz (l:List UInt8):l.isEmpty = (l == []):=by cases l <;> rfl
def Dp (x:iU):Bool:=Cm x.key&&AQ x.value&&(decide (1≤x.effect)&&decide (x.effect≤2))
set_option maxRecDepth 100000 in
set_option maxHeartbeats 1000000 in
theorem V9 (x:iU) (cs:List Value) (F:List Nat) (w:World) (h:rd w x cs F) (hks:(x.key.size:Int)≤1048576) (hvs:(x.value.size:Int)≤1048576) :
 Calls Tryz.prog 132 #[.agg cs.toArray] w fun e w'=>e = .returned (.bool (Dp x))∧Below w.heap.size w w':=by
 obtain ⟨hck,qp,hkey,kP,lD⟩:=oK h
 subst hck
 clear qp h
 have hve:=Lib.hid (Wn (s:=x.value))
 have hke:=Lib.hid (Wp (s:=x.key))
 go_enter Tryz.func132,Tryz.ntmps132
 go_wp2_with (first
  | (go_at_call 130;refine (rX x.key _ hks).mono ?_;rintro e w2 ⟨rfl,hb2⟩;obtain ⟨hc2,hf2⟩:=ay hb2;have hz2:w.heap.size < w2.heap.size:=(sq hb2.size))
  | (go_at_call 131;refine (xQ x.value _ hvs).mono ?_;rintro e w3 ⟨rfl,hb3⟩;obtain ⟨hc3,hf3⟩:=ay hb3;have hz3:w.heap.size < w3.heap.size:=(sq hb3.size))
  | go_in)
 all_goals first
  | (go_ret;refine ⟨?_,atS⟩;refine congrArg (fun b=>Ending.returned (Value.bool b)) ?_;show (_:Bool) = _;(try clear hc2 hf2);(try clear hc3 hf3);unfold Dp;(try simp only [Kz]);first | (simp [*];done) | (simp [*];omega) | (have QL:=hve.out;have QM:=hke.out;clear hve hke;(try clear hb2);(try clear hb3);simp at QL QM;simp_all;done) | (have QL:=hve.out;have QM:=hke.out;clear hve hke;(try clear hb2);(try clear hb3);simp at QL QM;simp_all;omega) | (have QL:=hve.out;have QM:=hke.out;clear hve hke;(try clear hb2);(try clear hb3);simp at QL QM;simp_all;exact Bool.or_comm _ _))
  | skip
set_option maxRecDepth 100000 in
set_option maxHeartbeats 1000000 in
theorem Wh (x:iU) (cs:List Value) (F:List Nat) (w:World) (h:rd w x cs F) (hks:(x.key.size:Int)≤1048576) (hvs:(x.value.size:Int)≤1048576) :
 Calls Tryz.prog 118 #[.agg cs.toArray] w fun e w'=>e = .returned (.bool (Dp x))∧Below w.heap.size w w':=by
 obtain ⟨hck,qp,hkey,kP,lD⟩:=oK h
 subst hck
 clear qp h
 have hve:=Lib.hid (Wn (s:=x.value))
 have hke:=Lib.hid (Wp (s:=x.key))
 go_enter Tryz.func118,Tryz.ntmps118
 go_wp2_with (first
  | (go_at_call 112;refine (qK x.key _ hks).mono ?_;rintro e w2 ⟨rfl,hb2⟩;obtain ⟨hc2,hf2⟩:=ay hb2;have hz2:w.heap.size < w2.heap.size:=(sq hb2.size))
  | (go_at_call 113;refine (vH x.value _ hvs).mono ?_;rintro e w3 ⟨rfl,hb3⟩;obtain ⟨hc3,hf3⟩:=ay hb3;have hz3:w.heap.size < w3.heap.size:=(sq hb3.size))
  | go_in)
 all_goals first
  | (go_ret;refine ⟨?_,atS⟩;refine congrArg (fun b=>Ending.returned (Value.bool b)) ?_;show (_:Bool) = _;(try clear hc2 hf2);(try clear hc3 hf3);unfold Dp;(try simp only [Kz]);first | (simp [*];done) | (simp [*];omega) | (have QL:=hve.out;have QM:=hke.out;clear hve hke;(try clear hb2);(try clear hb3);simp at QL QM;simp_all;done) | (have QL:=hve.out;have QM:=hke.out;clear hve hke;(try clear hb2);(try clear hb3);simp at QL QM;simp_all;omega) | (have QL:=hve.out;have QM:=hke.out;clear hve hke;(try clear hb2);(try clear hb3);simp at QL QM;simp_all;exact Bool.or_comm _ _))
  | skip
end Go.Proofs.YtogkjlcoadhpgaaGreat
namespace Go.Proofs.YtogkjlcoadhpgaaGreat
open Go.ChangeShapes Go.WideShapes Go.ChangeAt Go.RowKit
set_option linter.unusedVariables false
set_option linter.unusedSimpArgs false
def Q5 (x:bH):Bool:=(Cm x.key || (x.key.toList == [])&&!x.equal)&&AQ x.value&&((x.value.toList == []) || x.equal)&&(decide (0≤x.effect)&&decide (x.effect≤2))
def AY (t:bH) (x:iU):Bool:=Q5 t&&Dp x&&((t.key.toList == []) || t.key.toList == x.key.toList)&&(!t.equal || t.value.toList == x.value.toList)&&(t.effect == 0 || t.effect == x.effect)
set_option maxRecDepth 100000 in
set_option maxHeartbeats 1000000 in
theorem Na (x:bH) (cs:List Value) (F:List Nat) (w:World) (h:rd w x cs F) (hks:(x.key.size:Int)≤1048576) (hvs:(x.value.size:Int)≤1048576) :
 Calls Tryz.prog 136 #[.agg cs.toArray] w fun e w'=>e = .returned (.bool (Q5 x))∧Below w.heap.size w w':=by
 obtain ⟨hck,qp,hkey,kP,lD⟩:=jv h
 subst hck
 clear qp h
 have hve:=Lib.hid (Wn (s:=x.value))
 have hke:=Lib.hid (Wp (s:=x.key))
 go_enter Tryz.func136,Tryz.ntmps136
 go_wp2_with (first
  | (go_at_call 130;refine (rX x.key _ hks).mono ?_;rintro e w2 ⟨rfl,hb2⟩;obtain ⟨hc2,hf2⟩:=ay hb2;have hz2:w.heap.size < w2.heap.size:=(sq hb2.size))
  | (go_at_call 131;refine (xQ x.value _ hvs).mono ?_;rintro e w3 ⟨rfl,hb3⟩;obtain ⟨hc3,hf3⟩:=ay hb3;have hz3:w.heap.size < w3.heap.size:=(sq hb3.size))
  | go_in)
 all_goals first
  | (go_ret;refine ⟨?_,atS⟩;refine congrArg (fun b=>Ending.returned (Value.bool b)) ?_;show (_:Bool) = _;(try clear hc2 hf2);(try clear hc3 hf3);unfold Q5;(try simp only [Kz]);first | (simp [*];done) | (simp [*];omega) | (have QL:=hve.out;have QM:=hke.out;clear hve hke;(try clear hb2);(try clear hb3);simp at QL QM;simp_all;done) | (have QL:=hve.out;have QM:=hke.out;clear hve hke;(try clear hb2);(try clear hb3);simp at QL QM;simp_all;omega) | (have QL:=hve.out;have QM:=hke.out;clear hve hke;(try clear hb2);(try clear hb3);simp at QL QM;simp_all;exact Bool.or_comm _ _))
  | skip
set_option maxRecDepth 100000 in
set_option maxHeartbeats 1000000 in
theorem Nb (x:bH) (cs:List Value) (F:List Nat) (w:World) (h:rd w x cs F) (hks:(x.key.size:Int)≤1048576) (hvs:(x.value.size:Int)≤1048576) :
 Calls Tryz.prog 116 #[.agg cs.toArray] w fun e w'=>e = .returned (.bool (Q5 x))∧Below w.heap.size w w':=by
 obtain ⟨hck,qp,hkey,kP,lD⟩:=jv h
 subst hck
 clear qp h
 have hve:=Lib.hid (Wn (s:=x.value))
 have hke:=Lib.hid (Wp (s:=x.key))
 go_enter Tryz.func116,Tryz.ntmps116
 go_wp2_with (first
  | (go_at_call 112;refine (qK x.key _ hks).mono ?_;rintro e w2 ⟨rfl,hb2⟩;obtain ⟨hc2,hf2⟩:=ay hb2;have hz2:w.heap.size < w2.heap.size:=(sq hb2.size))
  | (go_at_call 113;refine (vH x.value _ hvs).mono ?_;rintro e w3 ⟨rfl,hb3⟩;obtain ⟨hc3,hf3⟩:=ay hb3;have hz3:w.heap.size < w3.heap.size:=(sq hb3.size))
  | go_in)
 all_goals first
  | (go_ret;refine ⟨?_,atS⟩;refine congrArg (fun b=>Ending.returned (Value.bool b)) ?_;show (_:Bool) = _;(try clear hc2 hf2);(try clear hc3 hf3);unfold Q5;(try simp only [Kz]);first | (simp [*];done) | (simp [*];omega) | (have QL:=hve.out;have QM:=hke.out;clear hve hke;(try clear hb2);(try clear hb3);simp at QL QM;simp_all;done) | (have QL:=hve.out;have QM:=hke.out;clear hve hke;(try clear hb2);(try clear hb3);simp at QL QM;simp_all;omega) | (have QL:=hve.out;have QM:=hke.out;clear hve hke;(try clear hb2);(try clear hb3);simp at QL QM;simp_all;exact Bool.or_comm _ _))
  | skip
end Go.Proofs.YtogkjlcoadhpgaaGreat
namespace Go.Proofs.YtogkjlcoadhpgaaGreat
open Go.ChangeShapes Go.WideShapes Go.ChangeAt Go.RowKit
set_option linter.unusedVariables false
set_option linter.unusedSimpArgs false
theorem aJ {α:Type} [Dat α] {w w':World} {x:α} {cs:List Value} {F:List Nat} (h:rd w x cs F) (hb:Below w.heap.size w w'):rd w' x cs F :=
 Dat.frame h (fun b hb'=>hb.block b (Dat.lt h b hb')) hb.size
theorem YG {p:Nat→Bool} {n:Nat} (h:∀j,j < n→p j = true):(List.range n).all p = true:=by
 rw [List.all_eq_true];intro x hx;exact h x (List.mem_range.1 hx)
theorem YF {p:Nat→Bool} {n k:Nat} (hk:k < n) (h:p k = false):(List.range n).all p = false:=by
 rw [List.all_eq_false];exact ⟨k,List.mem_range.2 hk,by simp [h]⟩
theorem gq {p:Nat→Bool} {k:Nat} (h:∀j,j < k→p j = true) (hp:p k = true):∀j,j < k+1→p j = true:=fun j hj=>by
 rcases Nat.lt_or_ge j k with h1 | h1
 ·exact h j h1
 ·obtain rfl:j = k:=by omega
  exact hp
def rowAt {α:Type} (ok:α→Bool) (less:α→α→Bool) (xs:List α) (k:Nat):Bool :=
 match xs[k]? with
 | none=>false
 | some l=>ok l&&(match k with | 0=>true | j+1=>match xs[j]? with | none=>false | some p=>less p l)
theorem rowAt_zero {α:Type} {ok:α→Bool} {less:α→α→Bool} {xs:List α} (h:0 < xs.length):rowAt ok less xs 0 = ok xs[0]:=by
 unfold rowAt;rw [List.getElem?_eq_getElem h];simp
theorem yS {α:Type} {ok:α→Bool} {less:α→α→Bool} {xs:List α} {j:Nat} (h:j+1 < xs.length):rowAt ok less xs (j+1) = (ok xs[j+1]&&less xs[j] xs[j+1]):=by
 simp only [rowAt,List.getElem?_eq_getElem h,List.getElem?_eq_getElem (show j < xs.length by omega)]
def adb {α:Type} (ok:α→Bool) (less:α→α→Bool) (most:Int) (xs:List α):Bool:=decide ((xs.length:Int)≤most)&&(List.range xs.length).all (rowAt ok less xs)
theorem wU {α:Type} {ok:α→Bool} {less:α→α→Bool} {most:Int} {xs:List α} {k:Nat} (hk:k < xs.length) (h:rowAt ok less xs k = false):adb ok less most xs = false:=by unfold adb;rw [YF hk h];simp
theorem Jz {α:Type} {ok:α→Bool} {less:α→α→Bool} {most:Int} {xs:List α} (h:¬(xs.length:Int)≤most):adb ok less most xs = false:=by unfold adb;simp [h]
theorem Jy {α:Type} {ok:α→Bool} {less:α→α→Bool} {most:Int} {xs:List α} (hl:(xs.length:Int)≤most) (h:∀j,j < xs.length→rowAt ok less xs j = true):adb ok less most xs = true:=by unfold adb;rw [YG h];simp [hl]
end Go.Proofs.YtogkjlcoadhpgaaGreat
namespace Go.Proofs.YtogkjlcoadhpgaaGreat
open Go.ChangeShapes Go.WideShapes Go.ChangeAt Go.RowKit
set_option linter.unusedVariables false
set_option linter.unusedSimpArgs false
def bl (a b:ByteArray):Bool:=Op.bytesLess a.toList b.toList
def uh (x:Need):Bool:=Cm x.key&&(decide (1≤x.op)&&decide (x.op≤4))&&(if 2 < x.op then decide (x.values.length = 0) else decide (1≤x.values.length)&&adb AQ bl 4 x.values)
theorem aiY {x:Need} (h:Cm x.key = false):uh x = false:=by unfold uh;rw [h];simp
theorem amy {x:Need} (h:¬(1≤x.op∧x.op≤4)):uh x = false:=by
 have:(decide (1≤x.op)&&decide (x.op≤4)) = false:=by rw [← Bool.not_eq_true,Bool.and_eq_true,decide_eq_true_eq,decide_eq_true_eq];exact h
 unfold uh;rw [this];simp
theorem aiZ {x:Need} (hk:Cm x.key = true) (h:1≤x.op∧x.op≤4) (h2:2 < x.op):uh x = decide (x.values.length = 0):=by
 unfold uh;rw [hk,if_pos h2];simp [h.1,h.2]
theorem amx {x:Need} (hk:Cm x.key = true) (h:1≤x.op∧x.op≤4) (h2:¬2 < x.op):uh x = (decide (1≤x.values.length)&&adb AQ bl 4 x.values):=by
 unfold uh;rw [hk,if_neg h2];simp [h.1,h.2]
end Go.Proofs.YtogkjlcoadhpgaaGreat
namespace Go.Proofs.YtogkjlcoadhpgaaGreat
open Go.ChangeShapes Go.WideShapes Go.ChangeAt Go.RowKit
set_option linter.unusedVariables false
set_option linter.unusedSimpArgs false
set_option maxRecDepth 100000 in
set_option maxHeartbeats 2000000 in
theorem ahM (x:bH) (y:iU) (cs ds:List Value) (F G:List Nat) (w:World) (h:rd w x cs F) (h':rd w y ds G) (hks:(x.key.size:Int)≤1048576) (hvs:(x.value.size:Int)≤1048576) (aiD:(y.key.size:Int)≤1048576) (hvs':(y.value.size:Int)≤1048576) :
 Calls Tryz.prog 205 #[.agg cs.toArray,.agg ds.toArray] w fun e w'=>e = .returned (.bool (AY x y))∧Below w.heap.size w w':=by
 obtain ⟨hck,hF1,xO,xk,zT⟩:=jv h
 obtain ⟨jU,hF2,vC,rP,uY⟩:=oK h'
 subst hck jU
 subst hF1 hF2
 go_enter Tryz.func205,Tryz.ntmps205
 go_wp2_with (first
  | (go_at_call 136;refine (Na x _ [] _ (aJ h atS) hks hvs).mono ?_;rintro e w2 ⟨rfl,hb2⟩;obtain ⟨hc2,hf2⟩:=ay hb2;have hz2:w.heap.size+1 < w2.heap.size:=(sq hb2.size);have hy2:w.heap.size < w2.heap.size:=(by omega))
  | (go_at_call 132;refine (V9 y _ [] _ (aJ h' atS) aiD hvs').mono ?_;rintro e w3 ⟨rfl,hb3⟩;obtain ⟨hc3,hf3⟩:=ay hb3;have hz3:w.heap.size+1 < w3.heap.size:=(sq hb3.size);have hy3:w.heap.size < w3.heap.size:=(by omega)))
 all_goals first
  | (go_ret;refine ⟨?_,atS⟩;refine congrArg (fun b=>Ending.returned (Value.bool b)) ?_;show (_:Bool) = _;(try clear hc2 hf2 hb2);(try clear hc3 hf3 hb3);unfold AY;(try simp only [Kz]);first | (simp [*];done) | (simp_all;done) | (simp_all;omega) | (simp_all;exact Bool.or_comm _ _))
  | skip
set_option maxRecDepth 100000 in
set_option maxHeartbeats 2000000 in
theorem ahN (x:bH) (y:iU) (cs ds:List Value) (F G:List Nat) (w:World) (h:rd w x cs F) (h':rd w y ds G) (hks:(x.key.size:Int)≤1048576) (hvs:(x.value.size:Int)≤1048576) (aiD:(y.key.size:Int)≤1048576) (hvs':(y.value.size:Int)≤1048576) :
 Calls Tryz.prog 195 #[.agg cs.toArray,.agg ds.toArray] w fun e w'=>e = .returned (.bool (AY x y))∧Below w.heap.size w w':=by
 obtain ⟨hck,hF1,xO,xk,zT⟩:=jv h
 obtain ⟨jU,hF2,vC,rP,uY⟩:=oK h'
 subst hck jU
 subst hF1 hF2
 go_enter Tryz.func195,Tryz.ntmps195
 go_wp2_with (first
  | (go_at_call 116;refine (Nb x _ [] _ (aJ h atS) hks hvs).mono ?_;rintro e w2 ⟨rfl,hb2⟩;obtain ⟨hc2,hf2⟩:=ay hb2;have hz2:w.heap.size+1 < w2.heap.size:=(sq hb2.size);have hy2:w.heap.size < w2.heap.size:=(by omega))
  | (go_at_call 118;refine (Wh y _ [] _ (aJ h' atS) aiD hvs').mono ?_;rintro e w3 ⟨rfl,hb3⟩;obtain ⟨hc3,hf3⟩:=ay hb3;have hz3:w.heap.size+1 < w3.heap.size:=(sq hb3.size);have hy3:w.heap.size < w3.heap.size:=(by omega)))
 all_goals first
  | (go_ret;refine ⟨?_,atS⟩;refine congrArg (fun b=>Ending.returned (Value.bool b)) ?_;show (_:Bool) = _;(try clear hc2 hf2 hb2);(try clear hc3 hf3 hb3);unfold AY;(try simp only [Kz]);first | (simp [*];done) | (simp_all;done) | (simp_all;omega) | (simp_all;exact Bool.or_comm _ _))
  | skip
end Go.Proofs.YtogkjlcoadhpgaaGreat
