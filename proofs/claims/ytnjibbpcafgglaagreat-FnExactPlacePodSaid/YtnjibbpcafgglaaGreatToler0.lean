/- TaintOk, of the program and of the reference. No condition. -/
import Derived.Test.YtnjibbpcafgglaaGreatWords0
import Derived.Test.YtnjibbpcafgglaaGreatBase0
import Derived.Test.YtnjibbpcafgglaaGreatLabOk
namespace Go.Proofs.YtnjibbpcafgglaaGreat
open Go.ChangeShapes Go.WideShapes Go.ChangeAt Go.RowKit
set_option linter.unusedVariables false
set_option linter.unusedSimpArgs false
theorem Wn {s:ByteArray} (h:(s.toList == []) = true):AQ s = true:=by
 have h1:s.toList = []:=by simpa using h
 have h2:s.size = 0:=by
  have h3:s.data.toList.length = 0:=by rw [← ByteArray.toList_eq,h1];rfl
  rw [Array.length_toList] at h3
  exact h3
 unfold AQ
 simp [h2]
theorem Wp {s:ByteArray} (h:(s.toList == []) = true):Cm s = false:=by
 have h1:s.toList = []:=by simpa using h
 have h2:s.size = 0:=by
  have h3:s.data.toList.length = 0:=by rw [← ByteArray.toList_eq,h1];rfl
  rw [Array.length_toList] at h3
  exact h3
 unfold Cm
 rw [Ou (by omega)]
 simp
theorem Kz (l:List UInt8):l.isEmpty = (l == []):=by cases l <;> rfl
def Dp (x:iU):Bool:=Cm x.key&&AQ x.value&&(decide (1≤x.effect)&&decide (x.effect≤2))
set_option maxRecDepth 100000 in
set_option maxHeartbeats 1000000 in
theorem V9 (x:iU) (cs:List Value) (F:List Nat) (w:World) (h:rd w x cs F) (hks:(x.key.size:Int)≤1048576) (hvs:(x.value.size:Int)≤1048576) :
 Calls Tryz.prog 144 #[.agg cs.toArray] w fun e w'=>e = .returned (.bool (Dp x))∧Below w.heap.size w w':=by
 obtain ⟨hck,qp,hkey,kP,lD⟩:=oK h
 subst hck
 clear qp h
 have hve:=Lib.hid (Wn (s:=x.value))
 have hke:=Lib.hid (Wp (s:=x.key))
 go_enter Tryz.func144,Tryz.ntmps144
 go_wp2_with (first
  | (go_at_call 142;refine (rX x.key _ hks).mono ?_;rintro e w2 ⟨rfl,hb2⟩;obtain ⟨hc2,hf2⟩:=ay hb2;have hz2:w.heap.size < w2.heap.size:=(sq hb2.size))
  | (go_at_call 143;refine (xQ x.value _ hvs).mono ?_;rintro e w3 ⟨rfl,hb3⟩;obtain ⟨hc3,hf3⟩:=ay hb3;have hz3:w.heap.size < w3.heap.size:=(sq hb3.size))
  | go_in)
 all_goals first
  | (go_ret;refine ⟨?_,atS⟩;refine congrArg (fun b=>Ending.returned (Value.bool b)) ?_;show (_:Bool) = _;(try clear hc2 hf2);(try clear hc3 hf3);unfold Dp;(try simp only [Kz]);first | (simp [*];done) | (simp [*];omega) | (have QL:=hve.out;have QM:=hke.out;clear hve hke;(try clear hb2);(try clear hb3);simp at QL QM;simp_all;done) | (have QL:=hve.out;have QM:=hke.out;clear hve hke;(try clear hb2);(try clear hb3);simp at QL QM;simp_all;omega) | (have QL:=hve.out;have QM:=hke.out;clear hve hke;(try clear hb2);(try clear hb3);simp at QL QM;simp_all;exact Bool.or_comm _ _))
  | skip
set_option maxRecDepth 100000 in
set_option maxHeartbeats 1000000 in
theorem Wh (x:iU) (cs:List Value) (F:List Nat) (w:World) (h:rd w x cs F) (hks:(x.key.size:Int)≤1048576) (hvs:(x.value.size:Int)≤1048576) :
 Calls Tryz.prog 126 #[.agg cs.toArray] w fun e w'=>e = .returned (.bool (Dp x))∧Below w.heap.size w w':=by
 obtain ⟨hck,qp,hkey,kP,lD⟩:=oK h
 subst hck
 clear qp h
 have hve:=Lib.hid (Wn (s:=x.value))
 have hke:=Lib.hid (Wp (s:=x.key))
 go_enter Tryz.func126,Tryz.ntmps126
 go_wp2_with (first
  | (go_at_call 120;refine (qK x.key _ hks).mono ?_;rintro e w2 ⟨rfl,hb2⟩;obtain ⟨hc2,hf2⟩:=ay hb2;have hz2:w.heap.size < w2.heap.size:=(sq hb2.size))
  | (go_at_call 121;refine (vH x.value _ hvs).mono ?_;rintro e w3 ⟨rfl,hb3⟩;obtain ⟨hc3,hf3⟩:=ay hb3;have hz3:w.heap.size < w3.heap.size:=(sq hb3.size))
  | go_in)
 all_goals first
  | (go_ret;refine ⟨?_,atS⟩;refine congrArg (fun b=>Ending.returned (Value.bool b)) ?_;show (_:Bool) = _;(try clear hc2 hf2);(try clear hc3 hf3);unfold Dp;(try simp only [Kz]);first | (simp [*];done) | (simp [*];omega) | (have QL:=hve.out;have QM:=hke.out;clear hve hke;(try clear hb2);(try clear hb3);simp at QL QM;simp_all;done) | (have QL:=hve.out;have QM:=hke.out;clear hve hke;(try clear hb2);(try clear hb3);simp at QL QM;simp_all;omega) | (have QL:=hve.out;have QM:=hke.out;clear hve hke;(try clear hb2);(try clear hb3);simp at QL QM;simp_all;exact Bool.or_comm _ _))
  | skip
end Go.Proofs.YtnjibbpcafgglaaGreat
namespace Go.Proofs.YtnjibbpcafgglaaGreat
open Go.ChangeShapes Go.WideShapes Go.ChangeAt Go.RowKit
set_option linter.unusedVariables false
set_option linter.unusedSimpArgs false
def Q5 (x:bH):Bool:=(Cm x.key || (x.key.toList == [])&&!x.equal)&&AQ x.value&&((x.value.toList == []) || x.equal)&&(decide (0≤x.effect)&&decide (x.effect≤2))
def AY (t:bH) (x:iU):Bool:=Q5 t&&Dp x&&((t.key.toList == []) || t.key.toList == x.key.toList)&&(!t.equal || t.value.toList == x.value.toList)&&(t.effect == 0 || t.effect == x.effect)
set_option maxRecDepth 100000 in
set_option maxHeartbeats 1000000 in
theorem Na (x:bH) (cs:List Value) (F:List Nat) (w:World) (h:rd w x cs F) (hks:(x.key.size:Int)≤1048576) (hvs:(x.value.size:Int)≤1048576) :
 Calls Tryz.prog 148 #[.agg cs.toArray] w fun e w'=>e = .returned (.bool (Q5 x))∧Below w.heap.size w w':=by
 obtain ⟨hck,qp,hkey,kP,lD⟩:=jv h
 subst hck
 clear qp h
 have hve:=Lib.hid (Wn (s:=x.value))
 have hke:=Lib.hid (Wp (s:=x.key))
 go_enter Tryz.func148,Tryz.ntmps148
 go_wp2_with (first
  | (go_at_call 142;refine (rX x.key _ hks).mono ?_;rintro e w2 ⟨rfl,hb2⟩;obtain ⟨hc2,hf2⟩:=ay hb2;have hz2:w.heap.size < w2.heap.size:=(sq hb2.size))
  | (go_at_call 143;refine (xQ x.value _ hvs).mono ?_;rintro e w3 ⟨rfl,hb3⟩;obtain ⟨hc3,hf3⟩:=ay hb3;have hz3:w.heap.size < w3.heap.size:=(sq hb3.size))
  | go_in)
 all_goals first
  | (go_ret;refine ⟨?_,atS⟩;refine congrArg (fun b=>Ending.returned (Value.bool b)) ?_;show (_:Bool) = _;(try clear hc2 hf2);(try clear hc3 hf3);unfold Q5;(try simp only [Kz]);first | (simp [*];done) | (simp [*];omega) | (have QL:=hve.out;have QM:=hke.out;clear hve hke;(try clear hb2);(try clear hb3);simp at QL QM;simp_all;done) | (have QL:=hve.out;have QM:=hke.out;clear hve hke;(try clear hb2);(try clear hb3);simp at QL QM;simp_all;omega) | (have QL:=hve.out;have QM:=hke.out;clear hve hke;(try clear hb2);(try clear hb3);simp at QL QM;simp_all;exact Bool.or_comm _ _))
  | skip
set_option maxRecDepth 100000 in
set_option maxHeartbeats 1000000 in
theorem Nb (x:bH) (cs:List Value) (F:List Nat) (w:World) (h:rd w x cs F) (hks:(x.key.size:Int)≤1048576) (hvs:(x.value.size:Int)≤1048576) :
 Calls Tryz.prog 124 #[.agg cs.toArray] w fun e w'=>e = .returned (.bool (Q5 x))∧Below w.heap.size w w':=by
 obtain ⟨hck,qp,hkey,kP,lD⟩:=jv h
 subst hck
 clear qp h
 have hve:=Lib.hid (Wn (s:=x.value))
 have hke:=Lib.hid (Wp (s:=x.key))
 go_enter Tryz.func124,Tryz.ntmps124
 go_wp2_with (first
  | (go_at_call 120;refine (qK x.key _ hks).mono ?_;rintro e w2 ⟨rfl,hb2⟩;obtain ⟨hc2,hf2⟩:=ay hb2;have hz2:w.heap.size < w2.heap.size:=(sq hb2.size))
  | (go_at_call 121;refine (vH x.value _ hvs).mono ?_;rintro e w3 ⟨rfl,hb3⟩;obtain ⟨hc3,hf3⟩:=ay hb3;have hz3:w.heap.size < w3.heap.size:=(sq hb3.size))
  | go_in)
 all_goals first
  | (go_ret;refine ⟨?_,atS⟩;refine congrArg (fun b=>Ending.returned (Value.bool b)) ?_;show (_:Bool) = _;(try clear hc2 hf2);(try clear hc3 hf3);unfold Q5;(try simp only [Kz]);first | (simp [*];done) | (simp [*];omega) | (have QL:=hve.out;have QM:=hke.out;clear hve hke;(try clear hb2);(try clear hb3);simp at QL QM;simp_all;done) | (have QL:=hve.out;have QM:=hke.out;clear hve hke;(try clear hb2);(try clear hb3);simp at QL QM;simp_all;omega) | (have QL:=hve.out;have QM:=hke.out;clear hve hke;(try clear hb2);(try clear hb3);simp at QL QM;simp_all;exact Bool.or_comm _ _))
  | skip
end Go.Proofs.YtnjibbpcafgglaaGreat
namespace Go.Proofs.YtnjibbpcafgglaaGreat
open Go.ChangeShapes Go.WideShapes Go.ChangeAt Go.RowKit
set_option linter.unusedVariables false
set_option linter.unusedSimpArgs false
set_option maxRecDepth 100000 in
set_option maxHeartbeats 2000000 in
theorem ahM (x:bH) (y:iU) (cs ds:List Value) (F G:List Nat) (w:World) (h:rd w x cs F) (h':rd w y ds G) (hks:(x.key.size:Int)≤1048576) (hvs:(x.value.size:Int)≤1048576) (aiD:(y.key.size:Int)≤1048576) (hvs':(y.value.size:Int)≤1048576) :
 Calls Tryz.prog 202 #[.agg cs.toArray,.agg ds.toArray] w fun e w'=>e = .returned (.bool (AY x y))∧Below w.heap.size w w':=by
 obtain ⟨hck,hF1,xO,xk,zT⟩:=jv h
 obtain ⟨jU,hF2,vC,rP,uY⟩:=oK h'
 subst hck jU
 subst hF1 hF2
 go_enter Tryz.func202,Tryz.ntmps202
 go_wp2_with (first
  | (go_at_call 148;refine (Na x _ [] _ (aJ h atS) hks hvs).mono ?_;rintro e w2 ⟨rfl,hb2⟩;obtain ⟨hc2,hf2⟩:=ay hb2;have hz2:w.heap.size+1 < w2.heap.size:=(sq hb2.size);have hy2:w.heap.size < w2.heap.size:=(by omega))
  | (go_at_call 144;refine (V9 y _ [] _ (aJ h' atS) aiD hvs').mono ?_;rintro e w3 ⟨rfl,hb3⟩;obtain ⟨hc3,hf3⟩:=ay hb3;have hz3:w.heap.size+1 < w3.heap.size:=(sq hb3.size);have hy3:w.heap.size < w3.heap.size:=(by omega)))
 all_goals first
  | (go_ret;refine ⟨?_,atS⟩;refine congrArg (fun b=>Ending.returned (Value.bool b)) ?_;show (_:Bool) = _;(try clear hc2 hf2 hb2);(try clear hc3 hf3 hb3);unfold AY;(try simp only [Kz]);first | (simp [*];done) | (simp_all;done) | (simp_all;omega) | (simp_all;exact Bool.or_comm _ _))
  | skip
set_option maxRecDepth 100000 in
set_option maxHeartbeats 2000000 in
theorem ahN (x:bH) (y:iU) (cs ds:List Value) (F G:List Nat) (w:World) (h:rd w x cs F) (h':rd w y ds G) (hks:(x.key.size:Int)≤1048576) (hvs:(x.value.size:Int)≤1048576) (aiD:(y.key.size:Int)≤1048576) (hvs':(y.value.size:Int)≤1048576) :
 Calls Tryz.prog 188 #[.agg cs.toArray,.agg ds.toArray] w fun e w'=>e = .returned (.bool (AY x y))∧Below w.heap.size w w':=by
 obtain ⟨hck,hF1,xO,xk,zT⟩:=jv h
 obtain ⟨jU,hF2,vC,rP,uY⟩:=oK h'
 subst hck jU
 subst hF1 hF2
 go_enter Tryz.func188,Tryz.ntmps188
 go_wp2_with (first
  | (go_at_call 124;refine (Nb x _ [] _ (aJ h atS) hks hvs).mono ?_;rintro e w2 ⟨rfl,hb2⟩;obtain ⟨hc2,hf2⟩:=ay hb2;have hz2:w.heap.size+1 < w2.heap.size:=(sq hb2.size);have hy2:w.heap.size < w2.heap.size:=(by omega))
  | (go_at_call 126;refine (Wh y _ [] _ (aJ h' atS) aiD hvs').mono ?_;rintro e w3 ⟨rfl,hb3⟩;obtain ⟨hc3,hf3⟩:=ay hb3;have hz3:w.heap.size+1 < w3.heap.size:=(sq hb3.size);have hy3:w.heap.size < w3.heap.size:=(by omega)))
 all_goals first
  | (go_ret;refine ⟨?_,atS⟩;refine congrArg (fun b=>Ending.returned (Value.bool b)) ?_;show (_:Bool) = _;(try clear hc2 hf2 hb2);(try clear hc3 hf3 hb3);unfold AY;(try simp only [Kz]);first | (simp [*];done) | (simp_all;done) | (simp_all;omega) | (simp_all;exact Bool.or_comm _ _))
  | skip
end Go.Proofs.YtnjibbpcafgglaaGreat
