/- TaintOk, of the program and of the reference. No condition. -/
import Derived.Test.YtajbbmembionpaaGreatWordsS
import Derived.Test.YtajbbmembionpaaGreatData
namespace Go.Proofs.YtajbbmembionpaaGreat
open Go.ChangeShapes Go.WideShapes Go.ChangeAt Go.RowKit
set_option linter.unusedVariables false
set_option linter.unusedSimpArgs false
set_option maxHeartbeats 2000000
set_option maxRecDepth 100000
theorem Wn {s:ByteArray} (h:(s.toList == []) = true):AQ s = true:=by
 have h1:s.toList = []:=by simpa using h
 have h2:s.size = 0:=by exact Hc
 unfold AQ;simp [h2]
theorem Wp {s:ByteArray} (h:(s.toList == []) = true):Cm s = false:=by
 have h1:s.toList = []:=by simpa using h
 have h2:s.size = 0:=by exact Hc
 unfold Cm;rw [Ou J];simp
theorem Kz (l:List UInt8):l.isEmpty = (l == []):=by cases l <;> rfl
def Dp (x:iU):Bool:=Cm x.key&&AQ x.value&&(decide (1≤x.effect)&&decide (x.effect≤2))
theorem V9 (x:iU) (cs:List Value) (F:List Nat) (w:World) (h:rd w x cs F) (eV:(x.key.size:Int)≤1048576) (nZ:(x.value.size:Int)≤1048576) :
 Calls Tryz.prog 137 #[.agg cs.toArray] w fun e w'=>e = .returned (.bool (Dp x))∧Below w.heap.size w w':=by
 obtain ⟨aw,qp,b8,kP,lD⟩:=oK h;subst aw;clear qp h;have iw:=I (Wn (s:=x.value));have gS:=I (Wp (s:=x.key));go_enter Tryz.func137,Tryz.ntmps137
 go_wp2_with (first
  | (go_at_call 155;refine (rX x.key _ eV).mono ?_;rintro e w2 ⟨rfl,ap⟩;obtain ⟨bX,cG⟩:=ay ap;have cj:w.heap.size < w2.heap.size:=(sq ap.size))
  | (go_at_call 156;refine (xQ x.value _ nZ).mono ?_;rintro e w3 ⟨rfl,aR⟩;obtain ⟨dk,hf3⟩:=ay aR;have cW:w.heap.size < w3.heap.size:=(sq aR.size))
  | go_in)
 all_goals first
  | (go_ret;refine ⟨?_,bx⟩;refine congrArg (fun b=>Ending.returned (Value.bool b)) ?_;show (_:Bool) = _;(try clear bX cG);(try clear dk hf3);unfold Dp;(try simp only [Kz]);first | (simp [*];done) | (simp [*];omega) | (have QL:=iw.out;have QM:=gS.out;clear iw gS;(try clear ap);(try clear aR);simp at QL QM;simp_all;done) | (have QL:=iw.out;have QM:=gS.out;clear iw gS;(try clear ap);(try clear aR);simp at QL QM;simp_all;omega) | (have QL:=iw.out;have QM:=gS.out;clear iw gS;(try clear ap);(try clear aR);simp at QL QM;simp_all;exact Bool.or_comm _ _))
  | skip
theorem Wh (x:iU) (cs:List Value) (F:List Nat) (w:World) (h:rd w x cs F) (eV:(x.key.size:Int)≤1048576) (nZ:(x.value.size:Int)≤1048576) :
 Calls Tryz.prog 138 #[.agg cs.toArray] w fun e w'=>e = .returned (.bool (Dp x))∧Below w.heap.size w w':=by
 obtain ⟨aw,qp,b8,kP,lD⟩:=oK h;subst aw;clear qp h;have iw:=I (Wn (s:=x.value));have gS:=I (Wp (s:=x.key));go_enter Tryz.func138,Tryz.ntmps138
 go_wp2_with (first
  | (go_at_call 123;refine (qK x.key _ eV).mono ?_;rintro e w2 ⟨rfl,ap⟩;obtain ⟨bX,cG⟩:=ay ap;have cj:w.heap.size < w2.heap.size:=(sq ap.size))
  | (go_at_call 124;refine (vH x.value _ nZ).mono ?_;rintro e w3 ⟨rfl,aR⟩;obtain ⟨dk,hf3⟩:=ay aR;have cW:w.heap.size < w3.heap.size:=(sq aR.size))
  | go_in)
 all_goals first
  | (go_ret;refine ⟨?_,bx⟩;refine congrArg (fun b=>Ending.returned (Value.bool b)) ?_;show (_:Bool) = _;(try clear bX cG);(try clear dk hf3);unfold Dp;(try simp only [Kz]);first | (simp [*];done) | (simp [*];omega) | (have QL:=iw.out;have QM:=gS.out;clear iw gS;(try clear ap);(try clear aR);simp at QL QM;simp_all;done) | (have QL:=iw.out;have QM:=gS.out;clear iw gS;(try clear ap);(try clear aR);simp at QL QM;simp_all;omega) | (have QL:=iw.out;have QM:=gS.out;clear iw gS;(try clear ap);(try clear aR);simp at QL QM;simp_all;exact Bool.or_comm _ _))
  | skip
def Q5 (x:bH):Bool:=(Cm x.key || (x.key.toList == [])&&!x.equal)&&AQ x.value&&((x.value.toList == []) || x.equal)&&(decide (0≤x.effect)&&decide (x.effect≤2))
def AY (t:bH) (x:iU):Bool:=Q5 t&&Dp x&&((t.key.toList == []) || t.key.toList == x.key.toList)&&(!t.equal || t.value.toList == x.value.toList)&&(t.effect == 0 || t.effect == x.effect)
theorem Na (x:bH) (cs:List Value) (F:List Nat) (w:World) (h:rd w x cs F) (eV:(x.key.size:Int)≤1048576) (nZ:(x.value.size:Int)≤1048576) :
 Calls Tryz.prog 136 #[.agg cs.toArray] w fun e w'=>e = .returned (.bool (Q5 x))∧Below w.heap.size w w':=by
 obtain ⟨aw,qp,b8,kP,lD⟩:=jv h;subst aw;clear qp h;have iw:=I (Wn (s:=x.value));have gS:=I (Wp (s:=x.key));go_enter Tryz.func136,Tryz.ntmps136
 go_wp2_with (first
  | (go_at_call 155;refine (rX x.key _ eV).mono ?_;rintro e w2 ⟨rfl,ap⟩;obtain ⟨bX,cG⟩:=ay ap;have cj:w.heap.size < w2.heap.size:=(sq ap.size))
  | (go_at_call 156;refine (xQ x.value _ nZ).mono ?_;rintro e w3 ⟨rfl,aR⟩;obtain ⟨dk,hf3⟩:=ay aR;have cW:w.heap.size < w3.heap.size:=(sq aR.size))
  | go_in)
 all_goals first
  | (go_ret;refine ⟨?_,bx⟩;refine congrArg (fun b=>Ending.returned (Value.bool b)) ?_;show (_:Bool) = _;(try clear bX cG);(try clear dk hf3);unfold Q5;(try simp only [Kz]);first | (simp [*];done) | (simp [*];omega) | (have QL:=iw.out;have QM:=gS.out;clear iw gS;(try clear ap);(try clear aR);simp at QL QM;simp_all;done) | (have QL:=iw.out;have QM:=gS.out;clear iw gS;(try clear ap);(try clear aR);simp at QL QM;simp_all;omega) | (have QL:=iw.out;have QM:=gS.out;clear iw gS;(try clear ap);(try clear aR);simp at QL QM;simp_all;exact Bool.or_comm _ _))
  | skip
theorem Nb (x:bH) (cs:List Value) (F:List Nat) (w:World) (h:rd w x cs F) (eV:(x.key.size:Int)≤1048576) (nZ:(x.value.size:Int)≤1048576) :
 Calls Tryz.prog 126 #[.agg cs.toArray] w fun e w'=>e = .returned (.bool (Q5 x))∧Below w.heap.size w w':=by
 obtain ⟨aw,qp,b8,kP,lD⟩:=jv h;subst aw;clear qp h;have iw:=I (Wn (s:=x.value));have gS:=I (Wp (s:=x.key));go_enter Tryz.func126,Tryz.ntmps126
 go_wp2_with (first
  | (go_at_call 123;refine (qK x.key _ eV).mono ?_;rintro e w2 ⟨rfl,ap⟩;obtain ⟨bX,cG⟩:=ay ap;have cj:w.heap.size < w2.heap.size:=(sq ap.size))
  | (go_at_call 124;refine (vH x.value _ nZ).mono ?_;rintro e w3 ⟨rfl,aR⟩;obtain ⟨dk,hf3⟩:=ay aR;have cW:w.heap.size < w3.heap.size:=(sq aR.size))
  | go_in)
 all_goals first
  | (go_ret;refine ⟨?_,bx⟩;refine congrArg (fun b=>Ending.returned (Value.bool b)) ?_;show (_:Bool) = _;(try clear bX cG);(try clear dk hf3);unfold Q5;(try simp only [Kz]);first | (simp [*];done) | (simp [*];omega) | (have QL:=iw.out;have QM:=gS.out;clear iw gS;(try clear ap);(try clear aR);simp at QL QM;simp_all;done) | (have QL:=iw.out;have QM:=gS.out;clear iw gS;(try clear ap);(try clear aR);simp at QL QM;simp_all;omega) | (have QL:=iw.out;have QM:=gS.out;clear iw gS;(try clear ap);(try clear aR);simp at QL QM;simp_all;exact Bool.or_comm _ _))
  | skip
theorem aJ {α:Type} [ba α] {w w':World} {x:α} {cs:List Value} {F:List Nat} (h:rd w x cs F) (hb:Below w.heap.size w w'):rd w' x cs F :=
 ba.frame h (fun b ei=>hb.block b (ba.lt h b ei)) hb.size
theorem YG {p:Nat→Bool} {n:Nat} (h:∀j,j < n→p j = true):(List.range n).all p = true:=by
 rw [List.all_eq_true];intro x hx;exact h x (List.mem_range.1 hx)
theorem YF {p:Nat→Bool} {n k:Nat} (hk:k < n) (h:p k = false):(List.range n).all p = false:=by
 rw [List.all_eq_false];exact ⟨k,List.mem_range.2 hk,by simp [h]⟩
theorem gq {p:Nat→Bool} {k:Nat} (h:∀j,j < k→p j = true) (hp:p k = true):∀j,j < k+1→p j = true:=fun j hj=>by
 rcases Nat.lt_or_ge j k with h1 | h1
 ·exact h j h1
 ·obtain rfl:j = k:=by omega
  exact hp
def rowAt {α:Type} (ok:α→Bool) (less:α→α→Bool) (xs:List α) (k:Nat):Bool :=
 match xs[k]? with
 | none=>false
 | some l=>ok l&&(match k with | 0=>true | j+1=>match xs[j]? with | none=>false | some p=>less p l)
theorem cC {α:Type} {ok:α→Bool} {less:α→α→Bool} {xs:List α} (h:0 < xs.length):rowAt ok less xs 0 = ok xs[0]:=by
 unfold rowAt;rw [List.getElem?_eq_getElem h];simp
theorem yS {α:Type} {ok:α→Bool} {less:α→α→Bool} {xs:List α} {j:Nat} (h:j+1 < xs.length):rowAt ok less xs (j+1) = (ok xs[j+1]&&less xs[j] xs[j+1]):=by
 simp only [rowAt,List.getElem?_eq_getElem h,List.getElem?_eq_getElem (show j < xs.length by omega)]
def oc {α:Type} (ok:α→Bool) (less:α→α→Bool) (most:Int) (xs:List α):Bool:=decide ((xs.length:Int)≤most)&&(List.range xs.length).all (rowAt ok less xs)
theorem wU {α:Type} {ok:α→Bool} {less:α→α→Bool} {most:Int} {xs:List α} {k:Nat} (hk:k < xs.length) (h:rowAt ok less xs k = false):oc ok less most xs = false:=by unfold oc;rw [YF hk h];simp
theorem Jz {α:Type} {ok:α→Bool} {less:α→α→Bool} {most:Int} {xs:List α} (h:¬(xs.length:Int)≤most):oc ok less most xs = false:=by unfold oc;simp [h]
theorem Jy {α:Type} {ok:α→Bool} {less:α→α→Bool} {most:Int} {xs:List α} (hl:(xs.length:Int)≤most) (h:∀j,j < xs.length→rowAt ok less xs j = true):oc ok less most xs = true:=by unfold oc;rw [YG h];simp [hl]
def bl (a b:ByteArray):Bool:=Op.bytesLess a.toList b.toList
def uh (x:aD):Bool:=Cm x.key&&(decide (1≤x.op)&&decide (x.op≤4))&&(if 2 < x.op then decide (x.values.length = 0) else decide (1≤x.values.length)&&oc AQ bl 4 x.values)
theorem Vt {x:aD} (h:Cm x.key = false):uh x = false:=by unfold uh;rw [h];simp
theorem Vu {x:aD} (h:¬(1≤x.op∧x.op≤4)):uh x = false:=by
 have:(decide (1≤x.op)&&decide (x.op≤4)) = false:=by rw [← Bool.not_eq_true,Bool.and_eq_true,decide_eq_true_eq,decide_eq_true_eq];exact h
 unfold uh;rw [this];simp
theorem Vv {x:aD} (hk:Cm x.key = true) (h:1≤x.op∧x.op≤4) (h2:2 < x.op):uh x = decide (x.values.length = 0):=by
 unfold uh;rw [hk,if_pos h2];simp [h.1,h.2]
theorem Vw {x:aD} (hk:Cm x.key = true) (h:1≤x.op∧x.op≤4) (h2:¬2 < x.op):uh x = (decide (1≤x.values.length)&&oc AQ bl 4 x.values):=by
 unfold uh;rw [hk,if_neg h2];simp [h.1,h.2]
def zX (l:ao):Bool:=Cm l.key&&AQ l.value
def zi (a b:ao):Bool:=Op.bytesLess a.key.toList b.key.toList
def sD (xs:List ao):Bool:=oc zX zi 6 xs
theorem Jw (xs:List ao) (A:Option Addr) (n c:Nat) (F:List Nat) (w:World) (h:Sl w xs A c F) (hn:n = xs.length) (hl:(xs.length:Int)≤1048576) (cR:∀l∈xs,(l.key.size:Int)≤1048576∧(l.value.size:Int)≤1048576) :
 Calls Tryz.prog 75 #[.slice A n c] w fun e w'=>e = .returned (.bool (sD xs))∧Below w.heap.size w w':=by
 subst hn;have Eo:=I cR;clear cR;by_cases hm:(xs.length:Int)≤6
 ·go_enter Tryz.func75,Tryz.ntmps75;go_wp2_with fail
  go_loopw [3] (fun i wr=>∃k:Nat,k≤xs.length∧i = .int .i64 k∧Hid (∀j,j < k→rowAt zX zi xs j = true)∧Below w.heap.size w wr) (fun i _=>xs.length - (intOf i).toNat)
  case atStart=>exact ⟨0,Nat.zero_le _,rfl,(fun j hj=>by omega),bx⟩
  case round =>
   obtain ⟨k,hk,rfl,hall,ax⟩:=hrel;by_cases aq:k < xs.length
   ·obtain rfl | ⟨j,rfl⟩:k = 0∨∃j,k = j+1:=by cases k with | zero=>exact .inl rfl | succ j=>exact .inr ⟨j,rfl⟩
    ·obtain ⟨b,o,ck,Fk,rfl,o9,bc,hr,bv,hc⟩:=(Sl.ext (w':=wr) (A:=A) (c:=c) h ax).get aq;obtain ⟨aw,su,b8,kP⟩:=vO hr;subst aw;obtain ⟨q0,q1⟩:=Mb 2 hc;clear hc;simp only [Nat.zero_mul,Nat.add_zero] at q0 q1;have cX:=(Eo.out xs[0] (List.getElem_mem ..)).1;have cM:=(Eo.out xs[0] (List.getElem_mem ..)).2;cases h1:Cm xs[0].key <;> cases h2:AQ xs[0].value
     all_goals
      have hp:=cC (ok:=zX) (less:=zi) aq;unfold zX at hp;rw [h1,h2] at hp;simp only [Bool.false_and,Bool.and_false,Bool.and_true,Bool.and_self] at hp;change rowAt zX zi xs _ = _ at hp;have H1:=I h1;have H2:=I h2
      first
       | have HN:=I (gq hall.out hp)
       | have HF:=I (wU (most:=6) aq hp)
      clear h1 h2 hp;go_wp2_with fail
      refine aF _ U' U' (aj _) ?_
      repeat (first
       | (apply aG
          case hw=>rfl
          simp only [Act.put,pz])
       | (apply aH
          case hw=>rfl
          case h =>
           intro wq hq;have dC:=(aB hq).1;have lJ:=(aB hq).2;go_simp
           first
            | exact ⟨hq,rfl⟩
            | exact ⟨aQ hq _,rfl⟩
            | (first | (refine (qK xs[0].key _ cX).mono ?_;rw [H1.out];rintro e w2 ⟨rfl,ap⟩;exact ⟨rfl,aI hq ap⟩) | (refine (vH xs[0].value _ cM).mono ?_;rw [H2.out];rintro e w2 ⟨rfl,ap⟩;exact ⟨rfl,aI hq ap⟩))
            | (simp only [↓IntWalk.iteOmega];exact ⟨hq,rfl⟩)
          simp only [Act.put,pz]))
      refine aN ?_;intro wn hn;replace hn:=hn.out;go_wp2
      first
       | exact ⟨⟨0+1,J,N',HN.out,ah ax hn⟩,by simp [intOf];omega⟩
       | (go_ret;exact ⟨by unfold sD;rw [HF.out];rfl,ah ax hn⟩)
    ·obtain ⟨b,o,ck,Fk,rfl,o9,bc,hr,bv,hc⟩:=(Sl.ext (w':=wr) (A:=A) (c:=c) h ax).get aq;obtain ⟨aw,su,b8,kP⟩:=vO hr;subst aw;obtain ⟨q0,q1⟩:=Mb 2 hc;clear hc;obtain ⟨b',o',TY,Xw,e,Ht,hbs',cI,zQ,hc'⟩:=Sl.get (Sl.ext (w':=wr) (c:=c) h ax) (show j < xs.length by omega);obtain ⟨jU,abT,vC,rP⟩:=vO cI;subst jU;obtain ⟨rfl,rfl⟩:b' = b∧o' = o:=by simpa using e.symm
     clear e;obtain ⟨p0,p1⟩:=Mb 2 hc';clear hc';have wB:IntKind.i64.wrap (j:Int) = j:=IntWalk.i64_in _ J;have mD:j < xs.length:=J;have cX:=(Eo.out xs[j+1] (List.getElem_mem ..)).1;have cM:=(Eo.out xs[j+1] (List.getElem_mem ..)).2;cases h1:Cm xs[j+1].key <;> cases h2:AQ xs[j+1].value <;> cases h3:Op.bytesLess xs[j].key.toList xs[j+1].key.toList
     all_goals
      have hp:=yS (ok:=zX) (less:=zi) aq;unfold zX zi at hp;rw [h1,h2,h3] at hp;simp only [Bool.false_and,Bool.and_false,Bool.and_true,Bool.and_self] at hp;change rowAt zX zi xs _ = _ at hp;have H1:=I h1;have H2:=I h2
      first
       | have HN:=I (gq hall.out hp)
       | have HF:=I (wU (most:=6) aq hp)
      clear h1 h2 hp;go_wp2_with fail
      refine aF _ U' U' (aj _) ?_
      repeat (first
       | (apply aG
          case hw=>rfl
          simp only [Act.put,pz])
       | (apply aH
          case hw=>rfl
          case h =>
           intro wq hq;have dC:=(aB hq).1;have lJ:=(aB hq).2;go_simp
           first
            | exact ⟨hq,rfl⟩
            | exact ⟨aQ hq _,rfl⟩
            | (first | (refine (qK xs[j+1].key _ cX).mono ?_;rw [H1.out];rintro e w2 ⟨rfl,ap⟩;exact ⟨rfl,aI hq ap⟩) | (refine (vH xs[j+1].value _ cM).mono ?_;rw [H2.out];rintro e w2 ⟨rfl,ap⟩;exact ⟨rfl,aI hq ap⟩))
            | (simp only [↓IntWalk.iteOmega];exact ⟨hq,rfl⟩)
          simp only [Act.put,pz]))
      refine aN ?_;intro wn hn;replace hn:=hn.out;go_wp2
      first
       | exact ⟨⟨j+1+1,J,N',HN.out,ah ax hn⟩,by simp [intOf];omega⟩
       | (go_ret;exact ⟨by unfold sD;rw [HF.out];rfl,ah ax hn⟩)
   ·have bB:k = xs.length:=J;subst bB;have HF:=I (Jy hm hall.out);go_wp2;go_ret
    exact ⟨by unfold sD;rw [HF.out];rfl,ax⟩
 ·have HF:=I (Jz (ok:=zX) (less:=zi) hm);go_enter Tryz.func75,Tryz.ntmps75;go_wp2;go_ret
  exact ⟨by unfold sD;rw [HF.out];rfl,bx⟩
end Go.Proofs.YtajbbmembionpaaGreat
