/- Rows of right elements, each less than the next. No condition. -/
import Derived.Test.YtnedlmlpeplnfaaGreatOpen
import Derived.Test.YtnedlmlpeplnfaaGreatData
import Derived.Test.YtnedlmlpeplnfaaGreatRegion
namespace Go.Proofs.YtnedlmlpeplnfaaGreat
open Go.ChangeShapes Go.WideShapes Go.ChangeAt Go.RowKit
set_option linter.unusedVariables false
set_option linter.unusedSimpArgs false
set_option maxHeartbeats 2000000
set_option maxRecDepth 100000
theorem aJ {α:Type} [Dat α] {w w':World} {x:α} {cs:List Value} {F:List Nat} (h:rd w x cs F) (hb:Below w.heap.size w w'):rd w' x cs F :=
 Dat.frame h (fun b hb'=>hb.block b (Dat.lt h b hb')) hb.size
theorem YG {p:Nat→Bool} {n:Nat} (h:∀j,j < n→p j = true):(List.range n).all p = true:=by
 rw [List.all_eq_true];intro x hx;exact h x (List.mem_range.1 hx)
theorem YF {p:Nat→Bool} {n k:Nat} (hk:k < n) (h:p k = false):(List.range n).all p = false:=by
 rw [List.all_eq_false];exact ⟨k,List.mem_range.2 hk,by simp [h]⟩
theorem gq {p:Nat→Bool} {k:Nat} (h:∀j,j < k→p j = true) (hp:p k = true):∀j,j < k+1→p j = true:=fun j hj=>by
 rcases Nat.lt_or_ge j k with h1 | h1
 ·exact h j h1
 ·obtain rfl:j = k:=by omega
  exact hp
def rowAt {α:Type} (ok:α→Bool) (less:α→α→Bool) (xs:List α) (k:Nat):Bool :=
 match xs[k]? with
 | none=>false
 | some l=>ok l&&(match k with | 0=>true | j+1=>match xs[j]? with | none=>false | some p=>less p l)
theorem rowAt_zero {α:Type} {ok:α→Bool} {less:α→α→Bool} {xs:List α} (h:0 < xs.length):rowAt ok less xs 0 = ok xs[0]:=by
 unfold rowAt;rw [List.getElem?_eq_getElem h];simp
theorem yS {α:Type} {ok:α→Bool} {less:α→α→Bool} {xs:List α} {j:Nat} (h:j+1 < xs.length):rowAt ok less xs (j+1) = (ok xs[j+1]&&less xs[j] xs[j+1]):=by
 simp only [rowAt,List.getElem?_eq_getElem h,List.getElem?_eq_getElem (show j < xs.length by omega)]
def adb {α:Type} (ok:α→Bool) (less:α→α→Bool) (most:Int) (xs:List α):Bool:=decide ((xs.length:Int)≤most)&&(List.range xs.length).all (rowAt ok less xs)
theorem wU {α:Type} {ok:α→Bool} {less:α→α→Bool} {most:Int} {xs:List α} {k:Nat} (hk:k < xs.length) (h:rowAt ok less xs k = false):adb ok less most xs = false:=by unfold adb;rw [YF hk h];simp
theorem Jz {α:Type} {ok:α→Bool} {less:α→α→Bool} {most:Int} {xs:List α} (h:¬(xs.length:Int)≤most):adb ok less most xs = false:=by unfold adb;simp [h]
theorem Jy {α:Type} {ok:α→Bool} {less:α→α→Bool} {most:Int} {xs:List α} (hl:(xs.length:Int)≤most) (h:∀j,j < xs.length→rowAt ok less xs j = true):adb ok less most xs = true:=by unfold adb;rw [YG h];simp [hl]
def bl (a b:ByteArray):Bool:=Op.bytesLess a.toList b.toList
def uh (x:Need):Bool:=Cm x.key&&(decide (1≤x.op)&&decide (x.op≤4))&&(if 2 < x.op then decide (x.values.length = 0) else decide (1≤x.values.length)&&adb AQ bl 4 x.values)
theorem aiY {x:Need} (h:Cm x.key = false):uh x = false:=by unfold uh;rw [h];simp
theorem amy {x:Need} (h:¬(1≤x.op∧x.op≤4)):uh x = false:=by
 have:(decide (1≤x.op)&&decide (x.op≤4)) = false:=by rw [← Bool.not_eq_true,Bool.and_eq_true,decide_eq_true_eq,decide_eq_true_eq];exact h
 unfold uh;rw [this];simp
theorem aiZ {x:Need} (hk:Cm x.key = true) (h:1≤x.op∧x.op≤4) (h2:2 < x.op):uh x = decide (x.values.length = 0):=by
 unfold uh;rw [hk,if_pos h2];simp [h.1,h.2]
theorem amx {x:Need} (hk:Cm x.key = true) (h:1≤x.op∧x.op≤4) (h2:¬2 < x.op):uh x = (decide (1≤x.values.length)&&adb AQ bl 4 x.values):=by
 unfold uh;rw [hk,if_neg h2];simp [h.1,h.2]
theorem Wn {s:ByteArray} (h:(s.toList == []) = true):AQ s = true:=by
 have h1:s.toList = []:=by simpa using h
 have h2:s.size = 0:=by
  have h3:s.data.toList.length = 0:=by rw [← ByteArray.toList_eq,h1];rfl
  rw [Array.length_toList] at h3;exact h3
 unfold AQ;simp [h2]
theorem Wp {s:ByteArray} (h:(s.toList == []) = true):Cm s = false:=by
 have h1:s.toList = []:=by simpa using h
 have h2:s.size = 0:=by
  have h3:s.data.toList.length = 0:=by rw [← ByteArray.toList_eq,h1];rfl
  rw [Array.length_toList] at h3;exact h3
 unfold Cm;rw [Ou O'];simp
theorem Kz (l:List UInt8):l.isEmpty = (l == []):=by cases l <;> rfl
def Dp (x:iU):Bool:=Cm x.key&&AQ x.value&&(decide (1≤x.effect)&&decide (x.effect≤2))
theorem V9 (x:iU) (cs:List Value) (F:List Nat) (w:World) (h:rd w x cs F) (hks:(x.key.size:Int)≤1048576) (hvs:(x.value.size:Int)≤1048576) :
 Calls Tryz.prog 155 #[.agg cs.toArray] w fun e w'=>e = .returned (.bool (Dp x))∧Below w.heap.size w w':=by
 obtain ⟨hck,qp,hkey,kP,lD⟩:=oK h;subst hck;clear qp h;have hve:=I' (Wn (s:=x.value));have hke:=I' (Wp (s:=x.key));go_enter Tryz.func155,Tryz.ntmps155
 go_wp2_with (first
  | (go_at_call 138;refine (rX x.key _ hks).mono ?_;rintro e w2 ⟨rfl,hb2⟩;obtain ⟨hc2,hf2⟩:=ay hb2;have hz2:w.heap.size < w2.heap.size:=(sq hb2.size))
  | (go_at_call 139;refine (xQ x.value _ hvs).mono ?_;rintro e w3 ⟨rfl,hb3⟩;obtain ⟨hc3,hf3⟩:=ay hb3;have hz3:w.heap.size < w3.heap.size:=(sq hb3.size))
  | go_in)
 all_goals first
  | (go_ret;refine ⟨?_,atS⟩;refine congrArg (fun b=>Ending.returned (Value.bool b)) ?_;show (_:Bool) = _;(try clear hc2 hf2);(try clear hc3 hf3);unfold Dp;(try simp only [Kz]);first | (simp [*];done) | (simp [*];omega) | (have QL:=hve.out;have QM:=hke.out;clear hve hke;(try clear hb2);(try clear hb3);simp at QL QM;simp_all;done) | (have QL:=hve.out;have QM:=hke.out;clear hve hke;(try clear hb2);(try clear hb3);simp at QL QM;simp_all;omega) | (have QL:=hve.out;have QM:=hke.out;clear hve hke;(try clear hb2);(try clear hb3);simp at QL QM;simp_all;exact Bool.or_comm _ _))
  | skip
theorem Wh (x:iU) (cs:List Value) (F:List Nat) (w:World) (h:rd w x cs F) (hks:(x.key.size:Int)≤1048576) (hvs:(x.value.size:Int)≤1048576) :
 Calls Tryz.prog 134 #[.agg cs.toArray] w fun e w'=>e = .returned (.bool (Dp x))∧Below w.heap.size w w':=by
 obtain ⟨hck,qp,hkey,kP,lD⟩:=oK h;subst hck;clear qp h;have hve:=I' (Wn (s:=x.value));have hke:=I' (Wp (s:=x.key));go_enter Tryz.func134,Tryz.ntmps134
 go_wp2_with (first
  | (go_at_call 129;refine (qK x.key _ hks).mono ?_;rintro e w2 ⟨rfl,hb2⟩;obtain ⟨hc2,hf2⟩:=ay hb2;have hz2:w.heap.size < w2.heap.size:=(sq hb2.size))
  | (go_at_call 130;refine (vH x.value _ hvs).mono ?_;rintro e w3 ⟨rfl,hb3⟩;obtain ⟨hc3,hf3⟩:=ay hb3;have hz3:w.heap.size < w3.heap.size:=(sq hb3.size))
  | go_in)
 all_goals first
  | (go_ret;refine ⟨?_,atS⟩;refine congrArg (fun b=>Ending.returned (Value.bool b)) ?_;show (_:Bool) = _;(try clear hc2 hf2);(try clear hc3 hf3);unfold Dp;(try simp only [Kz]);first | (simp [*];done) | (simp [*];omega) | (have QL:=hve.out;have QM:=hke.out;clear hve hke;(try clear hb2);(try clear hb3);simp at QL QM;simp_all;done) | (have QL:=hve.out;have QM:=hke.out;clear hve hke;(try clear hb2);(try clear hb3);simp at QL QM;simp_all;omega) | (have QL:=hve.out;have QM:=hke.out;clear hve hke;(try clear hb2);(try clear hb3);simp at QL QM;simp_all;exact Bool.or_comm _ _))
  | skip
def Q5 (x:bH):Bool:=(Cm x.key || (x.key.toList == [])&&!x.equal)&&AQ x.value&&((x.value.toList == []) || x.equal)&&(decide (0≤x.effect)&&decide (x.effect≤2))
theorem Na (x:bH) (cs:List Value) (F:List Nat) (w:World) (h:rd w x cs F) (hks:(x.key.size:Int)≤1048576) (hvs:(x.value.size:Int)≤1048576) :
 Calls Tryz.prog 151 #[.agg cs.toArray] w fun e w'=>e = .returned (.bool (Q5 x))∧Below w.heap.size w w':=by
 obtain ⟨hck,qp,hkey,kP,lD⟩:=jv h;subst hck;clear qp h;have hve:=I' (Wn (s:=x.value));have hke:=I' (Wp (s:=x.key));go_enter Tryz.func151,Tryz.ntmps151
 go_wp2_with (first
  | (go_at_call 138;refine (rX x.key _ hks).mono ?_;rintro e w2 ⟨rfl,hb2⟩;obtain ⟨hc2,hf2⟩:=ay hb2;have hz2:w.heap.size < w2.heap.size:=(sq hb2.size))
  | (go_at_call 139;refine (xQ x.value _ hvs).mono ?_;rintro e w3 ⟨rfl,hb3⟩;obtain ⟨hc3,hf3⟩:=ay hb3;have hz3:w.heap.size < w3.heap.size:=(sq hb3.size))
  | go_in)
 all_goals first
  | (go_ret;refine ⟨?_,atS⟩;refine congrArg (fun b=>Ending.returned (Value.bool b)) ?_;show (_:Bool) = _;(try clear hc2 hf2);(try clear hc3 hf3);unfold Q5;(try simp only [Kz]);first | (simp [*];done) | (simp [*];omega) | (have QL:=hve.out;have QM:=hke.out;clear hve hke;(try clear hb2);(try clear hb3);simp at QL QM;simp_all;done) | (have QL:=hve.out;have QM:=hke.out;clear hve hke;(try clear hb2);(try clear hb3);simp at QL QM;simp_all;omega) | (have QL:=hve.out;have QM:=hke.out;clear hve hke;(try clear hb2);(try clear hb3);simp at QL QM;simp_all;exact Bool.or_comm _ _))
  | skip
theorem Nb (x:bH) (cs:List Value) (F:List Nat) (w:World) (h:rd w x cs F) (hks:(x.key.size:Int)≤1048576) (hvs:(x.value.size:Int)≤1048576) :
 Calls Tryz.prog 132 #[.agg cs.toArray] w fun e w'=>e = .returned (.bool (Q5 x))∧Below w.heap.size w w':=by
 obtain ⟨hck,qp,hkey,kP,lD⟩:=jv h;subst hck;clear qp h;have hve:=I' (Wn (s:=x.value));have hke:=I' (Wp (s:=x.key));go_enter Tryz.func132,Tryz.ntmps132
 go_wp2_with (first
  | (go_at_call 129;refine (qK x.key _ hks).mono ?_;rintro e w2 ⟨rfl,hb2⟩;obtain ⟨hc2,hf2⟩:=ay hb2;have hz2:w.heap.size < w2.heap.size:=(sq hb2.size))
  | (go_at_call 130;refine (vH x.value _ hvs).mono ?_;rintro e w3 ⟨rfl,hb3⟩;obtain ⟨hc3,hf3⟩:=ay hb3;have hz3:w.heap.size < w3.heap.size:=(sq hb3.size))
  | go_in)
 all_goals first
  | (go_ret;refine ⟨?_,atS⟩;refine congrArg (fun b=>Ending.returned (Value.bool b)) ?_;show (_:Bool) = _;(try clear hc2 hf2);(try clear hc3 hf3);unfold Q5;(try simp only [Kz]);first | (simp [*];done) | (simp [*];omega) | (have QL:=hve.out;have QM:=hke.out;clear hve hke;(try clear hb2);(try clear hb3);simp at QL QM;simp_all;done) | (have QL:=hve.out;have QM:=hke.out;clear hve hke;(try clear hb2);(try clear hb3);simp at QL QM;simp_all;omega) | (have QL:=hve.out;have QM:=hke.out;clear hve hke;(try clear hb2);(try clear hb3);simp at QL QM;simp_all;exact Bool.or_comm _ _))
  | skip
def zX (l:Label):Bool:=Cm l.key&&AQ l.value
def zi (a b:Label):Bool:=Op.bytesLess a.key.toList b.key.toList
def sD (xs:List Label):Bool:=adb zX zi 6 xs
theorem Jv (xs:List Label) (A:Option Addr) (n c:Nat) (F:List Nat) (w:World) (h:Sl w xs A c F) (hn:n = xs.length) (hl:(xs.length:Int)≤1048576) (hsm:∀l∈xs,(l.key.size:Int)≤1048576∧(l.value.size:Int)≤1048576) :
 Calls Tryz.prog 97 #[.slice A n c] w fun e w'=>e = .returned (.bool (sD xs))∧Below w.heap.size w w':=by
 subst hn;have Eo:=I' hsm;clear hsm;go_enter Tryz.func97,Tryz.ntmps97;go_wp2_with fail
 go_loopw [7] (fun i wr=>∃k:Nat,k≤xs.length∧i = .int .i64 k∧Hid (∀j,j < k→rowAt zX zi xs j = true)∧Below w.heap.size w wr) (fun i _=>xs.length - (intOf i).toNat)
 case atStart=>exact ⟨0,Nat.zero_le _,rfl,(fun j hj=>by omega),atS⟩
 case round =>
  obtain ⟨k,hk,rfl,hall,hbl⟩:=hrel;by_cases hlt:k < xs.length
  ·obtain rfl | ⟨j,rfl⟩:k = 0∨∃j,k = j+1:=by cases k with | zero=>exact .inl rfl | succ j=>exact .inr ⟨j,rfl⟩
   ·obtain ⟨b,o,ck,Fk,rfl,o9,hbs,hr,hsub,hc⟩:=(Sl.ext (w':=wr) (A:=A) (c:=c) h hbl).get hlt;obtain ⟨hck,su,hkey,kP⟩:=vO hr;subst hck;have q0:wr.cell? ⟨b,o+0 * 2,none⟩ = some (.string xs[0].key):=(by exact hc 0 _ rfl);have q1:wr.cell? ⟨b,o+0 * 2+1,none⟩ = some (.string xs[0].value):=(by rw [Nat.add_assoc];exact hc 1 _ rfl);clear hc;simp only [Nat.zero_mul,Nat.add_zero] at q0 q1;have hs1:=(Eo.out xs[0] (List.getElem_mem ..)).1;have hs2:=(Eo.out xs[0] (List.getElem_mem ..)).2;cases h1:Cm xs[0].key <;> cases h2:AQ xs[0].value
    all_goals
     have hp:=rowAt_zero (ok:=zX) (less:=zi) hlt;unfold zX at hp;rw [h1,h2] at hp;simp only [Bool.false_and,Bool.and_false,Bool.and_true,Bool.and_self] at hp;change rowAt zX zi xs _ = _ at hp;have H1:=I' h1;have H2:=I' h2
     first
      | have HN:=I' (gq hall.out hp)
      | have HF:=I' (wU (most:=6) hlt hp)
     clear h1 h2 hp;go_wp2_with fail
     refine aF _ U' U' (aj _) ?_
     repeat (first
      | (apply aG
         case hw=>rfl
         simp only [Act.put,pz])
      | (apply aH
         case hw=>rfl
         case h =>
          intro wq hq;have hcq:=(aB hq).1;have lJ:=(aB hq).2;go_simp
          first
           | exact ⟨hq,rfl⟩
           | exact ⟨aQ hq _,rfl⟩
           | (first | (refine (rX xs[0].key _ hs1).mono ?_;rw [H1.out];rintro e w2 ⟨rfl,hb2⟩;exact ⟨rfl,aI hq hb2⟩) | (refine (xQ xs[0].value _ hs2).mono ?_;rw [H2.out];rintro e w2 ⟨rfl,hb2⟩;exact ⟨rfl,aI hq hb2⟩))
           | (simp only [↓IntWalk.iteOmega];exact ⟨hq,rfl⟩)
         simp only [Act.put,pz]))
     refine aN ?_;intro wn hn;replace hn:=hn.out;go_wp2
     first
      | exact ⟨⟨0+1,O',N',HN.out,ah (ak hbl _) hn⟩,by simp [intOf];omega⟩
      | (go_ret;exact ⟨by unfold sD;rw [HF.out];rfl,ah (ak hbl _) hn⟩)
   ·obtain ⟨b,o,ck,Fk,rfl,o9,hbs,hr,hsub,hc⟩:=(Sl.ext (w':=wr) (A:=A) (c:=c) h hbl).get hlt;obtain ⟨hck,su,hkey,kP⟩:=vO hr;subst hck;have q0:wr.cell? ⟨b,o+(j+1) * 2,none⟩ = some (.string xs[j+1].key):=(by exact hc 0 _ rfl);have q1:wr.cell? ⟨b,o+(j+1) * 2+1,none⟩ = some (.string xs[j+1].value):=(by rw [Nat.add_assoc];exact hc 1 _ rfl);clear hc;obtain ⟨b',o',TY,Xw,e,Ht,hbs',hr',zQ,hc'⟩:=Sl.get (Sl.ext (w':=wr) (c:=c) h hbl) (show j < xs.length by omega);obtain ⟨jU,abT,vC,rP⟩:=vO hr';subst jU;obtain ⟨rfl,rfl⟩:b' = b∧o' = o:=by simpa using e.symm
    clear e;have p0:wr.cell? ⟨b',o'+j * 2,none⟩ = some (.string xs[j].key):=(by exact hc' 0 _ rfl);have p1:wr.cell? ⟨b',o'+j * 2+1,none⟩ = some (.string xs[j].value):=(by rw [Nat.add_assoc];exact hc' 1 _ rfl);clear hc';have hwj:IntKind.i64.wrap (j:Int) = j:=IntWalk.i64_in _ O';have hjl:j < xs.length:=O';have hs1:=(Eo.out xs[j+1] (List.getElem_mem ..)).1;have hs2:=(Eo.out xs[j+1] (List.getElem_mem ..)).2;cases h1:Cm xs[j+1].key <;> cases h2:AQ xs[j+1].value <;> cases h3:Op.bytesLess xs[j].key.toList xs[j+1].key.toList
    all_goals
     have hp:=yS (ok:=zX) (less:=zi) hlt;unfold zX zi at hp;rw [h1,h2,h3] at hp;simp only [Bool.false_and,Bool.and_false,Bool.and_true,Bool.and_self] at hp;change rowAt zX zi xs _ = _ at hp;have H1:=I' h1;have H2:=I' h2
     first
      | have HN:=I' (gq hall.out hp)
      | have HF:=I' (wU (most:=6) hlt hp)
     clear h1 h2 hp;go_wp2_with fail
     refine aF _ U' U' (aj _) ?_
     repeat (first
      | (apply aG
         case hw=>rfl
         simp only [Act.put,pz])
      | (apply aH
         case hw=>rfl
         case h =>
          intro wq hq;have hcq:=(aB hq).1;have lJ:=(aB hq).2;go_simp
          first
           | exact ⟨hq,rfl⟩
           | exact ⟨aQ hq _,rfl⟩
           | (first | (refine (rX xs[j+1].key _ hs1).mono ?_;rw [H1.out];rintro e w2 ⟨rfl,hb2⟩;exact ⟨rfl,aI hq hb2⟩) | (refine (xQ xs[j+1].value _ hs2).mono ?_;rw [H2.out];rintro e w2 ⟨rfl,hb2⟩;exact ⟨rfl,aI hq hb2⟩))
           | (simp only [↓IntWalk.iteOmega];exact ⟨hq,rfl⟩)
         simp only [Act.put,pz]))
     refine aN ?_;intro wn hn;replace hn:=hn.out;go_wp2
     first
      | exact ⟨⟨j+1+1,O',N',HN.out,ah (ak hbl _) hn⟩,by simp [intOf];omega⟩
      | (go_ret;exact ⟨by unfold sD;rw [HF.out];rfl,ah (ak hbl _) hn⟩)
  ·have hkl:k = xs.length:=O';subst hkl;by_cases hm:(xs.length:Int)≤6
   ·have HF:=I' (Jy hm hall.out);go_wp2;go_ret
    exact ⟨by unfold sD;rw [HF.out];first | rfl | simp [hm],hbl⟩
   ·have HF:=I' (Jz (ok:=zX) (less:=zi) hm);go_wp2;go_ret
    exact ⟨by unfold sD;rw [HF.out];first | rfl | simp [hm],hbl⟩
theorem Jw (xs:List Label) (A:Option Addr) (n c:Nat) (F:List Nat) (w:World) (h:Sl w xs A c F) (hn:n = xs.length) (hl:(xs.length:Int)≤1048576) (hsm:∀l∈xs,(l.key.size:Int)≤1048576∧(l.value.size:Int)≤1048576) :
 Calls Tryz.prog 79 #[.slice A n c] w fun e w'=>e = .returned (.bool (sD xs))∧Below w.heap.size w w':=by
 subst hn;have Eo:=I' hsm;clear hsm;by_cases hm:(xs.length:Int)≤6
 ·go_enter Tryz.func79,Tryz.ntmps79;go_wp2_with fail
  go_loopw [3] (fun i wr=>∃k:Nat,k≤xs.length∧i = .int .i64 k∧Hid (∀j,j < k→rowAt zX zi xs j = true)∧Below w.heap.size w wr) (fun i _=>xs.length - (intOf i).toNat)
  case atStart=>exact ⟨0,Nat.zero_le _,rfl,(fun j hj=>by omega),atS⟩
  case round =>
   obtain ⟨k,hk,rfl,hall,hbl⟩:=hrel;by_cases hlt:k < xs.length
   ·obtain rfl | ⟨j,rfl⟩:k = 0∨∃j,k = j+1:=by cases k with | zero=>exact .inl rfl | succ j=>exact .inr ⟨j,rfl⟩
    ·obtain ⟨b,o,ck,Fk,rfl,o9,hbs,hr,hsub,hc⟩:=(Sl.ext (w':=wr) (A:=A) (c:=c) h hbl).get hlt;obtain ⟨hck,su,hkey,kP⟩:=vO hr;subst hck;have q0:wr.cell? ⟨b,o+0 * 2,none⟩ = some (.string xs[0].key):=(by exact hc 0 _ rfl);have q1:wr.cell? ⟨b,o+0 * 2+1,none⟩ = some (.string xs[0].value):=(by rw [Nat.add_assoc];exact hc 1 _ rfl);clear hc;simp only [Nat.zero_mul,Nat.add_zero] at q0 q1;have hs1:=(Eo.out xs[0] (List.getElem_mem ..)).1;have hs2:=(Eo.out xs[0] (List.getElem_mem ..)).2;cases h1:Cm xs[0].key <;> cases h2:AQ xs[0].value
     all_goals
      have hp:=rowAt_zero (ok:=zX) (less:=zi) hlt;unfold zX at hp;rw [h1,h2] at hp;simp only [Bool.false_and,Bool.and_false,Bool.and_true,Bool.and_self] at hp;change rowAt zX zi xs _ = _ at hp;have H1:=I' h1;have H2:=I' h2
      first
       | have HN:=I' (gq hall.out hp)
       | have HF:=I' (wU (most:=6) hlt hp)
      clear h1 h2 hp;go_wp2_with fail
      refine aF _ U' U' (aj _) ?_
      repeat (first
       | (apply aG
          case hw=>rfl
          simp only [Act.put,pz])
       | (apply aH
          case hw=>rfl
          case h =>
           intro wq hq;have hcq:=(aB hq).1;have lJ:=(aB hq).2;go_simp
           first
            | exact ⟨hq,rfl⟩
            | exact ⟨aQ hq _,rfl⟩
            | (first | (refine (qK xs[0].key _ hs1).mono ?_;rw [H1.out];rintro e w2 ⟨rfl,hb2⟩;exact ⟨rfl,aI hq hb2⟩) | (refine (vH xs[0].value _ hs2).mono ?_;rw [H2.out];rintro e w2 ⟨rfl,hb2⟩;exact ⟨rfl,aI hq hb2⟩))
            | (simp only [↓IntWalk.iteOmega];exact ⟨hq,rfl⟩)
          simp only [Act.put,pz]))
      refine aN ?_;intro wn hn;replace hn:=hn.out;go_wp2
      first
       | exact ⟨⟨0+1,O',N',HN.out,ah hbl hn⟩,by simp [intOf];omega⟩
       | (go_ret;exact ⟨by unfold sD;rw [HF.out];rfl,ah hbl hn⟩)
    ·obtain ⟨b,o,ck,Fk,rfl,o9,hbs,hr,hsub,hc⟩:=(Sl.ext (w':=wr) (A:=A) (c:=c) h hbl).get hlt;obtain ⟨hck,su,hkey,kP⟩:=vO hr;subst hck;have q0:wr.cell? ⟨b,o+(j+1) * 2,none⟩ = some (.string xs[j+1].key):=(by exact hc 0 _ rfl);have q1:wr.cell? ⟨b,o+(j+1) * 2+1,none⟩ = some (.string xs[j+1].value):=(by rw [Nat.add_assoc];exact hc 1 _ rfl);clear hc;obtain ⟨b',o',TY,Xw,e,Ht,hbs',hr',zQ,hc'⟩:=Sl.get (Sl.ext (w':=wr) (c:=c) h hbl) (show j < xs.length by omega);obtain ⟨jU,abT,vC,rP⟩:=vO hr';subst jU;obtain ⟨rfl,rfl⟩:b' = b∧o' = o:=by simpa using e.symm
     clear e;have p0:wr.cell? ⟨b',o'+j * 2,none⟩ = some (.string xs[j].key):=(by exact hc' 0 _ rfl);have p1:wr.cell? ⟨b',o'+j * 2+1,none⟩ = some (.string xs[j].value):=(by rw [Nat.add_assoc];exact hc' 1 _ rfl);clear hc';have hwj:IntKind.i64.wrap (j:Int) = j:=IntWalk.i64_in _ O';have hjl:j < xs.length:=O';have hs1:=(Eo.out xs[j+1] (List.getElem_mem ..)).1;have hs2:=(Eo.out xs[j+1] (List.getElem_mem ..)).2;cases h1:Cm xs[j+1].key <;> cases h2:AQ xs[j+1].value <;> cases h3:Op.bytesLess xs[j].key.toList xs[j+1].key.toList
     all_goals
      have hp:=yS (ok:=zX) (less:=zi) hlt;unfold zX zi at hp;rw [h1,h2,h3] at hp;simp only [Bool.false_and,Bool.and_false,Bool.and_true,Bool.and_self] at hp;change rowAt zX zi xs _ = _ at hp;have H1:=I' h1;have H2:=I' h2
      first
       | have HN:=I' (gq hall.out hp)
       | have HF:=I' (wU (most:=6) hlt hp)
      clear h1 h2 hp;go_wp2_with fail
      refine aF _ U' U' (aj _) ?_
      repeat (first
       | (apply aG
          case hw=>rfl
          simp only [Act.put,pz])
       | (apply aH
          case hw=>rfl
          case h =>
           intro wq hq;have hcq:=(aB hq).1;have lJ:=(aB hq).2;go_simp
           first
            | exact ⟨hq,rfl⟩
            | exact ⟨aQ hq _,rfl⟩
            | (first | (refine (qK xs[j+1].key _ hs1).mono ?_;rw [H1.out];rintro e w2 ⟨rfl,hb2⟩;exact ⟨rfl,aI hq hb2⟩) | (refine (vH xs[j+1].value _ hs2).mono ?_;rw [H2.out];rintro e w2 ⟨rfl,hb2⟩;exact ⟨rfl,aI hq hb2⟩))
            | (simp only [↓IntWalk.iteOmega];exact ⟨hq,rfl⟩)
          simp only [Act.put,pz]))
      refine aN ?_;intro wn hn;replace hn:=hn.out;go_wp2
      first
       | exact ⟨⟨j+1+1,O',N',HN.out,ah hbl hn⟩,by simp [intOf];omega⟩
       | (go_ret;exact ⟨by unfold sD;rw [HF.out];rfl,ah hbl hn⟩)
   ·have hkl:k = xs.length:=O';subst hkl;have HF:=I' (Jy hm hall.out);go_wp2;go_ret
    exact ⟨by unfold sD;rw [HF.out];rfl,hbl⟩
 ·have HF:=I' (Jz (ok:=zX) (less:=zi) hm);go_enter Tryz.func79,Tryz.ntmps79;go_wp2;go_ret
  exact ⟨by unfold sD;rw [HF.out];rfl,atS⟩
end Go.Proofs.YtnedlmlpeplnfaaGreat
