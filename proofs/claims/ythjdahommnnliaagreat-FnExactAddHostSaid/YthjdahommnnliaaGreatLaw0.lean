/- Small lemmas for laws. No condition. -/
import Derived.Test.YthjdahommnnliaaGreatRegion
import Derived.Test.YthjdahommnnliaaGreatKit
import Derived.Test.YthjdahommnnliaaGreatEq
import Derived.Test.YthjdahommnnliaaGreatAppendAt
import Derived.Lib.Small
import Derived.Lib.Bytealg
import Derived.Test.YthjdahommnnliaaGreatSz
import Derived.Test.YthjdahommnnliaaGreatAt
import Derived.Test.YthjdahommnnliaaGreatGr
import Derived.Test.YthjdahommnnliaaGreatData
namespace Go.Proofs.YthjdahommnnliaaGreat
open Go.ChangeShapes Go.WideShapes Go.ChangeAt Go.RowKit
set_option linter.unusedVariables false
set_option linter.unusedSimpArgs false
theorem aZ {α:Type} [Dat α] {w w':World} {x:α} {cs:List Value} {F:List Nat} (h:rd w x cs F) (hb:Below w.heap.size w w'):rd w' x cs F :=
 Dat.frame h (fun b hb'=>hb.block b (Dat.lt h b hb')) hb.size
end Go.Proofs.YthjdahommnnliaaGreat
namespace Go.Proofs.YthjdahommnnliaaGreat
open Go.ChangeShapes Go.WideShapes Go.ChangeAt Go.RowKit
set_option linter.unusedVariables false
set_option linter.unusedSimpArgs false
set_option maxRecDepth 100000 in
theorem abm (a b:ByteArray) (w:World):Calls Tryz.prog 193 #[.string a,.string b] w fun e w'=>e = .returned (.int .i64 (Lib.compareBytes a.data.toList b.data.toList))∧w' = w:=by
 go_enter Tryz.func193,Tryz.ntmps193
 go_wp2
 rw [run_callFunc_extern Tryz.func219 (by kernel_rfl) (by kernel_rfl) (by kernel_rfl) (e:=Extern.BytealgCompare.compare) (by kernel_rfl),Lib.run_compareString]
 simp only [Result.andThen]
 rw [Oper.upon_value]
 go_wp2
 go_ret
 exact ⟨rfl,rfl⟩
theorem N8 (a b:ByteArray) (w:World):Calls Tryz.prog 154 #[.string a,.string b] w fun e w'=>e = .returned (.int .i64 (Lib.compareBytes a.data.toList b.data.toList))∧w' = w:=by
 go_enter Tryz.func154,Tryz.ntmps154
 go_wp2_with fail
 refine (abm a b _).mono ?_
 rintro e w' ⟨rfl,rfl⟩
 go_wp2
 go_ret
 exact ⟨rfl,rfl⟩
end Go.Proofs.YthjdahommnnliaaGreat
namespace Go.Proofs.YthjdahommnnliaaGreat
open Go.ChangeShapes Go.WideShapes Go.ChangeAt Go.RowKit
set_option linter.unusedVariables false
set_option linter.unusedSimpArgs false
theorem BH {xs:List iU} (h:(kL iU.wt xs:Int)≤1048576):((xs.length:Int)≤1048576)∧∀l∈xs,(l.key.size:Int)≤1048576∧(l.value.size:Int)≤1048576:=by
 refine ⟨by have:=gJ iU.wt xs;omega,fun l hl=>?_⟩
 have h1:=Bq (f:=iU.wt) hl
 have e:iU.wt l = l.key.size+l.value.size:=rfl
 omega
theorem FQ {xs:List bH} (h:(kL bH.wt xs:Int)≤1048576):((xs.length:Int)≤1048576)∧∀l∈xs,(l.key.size:Int)≤1048576∧(l.value.size:Int)≤1048576:=by
 refine ⟨by have:=gJ bH.wt xs;omega,fun l hl=>?_⟩
 have h1:=Bq (f:=bH.wt) hl
 have e:bH.wt l = l.key.size+l.value.size:=rfl
 omega
theorem yg {α:Type} (p:α→Bool) (xs:List α):pK p xs = -1∨∃k:Nat,k < xs.length∧pK p xs = k:=by
 have:=Nc (p:=p) xs
 by_cases h:pK p xs < 0
 ·left;omega
 ·right;exact ⟨(pK p xs).toNat,by omega,by omega⟩
theorem Aa {xs:List Need} (h:(kL Need.wt xs:Int)≤1048576):((xs.length:Int)≤1048576)∧(∀l∈xs,(l.key.size:Int)≤1048576∧(l.values.length:Int)≤1048576∧∀v∈l.values,(v.size:Int)≤1048576):=by
 refine ⟨by have:=gJ Need.wt xs;omega,fun l hl=>?_⟩
 have h1:=Bq (f:=Need.wt) hl
 have e:Need.wt l = l.key.size+wtS l.values:=rfl
 have h2:=gJ ByteArray.size l.values
 unfold wtS at e
 refine ⟨by omega,by omega,fun v hv=>?_⟩
 have h3:=Bq (f:=ByteArray.size) hv
 omega
theorem sW {xs:List Label} (h:(kL Label.wt xs:Int)≤1048576):((xs.length:Int)≤1048576)∧∀l∈xs,(l.key.size:Int)≤1048576∧(l.value.size:Int)≤1048576:=by
 refine ⟨by have:=gJ Label.wt xs;omega,fun l hl=>?_⟩
 have h1:=Bq (f:=Label.wt) hl
 have e:Label.wt l = l.key.size+l.value.size:=rfl
 omega
end Go.Proofs.YthjdahommnnliaaGreat
namespace Go.Proofs.YthjdahommnnliaaGreat
open Go.ChangeShapes Go.WideShapes Go.ChangeAt Go.RowKit
set_option linter.unusedVariables false
set_option linter.unusedSimpArgs false
theorem qj:∀a b:List UInt8,-1≤Lib.compareBytes a b∧Lib.compareBytes a b≤1
 | [],[]=>by decide
 | [],_ :: _=>by simp [Lib.compareBytes]
 | _ :: _,[]=>by simp [Lib.compareBytes]
 | x :: a,y :: b=>by
   have:=qj a b
   unfold Lib.compareBytes
   repeat' split
   all_goals omega
theorem J5:∀a b:List UInt8,Lib.compareBytes a b = 0↔a = b
 | [],[]=>by simp [Lib.compareBytes]
 | [],_ :: _=>by simp [Lib.compareBytes]
 | _ :: _,[]=>by simp [Lib.compareBytes]
 | x :: a,y :: b=>by
   have ih:=J5 a b
   unfold Lib.compareBytes
   by_cases h1:x < y
   ·rw [if_pos h1]
    constructor
    ·intro h;omega
    ·intro h;injection h with h2 _;subst h2;exact absurd h1 (UInt8.lt_irrefl _)
   ·rw [if_neg h1]
    by_cases h2:y < x
    ·rw [if_pos h2]
     constructor
     ·intro h;omega
     ·intro h;injection h with h3 _;subst h3;exact absurd h2 (UInt8.lt_irrefl _)
    ·rw [if_neg h2]
     have hxy:x = y:=UInt8.le_antisymm (UInt8.not_lt.1 h2) (UInt8.not_lt.1 h1)
     subst hxy
     rw [ih]
     simp
theorem Wx:∀a b:List UInt8,Lib.compareBytes a b < 0↔Op.bytesLess a b = true
 | [],[]=>by simp [Lib.compareBytes,Op.bytesLess]
 | [],_ :: _=>by simp [Lib.compareBytes,Op.bytesLess]
 | _ :: _,[]=>by simp [Lib.compareBytes,Op.bytesLess]
 | x :: a,y :: b=>by
   have ih:=Wx a b
   unfold Lib.compareBytes Op.bytesLess
   by_cases h1:x < y
   ·rw [if_pos h1];simp [h1]
   ·rw [if_neg h1]
    by_cases h2:y < x
    ·rw [if_pos h2]
     have hne:(x == y) = false:=by rw [beq_eq_false_iff_ne];rintro rfl;exact absurd h2 (UInt8.lt_irrefl _)
     simp [h1,hne]
    ·rw [if_neg h2]
     have hxy:x = y:=UInt8.le_antisymm (UInt8.not_lt.1 h2) (UInt8.not_lt.1 h1)
     subst hxy
     rw [ih]
     simp [h1]
end Go.Proofs.YthjdahommnnliaaGreat
namespace Go.Proofs.YthjdahommnnliaaGreat
open Go.ChangeShapes Go.WideShapes Go.ChangeAt Go.RowKit
set_option linter.unusedVariables false
set_option linter.unusedSimpArgs false
def ao0 (x y:iU):List Int:=[Lib.compareBytes x.key.data.toList y.key.data.toList,Lib.compareBytes x.value.data.toList y.value.data.toList,Lib.compareInt x.effect y.effect]
set_option maxRecDepth 100000 in
set_option maxHeartbeats 1000000 in
theorem compareTaints_gr (x y:iU) (cs ds:List Value) (F G:List Nat) (w:World) (h:rd w x cs F) (h':rd w y ds G) :
 Calls Tryz.prog 173 #[.agg cs.toArray,.agg ds.toArray] w fun e w'=>e = .returned (.int .i64 (Qa (ao0 x y)))∧Gr w w':=by
 obtain ⟨hck,hF1,xO,xk,zT⟩:=oK h
 obtain ⟨jU,hF2,vC,rP,uY⟩:=oK h'
 subst hck jU
 subst hF1 hF2
 have hr1:=qj x.key.data.toList y.key.data.toList
 have hr2:=qj x.value.data.toList y.value.data.toList
 have hr3:=BU x.effect y.effect
 go_enter Tryz.func173,Tryz.ntmps173
 go_wp2_with fail
 refine nS ((w.alloc (.cells #[.string x.key,.string x.value,.int .i64 x.effect] 130)).alloc (.cells #[.string y.key,.string y.value,.int .i64 y.effect] 130)) [0,1,2,3,5,6,7,8,10,11,12,13] [4,9,14,15,16,17] (by kernel_rfl) (by kernel_rfl) (fun _ _ d _ _ h=>by cases d <;> exact h) (aj _) ?_
 simp only [pick,List.getElem?_cons_succ,List.getElem?_cons_zero]
 iterate 12
  (apply dR
   case hy =>
    exact Zab5
   simp only [Act.put,pz])
 refine fE ?_
 have hbx:=aA (aj ((w.alloc (.cells #[.string x.key,.string x.value,.int .i64 x.effect] 130)).alloc (.cells #[.string y.key,.string y.value,.int .i64 y.effect] 130)))
 refine aK rfl (fun K hK=>?_)
 go_simp
 refine (N8 x.key y.key _).mono ?_
 rintro e wz ⟨rfl,hw⟩
 simp only [hw]
 clear hw wz
 refine hK _ _ hbx (fun _=>?_)
 try simp only [Act.put,pz]
 clear hK K
 refine aK rfl (fun K hK=>?_)
 go_simp
 refine (N8 x.value y.value _).mono ?_
 rintro e wz ⟨rfl,hw⟩
 simp only [hw]
 clear hw wz
 refine hK _ _ hbx (fun _=>?_)
 try simp only [Act.put,pz]
 clear hK K
 refine aK rfl (fun K hK=>?_)
 go_simp
 refine (EI x.effect y.effect _).mono ?_
 rintro e wz ⟨rfl,hw⟩
 simp only [hw]
 clear hw wz
 refine hK _ _ hbx (fun _=>?_)
 try simp only [Act.put,pz]
 clear hK K
 refine aK rfl (fun K hK=>?_)
 go_simp
 replace hbx:=ak hbx (.cells #[.int .i64 (Lib.compareBytes x.key.data.toList y.key.data.toList),.int .i64 (Lib.compareBytes x.value.data.toList y.value.data.toList),.int .i64 (Lib.compareInt x.effect y.effect)] 3)
 refine hK _ _ hbx (fun _=>?_)
 try simp only [Act.put,pz]
 clear hK K
 have hS:=Sl.ape (Sl.ints3 ((w.alloc (.cells #[.string x.key,.string x.value,.int .i64 x.effect] 130)).alloc (.cells #[.string y.key,.string y.value,.int .i64 y.effect] 130)) _ _ _ 3 (I64.small hr1) (I64.small hr2) (I64.small hr3) (w.heap.size+2) (by simp))
 refine aK rfl (fun K hK=>?_)
 go_simp
 refine (afl _ _ 3 _ _ _ hS rfl (by simp)).mono ?_
 rintro e wz ⟨rfl,hw⟩
 simp only [hw]
 clear hw wz
 refine hK _ _ hbx (fun _=>?_)
 try simp only [Act.put,pz]
 clear hK K
 refine aK rfl (fun K hK=>?_)
 go_simp
 refine hK _ _ hbx (fun _=>?_)
 try simp only [Act.put,pz]
 clear hK K
 refine dX ?_
 go_wp2
 go_ret
 exact ⟨rfl,(by repeat (first | with_reducible exact Gr.refl _ | with_reducible refine Gr.alloc ?_ _ | with_reducible refine Gr.drew ?_))⟩
theorem acE (x y:iU) (cs ds:List Value) (F G:List Nat) (w:World) (h:rd w x cs F) (h':rd w y ds G) :
 Calls Tryz.prog 173 #[.agg cs.toArray,.agg ds.toArray] w fun e w'=>e = .returned (.int .i64 (Qa (ao0 x y)))∧Below w.heap.size w w' :=
 (compareTaints_gr x y cs ds F G w h h').mono fun _ _ hh=>⟨hh.1,hh.2.below⟩
end Go.Proofs.YthjdahommnnliaaGreat
namespace Go.Proofs.YthjdahommnnliaaGreat
open Go.ChangeShapes Go.WideShapes Go.ChangeAt Go.RowKit
set_option linter.unusedVariables false
set_option linter.unusedSimpArgs false
def aag (a b:Bool):Int:=if a == b then 0 else if b then -1 else 1
theorem anp (a b:Bool):-1≤aag a b∧aag a b≤1:=by cases a <;> cases b <;> decide
theorem adw (a b:Bool) (w:World):Calls Tryz.prog 206 #[.bool a,.bool b] w fun e w'=>e = .returned (.int .i64 (aag a b))∧w' = w:=by
 cases a <;> cases b
 all_goals
  go_enter Tryz.func206,Tryz.ntmps206
  go_wp2
  go_ret
  exact ⟨rfl,rfl⟩
theorem Sl.ints4 (W:World) (a b c d:Int) (t:TypeId) (ha:I64 a) (hb:I64 b) (hc:I64 c) (hd:I64 d) (N:Nat) (hN:W.heap.size = N):Sl (W.alloc (.cells #[.int .i64 a,.int .i64 b,.int .i64 c,.int .i64 d] t)) [a,b,c,d] (some ⟨N,0,none⟩) 4 [N]:=by
 subst hN
 exact Sl.Va W [a,b,c,d] t (by intro x hx;simp only [List.mem_cons,List.not_mem_nil,or_false] at hx;rcases hx with rfl | rfl | rfl | rfl <;> assumption) (by unfold maxLen;simp)
def anq (x y:bH):List Int:=[Lib.compareBytes x.key.data.toList y.key.data.toList,aag x.equal y.equal,Lib.compareBytes x.value.data.toList y.value.data.toList,Lib.compareInt x.effect y.effect]
set_option maxRecDepth 100000 in
set_option maxHeartbeats 1000000 in
theorem compareTolerances_gr (x y:bH) (cs ds:List Value) (F G:List Nat) (w:World) (h:rd w x cs F) (h':rd w y ds G) :
 Calls Tryz.prog 166 #[.agg cs.toArray,.agg ds.toArray] w fun e w'=>e = .returned (.int .i64 (Qa (anq x y)))∧Gr w w':=by
 obtain ⟨hck,hF1,xO,xk,zT⟩:=jv h
 obtain ⟨jU,hF2,vC,rP,uY⟩:=jv h'
 subst hck jU
 subst hF1 hF2
 have hr1:=qj x.key.data.toList y.key.data.toList
 have hr4:=anp x.equal y.equal
 have hr2:=qj x.value.data.toList y.value.data.toList
 have hr3:=BU x.effect y.effect
 go_enter Tryz.func166,Tryz.ntmps166
 go_wp2_with fail
 refine nS ((w.alloc (.cells #[.string x.key,.bool x.equal,.string x.value,.int .i64 x.effect] 132)).alloc (.cells #[.string y.key,.bool y.equal,.string y.value,.int .i64 y.effect] 132)) [0,1,2,3,5,6,7,8,10,11,12,13,15,16,17,18] [4,9,14,19,20,21,22] (by kernel_rfl) (by kernel_rfl) (fun _ _ d _ _ h=>by cases d <;> exact h) (aj _) ?_
 simp only [pick,List.getElem?_cons_succ,List.getElem?_cons_zero]
 iterate 16
  (apply dR
   case hy =>
    exact Zab5
   simp only [Act.put,pz])
 refine fE ?_
 have hbx:=aA (aj ((w.alloc (.cells #[.string x.key,.bool x.equal,.string x.value,.int .i64 x.effect] 132)).alloc (.cells #[.string y.key,.bool y.equal,.string y.value,.int .i64 y.effect] 132)))
 refine aK rfl (fun K hK=>?_)
 go_simp
 refine (N8 x.key y.key _).mono ?_
 rintro e wz ⟨rfl,hw⟩
 simp only [hw]
 clear hw wz
 refine hK _ _ hbx (fun _=>?_)
 try simp only [Act.put,pz]
 clear hK K
 refine aK rfl (fun K hK=>?_)
 go_simp
 refine (adw x.equal y.equal _).mono ?_
 rintro e wz ⟨rfl,hw⟩
 simp only [hw]
 clear hw wz
 refine hK _ _ hbx (fun _=>?_)
 try simp only [Act.put,pz]
 clear hK K
 refine aK rfl (fun K hK=>?_)
 go_simp
 refine (N8 x.value y.value _).mono ?_
 rintro e wz ⟨rfl,hw⟩
 simp only [hw]
 clear hw wz
 refine hK _ _ hbx (fun _=>?_)
 try simp only [Act.put,pz]
 clear hK K
 refine aK rfl (fun K hK=>?_)
 go_simp
 refine (EI x.effect y.effect _).mono ?_
 rintro e wz ⟨rfl,hw⟩
 simp only [hw]
 clear hw wz
 refine hK _ _ hbx (fun _=>?_)
 try simp only [Act.put,pz]
 clear hK K
 refine aK rfl (fun K hK=>?_)
 go_simp
 replace hbx:=ak hbx (.cells #[.int .i64 (Lib.compareBytes x.key.data.toList y.key.data.toList),.int .i64 (aag x.equal y.equal),.int .i64 (Lib.compareBytes x.value.data.toList y.value.data.toList),.int .i64 (Lib.compareInt x.effect y.effect)] 3)
 refine hK _ _ hbx (fun _=>?_)
 try simp only [Act.put,pz]
 clear hK K
 have hS:=Sl.ape (Sl.ints4 ((w.alloc (.cells #[.string x.key,.bool x.equal,.string x.value,.int .i64 x.effect] 132)).alloc (.cells #[.string y.key,.bool y.equal,.string y.value,.int .i64 y.effect] 132)) _ _ _ _ 3 (I64.small hr1) (I64.small hr4) (I64.small hr2) (I64.small hr3) (w.heap.size+2) (by simp))
 refine aK rfl (fun K hK=>?_)
 go_simp
 refine (afl _ _ 4 _ _ _ hS rfl (by simp)).mono ?_
 rintro e wz ⟨rfl,hw⟩
 simp only [hw]
 clear hw wz
 refine hK _ _ hbx (fun _=>?_)
 try simp only [Act.put,pz]
 clear hK K
 refine aK rfl (fun K hK=>?_)
 go_simp
 refine hK _ _ hbx (fun _=>?_)
 try simp only [Act.put,pz]
 clear hK K
 refine dX ?_
 go_wp2
 go_ret
 exact ⟨rfl,(by repeat (first | with_reducible exact Gr.refl _ | with_reducible refine Gr.alloc ?_ _ | with_reducible refine Gr.drew ?_))⟩
theorem Xd (x y:bH) (cs ds:List Value) (F G:List Nat) (w:World) (h:rd w x cs F) (h':rd w y ds G) :
 Calls Tryz.prog 166 #[.agg cs.toArray,.agg ds.toArray] w fun e w'=>e = .returned (.int .i64 (Qa (anq x y)))∧Below w.heap.size w w' :=
 (compareTolerances_gr x y cs ds F G w h h').mono fun _ _ hh=>⟨hh.1,hh.2.below⟩
end Go.Proofs.YthjdahommnnliaaGreat
namespace Go.Proofs.YthjdahommnnliaaGreat
open Go.ChangeShapes Go.WideShapes Go.ChangeAt Go.RowKit
set_option linter.unusedVariables false
set_option linter.unusedSimpArgs false
def qo (x y:iU):Bool:=decide (Qa (ao0 x y) < 0)
theorem aiw {x y:iU} (h:(x.key.toList == y.key.toList) = false):qo x y = Op.bytesLess x.key.toList y.key.toList:=by
 have h1:Lib.compareBytes x.key.data.toList y.key.data.toList≠0:=fun e=>by
  exact Zacd
 unfold qo ao0
 simp only [Qa,if_neg h1]
 exact Zacb
theorem aeU {x y:iU} (hk:(x.key.toList == y.key.toList) = true) (h:(x.value.toList == y.value.toList) = false):qo x y = Op.bytesLess x.value.toList y.value.toList:=by
 have h0:Lib.compareBytes x.key.data.toList y.key.data.toList = 0:=by rw [J5,← ByteArray.toList_eq,← ByteArray.toList_eq];simpa using hk
 have h1:Lib.compareBytes x.value.data.toList y.value.data.toList≠0:=fun e=>by
  exact Zacd
 unfold qo ao0
 simp only [Qa,if_pos h0,if_neg h1]
 exact Zacb
theorem adu {x y:iU} (hk:(x.key.toList == y.key.toList) = true) (h:(x.value.toList == y.value.toList) = true):qo x y = decide (x.effect < y.effect):=by
 have h0:Lib.compareBytes x.key.data.toList y.key.data.toList = 0:=by rw [J5,← ByteArray.toList_eq,← ByteArray.toList_eq];simpa using hk
 have h1:Lib.compareBytes x.value.data.toList y.value.data.toList = 0:=by rw [J5,← ByteArray.toList_eq,← ByteArray.toList_eq];simpa using h
 unfold qo ao0
 simp only [Qa,if_pos h0,if_pos h1]
 exact Zacp
set_option maxRecDepth 100000 in
set_option maxHeartbeats 1000000 in
theorem anf (x y:iU) (cs ds:List Value) (F G:List Nat) (w:World) (h:rd w x cs F) (h':rd w y ds G) :
 Calls Tryz.prog 149 #[.agg cs.toArray,.agg ds.toArray] w fun e w'=>e = .returned (.bool (qo x y))∧Below w.heap.size w w':=by
 obtain ⟨hck,hF1,xO,xk,zT⟩:=oK h
 obtain ⟨jU,hF2,vC,rP,uY⟩:=oK h'
 subst hck jU
 subst hF1 hF2
 cases h1:(x.key.toList == y.key.toList) with
 | false =>
   rw [aiw h1]
   go_enter Tryz.func149,Tryz.ntmps149
   exact Zabo
 | true =>
   cases h2:(x.value.toList == y.value.toList) with
   | false =>
     rw [aeU h1 h2]
     go_enter Tryz.func149,Tryz.ntmps149
     exact Zabo
   | true =>
     rw [adu h1 h2]
     go_enter Tryz.func149,Tryz.ntmps149
     exact Zabo
end Go.Proofs.YthjdahommnnliaaGreat
namespace Go.Proofs.YthjdahommnnliaaGreat
open Go.ChangeShapes Go.WideShapes Go.ChangeAt Go.RowKit
set_option linter.unusedVariables false
set_option linter.unusedSimpArgs false
def vJ (x y:bH):Bool:=decide (Qa (anq x y) < 0)
theorem anr {x y:bH} (h:(x.key.toList == y.key.toList) = false):vJ x y = Op.bytesLess x.key.toList y.key.toList:=by
 have h1:Lib.compareBytes x.key.data.toList y.key.data.toList≠0:=fun e=>by
  exact Zacd
 unfold vJ anq
 simp only [Qa,if_neg h1]
 exact Zacb
theorem aiA {x y:bH} (hk:(x.key.toList == y.key.toList) = true) (h:x.equal≠y.equal):vJ x y = y.equal:=by
 have h0:Lib.compareBytes x.key.data.toList y.key.data.toList = 0:=by rw [J5,← ByteArray.toList_eq,← ByteArray.toList_eq];simpa using hk
 unfold vJ anq
 simp only [Qa,if_pos h0]
 cases hx:x.equal <;> cases hy:y.equal <;> simp_all [aag]
theorem aiB {x y:bH} (hk:(x.key.toList == y.key.toList) = true) (hq:x.equal = y.equal) (h:(x.value.toList == y.value.toList) = false):vJ x y = Op.bytesLess x.value.toList y.value.toList:=by
 have h0:Lib.compareBytes x.key.data.toList y.key.data.toList = 0:=by rw [J5,← ByteArray.toList_eq,← ByteArray.toList_eq];simpa using hk
 have h1:Lib.compareBytes x.value.data.toList y.value.data.toList≠0:=fun e=>by
  exact Zacd
 have h2:aag x.equal y.equal = 0:=by unfold aag;simp [hq]
 unfold vJ anq
 simp only [Qa,if_pos h0,if_pos h2,if_neg h1]
 exact Zacb
theorem ahL {x y:bH} (hk:(x.key.toList == y.key.toList) = true) (hq:x.equal = y.equal) (h:(x.value.toList == y.value.toList) = true):vJ x y = decide (x.effect < y.effect):=by
 have h0:Lib.compareBytes x.key.data.toList y.key.data.toList = 0:=by rw [J5,← ByteArray.toList_eq,← ByteArray.toList_eq];simpa using hk
 have h1:Lib.compareBytes x.value.data.toList y.value.data.toList = 0:=by rw [J5,← ByteArray.toList_eq,← ByteArray.toList_eq];simpa using h
 have h2:aag x.equal y.equal = 0:=by unfold aag;simp [hq]
 unfold vJ anq
 simp only [Qa,if_pos h0,if_pos h2,if_pos h1]
 exact Zacp
set_option maxRecDepth 100000 in
set_option maxHeartbeats 1000000 in
theorem aiC (x y:bH) (cs ds:List Value) (F G:List Nat) (w:World) (h:rd w x cs F) (h':rd w y ds G) :
 Calls Tryz.prog 146 #[.agg cs.toArray,.agg ds.toArray] w fun e w'=>e = .returned (.bool (vJ x y))∧Below w.heap.size w w':=by
 obtain ⟨hck,hF1,xO,xk,zT⟩:=jv h
 obtain ⟨jU,hF2,vC,rP,uY⟩:=jv h'
 subst hck jU
 subst hF1 hF2
 cases h1:(x.key.toList == y.key.toList) with
 | false =>
   rw [anr h1]
   go_enter Tryz.func146,Tryz.ntmps146
   exact Zabo
 | true =>
   by_cases h3:x.equal = y.equal
   ·cases h2:(x.value.toList == y.value.toList) with
    | false =>
      rw [aiB h1 h3 h2]
      have h4:(x.equal == y.equal) = true:=by simp [h3]
      go_enter Tryz.func146,Tryz.ntmps146
      exact Zabo
    | true =>
      rw [ahL h1 h3 h2]
      have h4:(x.equal == y.equal) = true:=by simp [h3]
      go_enter Tryz.func146,Tryz.ntmps146
      exact Zabo
   ·rw [aiA h1 h3]
    have h4:(x.equal == y.equal) = false:=by simp [h3]
    go_enter Tryz.func146,Tryz.ntmps146
    exact Zabo
end Go.Proofs.YthjdahommnnliaaGreat
