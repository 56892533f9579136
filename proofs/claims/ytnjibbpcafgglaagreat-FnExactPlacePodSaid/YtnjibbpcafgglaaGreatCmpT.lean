/- compareTaints. No condition. -/
import Derived.Test.YtnjibbpcafgglaaGreatCmp0
namespace Go.Proofs.YtnjibbpcafgglaaGreat
open Go.ChangeShapes Go.WideShapes Go.ChangeAt Go.RowKit
set_option linter.unusedVariables false
set_option linter.unusedSimpArgs false
def ao0 (x y:iU):List Int:=[Lib.compareBytes x.key.data.toList y.key.data.toList,Lib.compareBytes x.value.data.toList y.value.data.toList,Lib.compareInt x.effect y.effect]
set_option maxRecDepth 100000 in
set_option maxHeartbeats 1000000 in
theorem acE (x y:iU) (cs ds:List Value) (F G:List Nat) (w:World) (h:rd w x cs F) (h':rd w y ds G) :
 Calls Tryz.prog 145 #[.agg cs.toArray,.agg ds.toArray] w fun e w'=>e = .returned (.int .i64 (Qa (ao0 x y)))∧Below w.heap.size w w':=by
 obtain ⟨hck,hF1,xO,xk,zT⟩:=oK h
 obtain ⟨jU,hF2,vC,rP,uY⟩:=oK h'
 subst hck jU
 subst hF1 hF2
 have hr1:=qj x.key.data.toList y.key.data.toList
 have hr2:=qj x.value.data.toList y.value.data.toList
 have hr3:=BU x.effect y.effect
 go_enter Tryz.func145,Tryz.ntmps145
 go_wp2_with fail
 refine nS ((w.alloc (.cells #[.string x.key,.string x.value,.int .i64 x.effect] 129)).alloc (.cells #[.string y.key,.string y.value,.int .i64 y.effect] 129)) [0,1,2,3,5,6,7,8,10,11,12,13] [4,9,14,15,16,17] (by kernel_rfl) (by kernel_rfl) (fun _ _ d _ _ h=>by cases d <;> exact h) (aj _) ?_
 simp only [pick,List.getElem?_cons_succ,List.getElem?_cons_zero]
 iterate 12
  (apply dR
   case hy =>
    refine Or.inl ⟨rfl,fun wq hq=>?_⟩
    have hcq:=(aB hq).1
    go_simp
    try rfl
   simp only [Act.put,pz])
 refine fE ?_
 have hbx:=aA (aj ((w.alloc (.cells #[.string x.key,.string x.value,.int .i64 x.effect] 129)).alloc (.cells #[.string y.key,.string y.value,.int .i64 y.effect] 129)))
 refine aK rfl (fun K hK=>?_)
 go_simp
 refine (N8 x.key y.key _).mono ?_
 rintro e wz ⟨rfl,hw⟩
 simp only [hw]
 clear hw wz
 refine hK _ _ hbx (fun _=>?_)
 try simp only [Act.put,pz]
 clear hK K
 refine aK rfl (fun K hK=>?_)
 go_simp
 refine (N8 x.value y.value _).mono ?_
 rintro e wz ⟨rfl,hw⟩
 simp only [hw]
 clear hw wz
 refine hK _ _ hbx (fun _=>?_)
 try simp only [Act.put,pz]
 clear hK K
 refine aK rfl (fun K hK=>?_)
 go_simp
 refine (EI x.effect y.effect _).mono ?_
 rintro e wz ⟨rfl,hw⟩
 simp only [hw]
 clear hw wz
 refine hK _ _ hbx (fun _=>?_)
 try simp only [Act.put,pz]
 clear hK K
 refine aK rfl (fun K hK=>?_)
 go_simp
 replace hbx:=ak hbx (.cells #[.int .i64 (Lib.compareBytes x.key.data.toList y.key.data.toList),.int .i64 (Lib.compareBytes x.value.data.toList y.value.data.toList),.int .i64 (Lib.compareInt x.effect y.effect)] 3)
 refine hK _ _ hbx (fun _=>?_)
 try simp only [Act.put,pz]
 clear hK K
 have hS:=Sl.ape (Sl.ints3 ((w.alloc (.cells #[.string x.key,.string x.value,.int .i64 x.effect] 129)).alloc (.cells #[.string y.key,.string y.value,.int .i64 y.effect] 129)) _ _ _ 3 (I64.small hr1) (I64.small hr2) (I64.small hr3) (w.heap.size+2) (by simp))
 refine aK rfl (fun K hK=>?_)
 go_simp
 refine (afl _ _ 3 _ _ _ hS rfl (by simp)).mono ?_
 rintro e wz ⟨rfl,hw⟩
 simp only [hw]
 clear hw wz
 refine hK _ _ hbx (fun _=>?_)
 try simp only [Act.put,pz]
 clear hK K
 refine aK rfl (fun K hK=>?_)
 go_simp
 refine hK _ _ hbx (fun _=>?_)
 try simp only [Act.put,pz]
 clear hK K
 refine dX ?_
 go_wp2
 go_ret
 exact ⟨rfl,ah (ak (ak (aj _) _) _) hbx⟩
end Go.Proofs.YtnjibbpcafgglaaGreat
namespace Go.Proofs.YtnjibbpcafgglaaGreat
open Go.ChangeShapes Go.WideShapes Go.ChangeAt Go.RowKit
set_option linter.unusedVariables false
set_option linter.unusedSimpArgs false
def qo (x y:iU):Bool:=decide (Qa (ao0 x y) < 0)
theorem aiw {x y:iU} (h:(x.key.toList == y.key.toList) = false):qo x y = Op.bytesLess x.key.toList y.key.toList:=by
 have h1:Lib.compareBytes x.key.data.toList y.key.data.toList≠0:=fun e=>by
  rw [J5,← ByteArray.toList_eq,← ByteArray.toList_eq] at e
  simp [e] at h
 unfold qo ao0
 simp only [Qa,if_neg h1]
 rw [Bool.eq_iff_iff,decide_eq_true_eq,Wx,ByteArray.toList_eq,ByteArray.toList_eq]
theorem aeU {x y:iU} (hk:(x.key.toList == y.key.toList) = true) (h:(x.value.toList == y.value.toList) = false):qo x y = Op.bytesLess x.value.toList y.value.toList:=by
 have h0:Lib.compareBytes x.key.data.toList y.key.data.toList = 0:=by rw [J5,← ByteArray.toList_eq,← ByteArray.toList_eq];simpa using hk
 have h1:Lib.compareBytes x.value.data.toList y.value.data.toList≠0:=fun e=>by
  rw [J5,← ByteArray.toList_eq,← ByteArray.toList_eq] at e
  simp [e] at h
 unfold qo ao0
 simp only [Qa,if_pos h0,if_neg h1]
 rw [Bool.eq_iff_iff,decide_eq_true_eq,Wx,ByteArray.toList_eq,ByteArray.toList_eq]
theorem adu {x y:iU} (hk:(x.key.toList == y.key.toList) = true) (h:(x.value.toList == y.value.toList) = true):qo x y = decide (x.effect < y.effect):=by
 have h0:Lib.compareBytes x.key.data.toList y.key.data.toList = 0:=by rw [J5,← ByteArray.toList_eq,← ByteArray.toList_eq];simpa using hk
 have h1:Lib.compareBytes x.value.data.toList y.value.data.toList = 0:=by rw [J5,← ByteArray.toList_eq,← ByteArray.toList_eq];simpa using h
 unfold qo ao0
 simp only [Qa,if_pos h0,if_pos h1]
 unfold Lib.compareInt
 rw [Bool.eq_iff_iff,decide_eq_true_eq,decide_eq_true_eq]
 repeat' split
 all_goals omega
set_option maxRecDepth 100000 in
set_option maxHeartbeats 1000000 in
theorem anf (x y:iU) (cs ds:List Value) (F G:List Nat) (w:World) (h:rd w x cs F) (h':rd w y ds G) :
 Calls Tryz.prog 127 #[.agg cs.toArray,.agg ds.toArray] w fun e w'=>e = .returned (.bool (qo x y))∧Below w.heap.size w w':=by
 obtain ⟨hck,hF1,xO,xk,zT⟩:=oK h
 obtain ⟨jU,hF2,vC,rP,uY⟩:=oK h'
 subst hck jU
 subst hF1 hF2
 cases h1:(x.key.toList == y.key.toList) with
 | false =>
   rw [aiw h1]
   go_enter Tryz.func127,Tryz.ntmps127
   go_wp2
   all_goals
    go_ret
    exact ⟨by first | rfl | simp_all,atS⟩
 | true =>
   cases h2:(x.value.toList == y.value.toList) with
   | false =>
     rw [aeU h1 h2]
     go_enter Tryz.func127,Tryz.ntmps127
     go_wp2
     all_goals
      go_ret
      exact ⟨by first | rfl | simp_all,atS⟩
   | true =>
     rw [adu h1 h2]
     go_enter Tryz.func127,Tryz.ntmps127
     go_wp2
     all_goals
      go_ret
      exact ⟨by first | rfl | simp_all,atS⟩
end Go.Proofs.YtnjibbpcafgglaaGreat
