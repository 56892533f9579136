/- cmp.Compare and slices.Compare of strings. No condition. -/
import Derived.Test.YtnjibbpcafgglaaGreatCmp0
import Derived.Laws.Cover1
namespace Go.Proofs.YtnjibbpcafgglaaGreat
open Go.ChangeShapes Go.WideShapes Go.ChangeAt Go.RowKit
set_option linter.unusedVariables false
set_option linter.unusedSimpArgs false
theorem cb_gt (a b:List UInt8) (h1:Op.bytesLess a b = false) (h2:(a == b) = false):Lib.compareBytes a b = 1:=by
 have h3:=qj a b
 have h4:¬Lib.compareBytes a b < 0:=fun h=>by rw [Wx,h1] at h;cases h
 have h5:Lib.compareBytes a b≠0:=fun h=>by rw [J5] at h;simp [h] at h2
 omega
theorem asO (a b:List UInt8) (h1:Op.bytesLess a b = true):Lib.compareBytes a b = -1:=by
 have h3:=qj a b
 have h4:=(Wx a b).2 h1
 omega
theorem alC:∀a b:List UInt8,Lib.compareBytes b a = - Lib.compareBytes a b
 | [],[]=>rfl
 | [],_ :: _=>rfl
 | _ :: _,[]=>rfl
 | x :: a,y :: b=>by
   have ih:=alC a b
   unfold Lib.compareBytes
   by_cases h1:x < y
   ·have h2:¬y < x:=fun h=>absurd (UInt8.lt_trans h1 h) (UInt8.lt_irrefl _)
    rw [if_pos h1,if_neg h2,if_pos h1]
    rfl
   ·by_cases h2:y < x
    ·rw [if_pos h2,if_neg h1,if_pos h2]
    ·rw [if_neg h1,if_neg h2,if_neg h2,if_neg h1]
     exact ih
set_option maxHeartbeats 400000 in
theorem Yb (a b:ByteArray) (w:World):Calls Tryz.prog 107 #[.string a,.string b] w fun e w'=>e = .returned (.int .i64 (Lib.compareBytes a.data.toList b.data.toList))∧w' = w:=by
 have haa:(a.toList == a.toList) = true:=by simp
 have hbb:(b.toList == b.toList) = true:=by simp
 cases h1:Op.bytesLess a.toList b.toList with
 | true =>
   have hf:=asO _ _ h1
   rw [ByteArray.toList_eq,ByteArray.toList_eq] at hf
   rw [hf]
   go_enter Tryz.func107,Tryz.ntmps107
   go_wp2
   go_ret
   exact ⟨rfl,rfl⟩
 | false =>
   cases h2:Op.bytesLess b.toList a.toList with
   | true =>
     have hf:=asO _ _ h2
     rw [alC,ByteArray.toList_eq,ByteArray.toList_eq] at hf
     have h9:(a.toList == b.toList) = false:=by
      rw [beq_eq_false_iff_ne]
      intro e
      rw [ByteArray.toList_eq,ByteArray.toList_eq,← J5] at e
      omega
     rw [show Lib.compareBytes a.data.toList b.data.toList = 1 by omega]
     go_enter Tryz.func107,Tryz.ntmps107
     go_wp2
     go_ret
     exact ⟨rfl,rfl⟩
   | false =>
     have h3:¬Lib.compareBytes a.toList b.toList < 0:=fun h=>by rw [Wx,h1] at h;cases h
     have h4:¬Lib.compareBytes b.toList a.toList < 0:=fun h=>by rw [Wx,h2] at h;cases h
     rw [alC] at h4
     rw [ByteArray.toList_eq,ByteArray.toList_eq] at h3 h4
     have h8:Lib.compareBytes a.data.toList b.data.toList = 0:=by omega
     have h9:(a.toList == b.toList) = true:=by
      rw [beq_iff_eq,ByteArray.toList_eq,ByteArray.toList_eq]
      exact (J5 _ _).1 h8
     rw [h8]
     go_enter Tryz.func107,Tryz.ntmps107
     go_wp2
     go_ret
     exact ⟨rfl,rfl⟩
def qW:List ByteArray→List ByteArray→Int
 | [],[]=>0
 | [],_ :: _=>-1
 | _ :: _,[]=>1
 | x :: xs,y :: ys=>if Lib.compareBytes x.data.toList y.data.toList = 0 then qW xs ys else Lib.compareBytes x.data.toList y.data.toList
theorem ab5 {xs ys:List ByteArray} {k:Nat} (h:k < xs.length) (h':k < ys.length):qW (xs.drop k) (ys.drop k) = if Lib.compareBytes xs[k].data.toList ys[k].data.toList = 0 then qW (xs.drop (k+1)) (ys.drop (k+1)) else Lib.compareBytes xs[k].data.toList ys[k].data.toList:=by
 rw [← List.getElem_cons_drop h,← List.getElem_cons_drop h'];rfl
theorem ab6 {xs ys:List ByteArray} {k:Nat} (h:k < xs.length) (h':ys.length≤k):qW (xs.drop k) (ys.drop k) = 1:=by
 rw [← List.getElem_cons_drop h,List.drop_eq_nil_of_le h'];rfl
theorem adS {xs ys:List ByteArray} {k:Nat} (h:xs.length≤k):qW (xs.drop k) (ys.drop k) = if k < ys.length then -1 else 0:=by
 rw [List.drop_eq_nil_of_le h]
 by_cases h':k < ys.length
 ·rw [if_pos h',← List.getElem_cons_drop h'];rfl
 ·rw [if_neg h',List.drop_eq_nil_of_le (by omega)];rfl
theorem ZR:∀xs ys:List ByteArray,-1≤qW xs ys∧qW xs ys≤1
 | [],[]=>by simp [qW]
 | [],_ :: _=>by simp [qW]
 | _ :: _,[]=>by simp [qW]
 | x :: xs,y :: ys=>by
   have h1:=ZR xs ys
   have h2:=qj x.data.toList y.data.toList
   unfold qW
   split <;> omega
set_option maxRecDepth 100000 in
set_option maxHeartbeats 1000000 in
theorem aeC (xs ys:List ByteArray) (A B:Option Addr) (n m c d:Nat) (F G:List Nat) (w:World) (h:Sl w xs A c F) (h':Sl w ys B d G) (hn:n = xs.length) (hm:m = ys.length) (hl:(xs.length:Int)≤1048576) (hl':(ys.length:Int)≤1048576) :
 Calls Tryz.prog 194 #[.slice A n c,.slice B m d] w fun e w'=>e = .returned (.int .i64 (qW xs ys))∧w' = w:=by
 subst hn hm
 go_enter Tryz.func194,Tryz.ntmps194
 go_wp2_with fail
 go_loop [11] (fun i=>∃k:Nat,k≤xs.length∧i = .int .i64 k∧Hid (k≤ys.length)∧Hid (qW xs ys = qW (xs.drop k) (ys.drop k))) (fun i=>xs.length - (intOf i).toNat)
 case atStart=>exact ⟨0,Nat.zero_le _,rfl,Nat.zero_le _,rfl⟩
 case round =>
  obtain ⟨k,hk,rfl,HK,HO⟩:=hrel
  have hky:=HK.out
  by_cases hlt:k < xs.length
  ·obtain ⟨b,o,ck,Fk,rfl,o9,hbs,hr,hsub,hc⟩:=h.get hlt
   obtain ⟨hck,su,hsz⟩:=hr
   subst hck su
   have q0:w.cell? ⟨b,o+k,none⟩ = some (.string xs[k]):=by have:=hc 0 _ rfl;rwa [show o+(k * Dat.size ByteArray+0) = o+k from by show o+(k * 1+0) = _;omega] at this
   clear hc
   by_cases hly:k < ys.length
   ·obtain ⟨b2,o2,ck2,Fk2,rfl,hbF2,uO,hr2,hsub2,hc2⟩:=h'.get hly
    obtain ⟨hck,su,hsz2⟩:=hr2
    subst hck su
    have p0:w.cell? ⟨b2,o2+k,none⟩ = some (.string ys[k]):=by have:=hc2 0 _ rfl;rwa [show o2+(k * Dat.size ByteArray+0) = o2+k from by show o2+(k * 1+0) = _;omega] at this
    clear hc2
    have hd:=ab5 hlt hly
    have hC:=Yb xs[k] ys[k] w
    generalize hz:Lib.compareBytes xs[k].data.toList ys[k].data.toList = z at hd hC
    by_cases h0:z = 0
    ·rw [if_pos h0] at hd
     have HN:=Lib.hid (HO.out.trans hd)
     have HC:=Lib.hid hC
     clear hd hC hz
     subst h0
     go_wp2_with (go_at_call 107;refine HC.out.mono ?_;rintro e w2 ⟨rfl,rfl⟩)
     exact ⟨⟨k+1,by omega,by go_num,by show k+1≤ys.length;omega,HN.out⟩,by simp [intOf];omega⟩
    ·rw [if_neg h0] at hd
     have HN:=Lib.hid (HO.out.trans hd)
     have HC:=Lib.hid hC
     have hb0:(z == 0) = false:=by simp [h0]
     have hb1:(z != 0) = true:=by simp [h0]
     clear hd hC hz
     go_wp2_with (go_at_call 107;refine HC.out.mono ?_;rintro e w2 ⟨rfl,rfl⟩)
     go_ret
     exact ⟨by rw [HN.out];rfl,rfl⟩
   ·have HN:=Lib.hid (HO.out.trans (ab6 hlt (by omega)))
    have hge:(ys.length:Int)≤k:=by omega
    go_wp2
    go_ret
    exact ⟨by rw [HN.out];rfl,rfl⟩
  ·have hkl:k = xs.length:=by omega
   subst hkl
   have he:=HO.out.trans (adS (Nat.le_refl _))
   by_cases hly:xs.length < ys.length
   ·rw [if_pos hly] at he
    have HN:=Lib.hid he
    clear he
    have hlyi:(xs.length:Int) < ys.length:=by omega
    go_wp2
    go_ret
    exact ⟨by rw [HN.out];rfl,rfl⟩
   ·rw [if_neg hly] at he
    have HN:=Lib.hid he
    clear he
    have hlyi:¬(xs.length:Int) < ys.length:=by omega
    go_wp2
    go_ret
    exact ⟨by rw [HN.out];rfl,rfl⟩
end Go.Proofs.YtnjibbpcafgglaaGreat
namespace Go.Proofs.YtnjibbpcafgglaaGreat
open Go.ChangeShapes Go.WideShapes Go.ChangeAt Go.RowKit
set_option linter.unusedVariables false
set_option linter.unusedSimpArgs false
def W9 (x y:Need):List Int:=[Lib.compareBytes x.key.data.toList y.key.data.toList,Lib.compareInt x.op y.op,qW x.values y.values]
def nD (x y:Need):Bool:=decide (Qa (W9 x y) < 0)
set_option maxRecDepth 100000 in
set_option maxHeartbeats 1000000 in
theorem UA (x y:Need) (cs ds:List Value) (F G:List Nat) (w:World) (h:rd w x cs F) (h':rd w y ds G) (hl:(x.values.length:Int)≤1048576) (hl':(y.values.length:Int)≤1048576) :
 Calls Tryz.prog 175 #[.agg cs.toArray,.agg ds.toArray] w fun e w'=>e = .returned (.int .i64 (Qa (W9 x y)))∧Below w.heap.size w w':=by
 obtain ⟨pX,pY,KG,hck,hF1,xO,hop1,wO⟩:=og h
 obtain ⟨qO,qP,KL,jU,hF2,vC,hop2,zS⟩:=og h'
 subst hck jU
 subst hF1 hF2
 have hr1:=qj x.key.data.toList y.key.data.toList
 have hr2:=BU x.op y.op
 have hr3:=ZR x.values y.values
 go_enter Tryz.func175,Tryz.ntmps175
 go_wp2_with fail
 refine nS ((w.alloc (.cells #[.string x.key,.int .i64 x.op,.slice pX x.values.length pY] 141)).alloc (.cells #[.string y.key,.int .i64 y.op,.slice qO y.values.length qP] 141)) [0,1,2,3,5,6,7,8,10,11,12,13] [4,9,14,15,16,17] (by kernel_rfl) (by kernel_rfl) (fun _ _ d _ _ h=>by cases d <;> exact h) (aj _) ?_
 simp only [pick,List.getElem?_cons_succ,List.getElem?_cons_zero]
 iterate 12
  (apply dR
   case hy =>
    refine Or.inl ⟨rfl,fun wq hq=>?_⟩
    have hcq:=(aB hq).1
    go_simp
    try rfl
   simp only [Act.put,pz])
 refine fE ?_
 have hbx:=aA (aj ((w.alloc (.cells #[.string x.key,.int .i64 x.op,.slice pX x.values.length pY] 141)).alloc (.cells #[.string y.key,.int .i64 y.op,.slice qO y.values.length qP] 141)))
 refine aK rfl (fun K hK=>?_)
 go_simp
 refine (N8 x.key y.key _).mono ?_
 rintro e wz ⟨rfl,hw⟩
 simp only [hw]
 clear hw wz
 refine hK _ _ hbx (fun _=>?_)
 try simp only [Act.put,pz]
 clear hK K
 refine aK rfl (fun K hK=>?_)
 go_simp
 refine (EI x.op y.op _).mono ?_
 rintro e wz ⟨rfl,hw⟩
 simp only [hw]
 clear hw wz
 refine hK _ _ hbx (fun _=>?_)
 try simp only [Act.put,pz]
 clear hK K
 have hbw:=ah (ak (ak (aj w) (.cells #[.string x.key,.int .i64 x.op,.slice pX x.values.length pY] 141)) (.cells #[.string y.key,.int .i64 y.op,.slice qO y.values.length qP] 141)) hbx
 refine aK rfl (fun K hK=>?_)
 go_simp
 refine (aeC x.values y.values _ _ _ _ _ _ _ _ _ (wO.ext hbw) (zS.ext hbw) rfl rfl hl hl').mono ?_
 rintro e wz ⟨rfl,hw⟩
 simp only [hw]
 clear hw wz
 refine hK _ _ hbx (fun _=>?_)
 try simp only [Act.put,pz]
 clear hK K
 refine aK rfl (fun K hK=>?_)
 go_simp
 replace hbx:=ak hbx (.cells #[.int .i64 (Lib.compareBytes x.key.data.toList y.key.data.toList),.int .i64 (Lib.compareInt x.op y.op),.int .i64 (qW x.values y.values)] 3)
 refine hK _ _ hbx (fun _=>?_)
 try simp only [Act.put,pz]
 clear hK K
 have hS:=Sl.ape (Sl.ints3 ((w.alloc (.cells #[.string x.key,.int .i64 x.op,.slice pX x.values.length pY] 141)).alloc (.cells #[.string y.key,.int .i64 y.op,.slice qO y.values.length qP] 141)) _ _ _ 3 (I64.small hr1) (I64.small hr2) (I64.small hr3) (w.heap.size+2) (by simp))
 refine aK rfl (fun K hK=>?_)
 go_simp
 refine (afl _ _ 3 _ _ _ hS rfl (by simp)).mono ?_
 rintro e wz ⟨rfl,hw⟩
 simp only [hw]
 clear hw wz
 refine hK _ _ hbx (fun _=>?_)
 try simp only [Act.put,pz]
 clear hK K
 refine aK rfl (fun K hK=>?_)
 go_simp
 refine hK _ _ hbx (fun _=>?_)
 try simp only [Act.put,pz]
 clear hK K
 refine dX ?_
 go_wp2
 go_ret
 exact ⟨rfl,ah (ak (ak (aj _) _) _) hbx⟩
set_option maxHeartbeats 400000 in
theorem ail (x y:Need) (cs ds:List Value) (F G:List Nat) (w:World) (h:rd w x cs F) (h':rd w y ds G) (hl:(x.values.length:Int)≤1048576) (hl':(y.values.length:Int)≤1048576) :
 Calls Tryz.prog 147 #[.agg cs.toArray,.agg ds.toArray] w fun e w'=>e = .returned (.bool (nD x y))∧Below w.heap.size w w':=by
 have hC:∀wq,Below w.heap.size w wq→Calls Tryz.prog 175 #[.agg cs.toArray,.agg ds.toArray] wq fun e w'=>e = .returned (.int .i64 (Qa (W9 x y)))∧Below wq.heap.size wq w' :=
  fun wq hq=>UA x y cs ds F G wq (Dat.frame h (fun b hb'=>hq.block b (Dat.lt h b hb')) hq.size) (Dat.frame h' (fun b hb'=>hq.block b (Dat.lt h' b hb')) hq.size) hl hl'
 have hz:nD x y = decide (Qa (W9 x y) < 0):=rfl
 generalize Qa (W9 x y) = z at hC hz
 rw [hz]
 clear hz
 obtain ⟨pX,pY,KG,hck,hF1,xO,hop1,wO⟩:=og h
 obtain ⟨qO,qP,KL,jU,hF2,vC,hop2,zS⟩:=og h'
 subst hck jU
 have HC:=Lib.hid hC
 clear hC
 go_enter Tryz.func147,Tryz.ntmps147
 go_wp2_with fail
 refine (HC.out _ atS).mono ?_
 rintro e w2 ⟨rfl,hb2⟩
 go_wp2
 go_ret
 exact ⟨rfl,atS⟩
end Go.Proofs.YtnjibbpcafgglaaGreat
namespace Go.Proofs.YtnjibbpcafgglaaGreat
open Go.ChangeShapes Go.WideShapes Go.ChangeAt Go.RowKit
set_option linter.unusedVariables false
set_option linter.unusedSimpArgs false
theorem akQ {x y:Need} (h:(x.key.toList == y.key.toList) = false):nD x y = Op.bytesLess x.key.toList y.key.toList:=by
 have h1:Lib.compareBytes x.key.data.toList y.key.data.toList≠0:=fun e=>by
  rw [J5,← ByteArray.toList_eq,← ByteArray.toList_eq] at e
  simp [e] at h
 unfold nD W9
 simp only [Qa,if_neg h1]
 rw [Bool.eq_iff_iff,decide_eq_true_eq,Wx,ByteArray.toList_eq,ByteArray.toList_eq]
theorem amw {x y:Need} (hk:(x.key.toList == y.key.toList) = true) (h:x.op≠y.op):nD x y = decide (x.op < y.op):=by
 have h0:Lib.compareBytes x.key.data.toList y.key.data.toList = 0:=by rw [J5,← ByteArray.toList_eq,← ByteArray.toList_eq];simpa using hk
 have h1:Lib.compareInt x.op y.op≠0:=by unfold Lib.compareInt;repeat' split <;> omega
 unfold nD W9
 simp only [Qa,if_pos h0,if_neg h1]
 unfold Lib.compareInt
 rw [Bool.eq_iff_iff,decide_eq_true_eq,decide_eq_true_eq]
 repeat' split
 all_goals omega
theorem aeD {x y:Need} (hk:(x.key.toList == y.key.toList) = true) (h:x.op = y.op):nD x y = decide (qW x.values y.values < 0):=by
 have h0:Lib.compareBytes x.key.data.toList y.key.data.toList = 0:=by rw [J5,← ByteArray.toList_eq,← ByteArray.toList_eq];simpa using hk
 have h1:Lib.compareInt x.op y.op = 0:=by unfold Lib.compareInt;repeat' split <;> omega
 unfold nD W9
 simp only [Qa,if_pos h0,if_pos h1]
 by_cases h2:qW x.values y.values = 0
 ·rw [if_pos h2,h2]
 ·rw [if_neg h2]
set_option maxRecDepth 100000 in
set_option maxHeartbeats 2000000 in
theorem TN (x y:Need) (cs ds:List Value) (F G:List Nat) (w:World) (h:rd w x cs F) (h':rd w y ds G) (hl:(x.values.length:Int)≤1048576) (hl':(y.values.length:Int)≤1048576) :
 Calls Tryz.prog 123 #[.agg cs.toArray,.agg ds.toArray] w fun e w'=>e = .returned (.bool (nD x y))∧Below w.heap.size w w':=by
 obtain ⟨pX,pY,KG,hck,hF1,xO,hop1,wO⟩:=og h
 obtain ⟨qO,qP,KL,jU,hF2,vC,hop2,zS⟩:=og h'
 subst hck jU
 cases h1:(x.key.toList == y.key.toList) with
 | false =>
   rw [akQ h1]
   go_enter Tryz.func123,Tryz.ntmps123
   go_wp2
   all_goals
    go_ret
    exact ⟨by first | rfl | simp_all,atS⟩
 | true =>
   by_cases h3:x.op = y.op
   ·have hfin:=aeD h1 h3
    have HF:=Lib.hid hfin
    clear hfin
    have h4:(x.op == y.op) = true:=by simp [h3]
    go_enter Tryz.func123,Tryz.ntmps123
    go_wp2
    go_loopw [5] (fun i wr=>∃k:Nat,k≤x.values.length∧i = .int .i64 k∧Hid (k≤y.values.length)∧Hid (qW x.values y.values = qW (x.values.drop k) (y.values.drop k))∧wr.cell? ⟨w.heap.size,2,none⟩ = some (.slice pX x.values.length pY)∧wr.cell? ⟨w.heap.size+1,2,none⟩ = some (.slice qO y.values.length qP)∧Below w.heap.size w wr) (fun i _=>x.values.length - (intOf i).toNat)
    case atStart =>
     refine ⟨0,Nat.zero_le _,rfl,Nat.zero_le _,rfl,?_,?_,atS⟩
     ·rw [World.cell?_of_block (heap_alloc_old _ _ (by simp)),cell_of_row _ _ _ _ _ _ (heap_alloc_new w _)];rfl
     ·simp
    case round =>
     obtain ⟨k,hk,rfl,HK,HO,hx1,hx2,hbl⟩:=hrel
     have hky:=HK.out
     have hz1:=World.block_lt_of_cell? wr _ hx1
     have hz2:=World.block_lt_of_cell? wr _ hx2
     simp only at hz1 hz2
     by_cases hlt:k < x.values.length
     ·by_cases hly:k < y.values.length
      ·obtain ⟨b,o,ck,Fk,rfl,o9,hbs,hr,hsub,hc⟩:=(Sl.ext (w':=wr) (A:=pX) (c:=pY) wO hbl).get hlt
       obtain ⟨hck,su,hsz⟩:=hr
       subst hck su
       have q0:wr.cell? ⟨b,o+k,none⟩ = some (.string x.values[k]):=by have:=hc 0 _ rfl;rwa [show o+(k * Dat.size ByteArray+0) = o+k from by show o+(k * 1+0) = _;omega] at this
       clear hc
       obtain ⟨b2,o2,ck2,Fk2,rfl,hbF2,uO,hr2,hsub2,hc2⟩:=(Sl.ext (w':=wr) (A:=qO) (c:=qP) zS hbl).get hly
       obtain ⟨hck,su,hsz2⟩:=hr2
       subst hck su
       have p0:wr.cell? ⟨b2,o2+k,none⟩ = some (.string y.values[k]):=by have:=hc2 0 _ rfl;rwa [show o2+(k * Dat.size ByteArray+0) = o2+k from by show o2+(k * 1+0) = _;omega] at this
       clear hc2
       have hd:=ab5 hlt hly
       cases he:(x.values[k].toList == y.values[k].toList) with
       | true =>
         have h0:Lib.compareBytes x.values[k].data.toList y.values[k].data.toList = 0:=by rw [J5,← ByteArray.toList_eq,← ByteArray.toList_eq];simpa using he
         rw [if_pos h0] at hd
         have HN:=Lib.hid (HO.out.trans hd)
         clear hd h0
         go_wp2_with fail
         refine aF _ (by kernel_rfl) (by kernel_rfl) (aj _) ?_
         repeat (first
          | (apply aG
             case hw=>rfl
             simp only [Act.put,pz])
          | (apply aH
             case hw=>rfl
             case h =>
              intro wq hq
              have hcq:=(aB hq).1
              have lJ:=(aB hq).2
              go_simp
              first
               | exact ⟨hq,rfl⟩
               | exact ⟨aQ hq _,rfl⟩
               | (fail)
               | (simp only [↓IntWalk.iteOmega];exact ⟨hq,rfl⟩)
             simp only [Act.put,pz]))
         refine aN ?_
         intro wn hn
         replace hn:=hn.out
         replace hx1:=((ay hn).1 _ _ hz1).trans hx1
         replace hx2:=((ay hn).1 _ _ hz2).trans hx2
         replace q0:=((ay hn).1 _ _ hbs).trans q0
         replace p0:=((ay hn).1 _ _ uO).trans p0
         replace hz1:=Nat.lt_of_lt_of_le hz1 hn.size
         replace hz2:=Nat.lt_of_lt_of_le hz2 hn.size
         replace hbs:=Nat.lt_of_lt_of_le hbs hn.size
         replace uO:=Nat.lt_of_lt_of_le uO hn.size
         replace hbl:=ah hbl hn
         go_wp2
         exact ⟨⟨k+1,by omega,by go_num,by show k+1≤y.values.length;omega,HN.out,hx1,hx2,hbl⟩,by simp [intOf];omega⟩
       | false =>
         have h0:Lib.compareBytes x.values[k].data.toList y.values[k].data.toList≠0:=fun e=>by
          rw [J5,← ByteArray.toList_eq,← ByteArray.toList_eq] at e
          simp [e] at he
         rw [if_neg h0] at hd
         have hg:nD x y = Op.bytesLess x.values[k].toList y.values[k].toList:=by
          rw [HF.out,HO.out,hd,Bool.eq_iff_iff,decide_eq_true_eq,Wx,ByteArray.toList_eq,ByteArray.toList_eq]
         have HG:=Lib.hid hg
         clear hd h0 hg
         go_wp2_with fail
         refine aF _ (by kernel_rfl) (by kernel_rfl) (aj _) ?_
         repeat (first
          | (apply aG
             case hw=>rfl
             simp only [Act.put,pz])
          | (apply aH
             case hw=>rfl
             case h =>
              intro wq hq
              have hcq:=(aB hq).1
              have lJ:=(aB hq).2
              go_simp
              first
               | exact ⟨hq,rfl⟩
               | exact ⟨aQ hq _,rfl⟩
               | (fail)
               | (simp only [↓IntWalk.iteOmega];exact ⟨hq,rfl⟩)
             simp only [Act.put,pz]))
         refine aN ?_
         intro wn hn
         replace hn:=hn.out
         replace hx1:=((ay hn).1 _ _ hz1).trans hx1
         replace hx2:=((ay hn).1 _ _ hz2).trans hx2
         replace q0:=((ay hn).1 _ _ hbs).trans q0
         replace p0:=((ay hn).1 _ _ uO).trans p0
         replace hz1:=Nat.lt_of_lt_of_le hz1 hn.size
         replace hz2:=Nat.lt_of_lt_of_le hz2 hn.size
         replace hbs:=Nat.lt_of_lt_of_le hbs hn.size
         replace uO:=Nat.lt_of_lt_of_le uO hn.size
         replace hbl:=ah hbl hn
         clear hn
         go_wp2_with fail
         first
          | (go_ret;exact ⟨by rw [HG.out];first | rfl | simp_all,hbl⟩)
          | (refine aF _ (by kernel_rfl) (by kernel_rfl) (aj _) ?_
             repeat (first
              | (apply aG
                 case hw=>rfl
                 simp only [Act.put,pz])
              | (apply aH
                 case hw=>rfl
                 case h =>
                  intro wq hq
                  have hcq:=(aB hq).1
                  have lJ:=(aB hq).2
                  go_simp
                  first
                   | exact ⟨hq,rfl⟩
                   | exact ⟨aQ hq _,rfl⟩
                   | (fail)
                   | (simp only [↓IntWalk.iteOmega];exact ⟨hq,rfl⟩)
                 simp only [Act.put,pz]))
             refine aN ?_
             intro wn2 hn2
             replace hn2:=hn2.out
             go_wp2
             go_ret
             exact ⟨by rw [HG.out];first | rfl | simp_all,ah hbl hn2⟩)
      ·have hg:nD x y = false:=by rw [HF.out,HO.out,ab6 hlt (by omega)];rfl
       have HG:=Lib.hid hg
       have hli:¬(x.values.length:Int) < y.values.length:=by omega
       clear hg
       go_wp2
       go_ret
       exact ⟨by rw [HG.out];first | rfl | simp_all,hbl⟩
     ·have hkl:k = x.values.length:=by omega
      subst hkl
      have he:=HO.out.trans (adS (Nat.le_refl _))
      by_cases hly:x.values.length < y.values.length
      ·rw [if_pos hly] at he
       have hg:nD x y = true:=by rw [HF.out,he];rfl
       have HG:=Lib.hid hg
       have hli:(x.values.length:Int) < y.values.length:=by omega
       clear hg he
       go_wp2
       go_ret
       exact ⟨by rw [HG.out];first | rfl | simp_all,hbl⟩
      ·rw [if_neg hly] at he
       have hg:nD x y = false:=by rw [HF.out,he];rfl
       have HG:=Lib.hid hg
       have hli:¬(x.values.length:Int) < y.values.length:=by omega
       clear hg he
       go_wp2
       go_ret
       exact ⟨by rw [HG.out];first | rfl | simp_all,hbl⟩
   ·rw [amw h1 h3]
    have h4:(x.op == y.op) = false:=by simp [h3]
    go_enter Tryz.func123,Tryz.ntmps123
    go_wp2
    all_goals
     go_ret
     exact ⟨by first | rfl | simp_all,atS⟩
end Go.Proofs.YtnjibbpcafgglaaGreat
