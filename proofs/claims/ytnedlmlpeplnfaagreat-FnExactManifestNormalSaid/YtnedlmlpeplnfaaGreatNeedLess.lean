/- The reference's NeedLess. No condition. -/
import Derived.Test.YtnedlmlpeplnfaaGreatCmp2
namespace Go.Proofs.YtnedlmlpeplnfaaGreat
open Go.ChangeShapes Go.WideShapes Go.ChangeAt Go.RowKit
set_option linter.unusedVariables false
set_option linter.unusedSimpArgs false
set_option maxHeartbeats 2000000
set_option maxRecDepth 100000
theorem akQ {x y:Need} (h:(x.key.toList == y.key.toList) = false):nD x y = Op.bytesLess x.key.toList y.key.toList:=by
 have h1:Lib.compareBytes x.key.data.toList y.key.data.toList≠0:=fun e=>by
  exact Zab7
 unfold nD W9;simp only [Qa,if_neg h1];exact Zab3
theorem amw {x y:Need} (hk:(x.key.toList == y.key.toList) = true) (h:x.op≠y.op):nD x y = decide (x.op < y.op):=by
 have h0:Lib.compareBytes x.key.data.toList y.key.data.toList = 0:=by rw [J5,← ByteArray.toList_eq,← ByteArray.toList_eq];simpa using hk
 have h1:Lib.compareInt x.op y.op≠0:=by unfold Lib.compareInt;repeat' split <;> omega
 unfold nD W9;simp only [Qa,if_pos h0,if_neg h1];exact Zacj
theorem aeD {x y:Need} (hk:(x.key.toList == y.key.toList) = true) (h:x.op = y.op):nD x y = decide (qW x.values y.values < 0):=by
 have h0:Lib.compareBytes x.key.data.toList y.key.data.toList = 0:=by rw [J5,← ByteArray.toList_eq,← ByteArray.toList_eq];simpa using hk
 have h1:Lib.compareInt x.op y.op = 0:=by unfold Lib.compareInt;repeat' split <;> omega
 unfold nD W9;simp only [Qa,if_pos h0,if_pos h1];by_cases h2:qW x.values y.values = 0
 ·rw [if_pos h2,h2]
 ·rw [if_neg h2]
theorem TN (x y:Need) (cs ds:List Value) (F G:List Nat) (w:World) (h:rd w x cs F) (h':rd w y ds G) (hl:(x.values.length:Int)≤1048576) (hl':(y.values.length:Int)≤1048576) :
 Calls Tryz.prog 81 #[.agg cs.toArray,.agg ds.toArray] w fun e w'=>e = .returned (.bool (nD x y))∧Below w.heap.size w w':=by
 obtain ⟨pX,pY,KG,hck,hF1,xO,hop1,wO⟩:=og h;obtain ⟨qO,qP,KL,jU,hF2,vC,hop2,zS⟩:=og h';subst hck jU;cases h1:(x.key.toList == y.key.toList) with
 | false =>rw [akQ h1];go_enter Tryz.func81,Tryz.ntmps81;exact Zabf
 | true =>
   by_cases h3:x.op = y.op
   ·have hfin:=aeD h1 h3;have HF:=I' hfin;clear hfin;have h4:(x.op == y.op) = true:=(by simp [h3]);go_enter Tryz.func81,Tryz.ntmps81;go_wp2;go_loopw [5] (fun i wr=>∃k:Nat,k≤x.values.length∧i = .int .i64 k∧Hid (k≤y.values.length)∧Hid (qW x.values y.values = qW (x.values.drop k) (y.values.drop k))∧wr.cell? ⟨w.heap.size,2,none⟩ = some (.slice pX x.values.length pY)∧wr.cell? ⟨w.heap.size+1,2,none⟩ = some (.slice qO y.values.length qP)∧Below w.heap.size w wr) (fun i _=>x.values.length - (intOf i).toNat)
    case atStart =>
     refine ⟨0,Nat.zero_le _,rfl,Nat.zero_le _,rfl,?_,?_,atS⟩
     ·rw [World.cell?_of_block (heap_alloc_old _ _ S'),cell_of_row _ _ _ _ _ _ (heap_alloc_new w _)];rfl
     ·simp
    case round =>
     obtain ⟨k,hk,rfl,HK,HO,hx1,hx2,hbl⟩:=hrel;have hky:=HK.out;have hz1:=World.block_lt_of_cell? wr _ hx1;have hz2:=World.block_lt_of_cell? wr _ hx2;simp only at hz1 hz2;by_cases hlt:k < x.values.length
     ·by_cases hly:k < y.values.length
      ·obtain ⟨b,o,ck,Fk,rfl,o9,hbs,hr,hsub,hc⟩:=(Sl.ext (w':=wr) (A:=pX) (c:=pY) wO hbl).get hlt;obtain ⟨hck,su,hsz⟩:=hr;subst hck su;have q0:wr.cell? ⟨b,o+k,none⟩ = some (.string x.values[k]):=(by have:=hc 0 _ rfl;rwa [show o+(k * Dat.size ByteArray+0) = o+k from by show o+(k * 1+0) = _;omega] at this);clear hc;obtain ⟨b2,o2,ck2,Fk2,rfl,hbF2,uO,hr2,hsub2,hc2⟩:=(Sl.ext (w':=wr) (A:=qO) (c:=qP) zS hbl).get hly;obtain ⟨hck,su,hsz2⟩:=hr2;subst hck su;have p0:wr.cell? ⟨b2,o2+k,none⟩ = some (.string y.values[k]):=(by have:=hc2 0 _ rfl;rwa [show o2+(k * Dat.size ByteArray+0) = o2+k from by show o2+(k * 1+0) = _;omega] at this);clear hc2;have hd:=ab5 hlt hly;cases he:(x.values[k].toList == y.values[k].toList) with
       | true =>
         have h0:Lib.compareBytes x.values[k].data.toList y.values[k].data.toList = 0:=(by rw [J5,← ByteArray.toList_eq,← ByteArray.toList_eq];simpa using he);rw [if_pos h0] at hd;have HN:=I' (HO.out.trans hd);clear hd h0;go_wp2_with fail
         refine aF _ U' U' (aj _) ?_
         repeat (first
          | (apply aG
             case hw=>rfl
             simp only [Act.put,pz])
          | (apply aH
             case hw=>rfl
             case h =>exact Zaag
             simp only [Act.put,pz]))
         refine aN ?_;intro wn hn;replace hn:=hn.out;replace hx1:=((ay hn).1 _ _ hz1).trans hx1;replace hx2:=((ay hn).1 _ _ hz2).trans hx2;replace q0:=((ay hn).1 _ _ hbs).trans q0;replace p0:=((ay hn).1 _ _ uO).trans p0;replace hz1:=Nat.lt_of_lt_of_le hz1 hn.size;replace hz2:=Nat.lt_of_lt_of_le hz2 hn.size;replace hbs:=Nat.lt_of_lt_of_le hbs hn.size;replace uO:=Nat.lt_of_lt_of_le uO hn.size;replace hbl:=ah hbl hn;go_wp2;exact ⟨⟨k+1,O',N',by show k+1≤y.values.length;omega,HN.out,hx1,hx2,hbl⟩,by simp [intOf];omega⟩
       | false =>
         have h0:Lib.compareBytes x.values[k].data.toList y.values[k].data.toList≠0:=fun e=>by
          rw [J5,← ByteArray.toList_eq,← ByteArray.toList_eq] at e;simp [e] at he
         rw [if_neg h0] at hd;have hg:nD x y = Op.bytesLess x.values[k].toList y.values[k].toList:=by rw [HF.out,HO.out,hd,Bool.eq_iff_iff,decide_eq_true_eq,Wx,ByteArray.toList_eq,ByteArray.toList_eq]
         have HG:=I' hg;clear hd h0 hg;go_wp2_with fail
         refine aF _ U' U' (aj _) ?_
         repeat (first
          | (apply aG
             case hw=>rfl
             simp only [Act.put,pz])
          | (apply aH
             case hw=>rfl
             case h =>exact Zaag
             simp only [Act.put,pz]))
         refine aN ?_;intro wn hn;replace hn:=hn.out;replace hx1:=((ay hn).1 _ _ hz1).trans hx1;replace hx2:=((ay hn).1 _ _ hz2).trans hx2;replace q0:=((ay hn).1 _ _ hbs).trans q0;replace p0:=((ay hn).1 _ _ uO).trans p0;replace hz1:=Nat.lt_of_lt_of_le hz1 hn.size;replace hz2:=Nat.lt_of_lt_of_le hz2 hn.size;replace hbs:=Nat.lt_of_lt_of_le hbs hn.size;replace uO:=Nat.lt_of_lt_of_le uO hn.size;replace hbl:=ah hbl hn;clear hn;go_wp2_with fail
         first
          | (go_ret;exact ⟨by rw [HG.out];first | rfl | simp_all,hbl⟩)
          | (refine aF _ U' U' (aj _) ?_
             repeat (first
              | (apply aG
                 case hw=>rfl
                 simp only [Act.put,pz])
              | (apply aH
                 case hw=>rfl
                 case h =>exact Zaag
                 simp only [Act.put,pz]))
             refine aN ?_;intro wn2 hn2;replace hn2:=hn2.out;go_wp2;go_ret
             exact ⟨by rw [HG.out];first | rfl | simp_all,ah hbl hn2⟩)
      ·have hg:nD x y = false:=(by rw [HF.out,HO.out,ab6 hlt O'];rfl);have HG:=I' hg;have hli:¬(x.values.length:Int) < y.values.length:=O';clear hg;exact Zacp
     ·have hkl:k = x.values.length:=O';subst hkl;have he:=HO.out.trans (adS (Nat.le_refl _));by_cases hly:x.values.length < y.values.length
      ·rw [if_pos hly] at he;have hg:nD x y = true:=(by rw [HF.out,he];rfl);have HG:=I' hg;have hli:(x.values.length:Int) < y.values.length:=O';clear hg he;exact Zacp
      ·rw [if_neg hly] at he;have hg:nD x y = false:=(by rw [HF.out,he];rfl);have HG:=I' hg;have hli:¬(x.values.length:Int) < y.values.length:=O';clear hg he;exact Zacp
   ·rw [amw h1 h3];have h4:(x.op == y.op) = false:=(by simp [h3]);go_enter Tryz.func81,Tryz.ntmps81;exact Zabf
def aag (a b:Bool):Int:=if a == b then 0 else if b then -1 else 1
theorem anp (a b:Bool):-1≤aag a b∧aag a b≤1:=by cases a <;> cases b <;> decide
theorem adw (a b:Bool) (w:World):Calls Tryz.prog 150 #[.bool a,.bool b] w fun e w'=>e = .returned (.int .i64 (aag a b))∧w' = w:=by
 cases a <;> cases b
 all_goals
  go_enter Tryz.func150,Tryz.ntmps150;go_wp2;go_ret
  exact ⟨rfl,rfl⟩
theorem Sl.ints4 (W:World) (a b c d:Int) (t:TypeId) (ha:I64 a) (hb:I64 b) (hc:I64 c) (hd:I64 d) (N:Nat) (hN:W.heap.size = N):Sl (W.alloc (.cells #[.int .i64 a,.int .i64 b,.int .i64 c,.int .i64 d] t)) [a,b,c,d] (some ⟨N,0,none⟩) 4 [N]:=by
 subst hN;exact Sl.Va W [a,b,c,d] t (by intro x hx;simp only [List.mem_cons,List.not_mem_nil,or_false] at hx;rcases hx with rfl | rfl | rfl | rfl <;> assumption) (by unfold maxLen;simp)
def anq (x y:bH):List Int:=[Lib.compareBytes x.key.data.toList y.key.data.toList,aag x.equal y.equal,Lib.compareBytes x.value.data.toList y.value.data.toList,Lib.compareInt x.effect y.effect]
theorem compareTolerances_gr (x y:bH) (cs ds:List Value) (F G:List Nat) (w:World) (h:rd w x cs F) (h':rd w y ds G) :
 Calls Tryz.prog 108 #[.agg cs.toArray,.agg ds.toArray] w fun e w'=>e = .returned (.int .i64 (Qa (anq x y)))∧Gr w w':=by
 obtain ⟨hck,hF1,xO,xk,zT⟩:=jv h;obtain ⟨jU,hF2,vC,rP,uY⟩:=jv h';subst hck jU;subst hF1 hF2;have hr1:=qj x.key.data.toList y.key.data.toList;have hr4:=anp x.equal y.equal;have hr2:=qj x.value.data.toList y.value.data.toList;have hr3:=BU x.effect y.effect;go_enter Tryz.func108,Tryz.ntmps108;go_wp2_with fail
 refine nS ((w.alloc (.cells #[.string x.key,.bool x.equal,.string x.value,.int .i64 x.effect] 89)).alloc (.cells #[.string y.key,.bool y.equal,.string y.value,.int .i64 y.effect] 89)) [0,1,2,3,5,6,7,8,10,11,12,13,15,16,17,18] [4,9,14,19,20,21,22] U' U' (fun _ _ d _ _ h=>by cases d <;> exact h) (aj _) ?_;simp only [pick,List.getElem?_cons_succ,List.getElem?_cons_zero]
 iterate 16
  (apply dR
   case hy =>exact Zacc
   simp only [Act.put,pz])
 refine fE ?_;have hbx:=aA (aj ((w.alloc (.cells #[.string x.key,.bool x.equal,.string x.value,.int .i64 x.effect] 89)).alloc (.cells #[.string y.key,.bool y.equal,.string y.value,.int .i64 y.effect] 89)));refine aK rfl (fun K hK=>?_);go_simp;refine (N8 x.key y.key _).mono ?_;rintro e wz ⟨rfl,hw⟩;simp only [hw];clear hw wz;refine hK _ _ hbx (fun _=>?_);try simp only [Act.put,pz]
 clear hK K;refine aK rfl (fun K hK=>?_);go_simp;refine (adw x.equal y.equal _).mono ?_;rintro e wz ⟨rfl,hw⟩;simp only [hw];clear hw wz;refine hK _ _ hbx (fun _=>?_);try simp only [Act.put,pz]
 clear hK K;refine aK rfl (fun K hK=>?_);go_simp;refine (N8 x.value y.value _).mono ?_;rintro e wz ⟨rfl,hw⟩;simp only [hw];clear hw wz;refine hK _ _ hbx (fun _=>?_);try simp only [Act.put,pz]
 clear hK K;refine aK rfl (fun K hK=>?_);go_simp;refine (EI x.effect y.effect _).mono ?_;rintro e wz ⟨rfl,hw⟩;simp only [hw];clear hw wz;refine hK _ _ hbx (fun _=>?_);try simp only [Act.put,pz]
 clear hK K;refine aK rfl (fun K hK=>?_);go_simp;replace hbx:=ak hbx (.cells #[.int .i64 (Lib.compareBytes x.key.data.toList y.key.data.toList),.int .i64 (aag x.equal y.equal),.int .i64 (Lib.compareBytes x.value.data.toList y.value.data.toList),.int .i64 (Lib.compareInt x.effect y.effect)] 3);refine hK _ _ hbx (fun _=>?_);try simp only [Act.put,pz]
 clear hK K;have hS:=Sl.ape (Sl.ints4 ((w.alloc (.cells #[.string x.key,.bool x.equal,.string x.value,.int .i64 x.effect] 89)).alloc (.cells #[.string y.key,.bool y.equal,.string y.value,.int .i64 y.effect] 89)) _ _ _ _ 3 (I64.small hr1) (I64.small hr4) (I64.small hr2) (I64.small hr3) (w.heap.size+2) S');refine aK rfl (fun K hK=>?_);go_simp;refine (afl _ _ 4 _ _ _ hS rfl S').mono ?_;rintro e wz ⟨rfl,hw⟩;simp only [hw];clear hw wz;refine hK _ _ hbx (fun _=>?_);try simp only [Act.put,pz]
 clear hK K;refine aK rfl (fun K hK=>?_);go_simp;refine hK _ _ hbx (fun _=>?_);try simp only [Act.put,pz]
 clear hK K;refine dX ?_;go_wp2;go_ret
 exact ⟨rfl,(by repeat (first | with_reducible exact Gr.refl _ | with_reducible refine Gr.alloc ?_ _ | with_reducible refine Gr.drew ?_))⟩
theorem Xd (x y:bH) (cs ds:List Value) (F G:List Nat) (w:World) (h:rd w x cs F) (h':rd w y ds G) :
 Calls Tryz.prog 108 #[.agg cs.toArray,.agg ds.toArray] w fun e w'=>e = .returned (.int .i64 (Qa (anq x y)))∧Below w.heap.size w w' :=
 (compareTolerances_gr x y cs ds F G w h h').mono fun _ _ hh=>⟨hh.1,hh.2.below⟩
def vJ (x y:bH):Bool:=decide (Qa (anq x y) < 0)
theorem anr {x y:bH} (h:(x.key.toList == y.key.toList) = false):vJ x y = Op.bytesLess x.key.toList y.key.toList:=by
 have h1:Lib.compareBytes x.key.data.toList y.key.data.toList≠0:=fun e=>by
  exact Zab7
 unfold vJ anq;simp only [Qa,if_neg h1];exact Zab3
theorem aiA {x y:bH} (hk:(x.key.toList == y.key.toList) = true) (h:x.equal≠y.equal):vJ x y = y.equal:=by
 have h0:Lib.compareBytes x.key.data.toList y.key.data.toList = 0:=by rw [J5,← ByteArray.toList_eq,← ByteArray.toList_eq];simpa using hk
 unfold vJ anq;simp only [Qa,if_pos h0];cases hx:x.equal <;> cases hy:y.equal <;> simp_all [aag]
theorem aiB {x y:bH} (hk:(x.key.toList == y.key.toList) = true) (hq:x.equal = y.equal) (h:(x.value.toList == y.value.toList) = false):vJ x y = Op.bytesLess x.value.toList y.value.toList:=by
 have h0:Lib.compareBytes x.key.data.toList y.key.data.toList = 0:=by rw [J5,← ByteArray.toList_eq,← ByteArray.toList_eq];simpa using hk
 have h1:Lib.compareBytes x.value.data.toList y.value.data.toList≠0:=fun e=>by
  exact Zab7
 have h2:aag x.equal y.equal = 0:=by unfold aag;simp [hq]
 unfold vJ anq;simp only [Qa,if_pos h0,if_pos h2,if_neg h1];exact Zab3
theorem ahL {x y:bH} (hk:(x.key.toList == y.key.toList) = true) (hq:x.equal = y.equal) (h:(x.value.toList == y.value.toList) = true):vJ x y = decide (x.effect < y.effect):=by
 have h0:Lib.compareBytes x.key.data.toList y.key.data.toList = 0:=by rw [J5,← ByteArray.toList_eq,← ByteArray.toList_eq];simpa using hk
 have h1:Lib.compareBytes x.value.data.toList y.value.data.toList = 0:=by rw [J5,← ByteArray.toList_eq,← ByteArray.toList_eq];simpa using h
 have h2:aag x.equal y.equal = 0:=by unfold aag;simp [hq]
 unfold vJ anq;simp only [Qa,if_pos h0,if_pos h2,if_pos h1];exact Zacj
theorem aiC (x y:bH) (cs ds:List Value) (F G:List Nat) (w:World) (h:rd w x cs F) (h':rd w y ds G) :
 Calls Tryz.prog 83 #[.agg cs.toArray,.agg ds.toArray] w fun e w'=>e = .returned (.bool (vJ x y))∧Below w.heap.size w w':=by
 obtain ⟨hck,hF1,xO,xk,zT⟩:=jv h;obtain ⟨jU,hF2,vC,rP,uY⟩:=jv h';subst hck jU;subst hF1 hF2;cases h1:(x.key.toList == y.key.toList) with
 | false =>rw [anr h1];go_enter Tryz.func83,Tryz.ntmps83;exact Zabf
 | true =>
   by_cases h3:x.equal = y.equal
   ·cases h2:(x.value.toList == y.value.toList) with
    | false =>rw [aiB h1 h3 h2];have h4:(x.equal == y.equal) = true:=(by simp [h3]);go_enter Tryz.func83,Tryz.ntmps83;exact Zabf
    | true =>rw [ahL h1 h3 h2];have h4:(x.equal == y.equal) = true:=(by simp [h3]);go_enter Tryz.func83,Tryz.ntmps83;exact Zabf
   ·rw [aiA h1 h3];have h4:(x.equal == y.equal) = false:=(by simp [h3]);go_enter Tryz.func83,Tryz.ntmps83;exact Zabf
end Go.Proofs.YtnedlmlpeplnfaaGreat
