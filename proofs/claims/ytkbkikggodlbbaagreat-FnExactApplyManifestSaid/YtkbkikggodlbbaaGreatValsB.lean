/- Texts in order, each once, in plain Lean. No condition. -/
import Derived.Test.YtkbkikggodlbbaaGreatOrdP
import Derived.Test.YtkbkikggodlbbaaGreatCmp2
import Derived.Test.YtkbkikggodlbbaaGreatEq
import Derived.Test.YtkbkikggodlbbaaGreatSz
import Derived.Lib.SlicesCompact
import Derived.Test.YtkbkikggodlbbaaGreatUsed
import Derived.Test.YtkbkikggodlbbaaGreatGr
namespace Go.Proofs.YtkbkikggodlbbaaGreat
open Go.ChangeShapes Go.WideShapes Go.ChangeAt Go.RowKit
set_option linter.unusedVariables false
set_option linter.unusedSimpArgs false
set_option maxHeartbeats 2000000
set_option maxRecDepth 100000
def blt (x y:ByteArray):Bool:=Op.bytesLess x.toList y.toList
theorem totB:Tot blt:=⟨fun x=>ak0 _,fun x y z=>apx _ _ _,fun x y h1 h2=>Ce (by rw [beq_iff_eq];exact aoA _ _ h1 h2)⟩
def valsR (xs:List ByteArray):List ByteArray:=uniqL blt [] xs
theorem valsR_len (xs:List ByteArray):(valsR xs).length≤xs.length:=by have:=uniqL_len blt xs [];unfold valsR;simpa using this
theorem valsR_mem {xs:List ByteArray} {z:ByteArray} (h:z∈valsR xs):z∈xs:=by
 rcases (uniqL_mem totB z xs []).1 h with h | h
 ·cases h
 ·exact h
theorem valsR_wt (xs:List ByteArray):kL ByteArray.size (valsR xs)≤kL ByteArray.size xs:=by
 have h:=uniqL_sum ByteArray.size blt xs [];have hl:=uniqL_len blt xs [];unfold valsR kL;simp only [List.map_nil,List.sum_nil,List.length_nil] at h hl;omega
def W9 (x y:Need):List Int:=[Lib.compareBytes x.key.data.toList y.key.data.toList,Lib.compareInt x.op y.op,qW x.values y.values]
def nD (x y:Need):Bool:=decide (Qa (W9 x y) < 0)
theorem compareNeeds_gr (x y:Need) (cs ds:List Value) (F G:List Nat) (w:World) (h:rd w x cs F) (h':rd w y ds G) (hl:(x.values.length:Int)≤1048576) (hl':(y.values.length:Int)≤1048576) :
 Calls Tryz.prog 172 #[.agg cs.toArray,.agg ds.toArray] w fun e w'=>e = .returned (.int .i64 (Qa (W9 x y)))∧Gr w w':=by
 obtain ⟨pX,pY,KG,hck,hF1,xO,hop1,wO⟩:=og h;obtain ⟨qO,qP,KL,jU,hF2,vC,hop2,zS⟩:=og h';subst hck jU;subst hF1 hF2;have hr1:=qj x.key.data.toList y.key.data.toList;have hr2:=BU x.op y.op;have hr3:=ZR x.values y.values;go_enter Tryz.func172,Tryz.ntmps172;go_wp2_with fail
 refine nS ((w.alloc (.cells #[.string x.key,.int .i64 x.op,.slice pX x.values.length pY] 158)).alloc (.cells #[.string y.key,.int .i64 y.op,.slice qO y.values.length qP] 158)) [0,1,2,3,5,6,7,8,10,11,12,13] [4,9,14,15,16,17] U' U' (fun _ _ d _ _ h=>by cases d <;> exact h) (aj _) ?_;simp only [pick,List.getElem?_cons_succ,List.getElem?_cons_zero]
 iterate 12
  (apply dR
   case hy =>exact Zacz
   simp only [Act.put,pz])
 refine fE ?_;have hbx:=aA (aj ((w.alloc (.cells #[.string x.key,.int .i64 x.op,.slice pX x.values.length pY] 158)).alloc (.cells #[.string y.key,.int .i64 y.op,.slice qO y.values.length qP] 158)));refine aK rfl (fun K hK=>?_);go_simp;refine (N8 x.key y.key _).mono ?_;rintro e wz ⟨rfl,hw⟩;simp only [hw];clear hw wz;refine hK _ _ hbx (fun _=>?_);try simp only [Act.put,pz]
 clear hK K;refine aK rfl (fun K hK=>?_);go_simp;refine (EI x.op y.op _).mono ?_;rintro e wz ⟨rfl,hw⟩;simp only [hw];clear hw wz;refine hK _ _ hbx (fun _=>?_);try simp only [Act.put,pz]
 clear hK K;have hbw:=ah (ak (ak (aj w) (.cells #[.string x.key,.int .i64 x.op,.slice pX x.values.length pY] 158)) (.cells #[.string y.key,.int .i64 y.op,.slice qO y.values.length qP] 158)) hbx;refine aK rfl (fun K hK=>?_);go_simp;refine (aeC x.values y.values _ _ _ _ _ _ _ _ _ (wO.ext hbw) (zS.ext hbw) rfl rfl hl hl').mono ?_;rintro e wz ⟨rfl,hw⟩;simp only [hw];clear hw wz;refine hK _ _ hbx (fun _=>?_);try simp only [Act.put,pz]
 clear hK K;refine aK rfl (fun K hK=>?_);go_simp;replace hbx:=ak hbx (.cells #[.int .i64 (Lib.compareBytes x.key.data.toList y.key.data.toList),.int .i64 (Lib.compareInt x.op y.op),.int .i64 (qW x.values y.values)] 3);refine hK _ _ hbx (fun _=>?_);try simp only [Act.put,pz]
 clear hK K;have hS:=Sl.ape (Sl.ints3 ((w.alloc (.cells #[.string x.key,.int .i64 x.op,.slice pX x.values.length pY] 158)).alloc (.cells #[.string y.key,.int .i64 y.op,.slice qO y.values.length qP] 158)) _ _ _ 3 (I64.small hr1) (I64.small hr2) (I64.small hr3) (w.heap.size+2) S');refine aK rfl (fun K hK=>?_);go_simp;refine (afl _ _ 3 _ _ _ hS rfl S').mono ?_;rintro e wz ⟨rfl,hw⟩;simp only [hw];clear hw wz;refine hK _ _ hbx (fun _=>?_);try simp only [Act.put,pz]
 clear hK K;refine aK rfl (fun K hK=>?_);go_simp;refine hK _ _ hbx (fun _=>?_);try simp only [Act.put,pz]
 clear hK K;refine dX ?_;go_wp2;go_ret
 exact ⟨rfl,(by repeat (first | with_reducible exact Gr.refl _ | with_reducible refine Gr.alloc ?_ _ | with_reducible refine Gr.drew ?_))⟩
theorem UA (x y:Need) (cs ds:List Value) (F G:List Nat) (w:World) (h:rd w x cs F) (h':rd w y ds G) (hl:(x.values.length:Int)≤1048576) (hl':(y.values.length:Int)≤1048576) :
 Calls Tryz.prog 172 #[.agg cs.toArray,.agg ds.toArray] w fun e w'=>e = .returned (.int .i64 (Qa (W9 x y)))∧Below w.heap.size w w' :=
 (compareNeeds_gr x y cs ds F G w h h' hl hl').mono fun _ _ hh=>⟨hh.1,hh.2.below⟩
theorem ail (x y:Need) (cs ds:List Value) (F G:List Nat) (w:World) (h:rd w x cs F) (h':rd w y ds G) (hl:(x.values.length:Int)≤1048576) (hl':(y.values.length:Int)≤1048576) :
 Calls Tryz.prog 159 #[.agg cs.toArray,.agg ds.toArray] w fun e w'=>e = .returned (.bool (nD x y))∧Below w.heap.size w w':=by
 have hC:∀wq,Below w.heap.size w wq→Calls Tryz.prog 172 #[.agg cs.toArray,.agg ds.toArray] wq fun e w'=>e = .returned (.int .i64 (Qa (W9 x y)))∧Below wq.heap.size wq w' :=
  fun wq hq=>UA x y cs ds F G wq (Dat.frame h (fun b hb'=>hq.block b (Dat.lt h b hb')) hq.size) (Dat.frame h' (fun b hb'=>hq.block b (Dat.lt h' b hb')) hq.size) hl hl'
 have hz:nD x y = decide (Qa (W9 x y) < 0):=rfl;generalize Qa (W9 x y) = z at hC hz;rw [hz];clear hz;obtain ⟨pX,pY,KG,hck,hF1,xO,hop1,wO⟩:=og h;obtain ⟨qO,qP,KL,jU,hF2,vC,hop2,zS⟩:=og h';subst hck jU;have HC:=I' hC;clear hC;go_enter Tryz.func159,Tryz.ntmps159;go_wp2_with fail
 refine (HC.out _ atS).mono ?_;rintro e w2 ⟨rfl,hb2⟩;go_wp2;go_ret
 exact ⟨rfl,atS⟩
theorem akQ {x y:Need} (h:(x.key.toList == y.key.toList) = false):nD x y = Op.bytesLess x.key.toList y.key.toList:=by
 have h1:Lib.compareBytes x.key.data.toList y.key.data.toList≠0:=fun e=>by
  exact Zadb
 unfold nD W9;simp only [Qa,if_neg h1];exact Zac5
theorem amw {x y:Need} (hk:(x.key.toList == y.key.toList) = true) (h:x.op≠y.op):nD x y = decide (x.op < y.op):=by
 have h0:Lib.compareBytes x.key.data.toList y.key.data.toList = 0:=by rw [J5,← ByteArray.toList_eq,← ByteArray.toList_eq];simpa using hk
 have h1:Lib.compareInt x.op y.op≠0:=by unfold Lib.compareInt;repeat' split <;> omega
 unfold nD W9;simp only [Qa,if_pos h0,if_neg h1];exact Zadr
theorem aeD {x y:Need} (hk:(x.key.toList == y.key.toList) = true) (h:x.op = y.op):nD x y = decide (qW x.values y.values < 0):=by
 have h0:Lib.compareBytes x.key.data.toList y.key.data.toList = 0:=by rw [J5,← ByteArray.toList_eq,← ByteArray.toList_eq];simpa using hk
 have h1:Lib.compareInt x.op y.op = 0:=by unfold Lib.compareInt;repeat' split <;> omega
 unfold nD W9;simp only [Qa,if_pos h0,if_pos h1];by_cases h2:qW x.values y.values = 0
 ·rw [if_pos h2,h2]
 ·rw [if_neg h2]
theorem TN (x y:Need) (cs ds:List Value) (F G:List Nat) (w:World) (h:rd w x cs F) (h':rd w y ds G) (hl:(x.values.length:Int)≤1048576) (hl':(y.values.length:Int)≤1048576) :
 Calls Tryz.prog 140 #[.agg cs.toArray,.agg ds.toArray] w fun e w'=>e = .returned (.bool (nD x y))∧Below w.heap.size w w':=by
 obtain ⟨pX,pY,KG,hck,hF1,xO,hop1,wO⟩:=og h;obtain ⟨qO,qP,KL,jU,hF2,vC,hop2,zS⟩:=og h';subst hck jU;cases h1:(x.key.toList == y.key.toList) with
 | false =>rw [akQ h1];go_enter Tryz.func140,Tryz.ntmps140;exact Zab9
 | true =>
   by_cases h3:x.op = y.op
   ·have hfin:=aeD h1 h3;have HF:=I' hfin;clear hfin;have h4:(x.op == y.op) = true:=(by simp [h3]);go_enter Tryz.func140,Tryz.ntmps140;go_wp2;go_loopw [5] (fun i wr=>∃k:Nat,k≤x.values.length∧i = .int .i64 k∧Hid (k≤y.values.length)∧Hid (qW x.values y.values = qW (x.values.drop k) (y.values.drop k))∧wr.cell? ⟨w.heap.size,2,none⟩ = some (.slice pX x.values.length pY)∧wr.cell? ⟨w.heap.size+1,2,none⟩ = some (.slice qO y.values.length qP)∧Below w.heap.size w wr) (fun i _=>x.values.length - (intOf i).toNat)
    case atStart =>
     refine ⟨0,Nat.zero_le _,rfl,Nat.zero_le _,rfl,?_,?_,atS⟩
     ·rw [World.cell?_of_block (heap_alloc_old _ _ S'),cell_of_row _ _ _ _ _ _ (heap_alloc_new w _)];rfl
     ·simp
    case round =>
     obtain ⟨k,hk,rfl,HK,HO,hx1,hx2,hbl⟩:=hrel;have hky:=HK.out;have hz1:=World.block_lt_of_cell? wr _ hx1;have hz2:=World.block_lt_of_cell? wr _ hx2;simp only at hz1 hz2;by_cases hlt:k < x.values.length
     ·by_cases hly:k < y.values.length
      ·obtain ⟨b,o,ck,Fk,rfl,o9,hbs,hr,hsub,hc⟩:=(Sl.ext (w':=wr) (A:=pX) (c:=pY) wO hbl).get hlt;obtain ⟨hck,su,hsz⟩:=hr;subst hck su;have q0:wr.cell? ⟨b,o+k,none⟩ = some (.string x.values[k]):=(by have:=hc 0 _ rfl;rwa [show o+(k * Dat.size ByteArray+0) = o+k from by show o+(k * 1+0) = _;omega] at this);clear hc;obtain ⟨b2,o2,ck2,Fk2,rfl,hbF2,uO,hr2,hsub2,hc2⟩:=(Sl.ext (w':=wr) (A:=qO) (c:=qP) zS hbl).get hly;obtain ⟨hck,su,hsz2⟩:=hr2;subst hck su;have p0:wr.cell? ⟨b2,o2+k,none⟩ = some (.string y.values[k]):=(by have:=hc2 0 _ rfl;rwa [show o2+(k * Dat.size ByteArray+0) = o2+k from by show o2+(k * 1+0) = _;omega] at this);clear hc2;have hd:=ab5 hlt hly;cases he:(x.values[k].toList == y.values[k].toList) with
       | true =>
         have h0:Lib.compareBytes x.values[k].data.toList y.values[k].data.toList = 0:=(by rw [J5,← ByteArray.toList_eq,← ByteArray.toList_eq];simpa using he);rw [if_pos h0] at hd;have HN:=I' (HO.out.trans hd);clear hd h0;go_wp2_with fail
         refine aF _ U' U' (aj _) ?_
         repeat (first
          | (apply aG
             case hw=>rfl
             simp only [Act.put,pz])
          | (apply aH
             case hw=>rfl
             case h =>exact Zaad
             simp only [Act.put,pz]))
         refine aN ?_;intro wn hn;replace hn:=hn.out;replace hx1:=((ay hn).1 _ _ hz1).trans hx1;replace hx2:=((ay hn).1 _ _ hz2).trans hx2;replace q0:=((ay hn).1 _ _ hbs).trans q0;replace p0:=((ay hn).1 _ _ uO).trans p0;replace hz1:=Nat.lt_of_lt_of_le hz1 hn.size;replace hz2:=Nat.lt_of_lt_of_le hz2 hn.size;replace hbs:=Nat.lt_of_lt_of_le hbs hn.size;replace uO:=Nat.lt_of_lt_of_le uO hn.size;replace hbl:=ah hbl hn;go_wp2;exact ⟨⟨k+1,O',N',by show k+1≤y.values.length;omega,HN.out,hx1,hx2,hbl⟩,by simp [intOf];omega⟩
       | false =>
         have h0:Lib.compareBytes x.values[k].data.toList y.values[k].data.toList≠0:=fun e=>by
          rw [J5,← ByteArray.toList_eq,← ByteArray.toList_eq] at e;simp [e] at he
         rw [if_neg h0] at hd;have hg:nD x y = Op.bytesLess x.values[k].toList y.values[k].toList:=by rw [HF.out,HO.out,hd,Bool.eq_iff_iff,decide_eq_true_eq,Wx,ByteArray.toList_eq,ByteArray.toList_eq]
         have HG:=I' hg;clear hd h0 hg;go_wp2_with fail
         refine aF _ U' U' (aj _) ?_
         repeat (first
          | (apply aG
             case hw=>rfl
             simp only [Act.put,pz])
          | (apply aH
             case hw=>rfl
             case h =>exact Zaad
             simp only [Act.put,pz]))
         refine aN ?_;intro wn hn;replace hn:=hn.out;replace hx1:=((ay hn).1 _ _ hz1).trans hx1;replace hx2:=((ay hn).1 _ _ hz2).trans hx2;replace q0:=((ay hn).1 _ _ hbs).trans q0;replace p0:=((ay hn).1 _ _ uO).trans p0;replace hz1:=Nat.lt_of_lt_of_le hz1 hn.size;replace hz2:=Nat.lt_of_lt_of_le hz2 hn.size;replace hbs:=Nat.lt_of_lt_of_le hbs hn.size;replace uO:=Nat.lt_of_lt_of_le uO hn.size;replace hbl:=ah hbl hn;clear hn;go_wp2_with fail
         first
          | (go_ret;exact ⟨by rw [HG.out];first | rfl | simp_all,hbl⟩)
          | (refine aF _ U' U' (aj _) ?_
             repeat (first
              | (apply aG
                 case hw=>rfl
                 simp only [Act.put,pz])
              | (apply aH
                 case hw=>rfl
                 case h =>exact Zaad
                 simp only [Act.put,pz]))
             refine aN ?_;intro wn2 hn2;replace hn2:=hn2.out;go_wp2;go_ret
             exact ⟨by rw [HG.out];first | rfl | simp_all,ah hbl hn2⟩)
      ·have hg:nD x y = false:=(by rw [HF.out,HO.out,ab6 hlt O'];rfl);have HG:=I' hg;have hli:¬(x.values.length:Int) < y.values.length:=O';clear hg;exact Zad4
     ·have hkl:k = x.values.length:=O';subst hkl;have he:=HO.out.trans (adS (Nat.le_refl _));by_cases hly:x.values.length < y.values.length
      ·rw [if_pos hly] at he;have hg:nD x y = true:=(by rw [HF.out,he];rfl);have HG:=I' hg;have hli:(x.values.length:Int) < y.values.length:=O';clear hg he;exact Zad4
      ·rw [if_neg hly] at he;have hg:nD x y = false:=(by rw [HF.out,he];rfl);have HG:=I' hg;have hli:¬(x.values.length:Int) < y.values.length:=O';clear hg he;exact Zad4
   ·rw [amw h1 h3];have h4:(x.op == y.op) = false:=(by simp [h3]);go_enter Tryz.func140,Tryz.ntmps140;exact Zab9
structure Cq {β:Type} (c:β→β→Int):Prop where
 refl:∀x,c x x = 0
 anti:∀x y,c y x = - c x y
 trans:∀x y z,c x y≤0→c y z≤0→c x z≤0
section
variable {β γ:Type} {c d:β→β→Int}
theorem Cq.lt1 (C:Cq c) {x y z:β} (h:c x y < 0) (k:c y z≤0):c x z < 0:=by
 have h1:=C.trans x y z O' k;apply Classical.byContradiction;intro hn;have h2:c z x≤0:=by rw [C.anti x z];omega
 have h3:=C.trans y z x k h2;rw [C.anti x y] at h3;omega
theorem Cq.lt2 (C:Cq c) {x y z:β} (h:c x y≤0) (k:c y z < 0):c x z < 0:=by
 have h1:=C.trans x y z h O';apply Classical.byContradiction;intro hn;have h2:c z x≤0:=by rw [C.anti x z];omega
 have h3:=C.trans z x y h2 h;rw [C.anti y z] at h3;omega
theorem Cq.at (C:Cq c) (f:γ→β):Cq fun x y=>c (f x) (f y):=⟨fun x=>C.refl _,fun x y=>C.anti _ _,fun x y z=>C.trans _ _ _⟩
theorem Cq.lex (C:Cq c) (D:Cq d):Cq fun x y=>if c x y = 0 then d x y else c x y:=by
 refine ⟨fun x=>by simp only [C.refl,if_true,D.refl],fun x y=>?_,fun x y z=>?_⟩
 ·have:=C.anti x y;by_cases h:c x y = 0
  ·simp only [h,show c y x = 0 by omega,if_true,D.anti x y]
  ·simp only [if_neg h];rw [if_neg (show ¬c y x = 0 by omega)];exact this
 ·intro h k;by_cases h1:c x y = 0
  ·by_cases h2:c y z = 0
   ·have h3:=C.trans x y z O' O';have h4:=C.trans z y x (by rw [C.anti y z];omega) (by rw [C.anti x y];omega);rw [C.anti x z] at h4;simp only [h1,h2,if_true] at h k;simp only [show c x z = 0 by omega,if_true];exact D.trans _ _ _ h k
   ·simp only [if_neg h2] at k;have:=C.lt2 (x:=x) (y:=y) (z:=z) O' O';simp only [if_neg (show ¬c x z = 0 by omega)];omega
  ·simp only [if_neg h1] at h;by_cases h2:c y z = 0
   ·have:=C.lt1 (x:=x) (y:=y) (z:=z) O' O';simp only [if_neg (show ¬c x z = 0 by omega)];omega
   ·simp only [if_neg h2] at k;have:=C.lt1 (x:=x) (y:=y) (z:=z) O' k;simp only [if_neg (show ¬c x z = 0 by omega)];omega
theorem Cq.tot (C:Cq c) (h:∀x y,c x y = 0→x = y):Tot fun x y=>decide (c x y < 0):=by
 refine ⟨fun x=>by simp [C.refl],fun x y z a b=>?_,fun x y a b=>h x y ?_⟩
 ·simp only [decide_eq_true_eq] at *;exact C.lt1 a O'
 ·simp only [decide_eq_false_iff_not] at *;have:=C.anti x y;omega
theorem Cq.weak (C:Cq c):Weak fun x y=>decide (c x y < 0):=by
 refine ⟨fun x=>by simp [C.refl],fun x y z a b=>?_,fun x y z a b=>?_⟩
 ·simp only [decide_eq_true_eq] at *;exact C.lt1 a O'
 ·simp only [decide_eq_false_iff_not] at *;have h1:=C.anti x y;have h2:=C.anti y z;have h3:=C.anti x z;have:=C.trans z y x O' O';omega
end
theorem cpBytes:Cq Lib.compareBytes:=by
 refine ⟨fun x=>(J5 x x).2 rfl,fun x y=>alC x y,?_⟩;intro a;induction a with
 | nil=>intro b c _ _;cases c <;> simp [Lib.compareBytes]
 | cons x a ih =>
   intro b c h k;cases b with
   | nil=>simp [Lib.compareBytes] at h
   | cons y b =>
     cases c with
     | nil=>simp [Lib.compareBytes] at k
     | cons z c =>
       unfold Lib.compareBytes at h k ⊢;simp only [UInt8.lt_iff_toNat_lt] at *;by_cases h1:x.toNat < y.toNat
       ·rw [if_pos h1] at h;by_cases k1:y.toNat < z.toNat
        ·rw [if_pos O'];omega
        ·rw [if_neg k1] at k;by_cases k2:z.toNat < y.toNat
         ·rw [if_pos k2] at k;omega
         ·rw [if_pos O'];omega
       ·rw [if_neg h1] at h;by_cases h2:y.toNat < x.toNat
        ·rw [if_pos h2] at h;omega
        ·rw [if_neg h2] at h;by_cases k1:y.toNat < z.toNat
         ·rw [if_pos O'];omega
         ·rw [if_neg k1] at k;by_cases k2:z.toNat < y.toNat
          ·rw [if_pos k2] at k;omega
          ·rw [if_neg k2] at k;rw [if_neg O',if_neg O'];exact ih b c h k
theorem cpInt:Cq Lib.compareInt:=by
 refine ⟨fun x=>?_,fun x y=>?_,fun x y z=>?_⟩ <;> unfold Lib.compareInt <;> (repeat' split) <;> omega
theorem cpFlag:Cq aag:=by
 refine ⟨fun x=>by cases x <;> decide,fun x y=>by cases x <;> cases y <;> decide,fun x y z=>by cases x <;> cases y <;> cases z <;> decide⟩
theorem cpKey:Cq fun a b:ByteArray=>Lib.compareBytes a.data.toList b.data.toList:=cpBytes.at fun a:ByteArray=>a.data.toList
theorem key_eq {a b:ByteArray} (h:Lib.compareBytes a.data.toList b.data.toList = 0):a = b:=by
 have:=(J5 _ _).1 h;cases a;cases b
 simpa using this
theorem int_eq {a b:Int} (h:Lib.compareInt a b = 0):a = b:=by
 unfold Lib.compareInt at h;repeat' split at h
 all_goals omega
theorem flag_eq {a b:Bool} (h:aag a b = 0):a = b:=by cases a <;> cases b <;> first | rfl | (exfalso;revert h;decide)
theorem vals_anti:∀xs ys:List ByteArray,qW ys xs = - qW xs ys
 | [],[]=>rfl
 | [],_ :: _=>rfl
 | _ :: _,[]=>rfl
 | x :: xs,y :: ys=>by
   have h1:=cpKey.anti x y;have h2:=vals_anti xs ys;unfold qW;rw [h1,h2];by_cases h:Lib.compareBytes x.data.toList y.data.toList = 0
   ·rw [if_pos h,if_pos O']
   ·rw [if_neg h,if_neg O']
theorem vals_eq:∀{xs ys:List ByteArray},qW xs ys = 0→xs = ys
 | [],[],_=>rfl
 | [],_ :: _,h=>by simp [qW] at h
 | _ :: _,[],h=>by simp [qW] at h
 | x :: xs,y :: ys,h=>by
   unfold qW at h;by_cases h1:Lib.compareBytes x.data.toList y.data.toList = 0
   ·rw [if_pos h1] at h;rw [key_eq h1,vals_eq h]
   ·rw [if_neg h1] at h;exact absurd h h1
theorem vals_trans:∀xs ys zs:List ByteArray,qW xs ys≤0→qW ys zs≤0→qW xs zs≤0
 | [],_,[],_,_=>by simp [qW]
 | [],_,_ :: _,_,_=>by simp [qW]
 | _ :: _,[],_,h,_=>by simp [qW] at h
 | _ :: _,_ :: _,[],_,k=>by simp [qW] at k
 | x :: xs,y :: ys,z :: zs,h,k=>by
   have C:=cpKey;have ih:=vals_trans xs ys zs;unfold qW at h k ⊢;by_cases h1:Lib.compareBytes x.data.toList y.data.toList = 0
   ·rw [if_pos h1] at h;have e:=key_eq h1;subst e;by_cases h2:Lib.compareBytes x.data.toList z.data.toList = 0
    ·rw [if_pos h2] at k ⊢;exact ih h k
    ·rw [if_neg h2] at k ⊢;exact k
   ·rw [if_neg h1] at h;by_cases h2:Lib.compareBytes y.data.toList z.data.toList = 0
    ·have e:=key_eq h2;subst e;rw [if_neg h1];exact h
    ·rw [if_neg h2] at k;have h3:Lib.compareBytes x.data.toList z.data.toList < 0:=C.lt1 (x:=x) (y:=y) (z:=z) (show Lib.compareBytes x.data.toList y.data.toList < 0 by omega) k;rw [if_neg O'];omega
theorem cpVals:Cq qW:=⟨fun xs=>by have:=vals_anti xs xs;omega,vals_anti,vals_trans⟩
theorem orI3 (a b c:Int):Qa [a,b,c] = if a = 0 then (if b = 0 then c else b) else a:=by
 unfold Qa Qa Qa Qa;by_cases h:c = 0
 ·simp [h]
 ·simp [h]
theorem orI4 (a b c d:Int):Qa [a,b,c,d] = if a = 0 then (if b = 0 then (if c = 0 then d else c) else b) else a:=by
 rw [show Qa [a,b,c,d] = if a = 0 then Qa [b,c,d] else a from rfl,orI3]
theorem cpTaint:Cq fun x y:iU=>Qa (ao0 x y):=by
 have:=(cpKey.at iU.key).lex ((cpKey.at iU.value).lex (cpInt.at iU.effect));simpa only [ao0,orI3] using this
theorem cpTol:Cq fun x y:bH=>Qa (anq x y):=by
 have:=(cpKey.at bH.key).lex ((cpFlag.at bH.equal).lex ((cpKey.at bH.value).lex (cpInt.at bH.effect)));simpa only [anq,orI4] using this
theorem cpNeed:Cq fun x y:Need=>Qa (W9 x y):=by
 have:=(cpKey.at Need.key).lex ((cpInt.at Need.op).lex (cpVals.at Need.values));simpa only [W9,orI3] using this
theorem totTaint:Tot fun x y:iU=>decide (Qa (ao0 x y) < 0):=cpTaint.tot fun x y h=>by
 simp only [ao0,orI3] at h;repeat' split at h
 ·rename_i h1 h2;cases x;cases y
  simp only at *;rw [key_eq h1,key_eq h2,int_eq h]
 ·contradiction
 ·contradiction
theorem totTol:Tot fun x y:bH=>decide (Qa (anq x y) < 0):=cpTol.tot fun x y h=>by
 simp only [anq,orI4] at h;repeat' split at h
 ·rename_i h1 h2 h3;cases x;cases y
  simp only at *;rw [key_eq h1,flag_eq h2,key_eq h3,int_eq h]
 ·contradiction
 ·contradiction
 ·contradiction
theorem totNeed:Tot fun x y:Need=>decide (Qa (W9 x y) < 0):=cpNeed.tot fun x y h=>by
 simp only [W9,orI3] at h;repeat' split at h
 ·rename_i h1 h2;cases x;cases y
  simp only at *;rw [key_eq h1,int_eq h2,vals_eq h]
 ·contradiction
 ·contradiction
end Go.Proofs.YtkbkikggodlbbaaGreat
