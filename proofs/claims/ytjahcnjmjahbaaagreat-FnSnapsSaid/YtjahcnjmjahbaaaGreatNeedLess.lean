/- The reference's NeedLess. No condition. -/
import Derived.Test.YtjahcnjmjahbaaaGreatTolsOk
import Derived.Test.YtjahcnjmjahbaaaGreatLaw0
namespace Go.Proofs.YtjahcnjmjahbaaaGreat
open Go.ChangeShapes Go.WideShapes Go.ChangeAt Go.RowKit
set_option linter.unusedVariables false
set_option linter.unusedSimpArgs false
set_option maxHeartbeats 2000000
set_option maxRecDepth 100000
theorem akQ {x y:ba} (h:(x.key.toList == y.key.toList) = false):nD x y = Op.bytesLess x.key.toList y.key.toList:=by
 have h1:Lib.compareBytes x.key.data.toList y.key.data.toList≠0:=fun e=>by
  exact qu
 unfold nD W9;simp only [Qa,if_neg h1];exact qt
theorem amw {x y:ba} (hk:(x.key.toList == y.key.toList) = true) (h:x.op≠y.op):nD x y = decide (x.op < y.op):=by
 have h0:Lib.compareBytes x.key.data.toList y.key.data.toList = 0:=by rw [J5,← ByteArray.toList_eq,← ByteArray.toList_eq];simpa using hk
 have h1:Lib.compareInt x.op y.op≠0:=by unfold Lib.compareInt;repeat' split <;> omega
 unfold nD W9;simp only [Qa,if_pos h0,if_neg h1];exact zH
theorem aeD {x y:ba} (hk:(x.key.toList == y.key.toList) = true) (h:x.op = y.op):nD x y = decide (qW x.values y.values < 0):=by
 have h0:Lib.compareBytes x.key.data.toList y.key.data.toList = 0:=by rw [J5,← ByteArray.toList_eq,← ByteArray.toList_eq];simpa using hk
 have h1:Lib.compareInt x.op y.op = 0:=by unfold Lib.compareInt;repeat' split <;> omega
 unfold nD W9;simp only [Qa,if_pos h0,if_pos h1];by_cases h2:qW x.values y.values = 0
 ·rw [if_pos h2,h2]
 ·rw [if_neg h2]
theorem TN (x y:ba) (cs ds:List Value) (F G:List Nat) (w:World) (h:rd w x cs F) (h':rd w y ds G) (hl:(x.values.length:Int)≤1048576) (vQ:(y.values.length:Int)≤1048576) :
 Calls Tryz.prog 80 #[.agg cs.toArray,.agg ds.toArray] w fun e w'=>e = .returned (.bool (nD x y))∧Below w.heap.size w w':=by
 obtain ⟨pX,pY,KG,aw,hF1,xO,j8,wO⟩:=og h;obtain ⟨qO,qP,KL,jU,ld,vC,hop2,zS⟩:=og h';subst aw jU;cases h1:(x.key.toList == y.key.toList) with
 | false =>rw [akQ h1];go_enter Tryz.func80,Tryz.ntmps80;exact oW
 | true =>
   by_cases h3:x.op = y.op
   ·have bm:=aeD h1 h3;have HF:=I bm;clear bm;have h4:(x.op == y.op) = true:=(by simp [h3]);go_enter Tryz.func80,Tryz.ntmps80;go_wp2;go_loopw [5] (fun i wr=>∃k:Nat,k≤x.values.length∧i = .int .i64 k∧Hid (k≤y.values.length)∧Hid (qW x.values y.values = qW (x.values.drop k) (y.values.drop k))∧wr.cell? ⟨w.heap.size,2,none⟩ = some (.slice pX x.values.length pY)∧wr.cell? ⟨w.heap.size+1,2,none⟩ = some (.slice qO y.values.length qP)∧Below w.heap.size w wr) (fun i _=>x.values.length - (intOf i).toNat)
    case atStart =>
     refine ⟨0,Nat.zero_le _,rfl,Nat.zero_le _,rfl,?_,?_,bs⟩
     ·exact zx
     ·simp
    case round =>
     obtain ⟨k,hk,rfl,HK,HO,hx1,vR,aE⟩:=hrel;have hky:=HK.out;have cQ:=World.block_lt_of_cell? wr _ hx1;have cD:=World.block_lt_of_cell? wr _ vR;simp only at cQ cD;by_cases ap:k < x.values.length
     ·by_cases hly:k < y.values.length
      ·obtain ⟨b,o,ck,Fk,rfl,o9,hbs,hr,bv,hc⟩:=(Sl.ext (w':=wr) (A:=pX) (c:=pY) wO aE).get ap;obtain ⟨aw,su,eQ⟩:=hr;subst aw su;have q0:wr.cell? ⟨b,o+k,none⟩ = some (.string x.values[k]):=(by have:=hc 0 _ rfl;rwa [show o+(k * bd.size ByteArray+0) = o+k from by show o+(k * 1+0) = _;omega] at this);clear hc;obtain ⟨b2,o2,ck2,Fk2,rfl,ayO,uO,fc,iY,ce⟩:=(Sl.ext (w':=wr) (A:=qO) (c:=qP) zS aE).get hly;obtain ⟨aw,su,hsz2⟩:=fc;subst aw su;have p0:wr.cell? ⟨b2,o2+k,none⟩ = some (.string y.values[k]):=(by have:=ce 0 _ rfl;rwa [show o2+(k * bd.size ByteArray+0) = o2+k from by show o2+(k * 1+0) = _;omega] at this);clear ce;have hd:=ZZ ap hly;cases he:(x.values[k].toList == y.values[k].toList) with
       | true =>
         have h0:Lib.compareBytes x.values[k].data.toList y.values[k].data.toList = 0:=(by rw [J5,← ByteArray.toList_eq,← ByteArray.toList_eq];simpa using he);rw [if_pos h0] at hd;have HN:=I (HO.out.trans hd);clear hd h0;go_wp2_with fail
         refine aF _ U' U' (aj _) ?_
         repeat ((first | refine aG X ?_ | refine aH _ X dC ?_);simp only [Act.put,pz])
         refine aN ?_;intro wn hn;replace hn:=hn.out;replace hx1:=r' hn hx1 cQ;replace vR:=r' hn vR cD;replace q0:=r' hn q0 hbs;replace p0:=r' hn p0 uO;replace cQ:=Nat.lt_of_lt_of_le cQ hn.size;replace cD:=Nat.lt_of_lt_of_le cD hn.size;replace hbs:=Nat.lt_of_lt_of_le hbs hn.size;replace uO:=Nat.lt_of_lt_of_le uO hn.size;replace aE:=ah aE hn;go_wp2;exact ⟨⟨k+1,J,N',by show k+1≤y.values.length;omega,HN.out,hx1,vR,aE⟩,by simp [intOf];omega⟩
       | false =>
         have h0:Lib.compareBytes x.values[k].data.toList y.values[k].data.toList≠0:=fun e=>by
          rw [J5,← ByteArray.toList_eq,← ByteArray.toList_eq] at e;simp [e] at he
         rw [if_neg h0] at hd;have hg:nD x y = Op.bytesLess x.values[k].toList y.values[k].toList:=by rw [HF.out,HO.out,hd,Bool.eq_iff_iff,decide_eq_true_eq,Wx,ByteArray.toList_eq,ByteArray.toList_eq]
         have HG:=I hg;clear hd h0 hg;go_wp2_with fail
         refine aF _ U' U' (aj _) ?_
         repeat ((first | refine aG X ?_ | refine aH _ X dC ?_);simp only [Act.put,pz])
         refine aN ?_;intro wn hn;replace hn:=hn.out;replace hx1:=r' hn hx1 cQ;replace vR:=r' hn vR cD;replace q0:=r' hn q0 hbs;replace p0:=r' hn p0 uO;replace cQ:=Nat.lt_of_lt_of_le cQ hn.size;replace cD:=Nat.lt_of_lt_of_le cD hn.size;replace hbs:=Nat.lt_of_lt_of_le hbs hn.size;replace uO:=Nat.lt_of_lt_of_le uO hn.size;replace aE:=ah aE hn;clear hn;go_wp2_with fail
         first
          | (go_ret;exact ⟨by rw [HG.out];first | rfl | simp_all,aE⟩)
          | (refine aF _ U' U' (aj _) ?_
             repeat ((first | refine aG X ?_ | refine aH _ X dC ?_);simp only [Act.put,pz])
             refine aN ?_;intro wn2 sP;replace sP:=sP.out;go_wp2;go_ret
             exact ⟨by rw [HG.out];first | rfl | simp_all,ah aE sP⟩)
      ·have hg:nD x y = false:=(by rw [HF.out,HO.out,Z0 ap J];rfl);have HG:=I hg;have Z2:¬(x.values.length:Int) < y.values.length:=J;clear hg;exact Ae
     ·have bx:k = x.values.length:=J;subst bx;have he:=HO.out.trans (Z1 (Nat.le_refl _));by_cases hly:x.values.length < y.values.length
      ·rw [if_pos hly] at he;have hg:nD x y = true:=(by rw [HF.out,he];rfl);have HG:=I hg;have Z2:(x.values.length:Int) < y.values.length:=J;clear hg he;exact Ae
      ·rw [if_neg hly] at he;have hg:nD x y = false:=(by rw [HF.out,he];rfl);have HG:=I hg;have Z2:¬(x.values.length:Int) < y.values.length:=J;clear hg he;exact Ae
   ·rw [amw h1 h3];have h4:(x.op == y.op) = false:=(by simp [h3]);go_enter Tryz.func80,Tryz.ntmps80;exact oW
theorem QF (xs ys:List ba) (A B:Option Addr) (c d:Nat) (F G:List Nat) (w:World) (h:Sl w xs A c F) (h':Sl w ys B d G) (wN:∀l∈xs,(l.values.length:Int)≤1048576) (hys:∀l∈ys,(l.values.length:Int)≤1048576) :
 Calls Tryz.prog 42 #[.slice A xs.length c,.slice B ys.length d] w fun e w'=>e = .returned (.bool (same yI xs ys))∧Below w.heap.size w w':=by
 have hc:=h.aL;unfold maxLen at hc;obtain ⟨da,ce⟩:=hc;have hd:=h'.aL;unfold maxLen at hd;obtain ⟨we,UJ⟩:=hd;by_cases hl:xs.length = ys.length
 ·have HL:=I hl;have bk:((xs.length:Int) != (ys.length:Int)) = false:=by simp [hl]
  clear hl;go_enter Tryz.func42,Tryz.ntmps42;go_wp2;go_loopw [5] (fun i wr=>∃k:Nat,k≤xs.length∧i = .int .i64 k∧Hid (same yI (xs.take k) (ys.take k) = true)∧Below w.heap.size w wr) (fun i _=>xs.length - (intOf i).toNat)
  case atStart=>exact ⟨0,Nat.zero_le _,rfl,by show _ = true;simp [same],aj _⟩
  case round =>
   obtain ⟨k,hk,rfl,Heq,aE⟩:=hrel;by_cases ap:k < xs.length
   ·obtain ⟨b,o,ck,Fk,rfl,o9,hbs,hr,bv,hc⟩:=(h.ext aE).get ap;have fq:k < ys.length:=(by rw [← HL.out];exact ap);obtain ⟨b',o',TY,Xw,rfl,Ht,hbs',cN,zQ,hc'⟩:=(h'.ext aE).get fq;obtain ⟨pX,pY,KG,aw,rfl,xO,j8,wO⟩:=og hr;subst aw;obtain ⟨qO,qP,KL,aw,rfl,vC,hop2,zS⟩:=og cN;subst aw;obtain ⟨q0,q1,q2⟩:=iX 3 hc;obtain ⟨p0,p1,p2⟩:=iX 3 hc';clear hc hc';have PF:=wN xs[k] (List.getElem_mem ..);have rS:=hys ys[k] (List.getElem_mem ..);have OI:=I (fun wq hq=>TN xs[k] ys[k] _ _ _ _ wq (aJ hr hq) (aJ cN hq) PF rS);have RK:=I (fun wq hq=>TN ys[k] xs[k] _ _ _ _ wq (aJ cN hq) (aJ hr hq) rS PF);have EL:=amW xs[k] ys[k];clear wN hys;cases h1:nD xs[k] ys[k] with
    | true =>have he:yI xs[k] ys[k] = false:=(by rw [← EL,h1];rfl);have HS:=I (nP (k+1) IK HL.out);rw [h1] at OI;clear EL he h1;exact Kg
    | false =>
      cases h2:nD ys[k] xs[k] with
      | true =>have he:yI xs[k] ys[k] = false:=(by rw [← EL,h1,h2];rfl);have HS:=I (nP (k+1) IK HL.out);rw [h1] at OI;rw [h2] at RK;clear EL he h1 h2;exact Kg
      | false =>
        have he:yI xs[k] ys[k] = true:=(by rw [← EL,h1,h2];rfl);have HS:=I (show same yI (xs.take (k+1)) (ys.take (k+1)) = true by rw [iC ap fq,Heq.out,he];rfl);rw [h1] at OI;rw [h2] at RK;clear EL he h1 h2;go_wp2_with fail
        refine aF wr U' U' ut ?_
        repeat ((first | refine aG X ?_ | refine aH _ X GQ ?_);simp only [Act.put,pz])
        refine aN ?_;intro wn hn;replace hn:=hn.out;go_wp2;exact ⟨⟨k+1,J,N',HS,ah aE hn⟩,by simp [intOf];omega⟩
   ·exact IF
 ·have bk:((xs.length:Int) != (ys.length:Int)) = true:=by simp;omega
  have HL:=I (qN (eq:=yI) hl);clear hl;go_enter Tryz.func42,Tryz.ntmps42;go_wp2;go_ret
  exact ⟨by rw [HL.out];rfl,aj _⟩
structure Cq {β:Type} (c:β→β→Int):Prop where
 refl:∀x,c x x = 0
 gn:∀x y,c y x = - c x y
 trans:∀x y z,c x y≤0→c y z≤0→c x z≤0
section
variable {β γ:Type} {c d:β→β→Int}
theorem Cq.Pz (C:Cq c) {x y z:β} (h:c x y < 0) (k:c y z≤0):c x z < 0:=by
 have h1:=C.trans x y z J k;apply Classical.byContradiction;intro hn;have h2:c z x≤0:=by rw [C.gn x z];omega
 have h3:=C.trans y z x k h2;rw [C.gn x y] at h3;omega
theorem Cq.lt2 (C:Cq c) {x y z:β} (h:c x y≤0) (k:c y z < 0):c x z < 0:=by
 have h1:=C.trans x y z h J;apply Classical.byContradiction;intro hn;have h2:c z x≤0:=by rw [C.gn x z];omega
 have h3:=C.trans z x y h2 h;rw [C.gn y z] at h3;omega
theorem Cq.at (C:Cq c) (f:γ→β):Cq fun x y=>c (f x) (f y):=⟨fun x=>C.refl _,fun x y=>C.gn _ _,fun x y z=>C.trans _ _ _⟩
theorem Cq.lex (C:Cq c) (D:Cq d):Cq fun x y=>if c x y = 0 then d x y else c x y:=by
 refine ⟨fun x=>by simp only [C.refl,if_true,D.refl],fun x y=>?_,fun x y z=>?_⟩
 ·have:=C.gn x y;by_cases h:c x y = 0
  ·simp only [h,show c y x = 0 by omega,if_true,D.gn x y]
  ·simp only [if_neg h];rw [if_neg (show ¬c y x = 0 by omega)];exact this
 ·intro h k;by_cases h1:c x y = 0
  ·by_cases h2:c y z = 0
   ·have h3:=C.trans x y z J J;have h4:=C.trans z y x (by rw [C.gn y z];omega) (by rw [C.gn x y];omega);rw [C.gn x z] at h4;simp only [h1,h2,if_true] at h k;simp only [show c x z = 0 by omega,if_true];exact D.trans _ _ _ h k
   ·simp only [if_neg h2] at k;have:=C.lt2 (x:=x) (y:=y) (z:=z) J J;simp only [if_neg (show ¬c x z = 0 by omega)];omega
  ·simp only [if_neg h1] at h;by_cases h2:c y z = 0
   ·have:=C.Pz (x:=x) (y:=y) (z:=z) J J;simp only [if_neg (show ¬c x z = 0 by omega)];omega
   ·simp only [if_neg h2] at k;have:=C.Pz (x:=x) (y:=y) (z:=z) J k;simp only [if_neg (show ¬c x z = 0 by omega)];omega
theorem Cq.SI (C:Cq c) (h:∀x y,c x y = 0→x = y):vt fun x y=>decide (c x y < 0):=by
 refine ⟨fun x=>by simp [C.refl],fun x y z a b=>?_,fun x y a b=>h x y ?_⟩
 ·simp only [decide_eq_true_eq] at *;exact C.Pz a J
 ·simp only [decide_eq_false_iff_not] at *;have:=C.gn x y;omega
end
theorem SJ:Cq Lib.compareBytes:=by
 refine ⟨fun x=>(J5 x x).2 rfl,fun x y=>Px x y,?_⟩;intro a;induction a with
 | nil=>intro b c _ _;cases c <;> simp [Lib.compareBytes]
 | cons x a ih =>
   intro b c h k;cases b with
   | nil=>simp [Lib.compareBytes] at h
   | cons y b =>
     cases c with
     | nil=>simp [Lib.compareBytes] at k
     | cons z c =>
       unfold Lib.compareBytes at h k ⊢;simp only [UInt8.lt_iff_toNat_lt] at *;by_cases h1:x.toNat < y.toNat
       ·rw [if_pos h1] at h;by_cases k1:y.toNat < z.toNat
        ·rw [if_pos J];omega
        ·rw [if_neg k1] at k;by_cases k2:z.toNat < y.toNat
         ·rw [if_pos k2] at k;omega
         ·rw [if_pos J];omega
       ·rw [if_neg h1] at h;by_cases h2:y.toNat < x.toNat
        ·rw [if_pos h2] at h;omega
        ·rw [if_neg h2] at h;by_cases k1:y.toNat < z.toNat
         ·rw [if_pos J];omega
         ·rw [if_neg k1] at k;by_cases k2:z.toNat < y.toNat
          ·rw [if_pos k2] at k;omega
          ·rw [if_neg k2] at k;rw [if_neg J,if_neg J];exact ih b c h k
theorem SK:Cq Lib.compareInt:=by
 refine ⟨fun x=>?_,fun x y=>?_,fun x y z=>?_⟩ <;> unfold Lib.compareInt <;> (repeat' split) <;> omega
theorem AS:Cq pE:=by
 refine ⟨fun x=>by cases x <;> decide,fun x y=>by cases x <;> cases y <;> decide,fun x y z=>by cases x <;> cases y <;> cases z <;> decide⟩
theorem AT:Cq fun a b:ByteArray=>Lib.compareBytes a.data.toList b.data.toList:=SJ.at fun a:ByteArray=>a.data.toList
theorem fr {a b:ByteArray} (h:Lib.compareBytes a.data.toList b.data.toList = 0):a = b:=by
 have:=(J5 _ _).1 h;cases a;cases b
 simpa using this
theorem nj {a b:Int} (h:Lib.compareInt a b = 0):a = b:=by
 unfold Lib.compareInt at h;repeat' split at h
 all_goals omega
theorem aGj {a b:Bool} (h:pE a b = 0):a = b:=by cases a <;> cases b <;> first | rfl | (exfalso;revert h;decide)
theorem SL:∀xs ys:List ByteArray,qW ys xs = - qW xs ys
 | [],[]=>rfl
 | [],_ :: _=>rfl
 | _ :: _,[]=>rfl
 | x :: xs,y :: ys=>by
   have h1:=AT.gn x y;have h2:=SL xs ys;unfold qW;rw [h1,h2];by_cases h:Lib.compareBytes x.data.toList y.data.toList = 0
   ·rw [if_pos h,if_pos J]
   ·rw [if_neg h,if_neg J]
theorem od:∀{xs ys:List ByteArray},qW xs ys = 0→xs = ys
 | [],[],_=>rfl
 | [],_ :: _,h=>by simp [qW] at h
 | _ :: _,[],h=>by simp [qW] at h
 | x :: xs,y :: ys,h=>by
   unfold qW at h;by_cases h1:Lib.compareBytes x.data.toList y.data.toList = 0
   ·rw [if_pos h1] at h;rw [fr h1,od h]
   ·rw [if_neg h1] at h;exact absurd h h1
theorem Z3:∀xs ys zs:List ByteArray,qW xs ys≤0→qW ys zs≤0→qW xs zs≤0
 | [],_,[],_,_=>by simp [qW]
 | [],_,_ :: _,_,_=>by simp [qW]
 | _ :: _,[],_,h,_=>by simp [qW] at h
 | _ :: _,_ :: _,[],_,k=>by simp [qW] at k
 | x :: xs,y :: ys,z :: zs,h,k=>by
   have C:=AT;have ih:=Z3 xs ys zs;unfold qW at h k ⊢;by_cases h1:Lib.compareBytes x.data.toList y.data.toList = 0
   ·rw [if_pos h1] at h;have e:=fr h1;subst e;by_cases h2:Lib.compareBytes x.data.toList z.data.toList = 0
    ·rw [if_pos h2] at k ⊢;exact ih h k
    ·rw [if_neg h2] at k ⊢;exact k
   ·rw [if_neg h1] at h;by_cases h2:Lib.compareBytes y.data.toList z.data.toList = 0
    ·have e:=fr h2;subst e;rw [if_neg h1];exact h
    ·rw [if_neg h2] at k;have h3:Lib.compareBytes x.data.toList z.data.toList < 0:=C.Pz (x:=x) (y:=y) (z:=z) (show Lib.compareBytes x.data.toList y.data.toList < 0 by omega) k;rw [if_neg J];omega
theorem AU:Cq qW:=⟨fun xs=>by have:=SL xs xs;omega,SL,Z3⟩
theorem ri (a b c:Int):Qa [a,b,c] = if a = 0 then (if b = 0 then c else b) else a:=by
 unfold Qa Qa Qa Qa;by_cases h:c = 0
 ·simp [h]
 ·simp [h]
theorem KQ (a b c d:Int):Qa [a,b,c,d] = if a = 0 then (if b = 0 then (if c = 0 then d else c) else b) else a:=by
 rw [show Qa [a,b,c,d] = if a = 0 then Qa [b,c,d] else a from rfl,ri]
theorem aGk:Cq fun x y:iU=>Qa (pD x y):=by
 have:=(AT.at iU.key).lex ((AT.at iU.value).lex (SK.at iU.al));simpa only [pD,ri] using this
theorem KS:Cq fun x y:bH=>Qa (o5 x y):=by
 have:=(AT.at bH.key).lex ((AS.at bH.equal).lex ((AT.at bH.value).lex (SK.at bH.al)));simpa only [o5,KQ] using this
theorem aC2:Cq fun x y:ba=>Qa (W9 x y):=by
 have:=(AT.at ba.key).lex ((SK.at ba.op).lex (AU.at ba.values));simpa only [W9,ri] using this
theorem SM:vt fun x y:iU=>decide (Qa (pD x y) < 0):=aGk.SI fun x y h=>by
 simp only [pD,ri] at h;repeat' split at h
 ·rename_i h1 h2;cases x;cases y
  simp only at *;rw [fr h1,fr h2,nj h]
 ·contradiction
 ·contradiction
theorem SN:vt fun x y:bH=>decide (Qa (o5 x y) < 0):=KS.SI fun x y h=>by
 simp only [o5,KQ] at h;repeat' split at h
 ·rename_i h1 h2 h3;cases x;cases y
  simp only at *;rw [fr h1,aGj h2,fr h3,nj h]
 ·contradiction
 ·contradiction
 ·contradiction
theorem aDI:vt fun x y:ba=>decide (Qa (W9 x y) < 0):=aC2.SI fun x y h=>by
 simp only [W9,ri] at h;repeat' split at h
 ·rename_i h1 h2;cases x;cases y
  simp only at *;rw [fr h1,nj h2,od h]
 ·contradiction
 ·contradiction
def lI (xs:List ba):Bool:=lE uh nD 4 xs
theorem WI (xs:List ba) (A:Option Addr) (n c:Nat) (F:List Nat) (w:World) (h:Sl w xs A c F) (hn:n = xs.length) (hl:(xs.length:Int)≤1048576) (cX:(∀l∈xs,(l.key.size:Int)≤1048576∧(l.values.length:Int)≤1048576∧∀v∈l.values,(v.size:Int)≤1048576)) :
 Calls Tryz.prog 78 #[.slice A n c] w fun e w'=>e = .returned (.bool (lI xs))∧Below w.heap.size w w':=by
 subst hn;have Eo:=I cX;clear cX;go_enter Tryz.func78,Tryz.ntmps78;go_wp2_with fail
 go_loopw [7] (fun i wr=>∃k:Nat,k≤xs.length∧i = .int .i64 k∧Hid (∀j,j < k→bB uh nD xs j = true)∧Below w.heap.size w wr) (fun i _=>xs.length - (intOf i).toNat)
 case atStart=>exact ⟨0,Nat.zero_le _,rfl,(fun j hj=>by omega),bs⟩
 case round =>
  obtain ⟨k,hk,rfl,hall,aE⟩:=hrel;by_cases ap:k < xs.length
  ·obtain rfl | ⟨j,rfl⟩:k = 0∨∃j,k = j+1:=by cases k with | zero=>exact .inl rfl | succ j=>exact .inr ⟨j,rfl⟩
   ·obtain ⟨b,o,ck,Fk,rfl,o9,hbs,hr,bv,hc⟩:=(Sl.ext (w':=wr) (A:=A) (c:=c) h aE).get ap;have cS:=hr;obtain ⟨jy,ji,Bo,aw,su,ca,fj,kV⟩:=og hr;subst aw;obtain ⟨q0,q1,q2⟩:=iX 3 hc;clear hc;simp only [Nat.zero_mul,Nat.add_zero] at q0 q1 q2;obtain ⟨cJ,cE,hs3⟩:=Eo.out xs[0] (List.getElem_mem ..);cases h1:uh xs[0]
    all_goals
     have hp:=bR (ok:=uh) (less:=nD) ap;rw [h1] at hp;try simp only [Bool.false_and,Bool.and_false,Bool.and_true,Bool.and_self] at hp
     change bB uh nD xs _ = _ at hp
     have hK:∀wq,Below wr.heap.size wr wq→Calls Tryz.prog 127 #[.agg #[.string xs[0].key,.int .i64 xs[0].op,.slice jy xs[0].values.length ji]] wq fun e w'=>e = .returned (.bool (uh xs[0]))∧Below wq.heap.size wq w' :=
      fun wq hq=>Rw xs[0] _ _ _ (aJ cS hq) cJ cE hs3
     rw [h1] at hK;have OH:=I hK;clear hK
     first
      | have HN:=I (gq hall.out hp)
      | have HF:=I (wU (most:=4) ap hp)
     clear h1 hp;go_wp2_with fail
     refine aF _ U' U' (aj _) ?_
     repeat ((first | refine aG X ?_ | refine aH _ X tU ?_);simp only [Act.put,pz])
     refine aN ?_;intro wn hn;replace hn:=hn.out;go_wp2
     first
      | exact ⟨⟨0+1,J,N',HN.out,ah (ak aE _) hn⟩,by simp [intOf];omega⟩
      | (go_ret;exact ⟨by unfold lI;rw [HF.out];rfl,ah (ak aE _) hn⟩)
   ·obtain ⟨b,o,ck,Fk,rfl,o9,hbs,hr,bv,hc⟩:=(Sl.ext (w':=wr) (A:=A) (c:=c) h aE).get ap;have cS:=hr;obtain ⟨jy,ji,Bo,aw,su,ca,fj,kV⟩:=og hr;subst aw;obtain ⟨q0,q1,q2⟩:=iX 3 hc;clear hc;obtain ⟨b',o',TY,Xw,e,Ht,hbs',cN,zQ,hc'⟩:=Sl.get (Sl.ext (w':=wr) (c:=c) h aE) (show j < xs.length by omega);have QS:=cN;obtain ⟨qO,qP,KL,jU,abT,vC,hop2,zS⟩:=og cN;subst jU;obtain ⟨rfl,rfl⟩:b' = b∧o' = o:=by simpa using e.symm
    clear e;obtain ⟨p0,p1,p2⟩:=iX 3 hc';clear hc';have pa:IntKind.i64.wrap (j:Int) = j:=IntWalk.i64_in _ J;have gC:j < xs.length:=J;obtain ⟨Bi,oo,wh⟩:=Eo.out xs[j] (List.getElem_mem ..);obtain ⟨cJ,cE,hs3⟩:=Eo.out xs[j+1] (List.getElem_mem ..);cases h1:uh xs[j+1] <;> cases h3:nD xs[j] xs[j+1]
    all_goals
     have hp:=yS (ok:=uh) (less:=nD) ap;rw [h1,h3] at hp;try simp only [Bool.false_and,Bool.and_false,Bool.and_true,Bool.and_self] at hp
     change bB uh nD xs _ = _ at hp
     have hK:∀wq,Below wr.heap.size wr wq→Calls Tryz.prog 127 #[.agg #[.string xs[j+1].key,.int .i64 xs[j+1].op,.slice jy xs[j+1].values.length ji]] wq fun e w'=>e = .returned (.bool (uh xs[j+1]))∧Below wq.heap.size wq w' :=
      fun wq hq=>Rw xs[j+1] _ _ _ (aJ cS hq) cJ cE hs3
     rw [h1] at hK;have OH:=I hK;clear hK
     first
      | have HN:=I (gq hall.out hp)
      | have HF:=I (wU (most:=4) ap hp)
     have hC:∀wq,Below wr.heap.size wr wq→Calls Tryz.prog 128 #[.agg #[.string xs[j].key,.int .i64 xs[j].op,.slice qO xs[j].values.length qP],.agg #[.string xs[j+1].key,.int .i64 xs[j+1].op,.slice jy xs[j+1].values.length ji]] wq fun e w'=>e = .returned (.bool (nD xs[j] xs[j+1]))∧Below wq.heap.size wq w' :=
      fun wq hq=>ail xs[j] xs[j+1] _ _ _ _ _ (aJ QS hq) (aJ cS hq) oo cE
     rw [h3] at hC;have mC:=I hC;clear hC;clear h1 hp;go_wp2_with fail
     refine aF _ U' U' (aj _) ?_
     repeat ((first | refine aG X ?_ | refine aH _ X tU ?_);simp only [Act.put,pz])
     refine aN ?_;intro wn hn;replace hn:=hn.out;go_wp2
     first
      | exact ⟨⟨j+1+1,J,N',HN.out,ah (ak aE _) hn⟩,by simp [intOf];omega⟩
      | (go_ret;exact ⟨by unfold lI;rw [HF.out];rfl,ah (ak aE _) hn⟩)
  ·have bx:k = xs.length:=J;subst bx;by_cases hm:(xs.length:Int)≤4
   ·have HF:=I (Jy hm hall.out);go_wp2;go_ret
    exact ⟨by unfold lI;rw [HF.out];first | rfl | simp [hm],aE⟩
   ·have HF:=I (Jz (ok:=uh) (less:=nD) hm);go_wp2;go_ret
    exact ⟨by unfold lI;rw [HF.out];first | rfl | simp [hm],aE⟩
theorem WJ (xs:List ba) (A:Option Addr) (n c:Nat) (F:List Nat) (w:World) (h:Sl w xs A c F) (hn:n = xs.length) (hl:(xs.length:Int)≤1048576) (cX:(∀l∈xs,(l.key.size:Int)≤1048576∧(l.values.length:Int)≤1048576∧∀v∈l.values,(v.size:Int)≤1048576)) :
 Calls Tryz.prog 91 #[.slice A n c] w fun e w'=>e = .returned (.bool (lI xs))∧Below w.heap.size w w':=by
 subst hn;have Eo:=I cX;clear cX;by_cases hm:(xs.length:Int)≤4
 ·go_enter Tryz.func91,Tryz.ntmps91;go_wp2_with fail
  go_loopw [3] (fun i wr=>∃k:Nat,k≤xs.length∧i = .int .i64 k∧Hid (∀j,j < k→bB uh nD xs j = true)∧Below w.heap.size w wr) (fun i _=>xs.length - (intOf i).toNat)
  case atStart=>exact ⟨0,Nat.zero_le _,rfl,(fun j hj=>by omega),bs⟩
  case round =>
   obtain ⟨k,hk,rfl,hall,aE⟩:=hrel;by_cases ap:k < xs.length
   ·obtain rfl | ⟨j,rfl⟩:k = 0∨∃j,k = j+1:=by cases k with | zero=>exact .inl rfl | succ j=>exact .inr ⟨j,rfl⟩
    ·obtain ⟨b,o,ck,Fk,rfl,o9,hbs,hr,bv,hc⟩:=(Sl.ext (w':=wr) (A:=A) (c:=c) h aE).get ap;have cS:=hr;obtain ⟨jy,ji,Bo,aw,su,ca,fj,kV⟩:=og hr;subst aw;obtain ⟨q0,q1,q2⟩:=iX 3 hc;clear hc;simp only [Nat.zero_mul,Nat.add_zero] at q0 q1 q2;obtain ⟨cJ,cE,hs3⟩:=Eo.out xs[0] (List.getElem_mem ..);cases h1:uh xs[0]
     all_goals
      have hp:=bR (ok:=uh) (less:=nD) ap;rw [h1] at hp;try simp only [Bool.false_and,Bool.and_false,Bool.and_true,Bool.and_self] at hp
      change bB uh nD xs _ = _ at hp
      have hK:∀wq,Below wr.heap.size wr wq→Calls Tryz.prog 138 #[.agg #[.string xs[0].key,.int .i64 xs[0].op,.slice jy xs[0].values.length ji]] wq fun e w'=>e = .returned (.bool (uh xs[0]))∧Below wq.heap.size wq w' :=
       fun wq hq=>Rx xs[0] _ _ _ (aJ cS hq) cJ cE hs3
      rw [h1] at hK;have OH:=I hK;clear hK
      first
       | have HN:=I (gq hall.out hp)
       | have HF:=I (wU (most:=4) ap hp)
      clear h1 hp;go_wp2_with fail
      refine aF _ U' U' (aj _) ?_
      repeat ((first | refine aG X ?_ | refine aH _ X tU ?_);simp only [Act.put,pz])
      refine aN ?_;intro wn hn;replace hn:=hn.out;go_wp2
      first
       | exact ⟨⟨0+1,J,N',HN.out,ah aE hn⟩,by simp [intOf];omega⟩
       | (go_ret;exact ⟨by unfold lI;rw [HF.out];rfl,ah aE hn⟩)
    ·obtain ⟨b,o,ck,Fk,rfl,o9,hbs,hr,bv,hc⟩:=(Sl.ext (w':=wr) (A:=A) (c:=c) h aE).get ap;have cS:=hr;obtain ⟨jy,ji,Bo,aw,su,ca,fj,kV⟩:=og hr;subst aw;obtain ⟨q0,q1,q2⟩:=iX 3 hc;clear hc;obtain ⟨b',o',TY,Xw,e,Ht,hbs',cN,zQ,hc'⟩:=Sl.get (Sl.ext (w':=wr) (c:=c) h aE) (show j < xs.length by omega);have QS:=cN;obtain ⟨qO,qP,KL,jU,abT,vC,hop2,zS⟩:=og cN;subst jU;obtain ⟨rfl,rfl⟩:b' = b∧o' = o:=by simpa using e.symm
     clear e;obtain ⟨p0,p1,p2⟩:=iX 3 hc';clear hc';have pa:IntKind.i64.wrap (j:Int) = j:=IntWalk.i64_in _ J;have gC:j < xs.length:=J;obtain ⟨Bi,oo,wh⟩:=Eo.out xs[j] (List.getElem_mem ..);obtain ⟨cJ,cE,hs3⟩:=Eo.out xs[j+1] (List.getElem_mem ..);cases h1:uh xs[j+1] <;> cases h3:nD xs[j] xs[j+1]
     all_goals
      have hp:=yS (ok:=uh) (less:=nD) ap;rw [h1,h3] at hp;try simp only [Bool.false_and,Bool.and_false,Bool.and_true,Bool.and_self] at hp
      change bB uh nD xs _ = _ at hp
      have hK:∀wq,Below wr.heap.size wr wq→Calls Tryz.prog 138 #[.agg #[.string xs[j+1].key,.int .i64 xs[j+1].op,.slice jy xs[j+1].values.length ji]] wq fun e w'=>e = .returned (.bool (uh xs[j+1]))∧Below wq.heap.size wq w' :=
       fun wq hq=>Rx xs[j+1] _ _ _ (aJ cS hq) cJ cE hs3
      rw [h1] at hK;have OH:=I hK;clear hK
      first
       | have HN:=I (gq hall.out hp)
       | have HF:=I (wU (most:=4) ap hp)
      have hC:∀wq,Below wr.heap.size wr wq→Calls Tryz.prog 80 #[.agg #[.string xs[j].key,.int .i64 xs[j].op,.slice qO xs[j].values.length qP],.agg #[.string xs[j+1].key,.int .i64 xs[j+1].op,.slice jy xs[j+1].values.length ji]] wq fun e w'=>e = .returned (.bool (nD xs[j] xs[j+1]))∧Below wq.heap.size wq w' :=
       fun wq hq=>TN xs[j] xs[j+1] _ _ _ _ _ (aJ QS hq) (aJ cS hq) oo cE
      rw [h3] at hC;have mC:=I hC;clear hC;clear h1 hp;go_wp2_with fail
      refine aF _ U' U' (aj _) ?_
      repeat ((first | refine aG X ?_ | refine aH _ X tU ?_);simp only [Act.put,pz])
      refine aN ?_;intro wn hn;replace hn:=hn.out;go_wp2
      first
       | exact ⟨⟨j+1+1,J,N',HN.out,ah aE hn⟩,by simp [intOf];omega⟩
       | (go_ret;exact ⟨by unfold lI;rw [HF.out];rfl,ah aE hn⟩)
   ·have bx:k = xs.length:=J;subst bx;have HF:=I (Jy hm hall.out);go_wp2;go_ret
    exact ⟨by unfold lI;rw [HF.out];rfl,aE⟩
 ·have HF:=I (Jz (ok:=uh) (less:=nD) hm);go_enter Tryz.func91,Tryz.ntmps91;go_wp2;go_ret
  exact ⟨by unfold lI;rw [HF.out];rfl,bs⟩
def Fq (xs:List iU):List iU × Bool:=if xs.length≤40∧La (eg qo [] xs) = true then (eg qo [] xs,true) else (xs,false)
theorem ayj {xs:List iU} (h:¬xs.length≤40):Fq xs = (xs,false):=if_neg fun hh=>h hh.1
theorem ayT {xs:List iU} (h:xs.length≤40) (h2:La (eg qo [] xs) = true):Fq xs = (eg qo [] xs,true):=if_pos ⟨h,h2⟩
theorem az7 {xs:List iU} (h2:La (eg qo [] xs) = false):Fq xs = (xs,false):=if_neg fun hh=>by rw [h2] at hh;cases hh.2
theorem aJk {xs:List iU} {z:iU} (h:z∈eg qo [] xs):z∈xs:=by
 rcases (EQ SM z xs []).1 h with h | h
 ·cases h
 ·exact h
theorem azM (xs:List iU):kL iU.wt (Fq xs).1≤kL iU.wt xs:=by
 have h:=ER iU.wt qo xs [];have hl:=xU qo xs [];unfold Fq kL;split
 ·dsimp only;exact As
 ·exact Nat.le_refl _
def j' (xs:List bH):List bH × Bool:=if xs.length≤40∧Ya (eg vJ [] xs) = true then (eg vJ [] xs,true) else (xs,false)
theorem az8 {xs:List bH} (h:¬xs.length≤40):j' xs = (xs,false):=if_neg fun hh=>h hh.1
theorem aAx {xs:List bH} (h:xs.length≤40) (h2:Ya (eg vJ [] xs) = true):j' xs = (eg vJ [] xs,true):=if_pos ⟨h,h2⟩
theorem aBF {xs:List bH} (h2:Ya (eg vJ [] xs) = false):j' xs = (xs,false):=if_neg fun hh=>by rw [h2] at hh;cases hh.2
theorem aIF {xs:List bH} {z:bH} (h:z∈eg vJ [] xs):z∈xs:=by
 rcases (EQ SN z xs []).1 h with h | h
 ·cases h
 ·exact h
theorem aBz (xs:List bH):kL bH.wt (j' xs).1≤kL bH.wt xs:=by
 have h:=ER bH.wt vJ xs [];have hl:=xU vJ xs [];unfold j' kL;split
 ·dsimp only;exact As
 ·exact Nat.le_refl _
def nu (x:ba):ba:=⟨x.key,x.op,gf x.values⟩
def BY (xs:List ba):Bool:=xs.all fun x=>decide (x.values.length≤40)
def ka (xs:List ba):List ba:=eg nD [] (xs.map nu)
def jt (xs:List ba):List ba × Bool:=if xs.length≤40∧BY xs = true∧lI (ka xs) = true then (ka xs,true) else (xs,false)
theorem ayR {xs:List ba} (h:¬xs.length≤40):jt xs = (xs,false):=if_neg fun hh=>h hh.1
theorem ayS {xs:List ba} (h:BY xs = false):jt xs = (xs,false):=if_neg fun hh=>by rw [h] at hh;cases hh.2.1
theorem az3 {xs:List ba} (h:xs.length≤40) (h1:BY xs = true) (h2:lI (ka xs) = true):jt xs = (ka xs,true):=if_pos ⟨h,h1,h2⟩
theorem aAv {xs:List ba} (h2:lI (ka xs) = false):jt xs = (xs,false):=if_neg fun hh=>by rw [h2] at hh;cases hh.2.2
theorem az4 {xs:List ba} {z:ba} (h:z∈ka xs):∃x∈xs,z = nu x:=by
 rcases (EQ (lt:=nD) aDI z (xs.map nu) []).1 h with h | h
 ·cases h
 ·obtain ⟨x,hx,rfl⟩:=List.mem_map.1 h;exact ⟨x,hx,rfl⟩
theorem aDu (xs:List ba):(ka xs).length≤xs.length:=by have:=xU nD (xs.map nu) [];unfold ka;simpa using this
theorem aF2 (x:ba):(nu x).wt≤x.wt:=by have:=aB3 x.values;unfold nu ba.wt D4;dsimp only;omega
theorem az5 {α:Type} {f:α→Nat} {g:α→α} (h:∀x,f (g x)≤f x):∀xs:List α,((xs.map g).map f).sum≤(xs.map f).sum
 | []=>Nat.le_refl _
 | x :: xs=>by have h1:=h x;have h2:=az5 h xs;simp only [List.map_cons,List.sum_cons];omega
theorem aAu (xs:List ba):kL ba.wt (jt xs).1≤kL ba.wt xs:=by
 have h:=ER ba.wt nD (xs.map nu) [];have hl:=xU nD (xs.map nu) [];have hm:=az5 aF2 xs;unfold jt kL;split
 ·dsimp only;simp only [List.map_nil,List.sum_nil,List.length_nil,List.length_map] at h hl;unfold ka;omega
 ·exact Nat.le_refl _
theorem aEp {xs:List ba} (h:BY xs = true) {x:ba} (hx:x∈xs):x.values.length≤40:=by
 have:=List.all_eq_true.1 h x hx;simpa using this
theorem aDv {xs:List ba} {x:ba} (hx:x∈xs) (h:¬x.values.length≤40):BY xs = false:=by
 cases hh:BY xs with
 | false=>rfl
 | true=>exact absurd (aEp hh hx) h
theorem aDw {xs:List ba} (h:∀j (hj:j < xs.length),xs[j].values.length≤40):BY xs = true:=by
 refine List.all_eq_true.2 fun x hx=>?_;obtain ⟨j,hj,rfl⟩:=List.getElem_of_mem hx;simpa using h j hj
theorem TZ {x:ba} (h:x.wt≤1048576):((nu x).key.size:Int)≤1048576∧((nu x).values.length:Int)≤1048576∧(∀v∈(nu x).values,(v.size:Int)≤1048576):=by
 have h2:ba.wt x = x.key.size+kL ByteArray.size x.values:=rfl;have h3:=gJ ByteArray.size x.values;have h4:=aAP x.values;refine ⟨?_,?_,fun v hv=>?_⟩
 ·show (x.key.size:Int)≤_;omega
 ·show ((gf x.values).length:Int)≤_;omega
 ·have:=Bq (f:=ByteArray.size) (aA4 hv);omega
end Go.Proofs.YtjahcnjmjahbaaaGreat
