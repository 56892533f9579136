/- The reference's NeedLess. No condition. -/
import Derived.Test.YtajbbmembionpaaGreatCmp2
namespace Go.Proofs.YtajbbmembionpaaGreat
open Go.ChangeShapes Go.WideShapes Go.ChangeAt Go.RowKit
set_option linter.unusedVariables false
set_option linter.unusedSimpArgs false
set_option maxHeartbeats 2000000
set_option maxRecDepth 100000
theorem Wb {x y:aM} (h:(x.key.toList == y.key.toList) = false):nD x y = Op.bytesLess x.key.toList y.key.toList:=by
 have h1:Lib.compareBytes x.key.data.toList y.key.data.toList≠0:=fun e=>by
  exact pP
 unfold nD W9;simp only [Qa,if_neg h1];exact pN
theorem Wc {x y:aM} (hk:(x.key.toList == y.key.toList) = true) (h:x.op≠y.op):nD x y = decide (x.op < y.op):=by
 have h0:Lib.compareBytes x.key.data.toList y.key.data.toList = 0:=by rw [J5,← ByteArray.toList_eq,← ByteArray.toList_eq];simpa using hk
 have h1:Lib.compareInt x.op y.op≠0:=by unfold Lib.compareInt;repeat' split <;> omega
 unfold nD W9;simp only [Qa,if_pos h0,if_neg h1];exact xL
theorem Wd {x y:aM} (hk:(x.key.toList == y.key.toList) = true) (h:x.op = y.op):nD x y = decide (qW x.values y.values < 0):=by
 have h0:Lib.compareBytes x.key.data.toList y.key.data.toList = 0:=by rw [J5,← ByteArray.toList_eq,← ByteArray.toList_eq];simpa using hk
 have h1:Lib.compareInt x.op y.op = 0:=by unfold Lib.compareInt;repeat' split <;> omega
 unfold nD W9;simp only [Qa,if_pos h0,if_pos h1];by_cases h2:qW x.values y.values = 0
 ·rw [if_pos h2,h2]
 ·rw [if_neg h2]
theorem TN (x y:aM) (cs ds:List Value) (F G:List Nat) (w:World) (h:rd w x cs F) (h':rd w y ds G) (hl:(x.values.length:Int)≤1048576) (Qr:(y.values.length:Int)≤1048576) :
 Calls Tryz.prog 77 #[.agg cs.toArray,.agg ds.toArray] w fun e w'=>e = .returned (.bool (nD x y))∧Below w.heap.size w w':=by
 obtain ⟨pX,pY,KG,aE,hF1,xO,tx,wO⟩:=og h;obtain ⟨qO,qP,KL,jU,nW,vC,hop2,zS⟩:=og h';subst aE jU;cases h1:(x.key.toList == y.key.toList) with
 | false =>rw [Wb h1];go_enter Tryz.func77,Tryz.ntmps77;exact lV
 | true =>
   by_cases h3:x.op = y.op
   ·have bi:=Wd h1 h3;have HF:=I bi;clear bi;have h4:(x.op == y.op) = true:=(by simp [h3]);go_enter Tryz.func77,Tryz.ntmps77;go_wp2;go_loopw [5] (fun i wr=>∃k:Nat,k≤x.values.length∧i = .int .i64 k∧Hid (k≤y.values.length)∧Hid (qW x.values y.values = qW (x.values.drop k) (y.values.drop k))∧wr.cell? ⟨w.heap.size,2,none⟩ = some (.slice pX x.values.length pY)∧wr.cell? ⟨w.heap.size+1,2,none⟩ = some (.slice qO y.values.length qP)∧Below w.heap.size w wr) (fun i _=>x.values.length - (intOf i).toNat)
    case atStart =>
     refine ⟨0,Nat.zero_le _,rfl,Nat.zero_le _,rfl,?_,?_,bJ⟩
     ·exact xy
     ·simp
    case round =>
     obtain ⟨k,hk,rfl,HK,HO,hx1,tz,aR⟩:=hrel;have hky:=HK.out;have cE:=World.block_lt_of_cell? wr _ hx1;have cw:=World.block_lt_of_cell? wr _ tz;simp only at cE cw;by_cases ax:k < x.values.length
     ·by_cases hly:k < y.values.length
      ·obtain ⟨b,o,ck,Fk,rfl,o9,hbs,hr,bB,hc⟩:=(Sl.ext (w':=wr) (A:=pX) (c:=pY) wO aR).get ax;obtain ⟨aE,su,gT⟩:=hr;subst aE su;have q0:wr.cell? ⟨b,o+k,none⟩ = some (.string x.values[k]):=(by have:=hc 0 _ rfl;rwa [show o+(k * bc.size ByteArray+0) = o+k from by show o+(k * 1+0) = _;omega] at this);clear hc;obtain ⟨b2,o2,ck2,Fk2,rfl,ayO,uO,gx,nX,cq⟩:=(Sl.ext (w':=wr) (A:=qO) (c:=qP) zS aR).get hly;obtain ⟨aE,su,hsz2⟩:=gx;subst aE su;have p0:wr.cell? ⟨b2,o2+k,none⟩ = some (.string y.values[k]):=(by have:=cq 0 _ rfl;rwa [show o2+(k * bc.size ByteArray+0) = o2+k from by show o2+(k * 1+0) = _;omega] at this);clear cq;have hd:=V8 ax hly;cases he:(x.values[k].toList == y.values[k].toList) with
       | true =>
         have h0:Lib.compareBytes x.values[k].data.toList y.values[k].data.toList = 0:=(by rw [J5,← ByteArray.toList_eq,← ByteArray.toList_eq];simpa using he);rw [if_pos h0] at hd;have HN:=I (HO.out.trans hd);clear hd h0;go_wp2_with fail
         refine aF _ U' U' (aj _) ?_
         repeat ((first | refine aG O ?_ | refine aH _ O dz ?_);simp only [Act.put,pz])
         refine aN ?_;intro wn Z;replace Z:=Z.out;replace hx1:=r' Z hx1 cE;replace tz:=r' Z tz cw;replace q0:=r' Z q0 hbs;replace p0:=r' Z p0 uO;replace cE:=Nat.lt_of_lt_of_le cE Z.size;replace cw:=Nat.lt_of_lt_of_le cw Z.size;replace hbs:=Nat.lt_of_lt_of_le hbs Z.size;replace uO:=Nat.lt_of_lt_of_le uO Z.size;replace aR:=ah aR Z;go_wp2;exact ⟨⟨k+1,J,N',by show k+1≤y.values.length;omega,HN.out,hx1,tz,aR⟩,by simp [intOf];omega⟩
       | false =>
         have h0:Lib.compareBytes x.values[k].data.toList y.values[k].data.toList≠0:=fun e=>by
          rw [J5,← ByteArray.toList_eq,← ByteArray.toList_eq] at e;simp [e] at he
         rw [if_neg h0] at hd;have hg:nD x y = Op.bytesLess x.values[k].toList y.values[k].toList:=by rw [HF.out,HO.out,hd,Bool.eq_iff_iff,decide_eq_true_eq,Wx,ByteArray.toList_eq,ByteArray.toList_eq]
         have HG:=I hg;clear hd h0 hg;go_wp2_with fail
         refine aF _ U' U' (aj _) ?_
         repeat ((first | refine aG O ?_ | refine aH _ O dz ?_);simp only [Act.put,pz])
         refine aN ?_;intro wn Z;replace Z:=Z.out;replace hx1:=r' Z hx1 cE;replace tz:=r' Z tz cw;replace q0:=r' Z q0 hbs;replace p0:=r' Z p0 uO;replace cE:=Nat.lt_of_lt_of_le cE Z.size;replace cw:=Nat.lt_of_lt_of_le cw Z.size;replace hbs:=Nat.lt_of_lt_of_le hbs Z.size;replace uO:=Nat.lt_of_lt_of_le uO Z.size;replace aR:=ah aR Z;clear Z;go_wp2_with fail
         first
          | (go_ret;exact ⟨by rw [HG.out];first | rfl | simp_all,aR⟩)
          | (refine aF _ U' U' (aj _) ?_
             repeat ((first | refine aG O ?_ | refine aH _ O dz ?_);simp only [Act.put,pz])
             refine aN ?_;intro wn2 EM;replace EM:=EM.out;go_wp2;go_ret
             exact ⟨by rw [HG.out];first | rfl | simp_all,ah aR EM⟩)
      ·have hg:nD x y = false:=(by rw [HF.out,HO.out,V' ax J];rfl);have HG:=I hg;have EN:¬(x.values.length:Int) < y.values.length:=J;clear hg;exact xS
     ·have bF:k = x.values.length:=J;subst bF;have he:=HO.out.trans (Wa (Nat.le_refl _));by_cases hly:x.values.length < y.values.length
      ·rw [if_pos hly] at he;have hg:nD x y = true:=(by rw [HF.out,he];rfl);have HG:=I hg;have EN:(x.values.length:Int) < y.values.length:=J;clear hg he;exact xS
      ·rw [if_neg hly] at he;have hg:nD x y = false:=(by rw [HF.out,he];rfl);have HG:=I hg;have EN:¬(x.values.length:Int) < y.values.length:=J;clear hg he;exact xS
   ·rw [Wc h1 h3];have h4:(x.op == y.op) = false:=(by simp [h3]);go_enter Tryz.func77,Tryz.ntmps77;exact lV
structure Cq {β:Type} (c:β→β→Int):Prop where
 refl:∀x,c x x = 0
 gz:∀x y,c y x = - c x y
 trans:∀x y z,c x y≤0→c y z≤0→c x z≤0
section
variable {β γ:Type} {c d:β→β→Int}
theorem Cq.JE (C:Cq c) {x y z:β} (h:c x y < 0) (k:c y z≤0):c x z < 0:=by
 have h1:=C.trans x y z J k;apply Classical.byContradiction;intro Z;have h2:c z x≤0:=by rw [C.gz x z];omega
 have h3:=C.trans y z x k h2;rw [C.gz x y] at h3;omega
theorem Cq.We (C:Cq c) {x y z:β} (h:c x y≤0) (k:c y z < 0):c x z < 0:=by
 have h1:=C.trans x y z h J;apply Classical.byContradiction;intro Z;have h2:c z x≤0:=by rw [C.gz x z];omega
 have h3:=C.trans z x y h2 h;rw [C.gz y z] at h3;omega
theorem Cq.at (C:Cq c) (f:γ→β):Cq fun x y=>c (f x) (f y):=⟨fun x=>C.refl _,fun x y=>C.gz _ _,fun x y z=>C.trans _ _ _⟩
theorem Cq.lex (C:Cq c) (D:Cq d):Cq fun x y=>if c x y = 0 then d x y else c x y:=by
 refine ⟨fun x=>by simp only [C.refl,if_true,D.refl],fun x y=>?_,fun x y z=>?_⟩
 ·have:=C.gz x y;by_cases h:c x y = 0
  ·simp only [h,show c y x = 0 by omega,if_true,D.gz x y]
  ·simp only [if_neg h];rw [if_neg (show ¬c y x = 0 by omega)];exact this
 ·intro h k;by_cases h1:c x y = 0
  ·by_cases h2:c y z = 0
   ·have h3:=C.trans x y z J J;have h4:=C.trans z y x (by rw [C.gz y z];omega) (by rw [C.gz x y];omega);rw [C.gz x z] at h4;simp only [h1,h2,if_true] at h k;simp only [show c x z = 0 by omega,if_true];exact D.trans _ _ _ h k
   ·simp only [if_neg h2] at k;have:=C.We (x:=x) (y:=y) (z:=z) J J;simp only [if_neg (show ¬c x z = 0 by omega)];omega
  ·simp only [if_neg h1] at h;by_cases h2:c y z = 0
   ·have:=C.JE (x:=x) (y:=y) (z:=z) J J;simp only [if_neg (show ¬c x z = 0 by omega)];omega
   ·simp only [if_neg h2] at k;have:=C.JE (x:=x) (y:=y) (z:=z) J k;simp only [if_neg (show ¬c x z = 0 by omega)];omega
theorem Cq.LN (C:Cq c) (h:∀x y,c x y = 0→x = y):ub fun x y=>decide (c x y < 0):=by
 refine ⟨fun x=>by simp [C.refl],fun x y z a b=>?_,fun x y a b=>h x y ?_⟩
 ·simp only [decide_eq_true_eq] at *;exact C.JE a J
 ·simp only [decide_eq_false_iff_not] at *;have:=C.gz x y;omega
end
theorem LO:Cq Lib.compareBytes:=by
 refine ⟨fun x=>(J5 x x).2 rfl,fun x y=>JC x y,?_⟩;intro a;induction a with
 | nil=>intro b c _ _;cases c <;> simp [Lib.compareBytes]
 | cons x a ih =>
   intro b c h k;cases b with
   | nil=>simp [Lib.compareBytes] at h
   | cons y b =>
     cases c with
     | nil=>simp [Lib.compareBytes] at k
     | cons z c =>
       unfold Lib.compareBytes at h k ⊢;simp only [UInt8.lt_iff_toNat_lt] at *;by_cases h1:x.toNat < y.toNat
       ·rw [if_pos h1] at h;by_cases k1:y.toNat < z.toNat
        ·rw [if_pos J];omega
        ·rw [if_neg k1] at k;by_cases k2:z.toNat < y.toNat
         ·rw [if_pos k2] at k;omega
         ·rw [if_pos J];omega
       ·rw [if_neg h1] at h;by_cases h2:y.toNat < x.toNat
        ·rw [if_pos h2] at h;omega
        ·rw [if_neg h2] at h;by_cases k1:y.toNat < z.toNat
         ·rw [if_pos J];omega
         ·rw [if_neg k1] at k;by_cases k2:z.toNat < y.toNat
          ·rw [if_pos k2] at k;omega
          ·rw [if_neg k2] at k;rw [if_neg J,if_neg J];exact ih b c h k
theorem LP:Cq Lib.compareInt:=by
 refine ⟨fun x=>?_,fun x y=>?_,fun x y z=>?_⟩ <;> unfold Lib.compareInt <;> (repeat' split) <;> omega
theorem yc:Cq uC:=by
 refine ⟨fun x=>by cases x <;> decide,fun x y=>by cases x <;> cases y <;> decide,fun x y z=>by cases x <;> cases y <;> cases z <;> decide⟩
theorem yd:Cq fun a b:ByteArray=>Lib.compareBytes a.data.toList b.data.toList:=LO.at fun a:ByteArray=>a.data.toList
theorem fq {a b:ByteArray} (h:Lib.compareBytes a.data.toList b.data.toList = 0):a = b:=by
 have:=(J5 _ _).1 h;cases a;cases b
 simpa using this
theorem m9 {a b:Int} (h:Lib.compareInt a b = 0):a = b:=by
 unfold Lib.compareInt at h;repeat' split at h
 all_goals omega
theorem Wf {a b:Bool} (h:uC a b = 0):a = b:=by cases a <;> cases b <;> first | rfl | (exfalso;revert h;decide)
theorem LR:∀xs ys:List ByteArray,qW ys xs = - qW xs ys
 | [],[]=>rfl
 | [],_ :: _=>rfl
 | _ :: _,[]=>rfl
 | x :: xs,y :: ys=>by
   have h1:=yd.gz x y;have h2:=LR xs ys;unfold qW;rw [h1,h2];by_cases h:Lib.compareBytes x.data.toList y.data.toList = 0
   ·rw [if_pos h,if_pos J]
   ·rw [if_neg h,if_neg J]
theorem nZ:∀{xs ys:List ByteArray},qW xs ys = 0→xs = ys
 | [],[],_=>rfl
 | [],_ :: _,h=>by simp [qW] at h
 | _ :: _,[],h=>by simp [qW] at h
 | x :: xs,y :: ys,h=>by
   unfold qW at h;by_cases h1:Lib.compareBytes x.data.toList y.data.toList = 0
   ·rw [if_pos h1] at h;rw [fq h1,nZ h]
   ·rw [if_neg h1] at h;exact absurd h h1
theorem Qt:∀xs ys zs:List ByteArray,qW xs ys≤0→qW ys zs≤0→qW xs zs≤0
 | [],_,[],_,_=>by simp [qW]
 | [],_,_ :: _,_,_=>by simp [qW]
 | _ :: _,[],_,h,_=>by simp [qW] at h
 | _ :: _,_ :: _,[],_,k=>by simp [qW] at k
 | x :: xs,y :: ys,z :: zs,h,k=>by
   have C:=yd;have ih:=Qt xs ys zs;unfold qW at h k ⊢;by_cases h1:Lib.compareBytes x.data.toList y.data.toList = 0
   ·rw [if_pos h1] at h;have e:=fq h1;subst e;by_cases h2:Lib.compareBytes x.data.toList z.data.toList = 0
    ·rw [if_pos h2] at k ⊢;exact ih h k
    ·rw [if_neg h2] at k ⊢;exact k
   ·rw [if_neg h1] at h;by_cases h2:Lib.compareBytes y.data.toList z.data.toList = 0
    ·have e:=fq h2;subst e;rw [if_neg h1];exact h
    ·rw [if_neg h2] at k;have h3:Lib.compareBytes x.data.toList z.data.toList < 0:=C.JE (x:=x) (y:=y) (z:=z) (show Lib.compareBytes x.data.toList y.data.toList < 0 by omega) k;rw [if_neg J];omega
theorem ye:Cq qW:=⟨fun xs=>by have:=LR xs xs;omega,LR,Qt⟩
theorem qk (a b c:Int):Qa [a,b,c] = if a = 0 then (if b = 0 then c else b) else a:=by
 unfold Qa Qa Qa Qa;by_cases h:c = 0
 ·simp [h]
 ·simp [h]
theorem EO (a b c d:Int):Qa [a,b,c,d] = if a = 0 then (if b = 0 then (if c = 0 then d else c) else b) else a:=by
 rw [show Qa [a,b,c,d] = if a = 0 then Qa [b,c,d] else a from rfl,qk]
theorem Wg:Cq fun x y:iU=>Qa (uB x y):=by
 have:=(yd.at iU.key).lex ((yd.at iU.value).lex (LP.at iU.ao));simpa only [uB,qk] using this
theorem EP:Cq fun x y:bH=>Qa (tw x y):=by
 have:=(yd.at bH.key).lex ((yc.at bH.equal).lex ((yd.at bH.value).lex (LP.at bH.ao)));simpa only [tw,EO] using this
theorem Wk:Cq fun x y:aM=>Qa (W9 x y):=by
 have:=(yd.at aM.key).lex ((LP.at aM.op).lex (ye.at aM.values));simpa only [W9,qk] using this
theorem LS:ub fun x y:iU=>decide (Qa (uB x y) < 0):=Wg.LN fun x y h=>by
 simp only [uB,qk] at h;repeat' split at h
 ·rename_i h1 h2;cases x;cases y
  simp only at *;rw [fq h1,fq h2,m9 h]
 ·contradiction
 ·contradiction
theorem LV:ub fun x y:bH=>decide (Qa (tw x y) < 0):=EP.LN fun x y h=>by
 simp only [tw,EO] at h;repeat' split at h
 ·rename_i h1 h2 h3;cases x;cases y
  simp only at *;rw [fq h1,Wf h2,fq h3,m9 h]
 ·contradiction
 ·contradiction
 ·contradiction
theorem Wl:ub fun x y:aM=>decide (Qa (W9 x y) < 0):=Wk.LN fun x y h=>by
 simp only [W9,qk] at h;repeat' split at h
 ·rename_i h1 h2;cases x;cases y
  simp only at *;rw [fq h1,m9 h2,nZ h]
 ·contradiction
 ·contradiction
end Go.Proofs.YtajbbmembionpaaGreat
