/- The reference's NeedLess. No condition. -/
import Derived.Test.YtjahcnjmjahbaaaGreatValCmp
namespace Go.Proofs.YtjahcnjmjahbaaaGreat
open Go.ChangeShapes Go.WideShapes Go.ChangeAt Go.RowKit
set_option linter.unusedVariables false
set_option linter.unusedSimpArgs false
set_option maxHeartbeats 2000000
set_option maxRecDepth 100000
theorem akQ {x y:bj} (h:(x.key.toList == y.key.toList) = false):nD x y = Op.bytesLess x.key.toList y.key.toList:=by
 have h1:Lib.compareBytes x.key.data.toList y.key.data.toList≠0:=fun e=>by
  exact rN
 unfold nD W9;simp only [Qa,if_neg h1];exact rL
theorem amw {x y:bj} (hk:(x.key.toList == y.key.toList) = true) (h:x.op≠y.op):nD x y = decide (x.op < y.op):=by
 have h0:Lib.compareBytes x.key.data.toList y.key.data.toList = 0:=by rw [J5,← ByteArray.toList_eq,← ByteArray.toList_eq];simpa using hk
 have h1:Lib.compareInt x.op y.op≠0:=by unfold Lib.compareInt;repeat' split <;> omega
 unfold nD W9;simp only [Qa,if_pos h0,if_neg h1];exact Bp
theorem aeD {x y:bj} (hk:(x.key.toList == y.key.toList) = true) (h:x.op = y.op):nD x y = decide (qW x.values y.values < 0):=by
 have h0:Lib.compareBytes x.key.data.toList y.key.data.toList = 0:=by rw [J5,← ByteArray.toList_eq,← ByteArray.toList_eq];simpa using hk
 have h1:Lib.compareInt x.op y.op = 0:=by unfold Lib.compareInt;repeat' split <;> omega
 unfold nD W9;simp only [Qa,if_pos h0,if_pos h1];by_cases h2:qW x.values y.values = 0
 ·rw [if_pos h2,h2]
 ·rw [if_neg h2]
theorem TN (x y:bj) (cs ds:List Value) (F G:List Nat) (w:World) (h:rd w x cs F) (h':rd w y ds G) (hl:(x.values.length:Int)≤1048576) (pt:(y.values.length:Int)≤1048576) :
 Calls Tryz.prog 80 #[.agg cs.toArray,.agg ds.toArray] w fun e w'=>e = .returned (.bool (nD x y))∧Below w.heap.size w w':=by
 obtain ⟨pX,pY,KG,ax,hF1,xO,iZ,wO⟩:=og h;obtain ⟨qO,qP,KL,jU,lH,vC,hop2,zS⟩:=og h';subst ax jU;cases h1:(x.key.toList == y.key.toList) with
 | false =>rw [akQ h1];go_enter Tryz.func80,Tryz.ntmps80;exact pd
 | true =>
   by_cases h3:x.op = y.op
   ·have bo:=aeD h1 h3;have HF:=I bo;clear bo;have h4:(x.op == y.op) = true:=(by simp [h3]);go_enter Tryz.func80,Tryz.ntmps80;go_wp2;go_loopw [5] (fun i wr=>∃k:Nat,k≤x.values.length∧i = .int .i64 k∧Hid (k≤y.values.length)∧Hid (qW x.values y.values = qW (x.values.drop k) (y.values.drop k))∧wr.cell? ⟨w.heap.size,2,none⟩ = some (.slice pX x.values.length pY)∧wr.cell? ⟨w.heap.size+1,2,none⟩ = some (.slice qO y.values.length qP)∧Below w.heap.size w wr) (fun i _=>x.values.length - (intOf i).toNat)
    case atStart =>
     refine ⟨0,Nat.zero_le _,rfl,Nat.zero_le _,rfl,?_,?_,bu⟩
     ·exact Bf
     ·simp
    case round =>
     obtain ⟨k,hk,rfl,HK,HO,tY,vD,az⟩:=hrel;have hky:=HK.out;have cM:=World.block_lt_of_cell? wr _ tY;have cI:=World.block_lt_of_cell? wr _ vD;simp only at cM cI;by_cases ap:k < x.values.length
     ·by_cases hly:k < y.values.length
      ·obtain ⟨b,o,ck,Fk,rfl,o9,hbs,hr,br,hc⟩:=(Sl.ext (w':=wr) (A:=pX) (c:=pY) wO az).get ap;obtain ⟨ax,su,gv⟩:=hr;subst ax su;have q0:wr.cell? ⟨b,o+k,none⟩ = some (.string x.values[k]):=(by have:=hc 0 _ rfl;rwa [show o+(k * bk.size ByteArray+0) = o+k from by show o+(k * 1+0) = _;omega] at this);clear hc;obtain ⟨b2,o2,ck2,Fk2,rfl,ayO,uO,dx,ld,cb⟩:=(Sl.ext (w':=wr) (A:=qO) (c:=qP) zS az).get hly;obtain ⟨ax,su,hsz2⟩:=dx;subst ax su;have p0:wr.cell? ⟨b2,o2+k,none⟩ = some (.string y.values[k]):=(by have:=cb 0 _ rfl;rwa [show o2+(k * bk.size ByteArray+0) = o2+k from by show o2+(k * 1+0) = _;omega] at this);clear cb;have hd:=XZ ap hly;cases he:(x.values[k].toList == y.values[k].toList) with
       | true =>
         have h0:Lib.compareBytes x.values[k].data.toList y.values[k].data.toList = 0:=(by rw [J5,← ByteArray.toList_eq,← ByteArray.toList_eq];simpa using he);rw [if_pos h0] at hd;have HN:=I (HO.out.trans hd);clear hd h0;go_wp2_with fail
         refine aF _ U' U' (aj _) ?_
         repeat ((first | refine aG Z ?_ | refine aH _ Z d' ?_);simp only [Act.put,pz])
         refine aN ?_;intro wn hn;replace hn:=hn.out;replace tY:=r' hn tY cM;replace vD:=r' hn vD cI;replace q0:=r' hn q0 hbs;replace p0:=r' hn p0 uO;replace cM:=Nat.lt_of_lt_of_le cM hn.size;replace cI:=Nat.lt_of_lt_of_le cI hn.size;replace hbs:=Nat.lt_of_lt_of_le hbs hn.size;replace uO:=Nat.lt_of_lt_of_le uO hn.size;replace az:=ah az hn;go_wp2;exact ⟨⟨k+1,O,N',by show k+1≤y.values.length;omega,HN.out,tY,vD,az⟩,by simp [intOf];omega⟩
       | false =>
         have h0:Lib.compareBytes x.values[k].data.toList y.values[k].data.toList≠0:=fun e=>by
          rw [J5,← ByteArray.toList_eq,← ByteArray.toList_eq] at e;simp [e] at he
         rw [if_neg h0] at hd;have hg:nD x y = Op.bytesLess x.values[k].toList y.values[k].toList:=by rw [HF.out,HO.out,hd,Bool.eq_iff_iff,decide_eq_true_eq,Wx,ByteArray.toList_eq,ByteArray.toList_eq]
         have HG:=I hg;clear hd h0 hg;go_wp2_with fail
         refine aF _ U' U' (aj _) ?_
         repeat ((first | refine aG Z ?_ | refine aH _ Z d' ?_);simp only [Act.put,pz])
         refine aN ?_;intro wn hn;replace hn:=hn.out;replace tY:=r' hn tY cM;replace vD:=r' hn vD cI;replace q0:=r' hn q0 hbs;replace p0:=r' hn p0 uO;replace cM:=Nat.lt_of_lt_of_le cM hn.size;replace cI:=Nat.lt_of_lt_of_le cI hn.size;replace hbs:=Nat.lt_of_lt_of_le hbs hn.size;replace uO:=Nat.lt_of_lt_of_le uO hn.size;replace az:=ah az hn;clear hn;go_wp2_with fail
         first
          | (go_ret;exact ⟨by rw [HG.out];first | rfl | simp_all,az⟩)
          | (refine aF _ U' U' (aj _) ?_
             repeat ((first | refine aG Z ?_ | refine aH _ Z d' ?_);simp only [Act.put,pz])
             refine aN ?_;intro wn2 D8;replace D8:=D8.out;go_wp2;go_ret
             exact ⟨by rw [HG.out];first | rfl | simp_all,ah az D8⟩)
      ·have hg:nD x y = false:=(by rw [HF.out,HO.out,X9 ap O];rfl);have HG:=I hg;have Yc:¬(x.values.length:Int) < y.values.length:=O;clear hg;exact Bw
     ·have bz:k = x.values.length:=O;subst bz;have he:=HO.out.trans (X' (Nat.le_refl _));by_cases hly:x.values.length < y.values.length
      ·rw [if_pos hly] at he;have hg:nD x y = true:=(by rw [HF.out,he];rfl);have HG:=I hg;have Yc:(x.values.length:Int) < y.values.length:=O;clear hg he;exact Bw
      ·rw [if_neg hly] at he;have hg:nD x y = false:=(by rw [HF.out,he];rfl);have HG:=I hg;have Yc:¬(x.values.length:Int) < y.values.length:=O;clear hg he;exact Bw
   ·rw [amw h1 h3];have h4:(x.op == y.op) = false:=(by simp [h3]);go_enter Tryz.func80,Tryz.ntmps80;exact pd
structure Cq {β:Type} (c:β→β→Int):Prop where
 refl:∀x,c x x = 0
 gS:∀x y,c y x = - c x y
 trans:∀x y z,c x y≤0→c y z≤0→c x z≤0
section
variable {β γ:Type} {c d:β→β→Int}
theorem Cq.PM (C:Cq c) {x y z:β} (h:c x y < 0) (k:c y z≤0):c x z < 0:=by
 have h1:=C.trans x y z O k;apply Classical.byContradiction;intro hn;have h2:c z x≤0:=by rw [C.gS x z];omega
 have h3:=C.trans y z x k h2;rw [C.gS x y] at h3;omega
theorem Cq.lt2 (C:Cq c) {x y z:β} (h:c x y≤0) (k:c y z < 0):c x z < 0:=by
 have h1:=C.trans x y z h O;apply Classical.byContradiction;intro hn;have h2:c z x≤0:=by rw [C.gS x z];omega
 have h3:=C.trans z x y h2 h;rw [C.gS y z] at h3;omega
theorem Cq.at (C:Cq c) (f:γ→β):Cq fun x y=>c (f x) (f y):=⟨fun x=>C.refl _,fun x y=>C.gS _ _,fun x y z=>C.trans _ _ _⟩
theorem Cq.lex (C:Cq c) (D:Cq d):Cq fun x y=>if c x y = 0 then d x y else c x y:=by
 refine ⟨fun x=>by simp only [C.refl,if_true,D.refl],fun x y=>?_,fun x y z=>?_⟩
 ·have:=C.gS x y;by_cases h:c x y = 0
  ·simp only [h,show c y x = 0 by omega,if_true,D.gS x y]
  ·simp only [if_neg h];rw [if_neg (show ¬c y x = 0 by omega)];exact this
 ·intro h k;by_cases h1:c x y = 0
  ·by_cases h2:c y z = 0
   ·have h3:=C.trans x y z O O;have h4:=C.trans z y x (by rw [C.gS y z];omega) (by rw [C.gS x y];omega);rw [C.gS x z] at h4;simp only [h1,h2,if_true] at h k;simp only [show c x z = 0 by omega,if_true];exact D.trans _ _ _ h k
   ·simp only [if_neg h2] at k;have:=C.lt2 (x:=x) (y:=y) (z:=z) O O;simp only [if_neg (show ¬c x z = 0 by omega)];omega
  ·simp only [if_neg h1] at h;by_cases h2:c y z = 0
   ·have:=C.PM (x:=x) (y:=y) (z:=z) O O;simp only [if_neg (show ¬c x z = 0 by omega)];omega
   ·simp only [if_neg h2] at k;have:=C.PM (x:=x) (y:=y) (z:=z) O k;simp only [if_neg (show ¬c x z = 0 by omega)];omega
theorem Cq.R7 (C:Cq c) (h:∀x y,c x y = 0→x = y):tF fun x y=>decide (c x y < 0):=by
 refine ⟨fun x=>by simp [C.refl],fun x y z a b=>?_,fun x y a b=>h x y ?_⟩
 ·simp only [decide_eq_true_eq] at *;exact C.PM a O
 ·simp only [decide_eq_false_iff_not] at *;have:=C.gS x y;omega
end
theorem R8:Cq Lib.compareBytes:=by
 refine ⟨fun x=>(J5 x x).2 rfl,fun x y=>PL x y,?_⟩;intro a;induction a with
 | nil=>intro b c _ _;cases c <;> simp [Lib.compareBytes]
 | cons x a ih =>
   intro b c h k;cases b with
   | nil=>simp [Lib.compareBytes] at h
   | cons y b =>
     cases c with
     | nil=>simp [Lib.compareBytes] at k
     | cons z c =>
       unfold Lib.compareBytes at h k ⊢;simp only [UInt8.lt_iff_toNat_lt] at *;by_cases h1:x.toNat < y.toNat
       ·rw [if_pos h1] at h;by_cases k1:y.toNat < z.toNat
        ·rw [if_pos O];omega
        ·rw [if_neg k1] at k;by_cases k2:z.toNat < y.toNat
         ·rw [if_pos k2] at k;omega
         ·rw [if_pos O];omega
       ·rw [if_neg h1] at h;by_cases h2:y.toNat < x.toNat
        ·rw [if_pos h2] at h;omega
        ·rw [if_neg h2] at h;by_cases k1:y.toNat < z.toNat
         ·rw [if_pos O];omega
         ·rw [if_neg k1] at k;by_cases k2:z.toNat < y.toNat
          ·rw [if_pos k2] at k;omega
          ·rw [if_neg k2] at k;rw [if_neg O,if_neg O];exact ih b c h k
theorem R9:Cq Lib.compareInt:=by
 refine ⟨fun x=>?_,fun x y=>?_,fun x y z=>?_⟩ <;> unfold Lib.compareInt <;> (repeat' split) <;> omega
theorem B8:Cq qr:=by
 refine ⟨fun x=>by cases x <;> decide,fun x y=>by cases x <;> cases y <;> decide,fun x y z=>by cases x <;> cases y <;> cases z <;> decide⟩
theorem B9:Cq fun a b:ByteArray=>Lib.compareBytes a.data.toList b.data.toList:=R8.at fun a:ByteArray=>a.data.toList
theorem fS {a b:ByteArray} (h:Lib.compareBytes a.data.toList b.data.toList = 0):a = b:=by
 have:=(J5 _ _).1 h;cases a;cases b
 simpa using this
theorem nB {a b:Int} (h:Lib.compareInt a b = 0):a = b:=by
 unfold Lib.compareInt at h;repeat' split at h
 all_goals omega
theorem aGj {a b:Bool} (h:qr a b = 0):a = b:=by cases a <;> cases b <;> first | rfl | (exfalso;revert h;decide)
theorem R':∀xs ys:List ByteArray,qW ys xs = - qW xs ys
 | [],[]=>rfl
 | [],_ :: _=>rfl
 | _ :: _,[]=>rfl
 | x :: xs,y :: ys=>by
   have h1:=B9.gS x y;have h2:=R' xs ys;unfold qW;rw [h1,h2];by_cases h:Lib.compareBytes x.data.toList y.data.toList = 0
   ·rw [if_pos h,if_pos O]
   ·rw [if_neg h,if_neg O]
theorem oE:∀{xs ys:List ByteArray},qW xs ys = 0→xs = ys
 | [],[],_=>rfl
 | [],_ :: _,h=>by simp [qW] at h
 | _ :: _,[],h=>by simp [qW] at h
 | x :: xs,y :: ys,h=>by
   unfold qW at h;by_cases h1:Lib.compareBytes x.data.toList y.data.toList = 0
   ·rw [if_pos h1] at h;rw [fS h1,oE h]
   ·rw [if_neg h1] at h;exact absurd h h1
theorem Yl:∀xs ys zs:List ByteArray,qW xs ys≤0→qW ys zs≤0→qW xs zs≤0
 | [],_,[],_,_=>by simp [qW]
 | [],_,_ :: _,_,_=>by simp [qW]
 | _ :: _,[],_,h,_=>by simp [qW] at h
 | _ :: _,_ :: _,[],_,k=>by simp [qW] at k
 | x :: xs,y :: ys,z :: zs,h,k=>by
   have C:=B9;have ih:=Yl xs ys zs;unfold qW at h k ⊢;by_cases h1:Lib.compareBytes x.data.toList y.data.toList = 0
   ·rw [if_pos h1] at h;have e:=fS h1;subst e;by_cases h2:Lib.compareBytes x.data.toList z.data.toList = 0
    ·rw [if_pos h2] at k ⊢;exact ih h k
    ·rw [if_neg h2] at k ⊢;exact k
   ·rw [if_neg h1] at h;by_cases h2:Lib.compareBytes y.data.toList z.data.toList = 0
    ·have e:=fS h2;subst e;rw [if_neg h1];exact h
    ·rw [if_neg h2] at k;have h3:Lib.compareBytes x.data.toList z.data.toList < 0:=C.PM (x:=x) (y:=y) (z:=z) (show Lib.compareBytes x.data.toList y.data.toList < 0 by omega) k;rw [if_neg O];omega
theorem Ca:Cq qW:=⟨fun xs=>by have:=R' xs xs;omega,R',Yl⟩
theorem si (a b c:Int):Qa [a,b,c] = if a = 0 then (if b = 0 then c else b) else a:=by
 unfold Qa Qa Qa Qa;by_cases h:c = 0
 ·simp [h]
 ·simp [h]
theorem Mb (a b c d:Int):Qa [a,b,c,d] = if a = 0 then (if b = 0 then (if c = 0 then d else c) else b) else a:=by
 rw [show Qa [a,b,c,d] = if a = 0 then Qa [b,c,d] else a from rfl,si]
theorem aGk:Cq fun x y:iU=>Qa (qq x y):=by
 have:=(B9.at iU.key).lex ((B9.at iU.value).lex (R9.at iU.an));simpa only [qq,si] using this
theorem Mc:Cq fun x y:bH=>Qa (po x y):=by
 have:=(B9.at bH.key).lex ((B8.at bH.equal).lex ((B9.at bH.value).lex (R9.at bH.an)));simpa only [po,Mb] using this
theorem aC2:Cq fun x y:bj=>Qa (W9 x y):=by
 have:=(B9.at bj.key).lex ((R9.at bj.op).lex (Ca.at bj.values));simpa only [W9,si] using this
theorem Sa:tF fun x y:iU=>decide (Qa (qq x y) < 0):=aGk.R7 fun x y h=>by
 simp only [qq,si] at h;repeat' split at h
 ·rename_i h1 h2;cases x;cases y
  simp only at *;rw [fS h1,fS h2,nB h]
 ·contradiction
 ·contradiction
theorem Sb:tF fun x y:bH=>decide (Qa (po x y) < 0):=Mc.R7 fun x y h=>by
 simp only [po,Mb] at h;repeat' split at h
 ·rename_i h1 h2 h3;cases x;cases y
  simp only at *;rw [fS h1,aGj h2,fS h3,nB h]
 ·contradiction
 ·contradiction
 ·contradiction
theorem aDI:tF fun x y:bj=>decide (Qa (W9 x y) < 0):=aC2.R7 fun x y h=>by
 simp only [W9,si] at h;repeat' split at h
 ·rename_i h1 h2;cases x;cases y
  simp only at *;rw [fS h1,nB h2,oE h]
 ·contradiction
 ·contradiction
def mz (xs:List bj):Bool:=nF uh nD 4 xs
theorem WI (xs:List bj) (A:Option Addr) (n c:Nat) (F:List Nat) (w:World) (h:Sl w xs A c F) (hn:n = xs.length) (hl:(xs.length:Int)≤1048576) (cS:(∀l∈xs,(l.key.size:Int)≤1048576∧(l.values.length:Int)≤1048576∧∀v∈l.values,(v.size:Int)≤1048576)) :
 Calls Tryz.prog 78 #[.slice A n c] w fun e w'=>e = .returned (.bool (mz xs))∧Below w.heap.size w w':=by
 subst hn;have Eo:=I cS;clear cS;go_enter Tryz.func78,Tryz.ntmps78;go_wp2_with fail
 go_loopw [7] (fun i wr=>∃k:Nat,k≤xs.length∧i = .int .i64 k∧Hid (∀j,j < k→bI uh nD xs j = true)∧Below w.heap.size w wr) (fun i _=>xs.length - (intOf i).toNat)
 case atStart=>exact ⟨0,Nat.zero_le _,rfl,(fun j hj=>by omega),bu⟩
 case round =>
  obtain ⟨k,hk,rfl,hall,az⟩:=hrel;by_cases ap:k < xs.length
  ·obtain rfl | ⟨j,rfl⟩:k = 0∨∃j,k = j+1:=by cases k with | zero=>exact .inl rfl | succ j=>exact .inr ⟨j,rfl⟩
   ·obtain ⟨b,o,ck,Fk,rfl,o9,hbs,hr,br,hc⟩:=(Sl.ext (w':=wr) (A:=A) (c:=c) h az).get ap;have cZ:=hr;obtain ⟨jy,ji,Bo,ax,su,cc,hop,kV⟩:=og hr;subst ax;obtain ⟨q0,q1,q2⟩:=jN 3 hc;clear hc;simp only [Nat.zero_mul,Nat.add_zero] at q0 q1 q2;obtain ⟨cW,cK,hs3⟩:=Eo.out xs[0] (List.getElem_mem ..);cases h1:uh xs[0]
    all_goals
     have hp:=b8 (ok:=uh) (less:=nD) ap;rw [h1] at hp;try simp only [Bool.false_and,Bool.and_false,Bool.and_true,Bool.and_self] at hp
     change bI uh nD xs _ = _ at hp
     have hK:∀wq,Below wr.heap.size wr wq→Calls Tryz.prog 127 #[.agg #[.string xs[0].key,.int .i64 xs[0].op,.slice jy xs[0].values.length ji]] wq fun e w'=>e = .returned (.bool (uh xs[0]))∧Below wq.heap.size wq w' :=
      fun wq hq=>Rw xs[0] _ _ _ (aJ cZ hq) cW cK hs3
     rw [h1] at hK;have OP:=I hK;clear hK
     first
      | have HN:=I (gq hall.out hp)
      | have HF:=I (wU (most:=4) ap hp)
     clear h1 hp;go_wp2_with fail
     refine aF _ U' U' (aj _) ?_
     repeat ((first | refine aG Z ?_ | refine aH _ Z vb ?_);simp only [Act.put,pz])
     refine aN ?_;intro wn hn;replace hn:=hn.out;go_wp2
     first
      | exact ⟨⟨0+1,O,N',HN.out,ah (ak az _) hn⟩,by simp [intOf];omega⟩
      | (go_ret;exact ⟨by unfold mz;rw [HF.out];rfl,ah (ak az _) hn⟩)
   ·obtain ⟨b,o,ck,Fk,rfl,o9,hbs,hr,br,hc⟩:=(Sl.ext (w':=wr) (A:=A) (c:=c) h az).get ap;have cZ:=hr;obtain ⟨jy,ji,Bo,ax,su,cc,hop,kV⟩:=og hr;subst ax;obtain ⟨q0,q1,q2⟩:=jN 3 hc;clear hc;obtain ⟨b',o',TY,Xw,e,Ht,hbs',cj,zQ,hc'⟩:=Sl.get (Sl.ext (w':=wr) (c:=c) h az) (show j < xs.length by omega);have QS:=cj;obtain ⟨qO,qP,KL,jU,abT,vC,hop2,zS⟩:=og cj;subst jU;obtain ⟨rfl,rfl⟩:b' = b∧o' = o:=by simpa using e.symm
    clear e;obtain ⟨p0,p1,p2⟩:=jN 3 hc';clear hc';have nG:IntKind.i64.wrap (j:Int) = j:=IntWalk.i64_in _ O;have jt:j < xs.length:=O;obtain ⟨hp1,tS,Sw⟩:=Eo.out xs[j] (List.getElem_mem ..);obtain ⟨cW,cK,hs3⟩:=Eo.out xs[j+1] (List.getElem_mem ..);cases h1:uh xs[j+1] <;> cases h3:nD xs[j] xs[j+1]
    all_goals
     have hp:=yS (ok:=uh) (less:=nD) ap;rw [h1,h3] at hp;try simp only [Bool.false_and,Bool.and_false,Bool.and_true,Bool.and_self] at hp
     change bI uh nD xs _ = _ at hp
     have hK:∀wq,Below wr.heap.size wr wq→Calls Tryz.prog 127 #[.agg #[.string xs[j+1].key,.int .i64 xs[j+1].op,.slice jy xs[j+1].values.length ji]] wq fun e w'=>e = .returned (.bool (uh xs[j+1]))∧Below wq.heap.size wq w' :=
      fun wq hq=>Rw xs[j+1] _ _ _ (aJ cZ hq) cW cK hs3
     rw [h1] at hK;have OP:=I hK;clear hK
     first
      | have HN:=I (gq hall.out hp)
      | have HF:=I (wU (most:=4) ap hp)
     have hC:∀wq,Below wr.heap.size wr wq→Calls Tryz.prog 128 #[.agg #[.string xs[j].key,.int .i64 xs[j].op,.slice qO xs[j].values.length qP],.agg #[.string xs[j+1].key,.int .i64 xs[j+1].op,.slice jy xs[j+1].values.length ji]] wq fun e w'=>e = .returned (.bool (nD xs[j] xs[j+1]))∧Below wq.heap.size wq w' :=
      fun wq hq=>ail xs[j] xs[j+1] _ _ _ _ _ (aJ QS hq) (aJ cZ hq) tS cK
     rw [h3] at hC;have mL:=I hC;clear hC;clear h1 hp;go_wp2_with fail
     refine aF _ U' U' (aj _) ?_
     repeat ((first | refine aG Z ?_ | refine aH _ Z vb ?_);simp only [Act.put,pz])
     refine aN ?_;intro wn hn;replace hn:=hn.out;go_wp2
     first
      | exact ⟨⟨j+1+1,O,N',HN.out,ah (ak az _) hn⟩,by simp [intOf];omega⟩
      | (go_ret;exact ⟨by unfold mz;rw [HF.out];rfl,ah (ak az _) hn⟩)
  ·have bz:k = xs.length:=O;subst bz;by_cases hm:(xs.length:Int)≤4
   ·have HF:=I (Jy hm hall.out);go_wp2;go_ret
    exact ⟨by unfold mz;rw [HF.out];first | rfl | simp [hm],az⟩
   ·have HF:=I (Jz (ok:=uh) (less:=nD) hm);go_wp2;go_ret
    exact ⟨by unfold mz;rw [HF.out];first | rfl | simp [hm],az⟩
theorem WJ (xs:List bj) (A:Option Addr) (n c:Nat) (F:List Nat) (w:World) (h:Sl w xs A c F) (hn:n = xs.length) (hl:(xs.length:Int)≤1048576) (cS:(∀l∈xs,(l.key.size:Int)≤1048576∧(l.values.length:Int)≤1048576∧∀v∈l.values,(v.size:Int)≤1048576)) :
 Calls Tryz.prog 91 #[.slice A n c] w fun e w'=>e = .returned (.bool (mz xs))∧Below w.heap.size w w':=by
 subst hn;have Eo:=I cS;clear cS;by_cases hm:(xs.length:Int)≤4
 ·go_enter Tryz.func91,Tryz.ntmps91;go_wp2_with fail
  go_loopw [3] (fun i wr=>∃k:Nat,k≤xs.length∧i = .int .i64 k∧Hid (∀j,j < k→bI uh nD xs j = true)∧Below w.heap.size w wr) (fun i _=>xs.length - (intOf i).toNat)
  case atStart=>exact ⟨0,Nat.zero_le _,rfl,(fun j hj=>by omega),bu⟩
  case round =>
   obtain ⟨k,hk,rfl,hall,az⟩:=hrel;by_cases ap:k < xs.length
   ·obtain rfl | ⟨j,rfl⟩:k = 0∨∃j,k = j+1:=by cases k with | zero=>exact .inl rfl | succ j=>exact .inr ⟨j,rfl⟩
    ·obtain ⟨b,o,ck,Fk,rfl,o9,hbs,hr,br,hc⟩:=(Sl.ext (w':=wr) (A:=A) (c:=c) h az).get ap;have cZ:=hr;obtain ⟨jy,ji,Bo,ax,su,cc,hop,kV⟩:=og hr;subst ax;obtain ⟨q0,q1,q2⟩:=jN 3 hc;clear hc;simp only [Nat.zero_mul,Nat.add_zero] at q0 q1 q2;obtain ⟨cW,cK,hs3⟩:=Eo.out xs[0] (List.getElem_mem ..);cases h1:uh xs[0]
     all_goals
      have hp:=b8 (ok:=uh) (less:=nD) ap;rw [h1] at hp;try simp only [Bool.false_and,Bool.and_false,Bool.and_true,Bool.and_self] at hp
      change bI uh nD xs _ = _ at hp
      have hK:∀wq,Below wr.heap.size wr wq→Calls Tryz.prog 138 #[.agg #[.string xs[0].key,.int .i64 xs[0].op,.slice jy xs[0].values.length ji]] wq fun e w'=>e = .returned (.bool (uh xs[0]))∧Below wq.heap.size wq w' :=
       fun wq hq=>Rx xs[0] _ _ _ (aJ cZ hq) cW cK hs3
      rw [h1] at hK;have OP:=I hK;clear hK
      first
       | have HN:=I (gq hall.out hp)
       | have HF:=I (wU (most:=4) ap hp)
      clear h1 hp;go_wp2_with fail
      refine aF _ U' U' (aj _) ?_
      repeat ((first | refine aG Z ?_ | refine aH _ Z vb ?_);simp only [Act.put,pz])
      refine aN ?_;intro wn hn;replace hn:=hn.out;go_wp2
      first
       | exact ⟨⟨0+1,O,N',HN.out,ah az hn⟩,by simp [intOf];omega⟩
       | (go_ret;exact ⟨by unfold mz;rw [HF.out];rfl,ah az hn⟩)
    ·obtain ⟨b,o,ck,Fk,rfl,o9,hbs,hr,br,hc⟩:=(Sl.ext (w':=wr) (A:=A) (c:=c) h az).get ap;have cZ:=hr;obtain ⟨jy,ji,Bo,ax,su,cc,hop,kV⟩:=og hr;subst ax;obtain ⟨q0,q1,q2⟩:=jN 3 hc;clear hc;obtain ⟨b',o',TY,Xw,e,Ht,hbs',cj,zQ,hc'⟩:=Sl.get (Sl.ext (w':=wr) (c:=c) h az) (show j < xs.length by omega);have QS:=cj;obtain ⟨qO,qP,KL,jU,abT,vC,hop2,zS⟩:=og cj;subst jU;obtain ⟨rfl,rfl⟩:b' = b∧o' = o:=by simpa using e.symm
     clear e;obtain ⟨p0,p1,p2⟩:=jN 3 hc';clear hc';have nG:IntKind.i64.wrap (j:Int) = j:=IntWalk.i64_in _ O;have jt:j < xs.length:=O;obtain ⟨hp1,tS,Sw⟩:=Eo.out xs[j] (List.getElem_mem ..);obtain ⟨cW,cK,hs3⟩:=Eo.out xs[j+1] (List.getElem_mem ..);cases h1:uh xs[j+1] <;> cases h3:nD xs[j] xs[j+1]
     all_goals
      have hp:=yS (ok:=uh) (less:=nD) ap;rw [h1,h3] at hp;try simp only [Bool.false_and,Bool.and_false,Bool.and_true,Bool.and_self] at hp
      change bI uh nD xs _ = _ at hp
      have hK:∀wq,Below wr.heap.size wr wq→Calls Tryz.prog 138 #[.agg #[.string xs[j+1].key,.int .i64 xs[j+1].op,.slice jy xs[j+1].values.length ji]] wq fun e w'=>e = .returned (.bool (uh xs[j+1]))∧Below wq.heap.size wq w' :=
       fun wq hq=>Rx xs[j+1] _ _ _ (aJ cZ hq) cW cK hs3
      rw [h1] at hK;have OP:=I hK;clear hK
      first
       | have HN:=I (gq hall.out hp)
       | have HF:=I (wU (most:=4) ap hp)
      have hC:∀wq,Below wr.heap.size wr wq→Calls Tryz.prog 80 #[.agg #[.string xs[j].key,.int .i64 xs[j].op,.slice qO xs[j].values.length qP],.agg #[.string xs[j+1].key,.int .i64 xs[j+1].op,.slice jy xs[j+1].values.length ji]] wq fun e w'=>e = .returned (.bool (nD xs[j] xs[j+1]))∧Below wq.heap.size wq w' :=
       fun wq hq=>TN xs[j] xs[j+1] _ _ _ _ _ (aJ QS hq) (aJ cZ hq) tS cK
      rw [h3] at hC;have mL:=I hC;clear hC;clear h1 hp;go_wp2_with fail
      refine aF _ U' U' (aj _) ?_
      repeat ((first | refine aG Z ?_ | refine aH _ Z vb ?_);simp only [Act.put,pz])
      refine aN ?_;intro wn hn;replace hn:=hn.out;go_wp2
      first
       | exact ⟨⟨j+1+1,O,N',HN.out,ah az hn⟩,by simp [intOf];omega⟩
       | (go_ret;exact ⟨by unfold mz;rw [HF.out];rfl,ah az hn⟩)
   ·have bz:k = xs.length:=O;subst bz;have HF:=I (Jy hm hall.out);go_wp2;go_ret
    exact ⟨by unfold mz;rw [HF.out];rfl,az⟩
 ·have HF:=I (Jz (ok:=uh) (less:=nD) hm);go_enter Tryz.func91,Tryz.ntmps91;go_wp2;go_ret
  exact ⟨by unfold mz;rw [HF.out];rfl,bu⟩
end Go.Proofs.YtjahcnjmjahbaaaGreat
