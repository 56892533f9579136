/- The orders of taints, tolerances and needs are total; that of labels by their keys is weak. No condition. -/
import Derived.Test.YtkjeocdobidadaaGreatOrdP
import Derived.Test.YtkjeocdobidadaaGreatCmp2
import Derived.Test.YtkjeocdobidadaaGreatUsed
import Derived.Test.YtkjeocdobidadaaGreatData
import Derived.Test.YtkjeocdobidadaaGreatDeed
import Derived.Lib.SlicesCompact
namespace Go.Proofs.YtkjeocdobidadaaGreat
open Go.ChangeShapes Go.WideShapes Go.ChangeAt Go.RowKit
set_option linter.unusedVariables false
set_option linter.unusedSimpArgs false
set_option maxHeartbeats 1000000
set_option maxRecDepth 100000
structure Cq {β:Type} (c:β→β→Int):Prop where
 refl:∀x,c x x = 0
 anti:∀x y,c y x = - c x y
 trans:∀x y z,c x y≤0→c y z≤0→c x z≤0
section
variable {β γ:Type} {c d:β→β→Int}
theorem Cq.lt1 (C:Cq c) {x y z:β} (h:c x y < 0) (k:c y z≤0):c x z < 0:=by
 have h1:=C.trans x y z O' k;apply Classical.byContradiction;intro hn;have h2:c z x≤0:=by rw [C.anti x z];omega
 have h3:=C.trans y z x k h2;rw [C.anti x y] at h3;omega
theorem Cq.lt2 (C:Cq c) {x y z:β} (h:c x y≤0) (k:c y z < 0):c x z < 0:=by
 have h1:=C.trans x y z h O';apply Classical.byContradiction;intro hn;have h2:c z x≤0:=by rw [C.anti x z];omega
 have h3:=C.trans z x y h2 h;rw [C.anti y z] at h3;omega
theorem Cq.at (C:Cq c) (f:γ→β):Cq fun x y=>c (f x) (f y):=⟨fun x=>C.refl _,fun x y=>C.anti _ _,fun x y z=>C.trans _ _ _⟩
theorem Cq.lex (C:Cq c) (D:Cq d):Cq fun x y=>if c x y = 0 then d x y else c x y:=by
 refine ⟨fun x=>by simp only [C.refl,if_true,D.refl],fun x y=>?_,fun x y z=>?_⟩
 ·have:=C.anti x y;by_cases h:c x y = 0
  ·simp only [h,show c y x = 0 by omega,if_true,D.anti x y]
  ·simp only [if_neg h];rw [if_neg (show ¬c y x = 0 by omega)];exact this
 ·intro h k;by_cases h1:c x y = 0
  ·by_cases h2:c y z = 0
   ·have h3:=C.trans x y z O' O';have h4:=C.trans z y x (by rw [C.anti y z];omega) (by rw [C.anti x y];omega);rw [C.anti x z] at h4;simp only [h1,h2,if_true] at h k;simp only [show c x z = 0 by omega,if_true];exact D.trans _ _ _ h k
   ·simp only [if_neg h2] at k;have:=C.lt2 (x:=x) (y:=y) (z:=z) O' O';simp only [if_neg (show ¬c x z = 0 by omega)];omega
  ·simp only [if_neg h1] at h;by_cases h2:c y z = 0
   ·have:=C.lt1 (x:=x) (y:=y) (z:=z) O' O';simp only [if_neg (show ¬c x z = 0 by omega)];omega
   ·simp only [if_neg h2] at k;have:=C.lt1 (x:=x) (y:=y) (z:=z) O' k;simp only [if_neg (show ¬c x z = 0 by omega)];omega
theorem Cq.tot (C:Cq c) (h:∀x y,c x y = 0→x = y):Tot fun x y=>decide (c x y < 0):=by
 refine ⟨fun x=>by simp [C.refl],fun x y z a b=>?_,fun x y a b=>h x y ?_⟩
 ·simp only [decide_eq_true_eq] at *;exact C.lt1 a O'
 ·simp only [decide_eq_false_iff_not] at *;have:=C.anti x y;omega
end
theorem cpBytes:Cq Lib.compareBytes:=by
 refine ⟨fun x=>(J5 x x).2 rfl,fun x y=>alC x y,?_⟩;intro a;induction a with
 | nil=>intro b c _ _;cases c <;> simp [Lib.compareBytes]
 | cons x a ih =>
   intro b c h k;cases b with
   | nil=>simp [Lib.compareBytes] at h
   | cons y b =>
     cases c with
     | nil=>simp [Lib.compareBytes] at k
     | cons z c =>
       unfold Lib.compareBytes at h k ⊢;simp only [UInt8.lt_iff_toNat_lt] at *;by_cases h1:x.toNat < y.toNat
       ·rw [if_pos h1] at h;by_cases k1:y.toNat < z.toNat
        ·rw [if_pos O'];omega
        ·rw [if_neg k1] at k;by_cases k2:z.toNat < y.toNat
         ·rw [if_pos k2] at k;omega
         ·rw [if_pos O'];omega
       ·rw [if_neg h1] at h;by_cases h2:y.toNat < x.toNat
        ·rw [if_pos h2] at h;omega
        ·rw [if_neg h2] at h;by_cases k1:y.toNat < z.toNat
         ·rw [if_pos O'];omega
         ·rw [if_neg k1] at k;by_cases k2:z.toNat < y.toNat
          ·rw [if_pos k2] at k;omega
          ·rw [if_neg k2] at k;rw [if_neg O',if_neg O'];exact ih b c h k
theorem cpInt:Cq Lib.compareInt:=by
 refine ⟨fun x=>?_,fun x y=>?_,fun x y z=>?_⟩ <;> unfold Lib.compareInt <;> (repeat' split) <;> omega
theorem cpFlag:Cq aag:=by
 refine ⟨fun x=>by cases x <;> decide,fun x y=>by cases x <;> cases y <;> decide,fun x y z=>by cases x <;> cases y <;> cases z <;> decide⟩
theorem cpKey:Cq fun a b:ByteArray=>Lib.compareBytes a.data.toList b.data.toList:=cpBytes.at fun a:ByteArray=>a.data.toList
theorem key_eq {a b:ByteArray} (h:Lib.compareBytes a.data.toList b.data.toList = 0):a = b:=by
 have:=(J5 _ _).1 h;cases a;cases b
 simpa using this
theorem int_eq {a b:Int} (h:Lib.compareInt a b = 0):a = b:=by
 unfold Lib.compareInt at h;repeat' split at h
 all_goals omega
theorem flag_eq {a b:Bool} (h:aag a b = 0):a = b:=by cases a <;> cases b <;> first | rfl | (exfalso;revert h;decide)
theorem vals_anti:∀xs ys:List ByteArray,qW ys xs = - qW xs ys
 | [],[]=>rfl
 | [],_ :: _=>rfl
 | _ :: _,[]=>rfl
 | x :: xs,y :: ys=>by
   have h1:=cpKey.anti x y;have h2:=vals_anti xs ys;unfold qW;rw [h1,h2];by_cases h:Lib.compareBytes x.data.toList y.data.toList = 0
   ·rw [if_pos h,if_pos O']
   ·rw [if_neg h,if_neg O']
theorem vals_eq:∀{xs ys:List ByteArray},qW xs ys = 0→xs = ys
 | [],[],_=>rfl
 | [],_ :: _,h=>by simp [qW] at h
 | _ :: _,[],h=>by simp [qW] at h
 | x :: xs,y :: ys,h=>by
   unfold qW at h;by_cases h1:Lib.compareBytes x.data.toList y.data.toList = 0
   ·rw [if_pos h1] at h;rw [key_eq h1,vals_eq h]
   ·rw [if_neg h1] at h;exact absurd h h1
theorem vals_trans:∀xs ys zs:List ByteArray,qW xs ys≤0→qW ys zs≤0→qW xs zs≤0
 | [],_,[],_,_=>by simp [qW]
 | [],_,_ :: _,_,_=>by simp [qW]
 | _ :: _,[],_,h,_=>by simp [qW] at h
 | _ :: _,_ :: _,[],_,k=>by simp [qW] at k
 | x :: xs,y :: ys,z :: zs,h,k=>by
   have C:=cpKey;have ih:=vals_trans xs ys zs;unfold qW at h k ⊢;by_cases h1:Lib.compareBytes x.data.toList y.data.toList = 0
   ·rw [if_pos h1] at h;have e:=key_eq h1;subst e;by_cases h2:Lib.compareBytes x.data.toList z.data.toList = 0
    ·rw [if_pos h2] at k ⊢;exact ih h k
    ·rw [if_neg h2] at k ⊢;exact k
   ·rw [if_neg h1] at h;by_cases h2:Lib.compareBytes y.data.toList z.data.toList = 0
    ·have e:=key_eq h2;subst e;rw [if_neg h1];exact h
    ·rw [if_neg h2] at k;have h3:Lib.compareBytes x.data.toList z.data.toList < 0:=C.lt1 (x:=x) (y:=y) (z:=z) (show Lib.compareBytes x.data.toList y.data.toList < 0 by omega) k;rw [if_neg O'];omega
theorem cpVals:Cq qW:=⟨fun xs=>by have:=vals_anti xs xs;omega,vals_anti,vals_trans⟩
theorem orI3 (a b c:Int):Qa [a,b,c] = if a = 0 then (if b = 0 then c else b) else a:=by
 unfold Qa Qa Qa Qa;by_cases h:c = 0
 ·simp [h]
 ·simp [h]
theorem orI4 (a b c d:Int):Qa [a,b,c,d] = if a = 0 then (if b = 0 then (if c = 0 then d else c) else b) else a:=by
 rw [show Qa [a,b,c,d] = if a = 0 then Qa [b,c,d] else a from rfl,orI3]
theorem cpTaint:Cq fun x y:iU=>Qa (ao0 x y):=by
 have:=(cpKey.at iU.key).lex ((cpKey.at iU.value).lex (cpInt.at iU.effect));simpa only [ao0,orI3] using this
theorem cpTol:Cq fun x y:bH=>Qa (anq x y):=by
 have:=(cpKey.at bH.key).lex ((cpFlag.at bH.equal).lex ((cpKey.at bH.value).lex (cpInt.at bH.effect)));simpa only [anq,orI4] using this
theorem cpNeed:Cq fun x y:Need=>Qa (W9 x y):=by
 have:=(cpKey.at Need.key).lex ((cpInt.at Need.op).lex (cpVals.at Need.values));simpa only [W9,orI3] using this
theorem totTaint:Tot fun x y:iU=>decide (Qa (ao0 x y) < 0):=cpTaint.tot fun x y h=>by
 simp only [ao0,orI3] at h;repeat' split at h
 ·rename_i h1 h2;cases x;cases y
  simp only at *;rw [key_eq h1,key_eq h2,int_eq h]
 ·contradiction
 ·contradiction
theorem totTol:Tot fun x y:bH=>decide (Qa (anq x y) < 0):=cpTol.tot fun x y h=>by
 simp only [anq,orI4] at h;repeat' split at h
 ·rename_i h1 h2 h3;cases x;cases y
  simp only at *;rw [key_eq h1,flag_eq h2,key_eq h3,int_eq h]
 ·contradiction
 ·contradiction
 ·contradiction
theorem totNeed:Tot fun x y:Need=>decide (Qa (W9 x y) < 0):=cpNeed.tot fun x y h=>by
 simp only [W9,orI3] at h;repeat' split at h
 ·rename_i h1 h2;cases x;cases y
  simp only at *;rw [key_eq h1,int_eq h2,vals_eq h]
 ·contradiction
 ·contradiction
def blt (x y:ByteArray):Bool:=Op.bytesLess x.toList y.toList
theorem totB:Tot blt:=⟨fun x=>ak0 _,fun x y z=>apx _ _ _,fun x y h1 h2=>Ce (by rw [beq_iff_eq];exact aoA _ _ h1 h2)⟩
def valsR (xs:List ByteArray):List ByteArray:=uniqL blt [] xs
theorem valsR_len (xs:List ByteArray):(valsR xs).length≤xs.length:=by have:=uniqL_len blt xs [];unfold valsR;simpa using this
theorem valsR_mem {xs:List ByteArray} {z:ByteArray} (h:z∈valsR xs):z∈xs:=by
 rcases (uniqL_mem totB z xs []).1 h with h | h
 ·cases h
 ·exact h
theorem valsR_wt (xs:List ByteArray):kL ByteArray.size (valsR xs)≤kL ByteArray.size xs:=by
 have h:=uniqL_sum ByteArray.size blt xs [];have hl:=uniqL_len blt xs [];unfold valsR kL;simp only [List.map_nil,List.sum_nil,List.length_nil] at h hl;omega
theorem Gj {P:Program} {C:World→Prop} {v:Value} {r:Result Next} {w:World} (e:r = .ok (.value v) w) (h:C w):outcome P C v r:=by subst e;exact ⟨h,rfl⟩
theorem Y2 (x y:UInt8):x < y↔x.toNat < y.toNat:=UInt8.lt_iff_toNat_lt
theorem u8_ext {x y:UInt8} (h1:¬x < y) (h2:¬y < x):x = y:=by
 rw [Y2] at h1 h2;exact UInt8.toNat_inj.1 O'
theorem GK:∀a b:List UInt8,Lib.compareBytes a b = 0↔a = b
 | [],[]=>by simp [Lib.compareBytes]
 | [],_ :: _=>by simp [Lib.compareBytes]
 | _ :: _,[]=>by simp [Lib.compareBytes]
 | x :: a,y :: b=>by
   have ih:=GK a b;unfold Lib.compareBytes;by_cases h1:x < y
   ·rw [if_pos h1];have:x≠y:=fun e=>by subst e;rw [Y2] at h1;omega
    simp [this]
   ·rw [if_neg h1];by_cases h2:y < x
    ·rw [if_pos h2];have:x≠y:=fun e=>by subst e;rw [Y2] at h2;omega
     simp [this]
    ·rw [if_neg h2,ih,u8_ext h1 h2];simp
theorem aeM (a b:Int):Lib.compareInt a b = 0↔a = b:=by
 unfold Lib.compareInt;split
 ·omega
 ·split <;> omega
theorem ahr {a b:ByteArray} (h:a.data.toList = b.data.toList):a = b:=by cases a;cases b;simp_all
theorem acr:∀xs ys:List ByteArray,qW xs ys = 0↔xs = ys
 | [],[]=>by simp [qW]
 | [],_ :: _=>by simp [qW]
 | _ :: _,[]=>by simp [qW]
 | x :: xs,y :: ys=>by
   have ih:=acr xs ys;unfold qW;by_cases h:Lib.compareBytes x.data.toList y.data.toList = 0
   ·rw [if_pos h,ih,ahr ((GK _ _).1 h)];simp
   ·rw [if_neg h];have:x≠y:=fun e=>h (by rw [e];exact (GK _ _).2 rfl);simp [this,h]
theorem aqj (x y:Need):Qa (W9 x y) = 0↔yI x y = true:=by
 rw [aas];have h1:=GK x.key.data.toList y.key.data.toList;have h2:=aeM x.op y.op;have h3:=acr x.values y.values;unfold W9;simp only [Qa];constructor
 ·intro h;by_cases e1:Lib.compareBytes x.key.data.toList y.key.data.toList = 0
  ·rw [if_pos e1] at h;by_cases e2:Lib.compareInt x.op y.op = 0
   ·rw [if_pos e2] at h;by_cases e3:qW x.values y.values = 0
    ·have k1:=ahr (h1.1 e1);have k2:=h2.1 e2;have k3:=h3.1 e3;cases x;cases y
     simp only at k1 k2 k3;subst k1 k2 k3;rfl
    ·rw [if_neg e3] at h;exact absurd h e3
   ·rw [if_neg e2] at h;exact absurd h e2
  ·rw [if_neg e1] at h;exact absurd h e1
 ·rintro rfl;rw [if_pos (h1.2 rfl),if_pos (h2.2 rfl),if_pos (h3.2 rfl)]
theorem ad4 (x y:Need):(Qa (W9 x y) == 0) = yI x y:=by
 rw [Bool.eq_iff_iff,beq_iff_eq];exact aqj x y
theorem ahq (xs ys:List Label) (A B:Option Addr) (c d:Nat) (F G:List Nat) (w:World) (h:Sl w xs A c F) (h':Sl w ys B d G) :
 Calls Tryz.prog 160 #[.slice A xs.length c,.slice B ys.length d] w fun e w'=>e = .returned (.bool (same vZ xs ys))∧Below w.heap.size w w':=by
 have hc:=h.cap;unfold maxLen at hc;obtain ⟨hc1,hc2⟩:=hc;have hd:=h'.cap;unfold maxLen at hd;obtain ⟨hd1,hd2⟩:=hd;by_cases hl:xs.length = ys.length
 ·have HL:=I' hl;have hb1:((xs.length:Int) != (ys.length:Int)) = false:=by simp [hl]
  clear hl;go_enter Tryz.func160,Tryz.ntmps160;go_wp2;go_loopw [13] (fun i wr=>∃k:Nat,k≤xs.length∧i = .int .i64 k∧Hid (same vZ (xs.take k) (ys.take k) = true)∧Below w.heap.size w wr) (fun i _=>xs.length - (intOf i).toNat)
  case atStart=>exact ⟨0,Nat.zero_le _,rfl,by show _ = true;simp [same],aj _⟩
  case round =>
   obtain ⟨k,hk,rfl,Heq,hbl⟩:=hrel;by_cases hlt:k < xs.length
   ·obtain ⟨b,o,ck,Fk,rfl,o9,hbs,hr,hsub,hc⟩:=(h.ext hbl).get hlt;have hlt':k < ys.length:=(by rw [← HL.out];exact hlt);obtain ⟨b',o',TY,Xw,rfl,Ht,hbs',hr',zQ,hc'⟩:=(h'.ext hbl).get hlt';obtain ⟨hck,rfl,xO,xk⟩:=vO hr;subst hck;obtain ⟨hck,rfl,vC,rP⟩:=vO hr';subst hck;have q0:wr.cell? ⟨b,o+k * 2,none⟩ = some (.string xs[k].key):=(by exact hc 0 _ rfl);have q1:wr.cell? ⟨b,o+k * 2+1,none⟩ = some (.string xs[k].value):=(by rw [Nat.add_assoc];exact hc 1 _ rfl);have p0:wr.cell? ⟨b',o'+k * 2,none⟩ = some (.string ys[k].key):=(by exact hc' 0 _ rfl);have p1:wr.cell? ⟨b',o'+k * 2+1,none⟩ = some (.string ys[k].value):=(by rw [Nat.add_assoc];exact hc' 1 _ rfl);clear hc hc';go_wp2_with fail
    refine aF wr U' U' auj ?_
    repeat (first
     | (apply aG
        case hw=>rfl
        simp only [Act.put,pz])
     | (apply aH
        case hw=>rfl
        case h =>
         intro wq hq;have hcq:=(aB hq).1;have lJ:=(aB hq).2;go_simp
         first
          | exact ⟨hq,rfl⟩
          | exact ⟨aQ hq _,rfl⟩
          | ((refine Gj (v:=.bool (!(vZ xs[k] ys[k]))) ?_ hq;unfold vZ;repeat' split;all_goals simp [*]))
          | (simp only [↓IntWalk.iteOmega];exact ⟨hq,rfl⟩)
        simp only [Act.put,pz]))
    exact Zab9
   ·exact Zab0
 ·have hb1:((xs.length:Int) != (ys.length:Int)) = true:=by simp;omega
  have HL:=I' (qN (eq:=vZ) hl);clear hl;go_enter Tryz.func160,Tryz.ntmps160;exact Zadk
theorem Yr (xs ys:List iU) (A B:Option Addr) (c d:Nat) (F G:List Nat) (w:World) (h:Sl w xs A c F) (h':Sl w ys B d G) :
 Calls Tryz.prog 116 #[.slice A xs.length c,.slice B ys.length d] w fun e w'=>e = .returned (.bool (same Aq xs ys))∧Below w.heap.size w w':=by
 have hc:=h.cap;unfold maxLen at hc;obtain ⟨hc1,hc2⟩:=hc;have hd:=h'.cap;unfold maxLen at hd;obtain ⟨hd1,hd2⟩:=hd;by_cases hl:xs.length = ys.length
 ·have HL:=I' hl;have hb1:((xs.length:Int) != (ys.length:Int)) = false:=by simp [hl]
  clear hl;go_enter Tryz.func116,Tryz.ntmps116;go_wp2;go_loopw [13] (fun i wr=>∃k:Nat,k≤xs.length∧i = .int .i64 k∧Hid (same Aq (xs.take k) (ys.take k) = true)∧Below w.heap.size w wr) (fun i _=>xs.length - (intOf i).toNat)
  case atStart=>exact ⟨0,Nat.zero_le _,rfl,by show _ = true;simp [same],aj _⟩
  case round =>
   obtain ⟨k,hk,rfl,Heq,hbl⟩:=hrel;by_cases hlt:k < xs.length
   ·obtain ⟨b,o,ck,Fk,rfl,o9,hbs,hr,hsub,hc⟩:=(h.ext hbl).get hlt;have hlt':k < ys.length:=(by rw [← HL.out];exact hlt);obtain ⟨b',o',TY,Xw,rfl,Ht,hbs',hr',zQ,hc'⟩:=(h'.ext hbl).get hlt';obtain ⟨hck,rfl,xO,xk,zT⟩:=oK hr;subst hck;obtain ⟨hck,rfl,vC,rP,uY⟩:=oK hr';subst hck;have q0:wr.cell? ⟨b,o+k * 3,none⟩ = some (.string xs[k].key):=(by exact hc 0 _ rfl);have q1:wr.cell? ⟨b,o+k * 3+1,none⟩ = some (.string xs[k].value):=(by rw [Nat.add_assoc];exact hc 1 _ rfl);have q2:wr.cell? ⟨b,o+k * 3+2,none⟩ = some (.int .i64 xs[k].effect):=(by rw [Nat.add_assoc];exact hc 2 _ rfl);have p0:wr.cell? ⟨b',o'+k * 3,none⟩ = some (.string ys[k].key):=(by exact hc' 0 _ rfl);have p1:wr.cell? ⟨b',o'+k * 3+1,none⟩ = some (.string ys[k].value):=(by rw [Nat.add_assoc];exact hc' 1 _ rfl);have p2:wr.cell? ⟨b',o'+k * 3+2,none⟩ = some (.int .i64 ys[k].effect):=(by rw [Nat.add_assoc];exact hc' 2 _ rfl);clear hc hc';go_wp2_with fail
    refine aF wr U' U' auj ?_
    repeat (first
     | (apply aG
        case hw=>rfl
        simp only [Act.put,pz])
     | (apply aH
        case hw=>rfl
        case h =>
         intro wq hq;have hcq:=(aB hq).1;have lJ:=(aB hq).2;go_simp
         first
          | exact ⟨hq,rfl⟩
          | exact ⟨aQ hq _,rfl⟩
          | ((refine Gj (v:=.bool (!(Aq xs[k] ys[k]))) ?_ hq;unfold Aq;repeat' split;all_goals simp [*]))
          | (simp only [↓IntWalk.iteOmega];exact ⟨hq,rfl⟩)
        simp only [Act.put,pz]))
    exact Zab9
   ·exact Zab0
 ·have hb1:((xs.length:Int) != (ys.length:Int)) = true:=by simp;omega
  have HL:=I' (qN (eq:=Aq) hl);clear hl;go_enter Tryz.func116,Tryz.ntmps116;exact Zadk
theorem QE (xs ys:List bH) (A B:Option Addr) (c d:Nat) (F G:List Nat) (w:World) (h:Sl w xs A c F) (h':Sl w ys B d G) :
 Calls Tryz.prog 115 #[.slice A xs.length c,.slice B ys.length d] w fun e w'=>e = .returned (.bool (same oP xs ys))∧Below w.heap.size w w':=by
 have hc:=h.cap;unfold maxLen at hc;obtain ⟨hc1,hc2⟩:=hc;have hd:=h'.cap;unfold maxLen at hd;obtain ⟨hd1,hd2⟩:=hd;by_cases hl:xs.length = ys.length
 ·have HL:=I' hl;have hb1:((xs.length:Int) != (ys.length:Int)) = false:=by simp [hl]
  clear hl;go_enter Tryz.func115,Tryz.ntmps115;go_wp2;go_loopw [13] (fun i wr=>∃k:Nat,k≤xs.length∧i = .int .i64 k∧Hid (same oP (xs.take k) (ys.take k) = true)∧Below w.heap.size w wr) (fun i _=>xs.length - (intOf i).toNat)
  case atStart=>exact ⟨0,Nat.zero_le _,rfl,by show _ = true;simp [same],aj _⟩
  case round =>
   obtain ⟨k,hk,rfl,Heq,hbl⟩:=hrel;by_cases hlt:k < xs.length
   ·obtain ⟨b,o,ck,Fk,rfl,o9,hbs,hr,hsub,hc⟩:=(h.ext hbl).get hlt;have hlt':k < ys.length:=(by rw [← HL.out];exact hlt);obtain ⟨b',o',TY,Xw,rfl,Ht,hbs',hr',zQ,hc'⟩:=(h'.ext hbl).get hlt';obtain ⟨hck,rfl,xO,xk,zT⟩:=jv hr;subst hck;obtain ⟨hck,rfl,vC,rP,uY⟩:=jv hr';subst hck;have q0:wr.cell? ⟨b,o+k * 4,none⟩ = some (.string xs[k].key):=(by exact hc 0 _ rfl);have q1:wr.cell? ⟨b,o+k * 4+1,none⟩ = some (.bool xs[k].equal):=(by rw [Nat.add_assoc];exact hc 1 _ rfl);have q2:wr.cell? ⟨b,o+k * 4+2,none⟩ = some (.string xs[k].value):=(by rw [Nat.add_assoc];exact hc 2 _ rfl);have q3:wr.cell? ⟨b,o+k * 4+3,none⟩ = some (.int .i64 xs[k].effect):=(by rw [Nat.add_assoc];exact hc 3 _ rfl);have p0:wr.cell? ⟨b',o'+k * 4,none⟩ = some (.string ys[k].key):=(by exact hc' 0 _ rfl);have p1:wr.cell? ⟨b',o'+k * 4+1,none⟩ = some (.bool ys[k].equal):=(by rw [Nat.add_assoc];exact hc' 1 _ rfl);have p2:wr.cell? ⟨b',o'+k * 4+2,none⟩ = some (.string ys[k].value):=(by rw [Nat.add_assoc];exact hc' 2 _ rfl);have p3:wr.cell? ⟨b',o'+k * 4+3,none⟩ = some (.int .i64 ys[k].effect):=(by rw [Nat.add_assoc];exact hc' 3 _ rfl);clear hc hc';go_wp2_with fail
    refine aF wr U' U' auj ?_
    repeat (first
     | (apply aG
        case hw=>rfl
        simp only [Act.put,pz])
     | (apply aH
        case hw=>rfl
        case h =>
         intro wq hq;have hcq:=(aB hq).1;have lJ:=(aB hq).2;go_simp
         first
          | exact ⟨hq,rfl⟩
          | exact ⟨aQ hq _,rfl⟩
          | ((refine Gj (v:=.bool (!(oP xs[k] ys[k]))) ?_ hq;unfold oP;repeat' split;all_goals simp [*]))
          | (simp only [↓IntWalk.iteOmega];exact ⟨hq,rfl⟩)
        simp only [Act.put,pz]))
    exact Zab9
   ·exact Zab0
 ·have hb1:((xs.length:Int) != (ys.length:Int)) = true:=by simp;omega
  have HL:=I' (qN (eq:=oP) hl);clear hl;go_enter Tryz.func115,Tryz.ntmps115;exact Zadk
end Go.Proofs.YtkjeocdobidadaaGreat
