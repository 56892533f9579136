/- NeedOk, of the program and of the reference. No condition. -/
import Derived.Test.YtajbbmembionpaaGreatRows2
import Derived.Laws.Cover1
import Derived.Lib.SlicesCompact
namespace Go.Proofs.YtajbbmembionpaaGreat
open Go.ChangeShapes Go.WideShapes Go.ChangeAt Go.RowKit
set_option linter.unusedVariables false
set_option linter.unusedSimpArgs false
set_option maxHeartbeats 2000000
set_option maxRecDepth 100000
theorem ZS (n a b:Int) (w:World):Calls Tryz.prog 96 #[.int .i64 n,.int .i64 a,.int .i64 b] w fun e w'=>e = .returned (.bool (decide (a≤n)&&decide (n≤b)))∧w' = w:=by
 by_cases Z:a≤n <;> by_cases h2:n≤b
 all_goals
  go_enter Tryz.func96,Tryz.ntmps96;go_wp2;go_ret
  exact ⟨by simp [Z,h2] <;> first | rfl | omega,rfl⟩
theorem Rw (x:aL) (cs:List Value) (F:List Nat) (w:World) (h:rd w x cs F) (fh:(x.key.size:Int)≤1048576) (hl:(x.values.length:Int)≤1048576) (cW:∀v∈x.values,(v.size:Int)≤1048576) :
 Calls Tryz.prog 132 #[.agg cs.toArray] w fun e w'=>e = .returned (.bool (uh x))∧Below w.heap.size w w':=by
 have Eo:=I cW;clear cW;obtain ⟨jy,ji,Bo,aD,qp,ce,eK,kV⟩:=og h;subst aD;clear qp;cases hK:Cm x.key with
 | false =>have HF:=I (SJ hK);have HK:=I hK;clear hK;exact sX
 | true =>
   have HK:=I hK;by_cases eK:1≤x.op∧x.op≤4
   ·by_cases h2:2 < x.op
    ·have hg:=SL hK eK h2;obtain ⟨mO,hop2⟩:=eK;by_cases h0:x.values.length = 0
     ·rw [decide_eq_true h0] at hg;have HF:=I hg;have H0:=I h0;clear hK hg h0;go_enter Tryz.func132,Tryz.ntmps132;go_wp2_with fail
      refine (rX x.key _ fh).mono ?_;exact Dk
     ·rw [decide_eq_false h0] at hg;have HF:=I hg;have Ro:((x.values.length:Int) == 0) = false:=(by rw [beq_eq_false_iff_ne];omega);clear hK hg;exact sX
    ·have HI:=I (SM hK eK h2);obtain ⟨mO,hop2⟩:=eK;have ZT:x.op≤2:=J;clear hK;go_enter Tryz.func132,Tryz.ntmps132;go_wp2_with fail
     refine (rX x.key _ fh).mono ?_;rw [HK.out];rintro e w2 ⟨rfl,aq⟩;obtain ⟨cj,cN⟩:=ay aq;have cC:w.heap.size < w2.heap.size:=(by have:=aq.size;simp at this;omega);have jK:w2.cell? ⟨w.heap.size,1,none⟩ = some (.int .i64 x.op):=(by rw [cj _ _ S',cell_of_row _ _ _ _ _ _ (heap_alloc_new w _)];rfl);have mj:w2.cell? ⟨w.heap.size,2,none⟩ = some (.slice jy x.values.length ji):=(by rw [cj _ _ S',cell_of_row _ _ _ _ _ _ (heap_alloc_new w _)];rfl);have eS:Below w.heap.size w w2:=bL;clear cj cN;go_wp2_with fail
     refine (ZS x.op 1 4 _).mono ?_;rw [show (decide ((1:Int)≤x.op)&&decide (x.op≤4)) = true by simp [mO,hop2]];rintro e w3 ⟨rfl,hw⟩;simp only [hw];clear hw w3;go_wp2;go_loopw [25] (fun i wr=>∃k:Nat,k≤x.values.length∧i = .int .i64 k∧Hid (∀j,j < k→bO AQ bl x.values j = true)∧wr.cell? ⟨w.heap.size,2,none⟩ = some (.slice jy x.values.length ji)∧Below w.heap.size w wr) (fun i _=>x.values.length - (intOf i).toNat)
     case atStart=>exact ⟨0,Nat.zero_le _,rfl,(fun j hj=>by omega),mj,eS⟩
     case round =>
      obtain ⟨k,hk,rfl,hall,ba,aK⟩:=hrel;have eV:w.heap.size < wr.heap.size:=World.block_lt_of_cell? wr _ ba;by_cases av:k < x.values.length
      ·obtain rfl | ⟨j,rfl⟩:k = 0∨∃j,k = j+1:=by cases k with | zero=>exact .inl rfl | succ j=>exact .inr ⟨j,rfl⟩
       ·obtain ⟨b,o,ck,Fk,rfl,o9,hbs,hr,bA,hc⟩:=(Sl.ext (w':=wr) (A:=jy) (c:=ji) kV aK).get av;obtain ⟨aD,su,fX⟩:=hr;subst aD su;have q0:wr.cell? ⟨b,o+0,none⟩ = some (.string x.values[0]):=(by have:=hc 0 _ rfl;rwa [show o+(0 * bb.size ByteArray+0) = o+0 from by show o+(0 * 1+0) = _;omega] at this);clear hc;simp only [Nat.add_zero] at q0;have dq:=Eo.out x.values[0] (List.getElem_mem ..);cases Z:AQ x.values[0]
        all_goals
         have hp:=cF (ok:=AQ) (less:=bl) av;rw [Z] at hp;try simp only [Bool.false_and,Bool.and_false,Bool.and_true,Bool.and_self] at hp
         change bO AQ bl x.values _ = _ at hp;have H1:=I Z
         first
          | have HN:=I (gq hall.out hp)
          | have HF:=I (show uh x = false by rw [HI.out,wU (most:=4) av hp];simp)
         clear Z hp;go_wp2_with fail
         refine (xQ x.values[0] _ dq).mono ?_;rw [H1.out];rintro e wn ⟨rfl,X⟩;obtain ⟨jI,ky⟩:=ay X;go_wp2
         first
          | exact ⟨⟨0+1,J,N',HN.out,((ay X).1 _ _ eV).trans ba,ah aK X⟩,by simp [intOf];omega⟩
          | (go_ret;exact ⟨by rw [HF.out];rfl,ah aK X⟩)
          | (go_roundw
             case rel=>exact ⟨0+1,J,N',HN.out,((ay X).1 _ _ eV).trans ba,ah aK X⟩
             case measure=>simp [intOf];omega)
       ·obtain ⟨b,o,ck,Fk,rfl,o9,hbs,hr,bA,hc⟩:=(Sl.ext (w':=wr) (A:=jy) (c:=ji) kV aK).get av;obtain ⟨aD,su,fX⟩:=hr;subst aD su;have q0:wr.cell? ⟨b,o+(j+1),none⟩ = some (.string x.values[j+1]):=(by have:=hc 0 _ rfl;rwa [show o+((j+1) * bb.size ByteArray+0) = o+(j+1) from by show o+((j+1) * 1+0) = _;omega] at this);clear hc;obtain ⟨b',o',TY,Xw,e,Ht,hbs',dd,zQ,hc'⟩:=Sl.get (Sl.ext (w':=wr) (c:=ji) kV aK) (show j < x.values.length by omega);obtain ⟨jU,abT,hsz2⟩:=dd;subst jU;obtain ⟨rfl,rfl⟩:b' = b∧o' = o:=by simpa using e.symm
        clear e;have p0:wr.cell? ⟨b',o'+j,none⟩ = some (.string x.values[j]):=(by have:=hc' 0 _ rfl;rwa [show o'+(j * bb.size ByteArray+0) = o'+j from by show o'+(j * 1+0) = _;omega] at this);clear hc';have yk:IntKind.i64.wrap (j:Int) = j:=IntWalk.i64_in _ J;have mr:j < x.values.length:=J;have dq:=Eo.out x.values[j+1] (List.getElem_mem ..);cases Z:AQ x.values[j+1] <;> cases h3:Op.bytesLess x.values[j].toList x.values[j+1].toList
        all_goals
         have hp:=yS (ok:=AQ) (less:=bl) av;unfold bl at hp;rw [Z,h3] at hp;try simp only [Bool.false_and,Bool.and_false,Bool.and_true,Bool.and_self] at hp
         change bO AQ bl x.values _ = _ at hp;have H1:=I Z
         first
          | have HN:=I (gq hall.out hp)
          | have HF:=I (show uh x = false by rw [HI.out,wU (most:=4) av hp];simp)
         clear Z hp;go_wp2_with fail
         refine (xQ x.values[j+1] _ dq).mono ?_;rw [H1.out];rintro e wn ⟨rfl,X⟩;obtain ⟨jI,ky⟩:=ay X;go_wp2
         first
          | exact ⟨⟨j+1+1,J,N',HN.out,((ay X).1 _ _ eV).trans ba,ah aK X⟩,by simp [intOf];omega⟩
          | (go_ret;exact ⟨by rw [HF.out];rfl,ah aK X⟩)
          | (go_roundw
             case rel=>exact ⟨j+1+1,J,N',HN.out,((ay X).1 _ _ eV).trans ba,ah aK X⟩
             case measure=>simp [intOf];omega)
      ·have bI:k = x.values.length:=J;subst bI;by_cases hm:(x.values.length:Int)≤4
       ·by_cases oT:1≤x.values.length
        ·have HF:=I (show uh x = true by rw [HI.out,Jy hm hall.out];simp [oT]);exact sM
        ·have HF:=I (show uh x = false by rw [HI.out];simp [oT]);have nE:(x.values.length:Int) < 1:=J;exact sM
       ·have HF:=I (show uh x = false by rw [HI.out,Jz (ok:=AQ) (less:=bl) hm];simp);have nE:(1:Int)≤x.values.length:=J;have ZU:decide ((x.values.length:Int)≤4) = false:=(by simp;omega);exact sM
   ·have HF:=I (SK eK);clear hK;by_cases Z:x.op < 1
    ·exact sX
    ·have Sy:1≤x.op:=J;have ZV:4 < x.op:=J;have ZW:decide (x.op≤4) = false:=(by simp;omega);exact sX
theorem Rx (x:aL) (cs:List Value) (F:List Nat) (w:World) (h:rd w x cs F) (fh:(x.key.size:Int)≤1048576) (hl:(x.values.length:Int)≤1048576) (cW:∀v∈x.values,(v.size:Int)≤1048576) :
 Calls Tryz.prog 125 #[.agg cs.toArray] w fun e w'=>e = .returned (.bool (uh x))∧Below w.heap.size w w':=by
 have Eo:=I cW;clear cW;obtain ⟨jy,ji,Bo,aD,qp,ce,eK,kV⟩:=og h;subst aD;clear qp;cases hK:Cm x.key with
 | false =>have HF:=I (SJ hK);have HK:=I hK;clear hK;exact sY
 | true =>
   have HK:=I hK;by_cases eK:1≤x.op∧x.op≤4
   ·by_cases h2:2 < x.op
    ·have hg:=SL hK eK h2;obtain ⟨mO,hop2⟩:=eK;by_cases h0:x.values.length = 0
     ·rw [decide_eq_true h0] at hg;have HF:=I hg;have H0:=I h0;clear hK hg h0;go_enter Tryz.func125,Tryz.ntmps125;go_wp2_with fail
      refine (qK x.key _ fh).mono ?_;exact Dk
     ·rw [decide_eq_false h0] at hg;have HF:=I hg;have Ro:((x.values.length:Int) == 0) = false:=(by rw [beq_eq_false_iff_ne];omega);clear hK hg;exact sY
    ·have HI:=I (SM hK eK h2);obtain ⟨mO,hop2⟩:=eK;have ZT:x.op≤2:=J;clear hK;go_enter Tryz.func125,Tryz.ntmps125;go_wp2_with fail
     refine (qK x.key _ fh).mono ?_;rw [HK.out];rintro e w2 ⟨rfl,aq⟩;obtain ⟨cj,cN⟩:=ay aq;have cC:w.heap.size < w2.heap.size:=(by have:=aq.size;simp at this;omega);have jK:w2.cell? ⟨w.heap.size,1,none⟩ = some (.int .i64 x.op):=(by rw [cj _ _ S',cell_of_row _ _ _ _ _ _ (heap_alloc_new w _)];rfl);have mj:w2.cell? ⟨w.heap.size,2,none⟩ = some (.slice jy x.values.length ji):=(by rw [cj _ _ S',cell_of_row _ _ _ _ _ _ (heap_alloc_new w _)];rfl);have eS:Below w.heap.size w w2:=bL;clear cj cN;by_cases oT:1≤x.values.length
     ·have ZY:(1:Int)≤x.values.length:=J;by_cases hm:(x.values.length:Int)≤4
      ·go_wp2;go_loopw [3] (fun i wr=>∃k:Nat,k≤x.values.length∧i = .int .i64 k∧Hid (∀j,j < k→bO AQ bl x.values j = true)∧wr.cell? ⟨w.heap.size,2,none⟩ = some (.slice jy x.values.length ji)∧Below w.heap.size w wr) (fun i _=>x.values.length - (intOf i).toNat)
       case atStart=>exact ⟨0,Nat.zero_le _,rfl,(fun j hj=>by omega),mj,eS⟩
       case round =>
        obtain ⟨k,hk,rfl,hall,ba,aK⟩:=hrel;have eV:w.heap.size < wr.heap.size:=World.block_lt_of_cell? wr _ ba;by_cases av:k < x.values.length
        ·obtain rfl | ⟨j,rfl⟩:k = 0∨∃j,k = j+1:=by cases k with | zero=>exact .inl rfl | succ j=>exact .inr ⟨j,rfl⟩
         ·obtain ⟨b,o,ck,Fk,rfl,o9,hbs,hr,bA,hc⟩:=(Sl.ext (w':=wr) (A:=jy) (c:=ji) kV aK).get av;obtain ⟨aD,su,fX⟩:=hr;subst aD su;have q0:wr.cell? ⟨b,o+0,none⟩ = some (.string x.values[0]):=(by have:=hc 0 _ rfl;rwa [show o+(0 * bb.size ByteArray+0) = o+0 from by show o+(0 * 1+0) = _;omega] at this);clear hc;simp only [Nat.add_zero] at q0;have dq:=Eo.out x.values[0] (List.getElem_mem ..);cases Z:AQ x.values[0]
          all_goals
           have hp:=cF (ok:=AQ) (less:=bl) av;rw [Z] at hp;try simp only [Bool.false_and,Bool.and_false,Bool.and_true,Bool.and_self] at hp
           change bO AQ bl x.values _ = _ at hp;have H1:=I Z
           first
            | have HN:=I (gq hall.out hp)
            | have HF:=I (show uh x = false by rw [HI.out,wU (most:=4) av hp];simp)
           clear Z hp;go_wp2_with fail
           refine aF _ U' U' (aj _) ?_
           repeat (first
            | (apply aG
               case hw=>rfl
               simp only [Act.put,pz])
            | (apply aH
               case hw=>rfl
               case h =>
                intro wq hq;have dE:=(aB hq).1;have lJ:=(aB hq).2;go_simp
                first
                 | exact ⟨hq,rfl⟩
                 | exact ⟨aQ hq _,rfl⟩
                 | ((refine (vH x.values[0] _ dq).mono ?_;rw [H1.out];rintro e w2 ⟨rfl,aq⟩;exact ⟨rfl,aI hq aq⟩))
                 | (simp only [↓IntWalk.iteOmega];exact ⟨hq,rfl⟩)
               simp only [Act.put,pz]))
           refine aN ?_;intro wn X;replace X:=X.out;go_wp2
           first
            | exact ⟨⟨0+1,J,N',HN.out,((ay X).1 _ _ eV).trans ba,ah aK X⟩,by simp [intOf];omega⟩
            | (go_ret;exact ⟨by rw [HF.out];rfl,ah aK X⟩)
            | (go_roundw
               case rel=>exact ⟨0+1,J,N',HN.out,((ay X).1 _ _ eV).trans ba,ah aK X⟩
               case measure=>simp [intOf];omega)
         ·obtain ⟨b,o,ck,Fk,rfl,o9,hbs,hr,bA,hc⟩:=(Sl.ext (w':=wr) (A:=jy) (c:=ji) kV aK).get av;obtain ⟨aD,su,fX⟩:=hr;subst aD su;have q0:wr.cell? ⟨b,o+(j+1),none⟩ = some (.string x.values[j+1]):=(by have:=hc 0 _ rfl;rwa [show o+((j+1) * bb.size ByteArray+0) = o+(j+1) from by show o+((j+1) * 1+0) = _;omega] at this);clear hc;obtain ⟨b',o',TY,Xw,e,Ht,hbs',dd,zQ,hc'⟩:=Sl.get (Sl.ext (w':=wr) (c:=ji) kV aK) (show j < x.values.length by omega);obtain ⟨jU,abT,hsz2⟩:=dd;subst jU;obtain ⟨rfl,rfl⟩:b' = b∧o' = o:=by simpa using e.symm
          clear e;have p0:wr.cell? ⟨b',o'+j,none⟩ = some (.string x.values[j]):=(by have:=hc' 0 _ rfl;rwa [show o'+(j * bb.size ByteArray+0) = o'+j from by show o'+(j * 1+0) = _;omega] at this);clear hc';have yk:IntKind.i64.wrap (j:Int) = j:=IntWalk.i64_in _ J;have mr:j < x.values.length:=J;have dq:=Eo.out x.values[j+1] (List.getElem_mem ..);cases Z:AQ x.values[j+1] <;> cases h3:Op.bytesLess x.values[j].toList x.values[j+1].toList
          all_goals
           have hp:=yS (ok:=AQ) (less:=bl) av;unfold bl at hp;rw [Z,h3] at hp;try simp only [Bool.false_and,Bool.and_false,Bool.and_true,Bool.and_self] at hp
           change bO AQ bl x.values _ = _ at hp;have H1:=I Z
           first
            | have HN:=I (gq hall.out hp)
            | have HF:=I (show uh x = false by rw [HI.out,wU (most:=4) av hp];simp)
           clear Z hp;go_wp2_with fail
           refine aF _ U' U' (aj _) ?_
           repeat (first
            | (apply aG
               case hw=>rfl
               simp only [Act.put,pz])
            | (apply aH
               case hw=>rfl
               case h =>
                intro wq hq;have dE:=(aB hq).1;have lJ:=(aB hq).2;go_simp
                first
                 | exact ⟨hq,rfl⟩
                 | exact ⟨aQ hq _,rfl⟩
                 | ((refine (vH x.values[j+1] _ dq).mono ?_;rw [H1.out];rintro e w2 ⟨rfl,aq⟩;exact ⟨rfl,aI hq aq⟩))
                 | (simp only [↓IntWalk.iteOmega];exact ⟨hq,rfl⟩)
               simp only [Act.put,pz]))
           refine aN ?_;intro wn X;replace X:=X.out;go_wp2
           first
            | exact ⟨⟨j+1+1,J,N',HN.out,((ay X).1 _ _ eV).trans ba,ah aK X⟩,by simp [intOf];omega⟩
            | (go_ret;exact ⟨by rw [HF.out];rfl,ah aK X⟩)
            | (go_roundw
               case rel=>exact ⟨j+1+1,J,N',HN.out,((ay X).1 _ _ eV).trans ba,ah aK X⟩
               case measure=>simp [intOf];omega)
        ·have bI:k = x.values.length:=J;subst bI;have HF:=I (show uh x = true by rw [HI.out,Jy hm hall.out];simp [oT]);exact sM
      ·have HF:=I (show uh x = false by rw [HI.out,Jz (ok:=AQ) (less:=bl) hm];simp);have ZU:decide ((x.values.length:Int)≤4) = false:=(by simp;omega);go_wp2;go_ret
       exact ⟨by rw [HF.out];rfl,eS⟩
     ·have HF:=I (show uh x = false by rw [HI.out];simp [oT]);have nE:(x.values.length:Int) < 1:=J;go_wp2;go_ret
      exact ⟨by rw [HF.out];rfl,eS⟩
   ·have HF:=I (SK eK);clear hK;by_cases Z:x.op < 1
    ·exact sY
    ·have Sy:1≤x.op:=J;have ZV:4 < x.op:=J;have ZW:decide (x.op≤4) = false:=(by simp;omega);exact sY
theorem qj:∀a b:List UInt8,-1≤Lib.compareBytes a b∧Lib.compareBytes a b≤1
 | [],[]=>by decide
 | [],_ :: _=>by simp [Lib.compareBytes]
 | _ :: _,[]=>by simp [Lib.compareBytes]
 | x :: a,y :: b=>by
   have:=qj a b;unfold Lib.compareBytes;repeat' split
   all_goals omega
theorem J5:∀a b:List UInt8,Lib.compareBytes a b = 0↔a = b
 | [],[]=>by simp [Lib.compareBytes]
 | [],_ :: _=>by simp [Lib.compareBytes]
 | _ :: _,[]=>by simp [Lib.compareBytes]
 | x :: a,y :: b=>by
   have ih:=J5 a b;unfold Lib.compareBytes;by_cases Z:x < y
   ·rw [if_pos Z];constructor
    ·intro h;omega
    ·intro h;injection h with h2 _;subst h2;exact absurd Z (UInt8.lt_irrefl _)
   ·rw [if_neg Z];by_cases h2:y < x
    ·rw [if_pos h2];constructor
     ·intro h;omega
     ·intro h;injection h with h3 _;subst h3;exact absurd h2 (UInt8.lt_irrefl _)
    ·rw [if_neg h2];have vE:x = y:=UInt8.le_antisymm (UInt8.not_lt.1 h2) (UInt8.not_lt.1 Z);subst vE;rw [ih];simp
theorem Wx:∀a b:List UInt8,Lib.compareBytes a b < 0↔Op.bytesLess a b = true
 | [],[]=>by simp [Lib.compareBytes,Op.bytesLess]
 | [],_ :: _=>by simp [Lib.compareBytes,Op.bytesLess]
 | _ :: _,[]=>by simp [Lib.compareBytes,Op.bytesLess]
 | x :: a,y :: b=>by
   have ih:=Wx a b;unfold Lib.compareBytes Op.bytesLess;by_cases Z:x < y
   ·rw [if_pos Z];simp [Z]
   ·rw [if_neg Z];by_cases h2:y < x
    ·rw [if_pos h2];have bX:(x == y) = false:=(by rw [beq_eq_false_iff_ne];rintro rfl;exact absurd h2 (UInt8.lt_irrefl _));simp [Z,bX]
    ·rw [if_neg h2];have vE:x = y:=UInt8.le_antisymm (UInt8.not_lt.1 h2) (UInt8.not_lt.1 Z);subst vE;rw [ih];simp [Z]
theorem GH:∀a:List UInt8,Op.bytesLess a a = false
 | []=>rfl
 | x :: a=>by
   unfold Op.bytesLess;have ih:=GH a;have h:decide (x < x) = false:=S';simp [ih]
theorem N3 (x y:UInt8) (a b:List UInt8):Op.bytesLess (x :: a) (y :: b) = true↔x < y∨(x = y∧Op.bytesLess a b = true):=by
 conv=>lhs;unfold Op.bytesLess
 simp
theorem uR:∀a b c:List UInt8,Op.bytesLess a b = true→Op.bytesLess b c = true→Op.bytesLess a c = true
 | [],[],_,h,_=>by simp [Op.bytesLess] at h
 | [],_ :: _,[],_,h=>by simp [Op.bytesLess] at h
 | [],_ :: _,_ :: _,_,_=>by simp [Op.bytesLess]
 | _ :: _,[],_,h,_=>by simp [Op.bytesLess] at h
 | _ :: _,_ :: _,[],_,h=>by simp [Op.bytesLess] at h
 | x :: a,y :: b,z :: c,Z,h2=>by
   rw [N3] at Z h2 ⊢;rcases Z with Z | ⟨rfl,Z⟩
   ·rcases h2 with h2 | ⟨rfl,h2⟩
    ·exact .inl (UInt8.lt_trans Z h2)
    ·exact .inl Z
   ·rcases h2 with h2 | ⟨rfl,h2⟩
    ·exact .inl h2
    ·exact .inr ⟨rfl,uR a b c Z h2⟩
theorem GJ:∀a b:List UInt8,Op.bytesLess a b = false→Op.bytesLess b a = false→a = b
 | [],[],_,_=>rfl
 | [],_ :: _,h,_=>by simp [Op.bytesLess] at h
 | _ :: _,[],_,h=>by simp [Op.bytesLess] at h
 | x :: a,y :: b,Z,h2=>by
   have e1:¬(x < y∨(x = y∧Op.bytesLess a b = true)):=(by rw [← N3,Z];simp);have e2:¬(y < x∨(y = x∧Op.bytesLess b a = true)):=(by rw [← N3,h2];simp);have vE:x = y:=UInt8.le_antisymm (UInt8.not_lt.1 fun h=>e2 (.inl h)) (UInt8.not_lt.1 fun h=>e1 (.inl h));subst vE;rw [GJ a b (by cases h:Op.bytesLess a b;rfl;exact absurd (.inr ⟨rfl,h⟩) e1) (by cases h:Op.bytesLess b a;rfl;exact absurd (.inr ⟨rfl,h⟩) e2)]
theorem atx {a b:List UInt8} (h:Op.bytesLess a b = true):Op.bytesLess b a = false:=by
 cases h2:Op.bytesLess b a
 ·rfl
 ·have:=uR a b a h h2;rw [GH] at this;cases this
theorem uS (y z:ByteArray):Op.bytesLess y.data.toList z.data.toList = !(Op.bytesLess z.toList y.toList || z.toList == y.toList):=by
 rw [ByteArray.toList_eq,ByteArray.toList_eq];cases Z:Op.bytesLess z.data.toList y.data.toList with
 | true=>rw [atx Z];rfl
 | false =>
   cases h2:(z.data.toList == y.data.toList) with
   | true =>rw [beq_iff_eq] at h2;rw [h2,GH];rfl
   | false =>
     cases h3:Op.bytesLess y.data.toList z.data.toList with
     | true=>rfl
     | false =>have:=GJ _ _ Z h3;rw [this] at h2;simp at h2
theorem qQ {P:Program} {t e:TypeId} {z:Value} {size bytes:Nat} (hE:DL P t e z size bytes) {o:Oper} {a:Act} {K:Act→World→Prop} {Q:Exit→Act→World→Prop} (s x:Operand)
 (ho:o.op = .call { callee:=.builtin .append,args:=#[s,x],argTypes:=#[t,t] })
 (w:World) (base:Nat) (v:Value) (n:Nat) (xs:List Value) (bi:w.ownsRow base e size v n xs) (hs:a.eval s = v)
 (ad:Addr) (m c:Nat) (fw:List Value) (hx:a.eval x = .slice (some ad) m c) (hl:fw.length = m * size) (ja:∀j u,fw[j]? = some u→w.cell? (ad.add j) = some u) (Z:∀u∈fw,u.oneCell' = true)
 (X:n+m≤2097152) (lU:bytes≤4096) (db:base≤w.heap.size)
 (h:∀v' w',w'.ownsRow base e size v' (n+m) (xs++fw)→w.grownBy w' v.ownBlock→(v'.ownBlock = v.ownBlock∨v'.ownBlock = some w.heap.size)→K (a.put o.dst v') w'):o.wp P a w K Q:=by
 obtain ⟨ht,hi0,j6,fX⟩:=hE;obtain ⟨i,hi,hz,hsize,U⟩:=info_parts hi0;have iP:(n+m) * bytes≤2097152 * 4096:=Nat.mul_le_mul J lU;obtain ⟨v',w',hr,h2,h3,h4,h5⟩:=run_append_own_at (P:=P) w base t o.type e i z size bytes ht hi hz hsize U j6 fX v n xs bi ad m c fw hl ja Z j4 J db;unfold Oper.wp execOp;simp only [ho,resolve,invoke,builtin,Sem.run_bind,Sem.run_pure,Result.andThen_ok,List.map_toArray,List.map_cons,List.map_nil,hs,hx,hr];exact h v' w' h2 h3 h5
theorem xW {P:Program} {t e:TypeId} {z:Value} {size bytes:Nat} (hE:DL P t e z size bytes) {ops:Array Oper} {rest:List Oper} {o:Oper} {a:Act} {Q:Exit→Act→World→Prop} (rR:o.guard = none) (s x:Operand)
 (ho:o.op = .call { callee:=.builtin .append,args:=#[s,x],argTypes:=#[t,t] })
 (w:World) (base:Nat) (v:Value) (n:Nat) (xs:List Value) (bi:w.ownsRow base e size v n xs) (hs:a.eval s = v)
 (ad:Addr) (m c:Nat) (fw:List Value) (hx:a.eval x = .slice (some ad) m c) (hl:fw.length = m * size) (ja:∀j u,fw[j]? = some u→w.cell? (ad.add j) = some u) (Z:∀u∈fw,u.oneCell' = true)
 (X:n+m≤2097152) (lU:bytes≤4096) (db:base≤w.heap.size)
 (h:∀v' w',w'.ownsRow base e size v' (n+m) (xs++fw)→w.grownBy w' v.ownBlock→(v'.ownBlock = v.ownBlock∨v'.ownBlock = some w.heap.size)→wpList P ops Q rest (a.put o.dst v') w'):wpList P ops Q (o :: rest) a w :=
 wpList_plain rR fun K hK=>qQ hE s x ho w base v n xs bi hs ad m c fw hx hl ja Z X lU db fun v' w' Z h2 h3=>hK _ _ (h v' w' Z h2 h3)
theorem D9 (W:World) (e:TypeId) (size N:Nat) (hN:W.heap.size = N):(W.alloc (.cells #[] e)).ownsRow N e size (.slice (some ⟨N,0,none⟩) 0 0) 0 []:=by
 subst hN;exact World.ownsRow_made W #[] 0 (Nat.le_refl _) (Nat.zero_le _) S'
theorem DI (W:World) (e:TypeId) (Bj:List Value) (N:Nat) (hN:W.heap.size = N):∀q u,Bj[q]? = some u→(W.alloc (.cells Bj.toArray e)).cell? ((⟨N,0,none⟩:Addr).add q) = some u:=by
 subst hN;intro q u hu;rw [Addr.add_lit,Nat.zero_add,cell_of_row _ _ _ _ _ _ (heap_alloc_new W _)];simpa using hu
theorem wW {w:World} {B e size n:Nat} {v:Value} {xs:List Value} (h:w.ownsRow B e size v n xs) (X:0 < n):∃g ar,v = .slice (some ⟨g,0,none⟩) n ar∧B≤g∧n≤ar∧g < w.heap.size:=by
 rcases h.2 with h | ⟨g,ar,dT,Z,h2,h3,h4,h5⟩
 ·omega
 ·refine ⟨g,ar,Z,h2,h4,?_⟩;exact EA
theorem IE {w:World} {B e size n g ar:Nat} {xs:List Value} (h:w.ownsRow B e size (.slice (some ⟨g,0,none⟩) n ar) n xs):B≤g∧g < w.heap.size∧n≤ar∧∀j u,xs[j]? = some u→w.cell? ⟨g,j,none⟩ = some u:=by
 rcases h.2 with ⟨h,_⟩ | ⟨g',cap',dT,Z,h2,h3,h4,h5⟩
 ·cases h
 ·simp only [Value.slice.injEq,Option.some.injEq,Addr.mk.injEq,and_true,true_and] at Z;obtain ⟨rfl,rfl⟩:=Z;refine ⟨h2,?_,h4,fun j u hu=>?_⟩
  ·exact EA
  ·rw [cell_of_row w g j dT e (0,0) h3];have hj:=(List.getElem?_eq_some_iff.1 hu).1;rw [← h5.2.2,List.getElem?_take] at hu;split at hu
   ·simpa using hu
   ·cases hu
theorem PY {β:Type} {lt:β→β→Bool} {y:β} : ∀(s1 s2:List β),(∀x∈s1,lt y x = false)→(s2 = []∨∃x s',s2 = x :: s'∧lt y x = true)→OM lt y (s1++s2) = s1++y :: s2
 | [],s2,_,h2=>by
   rcases h2 with rfl | ⟨x,s',rfl,h⟩
   ·rfl
   ·simp only [List.nil_append];rw [OM,if_pos h]
 | x :: s1,s2,Z,h2=>by
   have h0:=Z x (List.mem_cons_self ..);simp only [List.cons_append];rw [OM,if_neg (by rw [h0];simp),PY s1 s2 (fun z hz=>Z z (List.mem_cons_of_mem _ hz)) h2]
def blt (x y:ByteArray):Bool:=Op.bytesLess x.toList y.toList
theorem tv:ov blt:=⟨fun x=>GH _,fun x y z=>uR _ _ _,fun x y Z h2=>Ce (by rw [beq_iff_eq];exact GJ _ _ Z h2)⟩
def ga (xs:List ByteArray):List ByteArray:=ei blt [] xs
theorem Tq (xs:List ByteArray):(ga xs).length≤xs.length:=by have:=vF blt xs [];unfold ga;simpa using this
theorem Tr {xs:List ByteArray} {z:ByteArray} (h:z∈ga xs):z∈xs:=by
 rcases (AF tv z xs []).1 h with h | h
 ·cases h
 ·exact h
theorem Ts (xs:List ByteArray):kL ByteArray.size (ga xs)≤kL ByteArray.size xs:=by
 have h:=BV ByteArray.size blt xs [];have hl:=vF blt xs [];unfold ga kL;exact x5
theorem R7 (a b:List UInt8) (Z:Op.bytesLess a b = true):Lib.compareBytes a b = -1:=by
 have h3:=qj a b;have h4:=(Wx a b).2 Z;omega
theorem K4:∀a b:List UInt8,Lib.compareBytes b a = - Lib.compareBytes a b
 | [],[]=>rfl
 | [],_ :: _=>rfl
 | _ :: _,[]=>rfl
 | x :: a,y :: b=>by
   have ih:=K4 a b;unfold Lib.compareBytes;by_cases Z:x < y
   ·have h2:¬y < x:=fun h=>absurd (UInt8.lt_trans Z h) (UInt8.lt_irrefl _);rw [if_pos Z,if_neg h2,if_pos Z];rfl
   ·by_cases h2:y < x
    ·rw [if_pos h2,if_neg Z,if_pos h2]
    ·rw [if_neg Z,if_neg h2,if_neg h2,if_neg Z];exact ih
theorem Yb (a b:ByteArray) (w:World):Calls Tryz.prog 63 #[.string a,.string b] w fun e w'=>e = .returned (.int .i64 (Lib.compareBytes a.data.toList b.data.toList))∧w' = w:=by
 have haa:(a.toList == a.toList) = true:=by simp
 have iP:(b.toList == b.toList) = true:=by simp
 cases Z:Op.bytesLess a.toList b.toList with
 | true =>have hf:=R7 _ _ Z;rw [ByteArray.toList_eq,ByteArray.toList_eq] at hf;rw [hf];exact x2
 | false =>
   cases h2:Op.bytesLess b.toList a.toList with
   | true =>
     have hf:=R7 _ _ h2;rw [K4,ByteArray.toList_eq,ByteArray.toList_eq] at hf;have h9:(a.toList == b.toList) = false:=by rw [beq_eq_false_iff_ne];intro e;rw [ByteArray.toList_eq,ByteArray.toList_eq,← J5] at e;omega
     rw [show Lib.compareBytes a.data.toList b.data.toList = 1 by omega];exact x2
   | false =>
     have h3:¬Lib.compareBytes a.toList b.toList < 0:=fun h=>by rw [Wx,Z] at h;cases h
     have h4:¬Lib.compareBytes b.toList a.toList < 0:=fun h=>by rw [Wx,h2] at h;cases h
     rw [K4] at h4;rw [ByteArray.toList_eq,ByteArray.toList_eq] at h3 h4;have h8:Lib.compareBytes a.data.toList b.data.toList = 0:=J;have h9:(a.toList == b.toList) = true:=by rw [beq_iff_eq,ByteArray.toList_eq,ByteArray.toList_eq];exact (J5 _ _).1 h8
     rw [h8];exact x2
def qW:List ByteArray→List ByteArray→Int
 | [],[]=>0
 | [],_ :: _=>-1
 | _ :: _,[]=>1
 | x :: xs,y :: ys=>if Lib.compareBytes x.data.toList y.data.toList = 0 then qW xs ys else Lib.compareBytes x.data.toList y.data.toList
theorem YP {xs ys:List ByteArray} {k:Nat} (h:k < xs.length) (h':k < ys.length):qW (xs.drop k) (ys.drop k) = if Lib.compareBytes xs[k].data.toList ys[k].data.toList = 0 then qW (xs.drop (k+1)) (ys.drop (k+1)) else Lib.compareBytes xs[k].data.toList ys[k].data.toList:=by
 rw [← List.getElem_cons_drop h,← List.getElem_cons_drop h'];rfl
theorem YQ {xs ys:List ByteArray} {k:Nat} (h:k < xs.length) (h':ys.length≤k):qW (xs.drop k) (ys.drop k) = 1:=by
 rw [← List.getElem_cons_drop h,List.drop_eq_nil_of_le h'];rfl
theorem YR {xs ys:List ByteArray} {k:Nat} (h:xs.length≤k):qW (xs.drop k) (ys.drop k) = if k < ys.length then -1 else 0:=by
 rw [List.drop_eq_nil_of_le h];by_cases h':k < ys.length
 ·rw [if_pos h',← List.getElem_cons_drop h'];rfl
 ·rw [if_neg h',List.drop_eq_nil_of_le J];rfl
def W9 (x y:aL):List Int:=[Lib.compareBytes x.key.data.toList y.key.data.toList,Lib.compareInt x.op y.op,qW x.values y.values]
def nD (x y:aL):Bool:=decide (Qa (W9 x y) < 0)
def uB (x y:iU):List Int:=[Lib.compareBytes x.key.data.toList y.key.data.toList,Lib.compareBytes x.value.data.toList y.value.data.toList,Lib.compareInt x.ap y.ap]
def uC (a b:Bool):Int:=if a == b then 0 else if b then -1 else 1
def td (x y:bH):List Int:=[Lib.compareBytes x.key.data.toList y.key.data.toList,uC x.equal y.equal,Lib.compareBytes x.value.data.toList y.value.data.toList,Lib.compareInt x.ap y.ap]
def qo (x y:iU):Bool:=decide (Qa (uB x y) < 0)
theorem YD {x y:iU} (h:(x.key.toList == y.key.toList) = false):qo x y = Op.bytesLess x.key.toList y.key.toList:=by
 have Z:Lib.compareBytes x.key.data.toList y.key.data.toList≠0:=fun e=>by
  exact pL
 unfold qo uB;simp only [Qa,if_neg Z];exact pJ
theorem YI {x y:iU} (hk:(x.key.toList == y.key.toList) = true) (h:(x.value.toList == y.value.toList) = false):qo x y = Op.bytesLess x.value.toList y.value.toList:=by
 have h0:Lib.compareBytes x.key.data.toList y.key.data.toList = 0:=by rw [J5,← ByteArray.toList_eq,← ByteArray.toList_eq];simpa using hk
 have Z:Lib.compareBytes x.value.data.toList y.value.data.toList≠0:=fun e=>by
  exact pL
 unfold qo uB;simp only [Qa,if_pos h0,if_neg Z];exact pJ
theorem YJ {x y:iU} (hk:(x.key.toList == y.key.toList) = true) (h:(x.value.toList == y.value.toList) = true):qo x y = decide (x.ap < y.ap):=by
 have h0:Lib.compareBytes x.key.data.toList y.key.data.toList = 0:=by rw [J5,← ByteArray.toList_eq,← ByteArray.toList_eq];simpa using hk
 have Z:Lib.compareBytes x.value.data.toList y.value.data.toList = 0:=by rw [J5,← ByteArray.toList_eq,← ByteArray.toList_eq];simpa using h
 unfold qo uB;simp only [Qa,if_pos h0,if_pos Z];exact xS
theorem Rv (x y:iU) (cs ds:List Value) (F G:List Nat) (w:World) (h:rd w x cs F) (h':rd w y ds G) :
 Calls Tryz.prog 139 #[.agg cs.toArray,.agg ds.toArray] w fun e w'=>e = .returned (.bool (qo x y))∧Below w.heap.size w w':=by
 obtain ⟨aD,hF1,xO,xk,zT⟩:=oK h;obtain ⟨jU,lX,vC,rP,uY⟩:=oK h';subst aD jU;subst hF1 lX;cases Z:(x.key.toList == y.key.toList) with
 | false =>rw [YD Z];go_enter Tryz.func139,Tryz.ntmps139;exact lP
 | true =>
   cases h2:(x.value.toList == y.value.toList) with
   | false =>rw [YI Z h2];go_enter Tryz.func139,Tryz.ntmps139;exact lP
   | true =>rw [YJ Z h2];go_enter Tryz.func139,Tryz.ntmps139;exact lP
def vJ (x y:bH):Bool:=decide (Qa (td x y) < 0)
theorem YK {x y:bH} (h:(x.key.toList == y.key.toList) = false):vJ x y = Op.bytesLess x.key.toList y.key.toList:=by
 have Z:Lib.compareBytes x.key.data.toList y.key.data.toList≠0:=fun e=>by
  exact pL
 unfold vJ td;simp only [Qa,if_neg Z];exact pJ
theorem YL {x y:bH} (hk:(x.key.toList == y.key.toList) = true) (h:x.equal≠y.equal):vJ x y = y.equal:=by
 have h0:Lib.compareBytes x.key.data.toList y.key.data.toList = 0:=by rw [J5,← ByteArray.toList_eq,← ByteArray.toList_eq];simpa using hk
 unfold vJ td;simp only [Qa,if_pos h0];cases hx:x.equal <;> cases hy:y.equal <;> simp_all [uC]
theorem YN {x y:bH} (hk:(x.key.toList == y.key.toList) = true) (hq:x.equal = y.equal) (h:(x.value.toList == y.value.toList) = false):vJ x y = Op.bytesLess x.value.toList y.value.toList:=by
 have h0:Lib.compareBytes x.key.data.toList y.key.data.toList = 0:=by rw [J5,← ByteArray.toList_eq,← ByteArray.toList_eq];simpa using hk
 have Z:Lib.compareBytes x.value.data.toList y.value.data.toList≠0:=fun e=>by
  exact pL
 have h2:uC x.equal y.equal = 0:=by unfold uC;simp [hq]
 unfold vJ td;simp only [Qa,if_pos h0,if_pos h2,if_neg Z];exact pJ
theorem YO {x y:bH} (hk:(x.key.toList == y.key.toList) = true) (hq:x.equal = y.equal) (h:(x.value.toList == y.value.toList) = true):vJ x y = decide (x.ap < y.ap):=by
 have h0:Lib.compareBytes x.key.data.toList y.key.data.toList = 0:=by rw [J5,← ByteArray.toList_eq,← ByteArray.toList_eq];simpa using hk
 have Z:Lib.compareBytes x.value.data.toList y.value.data.toList = 0:=by rw [J5,← ByteArray.toList_eq,← ByteArray.toList_eq];simpa using h
 have h2:uC x.equal y.equal = 0:=by unfold uC;simp [hq]
 unfold vJ td;simp only [Qa,if_pos h0,if_pos h2,if_pos Z];exact xS
theorem Ry (x y:bH) (cs ds:List Value) (F G:List Nat) (w:World) (h:rd w x cs F) (h':rd w y ds G) :
 Calls Tryz.prog 79 #[.agg cs.toArray,.agg ds.toArray] w fun e w'=>e = .returned (.bool (vJ x y))∧Below w.heap.size w w':=by
 obtain ⟨aD,hF1,xO,xk,zT⟩:=jv h;obtain ⟨jU,lX,vC,rP,uY⟩:=jv h';subst aD jU;subst hF1 lX;cases Z:(x.key.toList == y.key.toList) with
 | false =>rw [YK Z];go_enter Tryz.func79,Tryz.ntmps79;exact lP
 | true =>
   by_cases h3:x.equal = y.equal
   ·cases h2:(x.value.toList == y.value.toList) with
    | false =>rw [YN Z h3 h2];exact Ff
    | true =>rw [YO Z h3 h2];exact Ff
   ·rw [YL Z h3];have h4:(x.equal == y.equal) = false:=(by simp [h3]);go_enter Tryz.func79,Tryz.ntmps79;exact lP
end Go.Proofs.YtajbbmembionpaaGreat
