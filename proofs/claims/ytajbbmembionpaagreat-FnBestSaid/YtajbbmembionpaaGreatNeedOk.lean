/- NeedOk, of the program and of the reference. No condition. -/
import Derived.Test.YtajbbmembionpaaGreatTaintOk
import Derived.Laws.Cover1
namespace Go.Proofs.YtajbbmembionpaaGreat
open Go.ChangeShapes Go.WideShapes Go.ChangeAt Go.RowKit
set_option linter.unusedVariables false
set_option linter.unusedSimpArgs false
set_option maxHeartbeats 2000000
set_option maxRecDepth 100000
theorem aaF (n a b:Int) (w:World):Calls Tryz.prog 96 #[.int .i64 n,.int .i64 a,.int .i64 b] w fun e w'=>e = .returned (.bool (decide (a≤n)&&decide (n≤b)))∧w' = w:=by
 by_cases h1:a≤n <;> by_cases h2:n≤b
 all_goals
  go_enter Tryz.func96,Tryz.ntmps96;go_wp2;go_ret
  exact ⟨by simp [h1,h2] <;> first | rfl | omega,rfl⟩
theorem Rw (x:aD) (cs:List Value) (F:List Nat) (w:World) (h:rd w x cs F) (eV:(x.key.size:Int)≤1048576) (hl:(x.values.length:Int)≤1048576) (cR:∀v∈x.values,(v.size:Int)≤1048576) :
 Calls Tryz.prog 132 #[.agg cs.toArray] w fun e w'=>e = .returned (.bool (uh x))∧Below w.heap.size w w':=by
 have Eo:=I cR;clear cR;obtain ⟨jy,ji,Bo,aw,qp,b8,eN,kV⟩:=og h;subst aw;clear qp;cases hK:Cm x.key with
 | false =>have HF:=I (Vt hK);have HK:=I hK;clear hK;exact uN
 | true =>
   have HK:=I hK;by_cases eN:1≤x.op∧x.op≤4
   ·by_cases h2:2 < x.op
    ·have hg:=Vv hK eN h2;obtain ⟨oa,hop2⟩:=eN;by_cases h0:x.values.length = 0
     ·rw [decide_eq_true h0] at hg;have HF:=I hg;have H0:=I h0;clear hK hg h0;go_enter Tryz.func132,Tryz.ntmps132;go_wp2_with fail
      refine (rX x.key _ eV).mono ?_;exact Ff
     ·rw [decide_eq_false h0] at hg;have HF:=I hg;have TL:((x.values.length:Int) == 0) = false:=(by rw [beq_eq_false_iff_ne];omega);clear hK hg;exact uN
    ·have HI:=I (Vw hK eN h2);obtain ⟨oa,hop2⟩:=eN;have h2':x.op≤2:=J;clear hK;go_enter Tryz.func132,Tryz.ntmps132;go_wp2_with fail
     refine (rX x.key _ eV).mono ?_;rw [HK.out];rintro e w2 ⟨rfl,ap⟩;obtain ⟨bX,cG⟩:=ay ap;have cj:w.heap.size < w2.heap.size:=(by have:=ap.size;simp at this;omega);have et:w2.cell? ⟨w.heap.size,1,none⟩ = some (.int .i64 x.op):=(by rw [bX _ _ S',cell_of_row _ _ _ _ _ _ (heap_alloc_new w _)];rfl);have ni:w2.cell? ⟨w.heap.size,2,none⟩ = some (.slice jy x.values.length ji):=(by rw [bX _ _ S',cell_of_row _ _ _ _ _ _ (heap_alloc_new w _)];rfl);have eg:Below w.heap.size w w2:=bx;clear bX cG;go_wp2_with fail
     refine (aaF x.op 1 4 _).mono ?_;rw [show (decide ((1:Int)≤x.op)&&decide (x.op≤4)) = true by simp [oa,hop2]];rintro e w3 ⟨rfl,hw⟩;simp only [hw];clear hw w3;go_wp2;go_loopw [25] (fun i wr=>∃k:Nat,k≤x.values.length∧i = .int .i64 k∧Hid (∀j,j < k→rowAt AQ bl x.values j = true)∧wr.cell? ⟨w.heap.size,2,none⟩ = some (.slice jy x.values.length ji)∧Below w.heap.size w wr) (fun i _=>x.values.length - (intOf i).toNat)
     case atStart=>exact ⟨0,Nat.zero_le _,rfl,(fun j hj=>by omega),ni,eg⟩
     case round =>
      obtain ⟨k,hk,rfl,hall,aE,ax⟩:=hrel;have ga:w.heap.size < wr.heap.size:=World.block_lt_of_cell? wr _ aE;by_cases aq:k < x.values.length
      ·obtain rfl | ⟨j,rfl⟩:k = 0∨∃j,k = j+1:=by cases k with | zero=>exact .inl rfl | succ j=>exact .inr ⟨j,rfl⟩
       ·obtain ⟨b,o,ck,Fk,rfl,o9,bc,hr,bv,hc⟩:=(Sl.ext (w':=wr) (A:=jy) (c:=ji) kV ax).get aq;obtain ⟨aw,su,gg⟩:=hr;subst aw su;have q0:wr.cell? ⟨b,o+0,none⟩ = some (.string x.values[0]):=(by have:=hc 0 _ rfl;rwa [show o+(0 * ba.size ByteArray+0) = o+0 from by show o+(0 * 1+0) = _;omega] at this);clear hc;simp only [Nat.add_zero] at q0;have cX:=Eo.out x.values[0] (List.getElem_mem ..);cases h1:AQ x.values[0]
        all_goals
         have hp:=cC (ok:=AQ) (less:=bl) aq;rw [h1] at hp;try simp only [Bool.false_and,Bool.and_false,Bool.and_true,Bool.and_self] at hp
         change rowAt AQ bl x.values _ = _ at hp;have H1:=I h1
         first
          | have HN:=I (gq hall.out hp)
          | have HF:=I (show uh x = false by rw [HI.out,wU (most:=4) aq hp];simp)
         clear h1 hp;go_wp2_with fail
         refine (xQ x.values[0] _ cX).mono ?_;rw [H1.out];rintro e wn ⟨rfl,hn⟩;obtain ⟨kO,lZ⟩:=ay hn;go_wp2
         first
          | exact ⟨⟨0+1,J,N',HN.out,((ay hn).1 _ _ ga).trans aE,ah ax hn⟩,by simp [intOf];omega⟩
          | (go_ret;exact ⟨by rw [HF.out];rfl,ah ax hn⟩)
          | (go_roundw
             case rel=>exact ⟨0+1,J,N',HN.out,((ay hn).1 _ _ ga).trans aE,ah ax hn⟩
             case measure=>simp [intOf];omega)
       ·obtain ⟨b,o,ck,Fk,rfl,o9,bc,hr,bv,hc⟩:=(Sl.ext (w':=wr) (A:=jy) (c:=ji) kV ax).get aq;obtain ⟨aw,su,gg⟩:=hr;subst aw su;have q0:wr.cell? ⟨b,o+(j+1),none⟩ = some (.string x.values[j+1]):=(by have:=hc 0 _ rfl;rwa [show o+((j+1) * ba.size ByteArray+0) = o+(j+1) from by show o+((j+1) * 1+0) = _;omega] at this);clear hc;obtain ⟨b',o',TY,Xw,e,Ht,hbs',cI,zQ,hc'⟩:=Sl.get (Sl.ext (w':=wr) (c:=ji) kV ax) (show j < x.values.length by omega);obtain ⟨jU,abT,hsz2⟩:=cI;subst jU;obtain ⟨rfl,rfl⟩:b' = b∧o' = o:=by simpa using e.symm
        clear e;have p0:wr.cell? ⟨b',o'+j,none⟩ = some (.string x.values[j]):=(by have:=hc' 0 _ rfl;rwa [show o'+(j * ba.size ByteArray+0) = o'+j from by show o'+(j * 1+0) = _;omega] at this);clear hc';have wB:IntKind.i64.wrap (j:Int) = j:=IntWalk.i64_in _ J;have mD:j < x.values.length:=J;have cX:=Eo.out x.values[j+1] (List.getElem_mem ..);cases h1:AQ x.values[j+1] <;> cases h3:Op.bytesLess x.values[j].toList x.values[j+1].toList
        all_goals
         have hp:=yS (ok:=AQ) (less:=bl) aq;unfold bl at hp;rw [h1,h3] at hp;try simp only [Bool.false_and,Bool.and_false,Bool.and_true,Bool.and_self] at hp
         change rowAt AQ bl x.values _ = _ at hp;have H1:=I h1
         first
          | have HN:=I (gq hall.out hp)
          | have HF:=I (show uh x = false by rw [HI.out,wU (most:=4) aq hp];simp)
         clear h1 hp;go_wp2_with fail
         refine (xQ x.values[j+1] _ cX).mono ?_;rw [H1.out];rintro e wn ⟨rfl,hn⟩;obtain ⟨kO,lZ⟩:=ay hn;go_wp2
         first
          | exact ⟨⟨j+1+1,J,N',HN.out,((ay hn).1 _ _ ga).trans aE,ah ax hn⟩,by simp [intOf];omega⟩
          | (go_ret;exact ⟨by rw [HF.out];rfl,ah ax hn⟩)
          | (go_roundw
             case rel=>exact ⟨j+1+1,J,N',HN.out,((ay hn).1 _ _ ga).trans aE,ah ax hn⟩
             case measure=>simp [intOf];omega)
      ·have bB:k = x.values.length:=J;subst bB;by_cases hm:(x.values.length:Int)≤4
       ·by_cases o5:1≤x.values.length
        ·have HF:=I (show uh x = true by rw [HI.out,Jy hm hall.out];simp [o5]);exact uE
        ·have HF:=I (show uh x = false by rw [HI.out];simp [o5]);have nQ:(x.values.length:Int) < 1:=J;exact uE
       ·have HF:=I (show uh x = false by rw [HI.out,Jz (ok:=AQ) (less:=bl) hm];simp);have nQ:(1:Int)≤x.values.length:=J;have hd5:decide ((x.values.length:Int)≤4) = false:=(by simp;omega);exact uE
   ·have HF:=I (Vu eN);clear hK;by_cases h1:x.op < 1
    ·exact uN
    ·have Vo:1≤x.op:=J;have h4':4 < x.op:=J;have hd4:decide (x.op≤4) = false:=(by simp;omega);exact uN
theorem Rx (x:aD) (cs:List Value) (F:List Nat) (w:World) (h:rd w x cs F) (eV:(x.key.size:Int)≤1048576) (hl:(x.values.length:Int)≤1048576) (cR:∀v∈x.values,(v.size:Int)≤1048576) :
 Calls Tryz.prog 125 #[.agg cs.toArray] w fun e w'=>e = .returned (.bool (uh x))∧Below w.heap.size w w':=by
 have Eo:=I cR;clear cR;obtain ⟨jy,ji,Bo,aw,qp,b8,eN,kV⟩:=og h;subst aw;clear qp;cases hK:Cm x.key with
 | false =>have HF:=I (Vt hK);have HK:=I hK;clear hK;exact uP
 | true =>
   have HK:=I hK;by_cases eN:1≤x.op∧x.op≤4
   ·by_cases h2:2 < x.op
    ·have hg:=Vv hK eN h2;obtain ⟨oa,hop2⟩:=eN;by_cases h0:x.values.length = 0
     ·rw [decide_eq_true h0] at hg;have HF:=I hg;have H0:=I h0;clear hK hg h0;go_enter Tryz.func125,Tryz.ntmps125;go_wp2_with fail
      refine (qK x.key _ eV).mono ?_;exact Ff
     ·rw [decide_eq_false h0] at hg;have HF:=I hg;have TL:((x.values.length:Int) == 0) = false:=(by rw [beq_eq_false_iff_ne];omega);clear hK hg;exact uP
    ·have HI:=I (Vw hK eN h2);obtain ⟨oa,hop2⟩:=eN;have h2':x.op≤2:=J;clear hK;go_enter Tryz.func125,Tryz.ntmps125;go_wp2_with fail
     refine (qK x.key _ eV).mono ?_;rw [HK.out];rintro e w2 ⟨rfl,ap⟩;obtain ⟨bX,cG⟩:=ay ap;have cj:w.heap.size < w2.heap.size:=(by have:=ap.size;simp at this;omega);have et:w2.cell? ⟨w.heap.size,1,none⟩ = some (.int .i64 x.op):=(by rw [bX _ _ S',cell_of_row _ _ _ _ _ _ (heap_alloc_new w _)];rfl);have ni:w2.cell? ⟨w.heap.size,2,none⟩ = some (.slice jy x.values.length ji):=(by rw [bX _ _ S',cell_of_row _ _ _ _ _ _ (heap_alloc_new w _)];rfl);have eg:Below w.heap.size w w2:=bx;clear bX cG;by_cases o5:1≤x.values.length
     ·have hm1i:(1:Int)≤x.values.length:=J;by_cases hm:(x.values.length:Int)≤4
      ·go_wp2;go_loopw [3] (fun i wr=>∃k:Nat,k≤x.values.length∧i = .int .i64 k∧Hid (∀j,j < k→rowAt AQ bl x.values j = true)∧wr.cell? ⟨w.heap.size,2,none⟩ = some (.slice jy x.values.length ji)∧Below w.heap.size w wr) (fun i _=>x.values.length - (intOf i).toNat)
       case atStart=>exact ⟨0,Nat.zero_le _,rfl,(fun j hj=>by omega),ni,eg⟩
       case round =>
        obtain ⟨k,hk,rfl,hall,aE,ax⟩:=hrel;have ga:w.heap.size < wr.heap.size:=World.block_lt_of_cell? wr _ aE;by_cases aq:k < x.values.length
        ·obtain rfl | ⟨j,rfl⟩:k = 0∨∃j,k = j+1:=by cases k with | zero=>exact .inl rfl | succ j=>exact .inr ⟨j,rfl⟩
         ·obtain ⟨b,o,ck,Fk,rfl,o9,bc,hr,bv,hc⟩:=(Sl.ext (w':=wr) (A:=jy) (c:=ji) kV ax).get aq;obtain ⟨aw,su,gg⟩:=hr;subst aw su;have q0:wr.cell? ⟨b,o+0,none⟩ = some (.string x.values[0]):=(by have:=hc 0 _ rfl;rwa [show o+(0 * ba.size ByteArray+0) = o+0 from by show o+(0 * 1+0) = _;omega] at this);clear hc;simp only [Nat.add_zero] at q0;have cX:=Eo.out x.values[0] (List.getElem_mem ..);cases h1:AQ x.values[0]
          all_goals
           have hp:=cC (ok:=AQ) (less:=bl) aq;rw [h1] at hp;try simp only [Bool.false_and,Bool.and_false,Bool.and_true,Bool.and_self] at hp
           change rowAt AQ bl x.values _ = _ at hp;have H1:=I h1
           first
            | have HN:=I (gq hall.out hp)
            | have HF:=I (show uh x = false by rw [HI.out,wU (most:=4) aq hp];simp)
           clear h1 hp;go_wp2_with fail
           refine aF _ U' U' (aj _) ?_
           repeat (first
            | (apply aG
               case hw=>rfl
               simp only [Act.put,pz])
            | (apply aH
               case hw=>rfl
               case h =>
                intro wq hq;have dC:=(aB hq).1;have lJ:=(aB hq).2;go_simp
                first
                 | exact ⟨hq,rfl⟩
                 | exact ⟨aQ hq _,rfl⟩
                 | ((refine (vH x.values[0] _ cX).mono ?_;rw [H1.out];rintro e w2 ⟨rfl,ap⟩;exact ⟨rfl,aI hq ap⟩))
                 | (simp only [↓IntWalk.iteOmega];exact ⟨hq,rfl⟩)
               simp only [Act.put,pz]))
           refine aN ?_;intro wn hn;replace hn:=hn.out;go_wp2
           first
            | exact ⟨⟨0+1,J,N',HN.out,((ay hn).1 _ _ ga).trans aE,ah ax hn⟩,by simp [intOf];omega⟩
            | (go_ret;exact ⟨by rw [HF.out];rfl,ah ax hn⟩)
            | (go_roundw
               case rel=>exact ⟨0+1,J,N',HN.out,((ay hn).1 _ _ ga).trans aE,ah ax hn⟩
               case measure=>simp [intOf];omega)
         ·obtain ⟨b,o,ck,Fk,rfl,o9,bc,hr,bv,hc⟩:=(Sl.ext (w':=wr) (A:=jy) (c:=ji) kV ax).get aq;obtain ⟨aw,su,gg⟩:=hr;subst aw su;have q0:wr.cell? ⟨b,o+(j+1),none⟩ = some (.string x.values[j+1]):=(by have:=hc 0 _ rfl;rwa [show o+((j+1) * ba.size ByteArray+0) = o+(j+1) from by show o+((j+1) * 1+0) = _;omega] at this);clear hc;obtain ⟨b',o',TY,Xw,e,Ht,hbs',cI,zQ,hc'⟩:=Sl.get (Sl.ext (w':=wr) (c:=ji) kV ax) (show j < x.values.length by omega);obtain ⟨jU,abT,hsz2⟩:=cI;subst jU;obtain ⟨rfl,rfl⟩:b' = b∧o' = o:=by simpa using e.symm
          clear e;have p0:wr.cell? ⟨b',o'+j,none⟩ = some (.string x.values[j]):=(by have:=hc' 0 _ rfl;rwa [show o'+(j * ba.size ByteArray+0) = o'+j from by show o'+(j * 1+0) = _;omega] at this);clear hc';have wB:IntKind.i64.wrap (j:Int) = j:=IntWalk.i64_in _ J;have mD:j < x.values.length:=J;have cX:=Eo.out x.values[j+1] (List.getElem_mem ..);cases h1:AQ x.values[j+1] <;> cases h3:Op.bytesLess x.values[j].toList x.values[j+1].toList
          all_goals
           have hp:=yS (ok:=AQ) (less:=bl) aq;unfold bl at hp;rw [h1,h3] at hp;try simp only [Bool.false_and,Bool.and_false,Bool.and_true,Bool.and_self] at hp
           change rowAt AQ bl x.values _ = _ at hp;have H1:=I h1
           first
            | have HN:=I (gq hall.out hp)
            | have HF:=I (show uh x = false by rw [HI.out,wU (most:=4) aq hp];simp)
           clear h1 hp;go_wp2_with fail
           refine aF _ U' U' (aj _) ?_
           repeat (first
            | (apply aG
               case hw=>rfl
               simp only [Act.put,pz])
            | (apply aH
               case hw=>rfl
               case h =>
                intro wq hq;have dC:=(aB hq).1;have lJ:=(aB hq).2;go_simp
                first
                 | exact ⟨hq,rfl⟩
                 | exact ⟨aQ hq _,rfl⟩
                 | ((refine (vH x.values[j+1] _ cX).mono ?_;rw [H1.out];rintro e w2 ⟨rfl,ap⟩;exact ⟨rfl,aI hq ap⟩))
                 | (simp only [↓IntWalk.iteOmega];exact ⟨hq,rfl⟩)
               simp only [Act.put,pz]))
           refine aN ?_;intro wn hn;replace hn:=hn.out;go_wp2
           first
            | exact ⟨⟨j+1+1,J,N',HN.out,((ay hn).1 _ _ ga).trans aE,ah ax hn⟩,by simp [intOf];omega⟩
            | (go_ret;exact ⟨by rw [HF.out];rfl,ah ax hn⟩)
            | (go_roundw
               case rel=>exact ⟨j+1+1,J,N',HN.out,((ay hn).1 _ _ ga).trans aE,ah ax hn⟩
               case measure=>simp [intOf];omega)
        ·have bB:k = x.values.length:=J;subst bB;have HF:=I (show uh x = true by rw [HI.out,Jy hm hall.out];simp [o5]);exact uE
      ·have HF:=I (show uh x = false by rw [HI.out,Jz (ok:=AQ) (less:=bl) hm];simp);have hd5:decide ((x.values.length:Int)≤4) = false:=(by simp;omega);go_wp2;go_ret
       exact ⟨by rw [HF.out];rfl,eg⟩
     ·have HF:=I (show uh x = false by rw [HI.out];simp [o5]);have nQ:(x.values.length:Int) < 1:=J;go_wp2;go_ret
      exact ⟨by rw [HF.out];rfl,eg⟩
   ·have HF:=I (Vu eN);clear hK;by_cases h1:x.op < 1
    ·exact uP
    ·have Vo:1≤x.op:=J;have h4':4 < x.op:=J;have hd4:decide (x.op≤4) = false:=(by simp;omega);exact uP
end Go.Proofs.YtajbbmembionpaaGreat
