/- NeedOk, of the program and of the reference. No condition. -/
import Derived.Test.YtjahcnjmjahbaaaGreatKeys
import Derived.Laws.Cover1
namespace Go.Proofs.YtjahcnjmjahbaaaGreat
open Go.ChangeShapes Go.WideShapes Go.ChangeAt Go.RowKit
set_option linter.unusedVariables false
set_option linter.unusedSimpArgs false
set_option maxHeartbeats 2000000
set_option maxRecDepth 100000
theorem aaF (n a b:Int) (w:World):Calls Tryz.prog 68 #[.int .i64 n,.int .i64 a,.int .i64 b] w λe w'=>e = .returned (.bool (decide (a<=n)&&decide (n<=b)))/\w' = w:=by
 by_cases h1:a<=n <;> by_cases h2:n<=b
 all_goals
  go_enter Tryz.func68,Tryz.ntmps68;go_wp2;go_ret
  exact ⟨by simp [h1,h2] <;> first | rfl | omega,rfl⟩
theorem Rw (x:aE) (cs:List Value) (F:List Nat) (w:World) (h:rd w x cs F) (kO:(x.key.size:Int)<=1048576) (hl:(x.values.length:Int)<=1048576) (cR:∀v∈x.values,(v.size:Int)<=1048576) :
 Calls Tryz.prog 127 #[.agg cs.toArray] w λe w'=>e = .returned (.bool (uh x))/\Below w.heap.size w w':=by
 have Eo:=I cR;clear cR;obtain ⟨jy,ji,Bo,aq,qp,b9,hop,kV⟩:=og h;subst aq;clear qp;cases hK:Cm x.key with
 | false =>have HF:=I (aiY hK);have HK:=I hK;clear hK;exact xF
 | true =>
   have HK:=I hK;by_cases hop:1<=x.op/\x.op<=4
   ·by_cases h2:2 < x.op
    ·have hg:=aiZ hK hop h2;obtain ⟨kv,hop2⟩:=hop;by_cases h0:x.values.length = 0
     ·rw [decide_eq_true h0] at hg;have HF:=I hg;have H0:=I h0;clear hK hg h0;go_enter Tryz.func127,Tryz.ntmps127;go_wp2_with fail
      refine (rX x.key _ kO).mono ?_;exact LK
     ·rw [decide_eq_false h0] at hg;have HF:=I hg;have SV:((x.values.length:Int) == 0) = false:=(by rw [beq_eq_false_iff_ne];omega);clear hK hg;exact xF
    ·have HI:=I (amx hK hop h2);obtain ⟨kv,hop2⟩:=hop;have h2':x.op<=2:=J;clear hK;go_enter Tryz.func127,Tryz.ntmps127;go_wp2_with fail
     refine (rX x.key _ kO).mono ?_;rw [HK.out];rintro e w2 ⟨rfl,ap⟩;obtain ⟨bX,cE⟩:=ay ap;have cr:w.heap.size < w2.heap.size:=(by have:=ap.size;simp at this;omega);have lz:w2.cell? ⟨w.heap.size,1,none⟩ = some (.int .i64 x.op):=(by rw [bX _ _ S',cell_of_row _ _ _ _ _ _ (heap_alloc_new w _)];rfl);have me:w2.cell? ⟨w.heap.size,2,none⟩ = some (.slice jy x.values.length ji):=(by rw [bX _ _ S',cell_of_row _ _ _ _ _ _ (heap_alloc_new w _)];rfl);have eu:Below w.heap.size w w2:=bc;clear bX cE;go_wp2_with fail
     refine (aaF x.op 1 4 _).mono ?_;rw [show (decide ((1:Int)<=x.op)&&decide (x.op<=4)) = true by simp [kv,hop2]];rintro e w3 ⟨rfl,hw⟩;simp only [hw];clear hw w3;go_wp2;go_loopw [25] (λi wr=>∃k:Nat,k<=x.values.length/\i = .int .i64 k/\Hid (∀j,j < k->rowAt AQ bl x.values j = true)/\wr.cell? ⟨w.heap.size,2,none⟩ = some (.slice jy x.values.length ji)/\Below w.heap.size w wr) (λi _=>x.values.length - (intOf i).toNat)
     case atStart=>exact ⟨0,Nat.zero_le _,rfl,(λj hj=>by omega),me,eu⟩
     case round =>
      obtain ⟨k,hk,rfl,hall,bo,ax⟩:=hrel;have dd:w.heap.size < wr.heap.size:=World.block_lt_of_cell? wr _ bo;by_cases am:k < x.values.length
      ·obtain rfl | ⟨j,rfl⟩:k = 0∨∃j,k = j+1:=by cases k with | zero=>exact .inl rfl | succ j=>exact .inr ⟨j,rfl⟩
       ·obtain ⟨b,o,ck,Fk,rfl,o9,hbs,hr,bm,hc⟩:=(Sl.ext (w':=wr) (A:=jy) (c:=ji) kV ax).get am;obtain ⟨aq,su,eJ⟩:=hr;subst aq su;have q0:wr.cell? ⟨b,o+0,none⟩ = some (.string x.values[0]):=(by have:=hc 0 _ rfl;rwa [show o+(0 * bd.size ByteArray+0) = o+0 from by show o+(0 * 1+0) = _;omega] at this);clear hc;simp only [Nat.add_zero] at q0;have cF:=Eo.out x.values[0] (List.getElem_mem ..);cases h1:AQ x.values[0]
        all_goals
         have hp:=bF (ok:=AQ) (less:=bl) am;rw [h1] at hp;try simp only [Bool.false_and,Bool.and_false,Bool.and_true,Bool.and_self] at hp
         change rowAt AQ bl x.values _ = _ at hp;have H1:=I h1
         first
          | have HN:=I (gq hall.out hp)
          | have HF:=I (show uh x = false by rw [HI.out,wU (most:=4) am hp];simp)
         clear h1 hp;go_wp2_with fail
         refine (xQ x.values[0] _ cF).mono ?_;rw [H1.out];rintro e wn ⟨rfl,hn⟩;obtain ⟨km,ly⟩:=ay hn;go_wp2
         first
          | exact ⟨⟨0+1,J,N',HN.out,((ay hn).1 _ _ dd).trans bo,ah ax hn⟩,by simp [intOf];omega⟩
          | (go_ret;exact ⟨by rw [HF.out];rfl,ah ax hn⟩)
          | (go_roundw
             case rel=>exact ⟨0+1,J,N',HN.out,((ay hn).1 _ _ dd).trans bo,ah ax hn⟩
             case measure=>simp [intOf];omega)
       ·obtain ⟨b,o,ck,Fk,rfl,o9,hbs,hr,bm,hc⟩:=(Sl.ext (w':=wr) (A:=jy) (c:=ji) kV ax).get am;obtain ⟨aq,su,eJ⟩:=hr;subst aq su;have q0:wr.cell? ⟨b,o+(j+1),none⟩ = some (.string x.values[j+1]):=(by have:=hc 0 _ rfl;rwa [show o+((j+1) * bd.size ByteArray+0) = o+(j+1) from by show o+((j+1) * 1+0) = _;omega] at this);clear hc;obtain ⟨b',o',TY,Xw,e,Ht,hbs',cJ,zQ,hc'⟩:=Sl.get (Sl.ext (w':=wr) (c:=ji) kV ax) (show j < x.values.length by omega);obtain ⟨jU,abT,hsz2⟩:=cJ;subst jU;obtain ⟨rfl,rfl⟩:b' = b/\o' = o:=by simpa using e.symm
        clear e;have p0:wr.cell? ⟨b',o'+j,none⟩ = some (.string x.values[j]):=(by have:=hc' 0 _ rfl;rwa [show o'+(j * bd.size ByteArray+0) = o'+j from by show o'+(j * 1+0) = _;omega] at this);clear hc';have qd:IntKind.i64.wrap (j:Int) = j:=IntWalk.i64_in _ J;have gp:j < x.values.length:=J;have cF:=Eo.out x.values[j+1] (List.getElem_mem ..);cases h1:AQ x.values[j+1] <;> cases h3:Op.bytesLess x.values[j].toList x.values[j+1].toList
        all_goals
         have hp:=yS (ok:=AQ) (less:=bl) am;unfold bl at hp;rw [h1,h3] at hp;try simp only [Bool.false_and,Bool.and_false,Bool.and_true,Bool.and_self] at hp
         change rowAt AQ bl x.values _ = _ at hp;have H1:=I h1
         first
          | have HN:=I (gq hall.out hp)
          | have HF:=I (show uh x = false by rw [HI.out,wU (most:=4) am hp];simp)
         clear h1 hp;go_wp2_with fail
         refine (xQ x.values[j+1] _ cF).mono ?_;rw [H1.out];rintro e wn ⟨rfl,hn⟩;obtain ⟨km,ly⟩:=ay hn;go_wp2
         first
          | exact ⟨⟨j+1+1,J,N',HN.out,((ay hn).1 _ _ dd).trans bo,ah ax hn⟩,by simp [intOf];omega⟩
          | (go_ret;exact ⟨by rw [HF.out];rfl,ah ax hn⟩)
          | (go_roundw
             case rel=>exact ⟨j+1+1,J,N',HN.out,((ay hn).1 _ _ dd).trans bo,ah ax hn⟩
             case measure=>simp [intOf];omega)
      ·have bs:k = x.values.length:=J;subst bs;by_cases hm:(x.values.length:Int)<=4
       ·by_cases oy:1<=x.values.length
        ·have HF:=I (show uh x = true by rw [HI.out,Jy hm hall.out];simp [oy]);exact xr
        ·have HF:=I (show uh x = false by rw [HI.out];simp [oy]);have pT:(x.values.length:Int) < 1:=J;exact xr
       ·have HF:=I (show uh x = false by rw [HI.out,Jz (ok:=AQ) (less:=bl) hm];simp);have pT:(1:Int)<=x.values.length:=J;have hd5:decide ((x.values.length:Int)<=4) = false:=(by simp;omega);exact xr
   ·have HF:=I (amy hop);clear hK;by_cases h1:x.op < 1
    ·exact xF
    ·have W7:1<=x.op:=J;have h4':4 < x.op:=J;have hd4:decide (x.op<=4) = false:=(by simp;omega);exact xF
theorem Rx (x:aE) (cs:List Value) (F:List Nat) (w:World) (h:rd w x cs F) (kO:(x.key.size:Int)<=1048576) (hl:(x.values.length:Int)<=1048576) (cR:∀v∈x.values,(v.size:Int)<=1048576) :
 Calls Tryz.prog 138 #[.agg cs.toArray] w λe w'=>e = .returned (.bool (uh x))/\Below w.heap.size w w':=by
 have Eo:=I cR;clear cR;obtain ⟨jy,ji,Bo,aq,qp,b9,hop,kV⟩:=og h;subst aq;clear qp;cases hK:Cm x.key with
 | false =>have HF:=I (aiY hK);have HK:=I hK;clear hK;exact xH
 | true =>
   have HK:=I hK;by_cases hop:1<=x.op/\x.op<=4
   ·by_cases h2:2 < x.op
    ·have hg:=aiZ hK hop h2;obtain ⟨kv,hop2⟩:=hop;by_cases h0:x.values.length = 0
     ·rw [decide_eq_true h0] at hg;have HF:=I hg;have H0:=I h0;clear hK hg h0;go_enter Tryz.func138,Tryz.ntmps138;go_wp2_with fail
      refine (qK x.key _ kO).mono ?_;exact LK
     ·rw [decide_eq_false h0] at hg;have HF:=I hg;have SV:((x.values.length:Int) == 0) = false:=(by rw [beq_eq_false_iff_ne];omega);clear hK hg;exact xH
    ·have HI:=I (amx hK hop h2);obtain ⟨kv,hop2⟩:=hop;have h2':x.op<=2:=J;clear hK;go_enter Tryz.func138,Tryz.ntmps138;go_wp2_with fail
     refine (qK x.key _ kO).mono ?_;rw [HK.out];rintro e w2 ⟨rfl,ap⟩;obtain ⟨bX,cE⟩:=ay ap;have cr:w.heap.size < w2.heap.size:=(by have:=ap.size;simp at this;omega);have lz:w2.cell? ⟨w.heap.size,1,none⟩ = some (.int .i64 x.op):=(by rw [bX _ _ S',cell_of_row _ _ _ _ _ _ (heap_alloc_new w _)];rfl);have me:w2.cell? ⟨w.heap.size,2,none⟩ = some (.slice jy x.values.length ji):=(by rw [bX _ _ S',cell_of_row _ _ _ _ _ _ (heap_alloc_new w _)];rfl);have eu:Below w.heap.size w w2:=bc;clear bX cE;by_cases oy:1<=x.values.length
     ·have aaS:(1:Int)<=x.values.length:=J;by_cases hm:(x.values.length:Int)<=4
      ·go_wp2;go_loopw [3] (λi wr=>∃k:Nat,k<=x.values.length/\i = .int .i64 k/\Hid (∀j,j < k->rowAt AQ bl x.values j = true)/\wr.cell? ⟨w.heap.size,2,none⟩ = some (.slice jy x.values.length ji)/\Below w.heap.size w wr) (λi _=>x.values.length - (intOf i).toNat)
       case atStart=>exact ⟨0,Nat.zero_le _,rfl,(λj hj=>by omega),me,eu⟩
       case round =>
        obtain ⟨k,hk,rfl,hall,bo,ax⟩:=hrel;have dd:w.heap.size < wr.heap.size:=World.block_lt_of_cell? wr _ bo;by_cases am:k < x.values.length
        ·obtain rfl | ⟨j,rfl⟩:k = 0∨∃j,k = j+1:=by cases k with | zero=>exact .inl rfl | succ j=>exact .inr ⟨j,rfl⟩
         ·obtain ⟨b,o,ck,Fk,rfl,o9,hbs,hr,bm,hc⟩:=(Sl.ext (w':=wr) (A:=jy) (c:=ji) kV ax).get am;obtain ⟨aq,su,eJ⟩:=hr;subst aq su;have q0:wr.cell? ⟨b,o+0,none⟩ = some (.string x.values[0]):=(by have:=hc 0 _ rfl;rwa [show o+(0 * bd.size ByteArray+0) = o+0 from by show o+(0 * 1+0) = _;omega] at this);clear hc;simp only [Nat.add_zero] at q0;have cF:=Eo.out x.values[0] (List.getElem_mem ..);cases h1:AQ x.values[0]
          all_goals
           have hp:=bF (ok:=AQ) (less:=bl) am;rw [h1] at hp;try simp only [Bool.false_and,Bool.and_false,Bool.and_true,Bool.and_self] at hp
           change rowAt AQ bl x.values _ = _ at hp;have H1:=I h1
           first
            | have HN:=I (gq hall.out hp)
            | have HF:=I (show uh x = false by rw [HI.out,wU (most:=4) am hp];simp)
           clear h1 hp;go_wp2_with fail
           refine aF _ U' U' (aj _) ?_
           repeat (first
            | (apply aG
               case hw=>rfl
               simp only [Act.put,pz])
            | (apply aH
               case hw=>rfl
               case h =>
                intro wq hq;have cN:=(aB hq).1;have lJ:=(aB hq).2;go_simp
                first
                 | exact ⟨hq,rfl⟩
                 | exact ⟨aQ hq _,rfl⟩
                 | ((refine (vH x.values[0] _ cF).mono ?_;rw [H1.out];rintro e w2 ⟨rfl,ap⟩;exact ⟨rfl,aI hq ap⟩))
                 | (simp only [↓IntWalk.iteOmega];exact ⟨hq,rfl⟩)
               simp only [Act.put,pz]))
           refine aN ?_;intro wn hn;replace hn:=hn.out;go_wp2
           first
            | exact ⟨⟨0+1,J,N',HN.out,((ay hn).1 _ _ dd).trans bo,ah ax hn⟩,by simp [intOf];omega⟩
            | (go_ret;exact ⟨by rw [HF.out];rfl,ah ax hn⟩)
            | (go_roundw
               case rel=>exact ⟨0+1,J,N',HN.out,((ay hn).1 _ _ dd).trans bo,ah ax hn⟩
               case measure=>simp [intOf];omega)
         ·obtain ⟨b,o,ck,Fk,rfl,o9,hbs,hr,bm,hc⟩:=(Sl.ext (w':=wr) (A:=jy) (c:=ji) kV ax).get am;obtain ⟨aq,su,eJ⟩:=hr;subst aq su;have q0:wr.cell? ⟨b,o+(j+1),none⟩ = some (.string x.values[j+1]):=(by have:=hc 0 _ rfl;rwa [show o+((j+1) * bd.size ByteArray+0) = o+(j+1) from by show o+((j+1) * 1+0) = _;omega] at this);clear hc;obtain ⟨b',o',TY,Xw,e,Ht,hbs',cJ,zQ,hc'⟩:=Sl.get (Sl.ext (w':=wr) (c:=ji) kV ax) (show j < x.values.length by omega);obtain ⟨jU,abT,hsz2⟩:=cJ;subst jU;obtain ⟨rfl,rfl⟩:b' = b/\o' = o:=by simpa using e.symm
          clear e;have p0:wr.cell? ⟨b',o'+j,none⟩ = some (.string x.values[j]):=(by have:=hc' 0 _ rfl;rwa [show o'+(j * bd.size ByteArray+0) = o'+j from by show o'+(j * 1+0) = _;omega] at this);clear hc';have qd:IntKind.i64.wrap (j:Int) = j:=IntWalk.i64_in _ J;have gp:j < x.values.length:=J;have cF:=Eo.out x.values[j+1] (List.getElem_mem ..);cases h1:AQ x.values[j+1] <;> cases h3:Op.bytesLess x.values[j].toList x.values[j+1].toList
          all_goals
           have hp:=yS (ok:=AQ) (less:=bl) am;unfold bl at hp;rw [h1,h3] at hp;try simp only [Bool.false_and,Bool.and_false,Bool.and_true,Bool.and_self] at hp
           change rowAt AQ bl x.values _ = _ at hp;have H1:=I h1
           first
            | have HN:=I (gq hall.out hp)
            | have HF:=I (show uh x = false by rw [HI.out,wU (most:=4) am hp];simp)
           clear h1 hp;go_wp2_with fail
           refine aF _ U' U' (aj _) ?_
           repeat (first
            | (apply aG
               case hw=>rfl
               simp only [Act.put,pz])
            | (apply aH
               case hw=>rfl
               case h =>
                intro wq hq;have cN:=(aB hq).1;have lJ:=(aB hq).2;go_simp
                first
                 | exact ⟨hq,rfl⟩
                 | exact ⟨aQ hq _,rfl⟩
                 | ((refine (vH x.values[j+1] _ cF).mono ?_;rw [H1.out];rintro e w2 ⟨rfl,ap⟩;exact ⟨rfl,aI hq ap⟩))
                 | (simp only [↓IntWalk.iteOmega];exact ⟨hq,rfl⟩)
               simp only [Act.put,pz]))
           refine aN ?_;intro wn hn;replace hn:=hn.out;go_wp2
           first
            | exact ⟨⟨j+1+1,J,N',HN.out,((ay hn).1 _ _ dd).trans bo,ah ax hn⟩,by simp [intOf];omega⟩
            | (go_ret;exact ⟨by rw [HF.out];rfl,ah ax hn⟩)
            | (go_roundw
               case rel=>exact ⟨j+1+1,J,N',HN.out,((ay hn).1 _ _ dd).trans bo,ah ax hn⟩
               case measure=>simp [intOf];omega)
        ·have bs:k = x.values.length:=J;subst bs;have HF:=I (show uh x = true by rw [HI.out,Jy hm hall.out];simp [oy]);exact xr
      ·have HF:=I (show uh x = false by rw [HI.out,Jz (ok:=AQ) (less:=bl) hm];simp);have hd5:decide ((x.values.length:Int)<=4) = false:=(by simp;omega);go_wp2;go_ret
       exact ⟨by rw [HF.out];rfl,eu⟩
     ·have HF:=I (show uh x = false by rw [HI.out];simp [oy]);have pT:(x.values.length:Int) < 1:=J;go_wp2;go_ret
      exact ⟨by rw [HF.out];rfl,eu⟩
   ·have HF:=I (amy hop);clear hK;by_cases h1:x.op < 1
    ·exact xH
    ·have W7:1<=x.op:=J;have h4':4 < x.op:=J;have hd4:decide (x.op<=4) = false:=(by simp;omega);exact xH
end Go.Proofs.YtjahcnjmjahbaaaGreat
