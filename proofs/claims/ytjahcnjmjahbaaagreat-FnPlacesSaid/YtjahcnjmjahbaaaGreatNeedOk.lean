/- NeedOk, of the program and of the reference. No condition. -/
import Derived.Test.YtjahcnjmjahbaaaGreatTaintOk
import Derived.Laws.Cover1
import Derived.Lib.SmallJoins
import Derived.Shelf.Small.Bits
import Derived.Shelf.Bits.Mul64
namespace Go.Proofs.YtjahcnjmjahbaaaGreat
open Go.ChangeShapes Go.WideShapes Go.ChangeAt Go.RowKit
set_option linter.unusedVariables false
set_option linter.unusedSimpArgs false
set_option maxHeartbeats 2000000
set_option maxRecDepth 100000
theorem aaF (n a b:Int) (w:World):Calls Tryz.prog 68 #[.int .i64 n,.int .i64 a,.int .i64 b] w fun e w'=>e = .returned (.bool (decide (a≤n)&&decide (n≤b)))∧w' = w:=by
 by_cases h1:a≤n <;> by_cases h2:n≤b
 all_goals
  go_enter Tryz.func68,Tryz.ntmps68;go_wp2;go_ret
  exact ⟨by simp [h1,h2] <;> first | rfl | omega,rfl⟩
theorem Rw (x:bj) (cs:List Value) (F:List Nat) (w:World) (h:rd w x cs F) (fI:(x.key.size:Int)≤1048576) (hl:(x.values.length:Int)≤1048576) (cS:∀v∈x.values,(v.size:Int)≤1048576) :
 Calls Tryz.prog 127 #[.agg cs.toArray] w fun e w'=>e = .returned (.bool (uh x))∧Below w.heap.size w w':=by
 have Eo:=I cS;clear cS;obtain ⟨jy,ji,Bo,ax,qp,cc,hop,kV⟩:=og h;subst ax;clear qp;cases hK:Cm x.key with
 | false =>have HF:=I (Zr hK);have HK:=I hK;clear hK;exact vv
 | true =>
   have HK:=I hK;by_cases hop:1≤x.op∧x.op≤4
   ·by_cases h2:2 < x.op
    ·have hg:=Zt hK hop h2;obtain ⟨iZ,hop2⟩:=hop;by_cases h0:x.values.length = 0
     ·rw [decide_eq_true h0] at hg;have HF:=I hg;have H0:=I h0;clear hK hg h0;go_enter Tryz.func127,Tryz.ntmps127;go_wp2_with fail
      refine (rX x.key _ fI).mono ?_;exact Il
     ·rw [decide_eq_false h0] at hg;have HF:=I hg;have O1:((x.values.length:Int) == 0) = false:=(by rw [beq_eq_false_iff_ne];omega);clear hK hg;exact vv
    ·have HI:=I (Zw hK hop h2);obtain ⟨iZ,hop2⟩:=hop;have h2':x.op≤2:=O;clear hK;go_enter Tryz.func127,Tryz.ntmps127;go_wp2_with fail
     refine (rX x.key _ fI).mono ?_;rw [HK.out];rintro e w2 ⟨rfl,ao⟩;obtain ⟨cb,cG⟩:=ay ao;have cI:w.heap.size < w2.heap.size:=(by have:=ao.size;simp at this;omega);have eS:w2.cell? ⟨w.heap.size,1,none⟩ = some (.int .i64 x.op):=(by rw [cb _ _ S',cell_of_row _ _ _ _ _ _ (heap_alloc_new w _)];rfl);have mF:w2.cell? ⟨w.heap.size,2,none⟩ = some (.slice jy x.values.length ji):=(by rw [cb _ _ S',cell_of_row _ _ _ _ _ _ (heap_alloc_new w _)];rfl);have dE:Below w.heap.size w w2:=bu;clear cb cG;go_wp2_with fail
     refine (aaF x.op 1 4 _).mono ?_;rw [show (decide ((1:Int)≤x.op)&&decide (x.op≤4)) = true by simp [iZ,hop2]];rintro e w3 ⟨rfl,hw⟩;simp only [hw];clear hw w3;go_wp2;go_loopw [25] (fun i wr=>∃k:Nat,k≤x.values.length∧i = .int .i64 k∧Hid (∀j,j < k→bI AQ bl x.values j = true)∧wr.cell? ⟨w.heap.size,2,none⟩ = some (.slice jy x.values.length ji)∧Below w.heap.size w wr) (fun i _=>x.values.length - (intOf i).toNat)
     case atStart=>exact ⟨0,Nat.zero_le _,rfl,(fun j hj=>by omega),mF,dE⟩
     case round =>
      obtain ⟨k,hk,rfl,hall,bc,az⟩:=hrel;have dd:w.heap.size < wr.heap.size:=World.block_lt_of_cell? wr _ bc;by_cases ap:k < x.values.length
      ·obtain rfl | ⟨j,rfl⟩:k = 0∨∃j,k = j+1:=by cases k with | zero=>exact .inl rfl | succ j=>exact .inr ⟨j,rfl⟩
       ·obtain ⟨b,o,ck,Fk,rfl,o9,hbs,hr,br,hc⟩:=(Sl.ext (w':=wr) (A:=jy) (c:=ji) kV az).get ap;obtain ⟨ax,su,gv⟩:=hr;subst ax su;have q0:wr.cell? ⟨b,o+0,none⟩ = some (.string x.values[0]):=(by have:=hc 0 _ rfl;rwa [show o+(0 * bk.size ByteArray+0) = o+0 from by show o+(0 * 1+0) = _;omega] at this);clear hc;simp only [Nat.add_zero] at q0;have cW:=Eo.out x.values[0] (List.getElem_mem ..);cases h1:AQ x.values[0]
        all_goals
         have hp:=b8 (ok:=AQ) (less:=bl) ap;rw [h1] at hp;try simp only [Bool.false_and,Bool.and_false,Bool.and_true,Bool.and_self] at hp
         change bI AQ bl x.values _ = _ at hp;have H1:=I h1
         first
          | have HN:=I (gq hall.out hp)
          | have HF:=I (show uh x = false by rw [HI.out,wU (most:=4) ap hp];simp)
         clear h1 hp;go_wp2_with fail
         refine (xQ x.values[0] _ cW).mono ?_;rw [H1.out];rintro e wn ⟨rfl,hn⟩;obtain ⟨j9,kI⟩:=ay hn;go_wp2
         first
          | exact ⟨⟨0+1,O,N',HN.out,((ay hn).1 _ _ dd).trans bc,ah az hn⟩,by simp [intOf];omega⟩
          | (go_ret;exact ⟨by rw [HF.out];rfl,ah az hn⟩)
          | (go_roundw
             case rel=>exact ⟨0+1,O,N',HN.out,((ay hn).1 _ _ dd).trans bc,ah az hn⟩
             case measure=>simp [intOf];omega)
       ·obtain ⟨b,o,ck,Fk,rfl,o9,hbs,hr,br,hc⟩:=(Sl.ext (w':=wr) (A:=jy) (c:=ji) kV az).get ap;obtain ⟨ax,su,gv⟩:=hr;subst ax su;have q0:wr.cell? ⟨b,o+(j+1),none⟩ = some (.string x.values[j+1]):=(by have:=hc 0 _ rfl;rwa [show o+((j+1) * bk.size ByteArray+0) = o+(j+1) from by show o+((j+1) * 1+0) = _;omega] at this);clear hc;obtain ⟨b',o',TY,Xw,e,Ht,hbs',cj,zQ,hc'⟩:=Sl.get (Sl.ext (w':=wr) (c:=ji) kV az) (show j < x.values.length by omega);obtain ⟨jU,abT,hsz2⟩:=cj;subst jU;obtain ⟨rfl,rfl⟩:b' = b∧o' = o:=by simpa using e.symm
        clear e;have p0:wr.cell? ⟨b',o'+j,none⟩ = some (.string x.values[j]):=(by have:=hc' 0 _ rfl;rwa [show o'+(j * bk.size ByteArray+0) = o'+j from by show o'+(j * 1+0) = _;omega] at this);clear hc';have nG:IntKind.i64.wrap (j:Int) = j:=IntWalk.i64_in _ O;have jt:j < x.values.length:=O;have cW:=Eo.out x.values[j+1] (List.getElem_mem ..);cases h1:AQ x.values[j+1] <;> cases h3:Op.bytesLess x.values[j].toList x.values[j+1].toList
        all_goals
         have hp:=yS (ok:=AQ) (less:=bl) ap;unfold bl at hp;rw [h1,h3] at hp;try simp only [Bool.false_and,Bool.and_false,Bool.and_true,Bool.and_self] at hp
         change bI AQ bl x.values _ = _ at hp;have H1:=I h1
         first
          | have HN:=I (gq hall.out hp)
          | have HF:=I (show uh x = false by rw [HI.out,wU (most:=4) ap hp];simp)
         clear h1 hp;go_wp2_with fail
         refine (xQ x.values[j+1] _ cW).mono ?_;rw [H1.out];rintro e wn ⟨rfl,hn⟩;obtain ⟨j9,kI⟩:=ay hn;go_wp2
         first
          | exact ⟨⟨j+1+1,O,N',HN.out,((ay hn).1 _ _ dd).trans bc,ah az hn⟩,by simp [intOf];omega⟩
          | (go_ret;exact ⟨by rw [HF.out];rfl,ah az hn⟩)
          | (go_roundw
             case rel=>exact ⟨j+1+1,O,N',HN.out,((ay hn).1 _ _ dd).trans bc,ah az hn⟩
             case measure=>simp [intOf];omega)
      ·have bz:k = x.values.length:=O;subst bz;by_cases hm:(x.values.length:Int)≤4
       ·by_cases oL:1≤x.values.length
        ·have HF:=I (show uh x = true by rw [HI.out,Jy hm hall.out];simp [oL]);exact vn
        ·have HF:=I (show uh x = false by rw [HI.out];simp [oL]);have pk:(x.values.length:Int) < 1:=O;exact vn
       ·have HF:=I (show uh x = false by rw [HI.out,Jz (ok:=AQ) (less:=bl) hm];simp);have pk:(1:Int)≤x.values.length:=O;have hd5:decide ((x.values.length:Int)≤4) = false:=(by simp;omega);exact vn
   ·have HF:=I (Zs hop);clear hK;by_cases h1:x.op < 1
    ·exact vv
    ·have Sk:1≤x.op:=O;have h4':4 < x.op:=O;have hd4:decide (x.op≤4) = false:=(by simp;omega);exact vv
theorem Rx (x:bj) (cs:List Value) (F:List Nat) (w:World) (h:rd w x cs F) (fI:(x.key.size:Int)≤1048576) (hl:(x.values.length:Int)≤1048576) (cS:∀v∈x.values,(v.size:Int)≤1048576) :
 Calls Tryz.prog 138 #[.agg cs.toArray] w fun e w'=>e = .returned (.bool (uh x))∧Below w.heap.size w w':=by
 have Eo:=I cS;clear cS;obtain ⟨jy,ji,Bo,ax,qp,cc,hop,kV⟩:=og h;subst ax;clear qp;cases hK:Cm x.key with
 | false =>have HF:=I (Zr hK);have HK:=I hK;clear hK;exact vx
 | true =>
   have HK:=I hK;by_cases hop:1≤x.op∧x.op≤4
   ·by_cases h2:2 < x.op
    ·have hg:=Zt hK hop h2;obtain ⟨iZ,hop2⟩:=hop;by_cases h0:x.values.length = 0
     ·rw [decide_eq_true h0] at hg;have HF:=I hg;have H0:=I h0;clear hK hg h0;go_enter Tryz.func138,Tryz.ntmps138;go_wp2_with fail
      refine (qK x.key _ fI).mono ?_;exact Il
     ·rw [decide_eq_false h0] at hg;have HF:=I hg;have O1:((x.values.length:Int) == 0) = false:=(by rw [beq_eq_false_iff_ne];omega);clear hK hg;exact vx
    ·have HI:=I (Zw hK hop h2);obtain ⟨iZ,hop2⟩:=hop;have h2':x.op≤2:=O;clear hK;go_enter Tryz.func138,Tryz.ntmps138;go_wp2_with fail
     refine (qK x.key _ fI).mono ?_;rw [HK.out];rintro e w2 ⟨rfl,ao⟩;obtain ⟨cb,cG⟩:=ay ao;have cI:w.heap.size < w2.heap.size:=(by have:=ao.size;simp at this;omega);have eS:w2.cell? ⟨w.heap.size,1,none⟩ = some (.int .i64 x.op):=(by rw [cb _ _ S',cell_of_row _ _ _ _ _ _ (heap_alloc_new w _)];rfl);have mF:w2.cell? ⟨w.heap.size,2,none⟩ = some (.slice jy x.values.length ji):=(by rw [cb _ _ S',cell_of_row _ _ _ _ _ _ (heap_alloc_new w _)];rfl);have dE:Below w.heap.size w w2:=bu;clear cb cG;by_cases oL:1≤x.values.length
     ·have hm1i:(1:Int)≤x.values.length:=O;by_cases hm:(x.values.length:Int)≤4
      ·go_wp2;go_loopw [3] (fun i wr=>∃k:Nat,k≤x.values.length∧i = .int .i64 k∧Hid (∀j,j < k→bI AQ bl x.values j = true)∧wr.cell? ⟨w.heap.size,2,none⟩ = some (.slice jy x.values.length ji)∧Below w.heap.size w wr) (fun i _=>x.values.length - (intOf i).toNat)
       case atStart=>exact ⟨0,Nat.zero_le _,rfl,(fun j hj=>by omega),mF,dE⟩
       case round =>
        obtain ⟨k,hk,rfl,hall,bc,az⟩:=hrel;have dd:w.heap.size < wr.heap.size:=World.block_lt_of_cell? wr _ bc;by_cases ap:k < x.values.length
        ·obtain rfl | ⟨j,rfl⟩:k = 0∨∃j,k = j+1:=by cases k with | zero=>exact .inl rfl | succ j=>exact .inr ⟨j,rfl⟩
         ·obtain ⟨b,o,ck,Fk,rfl,o9,hbs,hr,br,hc⟩:=(Sl.ext (w':=wr) (A:=jy) (c:=ji) kV az).get ap;obtain ⟨ax,su,gv⟩:=hr;subst ax su;have q0:wr.cell? ⟨b,o+0,none⟩ = some (.string x.values[0]):=(by have:=hc 0 _ rfl;rwa [show o+(0 * bk.size ByteArray+0) = o+0 from by show o+(0 * 1+0) = _;omega] at this);clear hc;simp only [Nat.add_zero] at q0;have cW:=Eo.out x.values[0] (List.getElem_mem ..);cases h1:AQ x.values[0]
          all_goals
           have hp:=b8 (ok:=AQ) (less:=bl) ap;rw [h1] at hp;try simp only [Bool.false_and,Bool.and_false,Bool.and_true,Bool.and_self] at hp
           change bI AQ bl x.values _ = _ at hp;have H1:=I h1
           first
            | have HN:=I (gq hall.out hp)
            | have HF:=I (show uh x = false by rw [HI.out,wU (most:=4) ap hp];simp)
           clear h1 hp;go_wp2_with fail
           refine aF _ U' U' (aj _) ?_
           repeat (first
            | (apply aG
               case hw=>rfl
               simp only [Act.put,pz])
            | (apply aH
               case hw=>rfl
               case h =>
                intro wq hq;have dP:=(aB hq).1;have lJ:=(aB hq).2;go_simp
                first
                 | exact ⟨hq,rfl⟩
                 | exact ⟨aQ hq _,rfl⟩
                 | ((refine (vH x.values[0] _ cW).mono ?_;rw [H1.out];rintro e w2 ⟨rfl,ao⟩;exact ⟨rfl,aI hq ao⟩))
                 | (simp only [↓IntWalk.iteOmega];exact ⟨hq,rfl⟩)
               simp only [Act.put,pz]))
           refine aN ?_;intro wn hn;replace hn:=hn.out;go_wp2
           first
            | exact ⟨⟨0+1,O,N',HN.out,((ay hn).1 _ _ dd).trans bc,ah az hn⟩,by simp [intOf];omega⟩
            | (go_ret;exact ⟨by rw [HF.out];rfl,ah az hn⟩)
            | (go_roundw
               case rel=>exact ⟨0+1,O,N',HN.out,((ay hn).1 _ _ dd).trans bc,ah az hn⟩
               case measure=>simp [intOf];omega)
         ·obtain ⟨b,o,ck,Fk,rfl,o9,hbs,hr,br,hc⟩:=(Sl.ext (w':=wr) (A:=jy) (c:=ji) kV az).get ap;obtain ⟨ax,su,gv⟩:=hr;subst ax su;have q0:wr.cell? ⟨b,o+(j+1),none⟩ = some (.string x.values[j+1]):=(by have:=hc 0 _ rfl;rwa [show o+((j+1) * bk.size ByteArray+0) = o+(j+1) from by show o+((j+1) * 1+0) = _;omega] at this);clear hc;obtain ⟨b',o',TY,Xw,e,Ht,hbs',cj,zQ,hc'⟩:=Sl.get (Sl.ext (w':=wr) (c:=ji) kV az) (show j < x.values.length by omega);obtain ⟨jU,abT,hsz2⟩:=cj;subst jU;obtain ⟨rfl,rfl⟩:b' = b∧o' = o:=by simpa using e.symm
          clear e;have p0:wr.cell? ⟨b',o'+j,none⟩ = some (.string x.values[j]):=(by have:=hc' 0 _ rfl;rwa [show o'+(j * bk.size ByteArray+0) = o'+j from by show o'+(j * 1+0) = _;omega] at this);clear hc';have nG:IntKind.i64.wrap (j:Int) = j:=IntWalk.i64_in _ O;have jt:j < x.values.length:=O;have cW:=Eo.out x.values[j+1] (List.getElem_mem ..);cases h1:AQ x.values[j+1] <;> cases h3:Op.bytesLess x.values[j].toList x.values[j+1].toList
          all_goals
           have hp:=yS (ok:=AQ) (less:=bl) ap;unfold bl at hp;rw [h1,h3] at hp;try simp only [Bool.false_and,Bool.and_false,Bool.and_true,Bool.and_self] at hp
           change bI AQ bl x.values _ = _ at hp;have H1:=I h1
           first
            | have HN:=I (gq hall.out hp)
            | have HF:=I (show uh x = false by rw [HI.out,wU (most:=4) ap hp];simp)
           clear h1 hp;go_wp2_with fail
           refine aF _ U' U' (aj _) ?_
           repeat (first
            | (apply aG
               case hw=>rfl
               simp only [Act.put,pz])
            | (apply aH
               case hw=>rfl
               case h =>
                intro wq hq;have dP:=(aB hq).1;have lJ:=(aB hq).2;go_simp
                first
                 | exact ⟨hq,rfl⟩
                 | exact ⟨aQ hq _,rfl⟩
                 | ((refine (vH x.values[j+1] _ cW).mono ?_;rw [H1.out];rintro e w2 ⟨rfl,ao⟩;exact ⟨rfl,aI hq ao⟩))
                 | (simp only [↓IntWalk.iteOmega];exact ⟨hq,rfl⟩)
               simp only [Act.put,pz]))
           refine aN ?_;intro wn hn;replace hn:=hn.out;go_wp2
           first
            | exact ⟨⟨j+1+1,O,N',HN.out,((ay hn).1 _ _ dd).trans bc,ah az hn⟩,by simp [intOf];omega⟩
            | (go_ret;exact ⟨by rw [HF.out];rfl,ah az hn⟩)
            | (go_roundw
               case rel=>exact ⟨j+1+1,O,N',HN.out,((ay hn).1 _ _ dd).trans bc,ah az hn⟩
               case measure=>simp [intOf];omega)
        ·have bz:k = x.values.length:=O;subst bz;have HF:=I (show uh x = true by rw [HI.out,Jy hm hall.out];simp [oL]);exact vn
      ·have HF:=I (show uh x = false by rw [HI.out,Jz (ok:=AQ) (less:=bl) hm];simp);have hd5:decide ((x.values.length:Int)≤4) = false:=(by simp;omega);go_wp2;go_ret
       exact ⟨by rw [HF.out];rfl,dE⟩
     ·have HF:=I (show uh x = false by rw [HI.out];simp [oL]);have pk:(x.values.length:Int) < 1:=O;go_wp2;go_ret
      exact ⟨by rw [HF.out];rfl,dE⟩
   ·have HF:=I (Zs hop);clear hK;by_cases h1:x.op < 1
    ·exact vx
    ·have Sk:1≤x.op:=O;have h4':4 < x.op:=O;have hd4:decide (x.op≤4) = false:=(by simp;omega);exact vx
theorem mG {w w':World} {B e size n:Nat} {v:Value} {xs:List Value} (h:w.ownsRow B e size v n xs) (hb:Below w.heap.size w w'):w'.ownsRow B e size v n xs :=
 h.kept (row:=none) ⟨hb.os,hb.tape,hb.output,hb.size,fun k hk _=>hb.block k hk⟩ (by cases hv:v.ownBlock <;> simp)
theorem vP {w:World} {B B' e size n:Nat} {v:Value} {xs:List Value} (h:w.ownsRow B e size v n xs) (hB:B'≤B):w.ownsRow B' e size v n xs:=by
 refine ⟨h.1,?_⟩;rcases h.2 with h | ⟨g,aM,ep,h1,h2,h3⟩
 ·exact .inl h
 ·exact .inr ⟨g,aM,ep,h1,Nat.le_trans hB h2,h3⟩
def DK (u v:Value):Prop:=u.ownBlock = none∨u.ownBlock≠v.ownBlock
theorem DK.symm {u v:Value} (h:DK u v):DK v u:=by
 unfold DK at *;rcases h with h | h
 ·cases hv:v.ownBlock with
  | none=>exact .inl rfl
  | some k=>right;rw [h];simp
 ·exact .inr (Ne.symm h)
theorem DK.grow {u u' v:Value} {w:World} {B e size n:Nat} {xs:List Value} (h:DK u v) (hv:w.ownsRow B e size v n xs) {N:Nat} (hN:w.heap.size≤N) (cL:u'.ownBlock = u.ownBlock∨u'.ownBlock = some N):DK u' v:=by
 rcases cL with cL | cL
 ·unfold DK at *;rw [cL];exact h
 ·right;rw [cL];intro e;have:=hv.lt N e.symm;omega
section
variable {P:Program} {t e:TypeId} {z:Value} {size bytes:Nat}
theorem uf (hE:DL P t e z size bytes) {ops:Array Oper} {rest:List Oper} {o:Oper} {a:Act} {Q:Exit→Act→World→Prop} (tW:o.guard = none) (s x:Operand)
 (ho:o.op = .call { callee:=.builtin .append,args:=#[s,x],argTypes:=#[t,t] })
 (w:World) (base:Nat) (v:Value) (n:Nat) (xs:List Value) (aR:w.ownsRow base e size v n xs) (hs:a.eval s = v)
 (cs:List Value) (hx:a.eval x = .slice (some ⟨w.heap.size,0,none⟩) 1 1) (hl:cs.length = size) (h1:∀u∈cs,u.oneCell' = true)
 (hn:n≤2097152) (pn:bytes≤4096) (dh:base≤w.heap.size)
 (h:∀v' w',w'.ownsRow base e size v' (n+1) (xs++cs)→w.grownBy w' v.ownBlock→w.heap.size+1≤w'.heap.size→(v'.ownBlock = v.ownBlock∨v'.ownBlock = some (w.heap.size+1))→wpList P ops Q rest (a.put o.dst v') w'):wpList P ops Q (o :: rest) a (w.alloc (.cells cs.toArray e)):=by
 obtain ⟨ht,hi0,mS,gv⟩:=hE;obtain ⟨i,hi,hz,hsize,hb⟩:=info_parts hi0;have fR:(n+1) * bytes≤2097153 * 4096:=Nat.mul_le_mul O pn;refine wpList_append_own_at (w.alloc (.cells cs.toArray e)) tW s x t ho base e i z size bytes ht hi hz hsize hb mS gv v n xs hs (aR.alloc _) ⟨w.heap.size,0,none⟩ 1 1 cs hx O ?_ h1 mK O (by simp;omega) ?_
 ·exact Be
 ·intro v' w' mw hg _ cL;refine h v' w' mw ⟨hg.os,hg.tape,hg.output,Nat.le_trans S' hg.size,fun k hk cA=>?_⟩ XH (by simpa using cL);rw [hg.block k (by simp;omega) cA];exact Below.heap_alloc _ _ _ hk
end
theorem Sl.oJ {α:Type} [bk α] {w:World} {B:Nat} {e:TypeId} {v:Value} {xs:List α} {ds:List Value} {F:List Nat} (h0:w.ownsRow B e (bk.size α) v xs.length ds) (h:jo w xs ds F):∃A c G,v = .slice A xs.length c∧Sl w xs A c G:=by
 rcases h0 with ⟨hl,⟨rfl,hn⟩ | ⟨g,aM,ep,rfl,hb,hh,er,hm,fo,ht⟩⟩
 ·obtain rfl:xs = []:=List.eq_nil_of_length_eq_zero hn;exact ⟨none,0,[],rfl,Sl.nil w none 0 (Nat.zero_le _)⟩
 ·have hg:g < w.heap.size:=by
   exact I9
  refine ⟨_,aM,g :: F,rfl,⟨_,aM,F,ds,rfl,er,hm,h,.inr ⟨g,0,rfl,rfl,hg,fun j u hu=>?_⟩⟩⟩;exact IC
theorem Fv (w:World):∀(xs:List Int),(∀x∈xs,bv x)→jo w xs (xs.map fun n=>.int .i64 n) []
 | [],_=>⟨rfl,rfl⟩
 | x :: xs,h=>⟨[.int .i64 x],_,[],[],rfl,rfl,jL w x (h x (List.mem_cons_self ..)),Fv w xs fun y hy=>h y (List.mem_cons_of_mem _ hy)⟩
theorem atB:(Tryz.prog.info? 3).map (fun i=>(i.zero,i.size,i.bytes)) = some (some (.int .i64 0),1,8):=by kernel_rfl
theorem PI:DL Tryz.prog 109 3 (.int .i64 0) 1 8:=⟨Tryz.underlying109,atB,rfl,O⟩
theorem EI (x y:Int) (w:World):Calls Tryz.prog 100 #[.int .i64 x,.int .i64 y] w fun e w'=>e = .returned (.int .i64 (Lib.compareInt x y))∧w' = w:=by
 go_enter Tryz.func100,Tryz.ntmps100;go_wp2;all_goals (go_ret;refine ⟨?_,rfl⟩;unfold Lib.compareInt;(repeat' split) <;> first | rfl | (exfalso;omega))
def Qa:List Int→Int
 | []=>0
 | x :: xs=>if x = 0 then Qa xs else x
theorem aqF {xs:List Int} {k:Nat} (h:k < xs.length):Qa (xs.drop k) = if xs[k] = 0 then Qa (xs.drop (k+1)) else xs[k]:=by
 rw [← List.getElem_cons_drop h];rfl
theorem L9 (xs:List Int) (A:Option Addr) (n c:Nat) (F:List Nat) (w:World) (h:Sl w xs A c F) (hn:n = xs.length) (hl:(xs.length:Int)≤1048576) :
 Calls Tryz.prog 99 #[.slice A n c] w fun e w'=>e = .returned (.int .i64 (Qa xs))∧w' = w:=by
 subst hn;go_enter Tryz.func99,Tryz.ntmps99;go_wp2_with fail
 go_slots
 go_loop [8] (fun i=>∃k:Nat,k≤xs.length∧i = .int .i64 k∧Hid (Qa xs = Qa (xs.drop k))) (fun i=>xs.length - (intOf i).toNat)
 case atStart=>exact ⟨0,Nat.zero_le _,rfl,rfl⟩
 case round =>
  obtain ⟨k,hk,rfl,HO⟩:=hrel;by_cases ap:k < xs.length
  ·obtain ⟨b,o,ck,Fk,rfl,o9,hbs,hr,br,hc⟩:=h.get ap;obtain ⟨ax,su,hI⟩:=hr;subst ax su;have q0:w.cell? ⟨b,o+k,none⟩ = some (.int .i64 xs[k]):=(by have:=hc 0 _ rfl;rwa [show o+(k * bk.size Int+0) = o+k from by show o+(k * 1+0) = _;omega] at this);clear hc;have hd:=aqF ap;by_cases h0:xs[k] = 0
   ·rw [if_pos h0] at hd;have HN:=I (HO.out.trans hd);clear hd;have ev:(xs[k] == 0) = true:=(by simp [h0]);go_wp2;exact ⟨⟨k+1,O,N',HN.out⟩,by simp [intOf];omega⟩
   ·rw [if_neg h0] at hd;have HN:=I (HO.out.trans hd);clear hd;have ev:(xs[k] == 0) = false:=(by simp [h0]);exact rT
  ·have bz:k = xs.length:=O;subst bz;have ho:=HO.out;rw [List.drop_length] at ho;have HN:=I ho;clear ho;exact rT
theorem BU (a b:Int):-1≤Lib.compareInt a b∧Lib.compareInt a b≤1:=by
 unfold Lib.compareInt;repeat' split
 all_goals omega
theorem Sl.Va (W:World) (xs:List Int) (t:TypeId) (h:∀x∈xs,bv x) (hl:xs.length≤maxLen):Sl (W.alloc (.cells (xs.map fun n=>Value.int .i64 n).toArray t)) xs (some ⟨W.heap.size,0,none⟩) xs.length [W.heap.size] :=
 ⟨_,_,[],xs.map fun n=>.int .i64 n,rfl,Nat.le_refl _,hl,Fv _ xs h,.inr ⟨W.heap.size,0,rfl,rfl,S',fun j u hu=>by
   rw [Nat.zero_add,cell_of_row _ _ _ _ _ _ (heap_alloc_new W _)]
   simpa using hu⟩⟩
theorem Sl.PJ {α:Type} [bk α] {w:World} {xs:List α} {A:Option Addr} {c:Nat} {F:List Nat} (h:Sl w xs A c F):Sl w.drew xs A c F:=h.frame (fun _ _=>rfl) (Nat.le_refl _)
theorem bv.small {n:Int} (h:-1≤n∧n≤1):bv n:=by unfold bv;omega
theorem Sl.xT (W:World) (a b c:Int) (t:TypeId) (ha:bv a) (hb:bv b) (hc:bv c) (N:Nat) (hN:W.heap.size = N):Sl (W.alloc (.cells #[.int .i64 a,.int .i64 b,.int .i64 c] t)) [a,b,c] (some ⟨N,0,none⟩) 3 [N]:=by
 subst hN;exact Sl.Va W [a,b,c] t (by intro x hx;simp only [List.mem_cons,List.not_mem_nil,or_false] at hx;rcases hx with rfl | rfl | rfl <;> assumption) (by unfold maxLen;simp)
theorem abm (a b:ByteArray) (w:World):Calls Tryz.prog 199 #[.string a,.string b] w fun e w'=>e = .returned (.int .i64 (Lib.compareBytes a.data.toList b.data.toList))∧w' = w:=by
 go_enter Tryz.func199,Tryz.ntmps199;go_wp2;rw [run_callFunc_extern Tryz.func220 U' U' U' (e:=Extern.BytealgCompare.compare) U',Lib.run_compareString];simp only [Result.andThen];rw [Oper.upon_value];go_wp2;go_ret
 exact ⟨rfl,rfl⟩
theorem N8 (a b:ByteArray) (w:World):Calls Tryz.prog 168 #[.string a,.string b] w fun e w'=>e = .returned (.int .i64 (Lib.compareBytes a.data.toList b.data.toList))∧w' = w:=by
 go_enter Tryz.func168,Tryz.ntmps168;go_wp2_with fail
 refine (abm a b _).mono ?_;rintro e w' ⟨rfl,rfl⟩;go_wp2;go_ret
 exact ⟨rfl,rfl⟩
def cR (l:List Oper):List Nat→List Oper
 | []=>[]
 | j :: js=>match l[j]? with | some o=>o :: cR l js | none=>cR l js
section
variable {P:Program} {ops:Array Oper} {md:Region.Mode} {C:World→Prop} {Q:Exit→Act→World→Prop}
def zY:List Nat→Array Bool→Array Bool
 | [],l=>l
 | k :: ks,l=>zY ks (l.setIfInBounds k true)
def VH (md:Region.Mode) (ops:Array Oper):List Nat→Array Bool→Bool
 | [],_=>true
 | k :: ks,ar=>Region.free md ops ar k&&(Region.ready md ops ar).contains k&&VH md ops ks (ar.setIfInBounds k true)
def VI (md:Region.Mode) (ops:Array Oper):List Nat→Array Bool→Bool
 | [],ar=>(Region.ready md ops ar).isEmpty
 | k :: ks,ar=>decide (Region.ready md ops ar = [k])&&VI md ops ks (ar.setIfInBounds k true)
theorem XV:∀(l:List Oper) (ks:List Nat) (ar:Array Bool) (a:Act) (w:World),l.toArray = ops→VI md ops ks ar = true→ED P ops C Q (cR l ks) a w→wpAnyH P md ops Q C ks.length ar a w
 | l,[],ar,a,w,hl,hB,h=>by
   simp only [VI,List.isEmpty_iff] at hB;exact ⟨hB,h⟩
 | l,k :: ks,ar,a,w,hl,hB,h=>by
   simp only [VI,Bool.and_eq_true,decide_eq_true_eq] at hB;obtain ⟨_,o,ho,_⟩:=mem_ready.1 (show k∈Region.ready md ops ar by rw [hB.1];simp);have iN:l[k]? = some o:=(by rw [← hl] at ho;simpa using ho);simp only [cR,iN] at h;refine wpAnyH_all hB.1 S' fun i hi=>?_;obtain rfl:i = k:=by simpa using hi
   unfold wpOp;simp only [ho];unfold ED at h;have next:∀a' w',C w'∧ED P ops C Q (cR l ks) a' w'→C w'∧wpAnyH P md ops Q C ks.length (ar.setIfInBounds i true) a' w':=fun a' w' hh =>
    ⟨hh.1,XV l ks _ a' w' hl hB.2 hh.2⟩
   exact Kv
theorem ZM (hs:Region.noSelect ops = true) (hQ:∀c a d v w,Q (.panic c) (Act.put a d v) w→Q (.panic c) a w) {w:World} (hC:C w):∀(l:List Oper) (js:List Nat) (g:Nat) (ar:Array Bool) (a:Act),l.toArray = ops →
 VH md ops js ar = true→OQ P ops C (fun a'=>wpAnyH P md ops Q C g (zY js ar) a' w) (cR l js) a→wpAnyH P md ops Q C (g+js.length) ar a w
 | l,[],g,ar,a,hl,hB,h=>h
 | l,k :: js,g,ar,a,hl,hB,h=>by
   simp only [VH,Bool.and_eq_true] at hB;obtain ⟨_,o,ho,_⟩:=mem_ready.1 (show k∈Region.ready md ops ar by simpa using hB.1.2);have iN:l[k]? = some o:=(by rw [← hl] at ho;simpa using ho);simp only [cR,iN] at h;obtain ⟨v,hy,hn⟩:=h;refine wpAnyH_take ho hs hB.1.1 hB.1.2 (fun c a' w'=>hQ c a' _ v w') hy hC ?_;exact ZM hs hQ hC l js g _ _ hl hB.2 hn
def XW (ops:Array Oper) (js ks:List Nat):Bool:=Region.noSelect ops&&decide (ks.length+js.length = ops.size)&&VH .any ops js (Array.replicate ops.size false)&&VI .any ops ks (zY js (Array.replicate ops.size false))
theorem nS {id:Nat} {a:Act} {w:World} {l:List Oper} (w0:World) (js ks:List Nat) (hm:P.follows .mixedOrders = true) (hB:XW l.toArray js ks = true) (hQ:∀c a d v w,Q (.panic c) (Act.put a d v) w→Q (.panic c) a w)
 (hw:Below w0.heap.size w0 w) (h:OQ P l.toArray (iY w0) (fun a'=>ED P l.toArray (iY w0) Q (cR l ks) a' w.drew) (cR l js) a):(Code.region id l.toArray true).wp P Q a w:=by
 simp only [XW,Bool.and_eq_true,decide_eq_true_eq] at hB;obtain ⟨⟨⟨hs,hn⟩,hh⟩,hq⟩:=hB;have hC:iY w0 w.drew:=aA hw;refine wp_region_held_drew (S:=iY w0) hm hC fun _=>?_
 have mono:∀(m:List Oper) (b:Act),OQ P l.toArray (iY w0) (fun a'=>ED P l.toArray (iY w0) Q (cR l ks) a' w.drew) m b →
     OQ P l.toArray (iY w0) (fun a'=>wpAnyH P .any l.toArray Q (iY w0) ks.length (zY js (Array.replicate l.toArray.size false)) a' w.drew) m b:=by
  intro m;induction m with
  | nil=>intro b hb;exact XV (md:=.any) l ks _ b w.drew rfl hq hb
  | cons o m ih =>intro b ⟨v,hy,hb⟩;exact ⟨v,hy,ih _ hb⟩
 have:=ZM (md:=.any) (P:=P) (C:=iY w0) hs hQ hC l js ks.length (Array.replicate l.toArray.size false) a rfl hh (mono _ _ h);rw [hn] at this;exact this
end
def zL (p s f:Int):Bool:=(decide (0≤p)&&decide (p≤10))&&(decide (0≤s)&&decide (s≤10))&&(decide (0≤f)&&decide (f≤10))
theorem kH (n a b:Int) (w:World):Calls Tryz.prog 52 #[.int .i64 n,.int .i64 a,.int .i64 b] w fun e w'=>e = .returned (.bool (decide (a≤n)&&decide (n≤b)))∧w = w':=by
 go_enter Tryz.func52,Tryz.ntmps52;go_wp2;all_goals go_ret
 all_goals simp [*]
 all_goals omega
theorem jc (n a b:Int) (w:World):Calls Tryz.prog 68 #[.int .i64 n,.int .i64 a,.int .i64 b] w fun e w'=>e = .returned (.bool (decide (a≤n)&&decide (n≤b)))∧w = w':=by
 go_enter Tryz.func68,Tryz.ntmps68;go_wp2;all_goals go_ret
 all_goals simp [*]
 all_goals omega
theorem pW (p s f:Int) (w:World):Calls Tryz.prog 53 #[.agg #[.int .i64 p,.int .i64 s,.int .i64 f]] w fun e w'=>e = .returned (.bool (zL p s f))∧Below w.heap.size w w':=by
 go_enter Tryz.func53,Tryz.ntmps53;go_wp2_with (go_at_call 52;refine (kH _ _ _ _).mono ?_;rintro e w' ⟨rfl,rfl⟩)
 all_goals go_ret
 all_goals exact ⟨by simp [zL, *],(Below.refl _ _).alloc (Nat.le_refl _) _⟩
theorem pU (p s f:Int) (w:World):Calls Tryz.prog 69 #[.agg #[.int .i64 p,.int .i64 s,.int .i64 f]] w fun e w'=>e = .returned (.bool (zL p s f))∧Below w.heap.size w w':=by
 go_enter Tryz.func69,Tryz.ntmps69;go_wp2_with (go_at_call 68;refine (jc _ _ _ _).mono ?_;rintro e w' ⟨rfl,rfl⟩)
 all_goals go_ret
 all_goals exact ⟨by simp [zL, *],(Below.refl _ _).alloc (Nat.le_refl _) _⟩
def Gr (w w':World):Prop:=∃q os,w' = Go.Sort.grow (w.drewN q) os
theorem Gr.refl (w:World):Gr w w:=⟨0,#[],by simp [Go.Sort.grow,World.drewN]⟩
theorem Gr.alloc {w w':World} (h:Gr w w') (o:Obj):Gr w (w'.alloc o):=by
 obtain ⟨q,os,rfl⟩:=h;exact ⟨q,os.push o,by simp [Go.Sort.grow,World.alloc,World.drewN]⟩
theorem Gr.drew {w w':World} (h:Gr w w'):Gr w w'.drew:=by
 obtain ⟨q,os,rfl⟩:=h;exact ⟨q+1,os,rfl⟩
theorem Gr.trans {w w1 w2:World} (h:Gr w w1) (k:Gr w1 w2):Gr w w2:=by
 obtain ⟨q,os,rfl⟩:=h;obtain ⟨q2,os2,rfl⟩:=k;exact ⟨q+q2,os++os2,by simp [Go.Sort.grow,World.drewN,Nat.add_assoc]⟩
theorem Gr.aL {w w':World} (h:Gr w w'):Below w.heap.size w w':=by
 obtain ⟨q,os,rfl⟩:=h;exact ⟨rfl,rfl,rfl,by simp [Go.Sort.grow,World.drewN],fun k hk=>by simp [Go.Sort.grow,World.drewN,Array.getElem?_append_left hk]⟩
end Go.Proofs.YtjahcnjmjahbaaaGreat
namespace Go.Proofs.YtjahcnjmjahbaaaGreat
open Go.Shelf
def CT:Go.Shelf.Ren:={
 f:=fun x=>match x with
  | 264=>226
  | n=>n
 t:=fun x=>match x with
  | 53=>222
  | 46=>124
  | n=>n
 g:=fun n=>n }
theorem CU:Lays.n264 Tryz.prog CT:={
 mixed:=rfl
 f264:=Tryz.func226.trans (congrArg some rfl)
 t46:=Tryz.underlying124
 a46:=Tryz.isAgg124
 z46:=Tryz.sizeOf124
 v46:=Tryz.zeroValue124
 t53:=Tryz.underlying222
 a53:=Tryz.isAgg222
 z53:=Tryz.sizeOf222
 v53:=Tryz.zeroValue222 }
def ato:Go.Shelf.Ren:={
 f:=fun x=>match x with
  | 134=>237
  | 129=>241
  | n=>n
 t:=fun x=>match x with
  | 53=>222
  | 3=>3
  | 4=>4
  | 46=>124
  | 5=>5
  | 9=>9
  | n=>n
 g:=fun n=>n }
theorem atp:Lays.n134 Tryz.prog ato:={
 mixed:=rfl
 f129:=Tryz.func241.trans (congrArg some rfl)
 f134:=Tryz.func237.trans (congrArg some rfl)
 t3:=Tryz.underlying3
 a3:=Tryz.isAgg3
 z3:=Tryz.sizeOf3
 v3:=Tryz.zeroValue3
 t4:=Tryz.underlying4
 a4:=Tryz.isAgg4
 z4:=Tryz.sizeOf4
 v4:=Tryz.zeroValue4
 t5:=Tryz.underlying5
 a5:=Tryz.isAgg5
 z5:=Tryz.sizeOf5
 v5:=Tryz.zeroValue5
 t9:=Tryz.underlying9
 a9:=Tryz.isAgg9
 z9:=Tryz.sizeOf9
 v9:=Tryz.zeroValue9
 t46:=Tryz.underlying124
 a46:=Tryz.isAgg124
 z46:=Tryz.sizeOf124
 v46:=Tryz.zeroValue124
 t53:=Tryz.underlying222
 a53:=Tryz.isAgg222
 z53:=Tryz.sizeOf222
 v53:=Tryz.zeroValue222 }
theorem ap5 (x y:Nat) (hx:x < 18446744073709551616) (hy:y < 18446744073709551616) (w:World) :
 Calls Tryz.prog 226 #[.int .u64 x,.int .u64 y] w fun e w'=>e = .returned (.tuple #[.int .u64 ((x * y / 18446744073709551616:Nat):Int),.int .u64 ((x * y % 18446744073709551616:Nat):Int)])∧w' = w:=Any.bits_Mul64 CU x y hx hy w
theorem aaq (x:Int) (w:World) (h0:0≤x) (h1:x≤18446744073709551615) :
 Calls Tryz.prog 237 #[.int .u64 x] w fun e w'=>e = .returned (.int .i64 (64 - (Lib.bitLen x.toNat:Int)))∧w' = w:=Any.bits_LeadingZeros64 atp x w h0 h1
end Go.Proofs.YtjahcnjmjahbaaaGreat
