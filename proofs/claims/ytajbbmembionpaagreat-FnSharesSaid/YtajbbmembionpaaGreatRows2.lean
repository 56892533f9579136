/- Rows of right elements, each less than the next. No condition. -/
import Derived.Test.YtajbbmembionpaaGreatShare
import Derived.Laws.Cover1
namespace Go.Proofs.YtajbbmembionpaaGreat
open Go.ChangeShapes Go.WideShapes Go.ChangeAt Go.RowKit
set_option linter.unusedVariables false
set_option linter.unusedSimpArgs false
set_option maxHeartbeats 2000000
set_option maxRecDepth 100000
theorem aJ {α:Type} [bc α] {w w':World} {x:α} {cs:List Value} {F:List Nat} (h:rd w x cs F) (X:Below w.heap.size w w'):rd w' x cs F :=
 bc.frame h (fun b ek=>X.block b (bc.lt h b ek)) X.size
theorem YG {p:Nat→Bool} {n:Nat} (h:∀j,j < n→p j = true):(List.range n).all p = true:=by
 rw [List.all_eq_true];intro x hx;exact h x (List.mem_range.1 hx)
theorem YF {p:Nat→Bool} {n k:Nat} (hk:k < n) (h:p k = false):(List.range n).all p = false:=by
 rw [List.all_eq_false];exact ⟨k,List.mem_range.2 hk,by simp [h]⟩
theorem gq {p:Nat→Bool} {k:Nat} (h:∀j,j < k→p j = true) (hp:p k = true):∀j,j < k+1→p j = true:=fun j hj=>by
 rcases Nat.lt_or_ge j k with h1 | h1
 ·exact h j h1
 ·obtain rfl:j = k:=by omega
  exact hp
def bS {α:Type} (ok:α→Bool) (less:α→α→Bool) (xs:List α) (k:Nat):Bool :=
 match xs[k]? with
 | none=>false
 | some l=>ok l&&(match k with | 0=>true | j+1=>match xs[j]? with | none=>false | some p=>less p l)
theorem cF {α:Type} {ok:α→Bool} {less:α→α→Bool} {xs:List α} (h:0 < xs.length):bS ok less xs 0 = ok xs[0]:=by
 unfold bS;rw [List.getElem?_eq_getElem h];simp
theorem yS {α:Type} {ok:α→Bool} {less:α→α→Bool} {xs:List α} {j:Nat} (h:j+1 < xs.length):bS ok less xs (j+1) = (ok xs[j+1]&&less xs[j] xs[j+1]):=by
 simp only [bS,List.getElem?_eq_getElem h,List.getElem?_eq_getElem (show j < xs.length by omega)]
def nd {α:Type} (ok:α→Bool) (less:α→α→Bool) (most:Int) (xs:List α):Bool:=decide ((xs.length:Int)≤most)&&(List.range xs.length).all (bS ok less xs)
theorem wU {α:Type} {ok:α→Bool} {less:α→α→Bool} {most:Int} {xs:List α} {k:Nat} (hk:k < xs.length) (h:bS ok less xs k = false):nd ok less most xs = false:=by unfold nd;rw [YF hk h];simp
theorem Jz {α:Type} {ok:α→Bool} {less:α→α→Bool} {most:Int} {xs:List α} (h:¬(xs.length:Int)≤most):nd ok less most xs = false:=by unfold nd;simp [h]
theorem Jy {α:Type} {ok:α→Bool} {less:α→α→Bool} {most:Int} {xs:List α} (hl:(xs.length:Int)≤most) (h:∀j,j < xs.length→bS ok less xs j = true):nd ok less most xs = true:=by unfold nd;rw [YG h];simp [hl]
def bl (a b:ByteArray):Bool:=Op.bytesLess a.toList b.toList
def uh (x:aM):Bool:=Cm x.key&&(decide (1≤x.op)&&decide (x.op≤4))&&(if 2 < x.op then decide (x.values.length = 0) else decide (1≤x.values.length)&&nd AQ bl 4 x.values)
theorem W5 {x:aM} (h:Cm x.key = false):uh x = false:=by unfold uh;rw [h];simp
theorem W6 {x:aM} (h:¬(1≤x.op∧x.op≤4)):uh x = false:=by
 have:(decide (1≤x.op)&&decide (x.op≤4)) = false:=by rw [← Bool.not_eq_true,Bool.and_eq_true,decide_eq_true_eq,decide_eq_true_eq];exact h
 unfold uh;rw [this];simp
theorem W7 {x:aM} (hk:Cm x.key = true) (h:1≤x.op∧x.op≤4) (h2:2 < x.op):uh x = decide (x.values.length = 0):=by
 unfold uh;rw [hk,if_pos h2];simp [h.1,h.2]
theorem W8 {x:aM} (hk:Cm x.key = true) (h:1≤x.op∧x.op≤4) (h2:¬2 < x.op):uh x = (decide (1≤x.values.length)&&nd AQ bl 4 x.values):=by
 unfold uh;rw [hk,if_neg h2];simp [h.1,h.2]
theorem ahM (x:bH) (y:iU) (cs ds:List Value) (F G:List Nat) (w:World) (h:rd w x cs F) (h':rd w y ds G) (gd:(x.key.size:Int)≤1048576) (mT:(x.value.size:Int)≤1048576) (sA:(y.key.size:Int)≤1048576) (j':(y.value.size:Int)≤1048576) :
 Calls Tryz.prog 89 #[.agg cs.toArray,.agg ds.toArray] w fun e w'=>e = .returned (.bool (AY x y))∧Below w.heap.size w w':=by
 obtain ⟨aE,hF1,xO,xk,zT⟩:=jv h;obtain ⟨jU,nW,vC,rP,uY⟩:=oK h';subst aE jU;subst hF1 nW;go_enter Tryz.func89,Tryz.ntmps89
 go_wp2_with (first
  | (go_at_call 136;refine (Na x _ [] _ (aJ h bJ) gd mT).mono ?_;rintro e w2 ⟨rfl,ar⟩;obtain ⟨cq,cL⟩:=ay ar;have cw:w.heap.size+1 < w2.heap.size:=(sq ar.size);have ke:w.heap.size < w2.heap.size:=J)
  | (go_at_call 137;refine (V9 y _ [] _ (aJ h' bJ) sA j').mono ?_;rintro e w3 ⟨rfl,bb⟩;obtain ⟨dm,hf3⟩:=ay bb;have cU:w.heap.size+1 < w3.heap.size:=(sq bb.size);have ui:w.heap.size < w3.heap.size:=J))
 all_goals first
  | (go_ret;refine ⟨?_,bJ⟩;refine congrArg (fun b=>Ending.returned (Value.bool b)) ?_;show (_:Bool) = _;(try clear cq cL ar);(try clear dm hf3 bb);unfold AY;(try simp only [Kz]);first | (simp [*];done) | (simp_all;done) | (simp_all;omega) | (simp_all;exact Bool.or_comm _ _))
  | skip
theorem ahN (x:bH) (y:iU) (cs ds:List Value) (F G:List Nat) (w:World) (h:rd w x cs F) (h':rd w y ds G) (gd:(x.key.size:Int)≤1048576) (mT:(x.value.size:Int)≤1048576) (sA:(y.key.size:Int)≤1048576) (j':(y.value.size:Int)≤1048576) :
 Calls Tryz.prog 154 #[.agg cs.toArray,.agg ds.toArray] w fun e w'=>e = .returned (.bool (AY x y))∧Below w.heap.size w w':=by
 obtain ⟨aE,hF1,xO,xk,zT⟩:=jv h;obtain ⟨jU,nW,vC,rP,uY⟩:=oK h';subst aE jU;subst hF1 nW;go_enter Tryz.func154,Tryz.ntmps154
 go_wp2_with (first
  | (go_at_call 126;refine (Nb x _ [] _ (aJ h bJ) gd mT).mono ?_;rintro e w2 ⟨rfl,ar⟩;obtain ⟨cq,cL⟩:=ay ar;have cw:w.heap.size+1 < w2.heap.size:=(sq ar.size);have ke:w.heap.size < w2.heap.size:=J)
  | (go_at_call 138;refine (Wh y _ [] _ (aJ h' bJ) sA j').mono ?_;rintro e w3 ⟨rfl,bb⟩;obtain ⟨dm,hf3⟩:=ay bb;have cU:w.heap.size+1 < w3.heap.size:=(sq bb.size);have ui:w.heap.size < w3.heap.size:=J))
 all_goals first
  | (go_ret;refine ⟨?_,bJ⟩;refine congrArg (fun b=>Ending.returned (Value.bool b)) ?_;show (_:Bool) = _;(try clear cq cL ar);(try clear dm hf3 bb);unfold AY;(try simp only [Kz]);first | (simp [*];done) | (simp_all;done) | (simp_all;omega) | (simp_all;exact Bool.or_comm _ _))
  | skip
def zX (l:ap):Bool:=Cm l.key&&AQ l.value
def zi (a b:ap):Bool:=Op.bytesLess a.key.toList b.key.toList
def sD (xs:List ap):Bool:=nd zX zi 6 xs
theorem Jw (xs:List ap) (A:Option Addr) (n c:Nat) (F:List Nat) (w:World) (h:Sl w xs A c F) (Z:n = xs.length) (hl:(xs.length:Int)≤1048576) (cP:∀l∈xs,(l.key.size:Int)≤1048576∧(l.value.size:Int)≤1048576) :
 Calls Tryz.prog 75 #[.slice A n c] w fun e w'=>e = .returned (.bool (sD xs))∧Below w.heap.size w w':=by
 subst Z;have Eo:=I cP;clear cP;by_cases hm:(xs.length:Int)≤6
 ·go_enter Tryz.func75,Tryz.ntmps75;go_wp2_with fail
  go_loopw [3] (fun i wr=>∃k:Nat,k≤xs.length∧i = .int .i64 k∧Hid (∀j,j < k→bS zX zi xs j = true)∧Below w.heap.size w wr) (fun i _=>xs.length - (intOf i).toNat)
  case atStart=>exact ⟨0,Nat.zero_le _,rfl,(fun j hj=>by omega),bJ⟩
  case round =>
   obtain ⟨k,hk,rfl,hall,aR⟩:=hrel;by_cases ax:k < xs.length
   ·obtain rfl | ⟨j,rfl⟩:k = 0∨∃j,k = j+1:=by cases k with | zero=>exact .inl rfl | succ j=>exact .inr ⟨j,rfl⟩
    ·obtain ⟨b,o,ck,Fk,rfl,o9,hbs,hr,bB,hc⟩:=(Sl.ext (w':=wr) (A:=A) (c:=c) h aR).get ax;obtain ⟨aE,su,cf,kP⟩:=vO hr;subst aE;obtain ⟨q0,q1⟩:=I2 2 hc;clear hc;simp only [Nat.zero_mul,Nat.add_zero] at q0 q1;have dB:=(Eo.out xs[0] (List.getElem_mem ..)).1;have cR:=(Eo.out xs[0] (List.getElem_mem ..)).2;cases h1:Cm xs[0].key <;> cases h2:AQ xs[0].value
     all_goals
      have hp:=cF (ok:=zX) (less:=zi) ax;unfold zX at hp;rw [h1,h2] at hp;simp only [Bool.false_and,Bool.and_false,Bool.and_true,Bool.and_self] at hp;change bS zX zi xs _ = _ at hp;have H1:=I h1;have H2:=I h2
      first
       | have HN:=I (gq hall.out hp)
       | have HF:=I (wU (most:=6) ax hp)
      clear h1 h2 hp;go_wp2_with fail
      refine aF _ U' U' (aj _) ?_
      repeat (first
       | (apply aG
          case hw=>rfl
          simp only [Act.put,pz])
       | (apply aH
          case hw=>rfl
          case h =>
           intro wq hq;have ee:=(aB hq).1;have lJ:=(aB hq).2;go_simp
           first
            | exact ⟨hq,rfl⟩
            | exact ⟨aQ hq _,rfl⟩
            | (first | (refine (qK xs[0].key _ dB).mono ?_;rw [H1.out];rintro e w2 ⟨rfl,ar⟩;exact ⟨rfl,aI hq ar⟩) | (refine (vH xs[0].value _ cR).mono ?_;rw [H2.out];rintro e w2 ⟨rfl,ar⟩;exact ⟨rfl,aI hq ar⟩))
            | (simp only [↓IntWalk.iteOmega];exact ⟨hq,rfl⟩)
          simp only [Act.put,pz]))
      refine aN ?_;intro wn Z;replace Z:=Z.out;go_wp2
      first
       | exact ⟨⟨0+1,J,N',HN.out,ah aR Z⟩,by simp [intOf];omega⟩
       | (go_ret;exact ⟨by unfold sD;rw [HF.out];rfl,ah aR Z⟩)
    ·obtain ⟨b,o,ck,Fk,rfl,o9,hbs,hr,bB,hc⟩:=(Sl.ext (w':=wr) (A:=A) (c:=c) h aR).get ax;obtain ⟨aE,su,cf,kP⟩:=vO hr;subst aE;obtain ⟨q0,q1⟩:=I2 2 hc;clear hc;obtain ⟨b',o',TY,Xw,e,Ht,hbs',d',zQ,hc'⟩:=Sl.get (Sl.ext (w':=wr) (c:=c) h aR) (show j < xs.length by omega);obtain ⟨jU,abT,vC,rP⟩:=vO d';subst jU;obtain ⟨rfl,rfl⟩:b' = b∧o' = o:=by simpa using e.symm
     clear e;obtain ⟨p0,p1⟩:=I2 2 hc';clear hc';have AJ:IntKind.i64.wrap (j:Int) = j:=IntWalk.i64_in _ J;have mW:j < xs.length:=J;have dB:=(Eo.out xs[j+1] (List.getElem_mem ..)).1;have cR:=(Eo.out xs[j+1] (List.getElem_mem ..)).2;cases h1:Cm xs[j+1].key <;> cases h2:AQ xs[j+1].value <;> cases h3:Op.bytesLess xs[j].key.toList xs[j+1].key.toList
     all_goals
      have hp:=yS (ok:=zX) (less:=zi) ax;unfold zX zi at hp;rw [h1,h2,h3] at hp;simp only [Bool.false_and,Bool.and_false,Bool.and_true,Bool.and_self] at hp;change bS zX zi xs _ = _ at hp;have H1:=I h1;have H2:=I h2
      first
       | have HN:=I (gq hall.out hp)
       | have HF:=I (wU (most:=6) ax hp)
      clear h1 h2 hp;go_wp2_with fail
      refine aF _ U' U' (aj _) ?_
      repeat (first
       | (apply aG
          case hw=>rfl
          simp only [Act.put,pz])
       | (apply aH
          case hw=>rfl
          case h =>
           intro wq hq;have ee:=(aB hq).1;have lJ:=(aB hq).2;go_simp
           first
            | exact ⟨hq,rfl⟩
            | exact ⟨aQ hq _,rfl⟩
            | (first | (refine (qK xs[j+1].key _ dB).mono ?_;rw [H1.out];rintro e w2 ⟨rfl,ar⟩;exact ⟨rfl,aI hq ar⟩) | (refine (vH xs[j+1].value _ cR).mono ?_;rw [H2.out];rintro e w2 ⟨rfl,ar⟩;exact ⟨rfl,aI hq ar⟩))
            | (simp only [↓IntWalk.iteOmega];exact ⟨hq,rfl⟩)
          simp only [Act.put,pz]))
      refine aN ?_;intro wn Z;replace Z:=Z.out;go_wp2
      first
       | exact ⟨⟨j+1+1,J,N',HN.out,ah aR Z⟩,by simp [intOf];omega⟩
       | (go_ret;exact ⟨by unfold sD;rw [HF.out];rfl,ah aR Z⟩)
   ·have bF:k = xs.length:=J;subst bF;have HF:=I (Jy hm hall.out);go_wp2;go_ret
    exact ⟨by unfold sD;rw [HF.out];rfl,aR⟩
 ·have HF:=I (Jz (ok:=zX) (less:=zi) hm);go_enter Tryz.func75,Tryz.ntmps75;go_wp2;go_ret
  exact ⟨by unfold sD;rw [HF.out];rfl,bJ⟩
theorem Rx (x:aM) (cs:List Value) (F:List Nat) (w:World) (h:rd w x cs F) (gd:(x.key.size:Int)≤1048576) (hl:(x.values.length:Int)≤1048576) (cP:∀v∈x.values,(v.size:Int)≤1048576) :
 Calls Tryz.prog 125 #[.agg cs.toArray] w fun e w'=>e = .returned (.bool (uh x))∧Below w.heap.size w w':=by
 have Eo:=I cP;clear cP;obtain ⟨jy,ji,Bo,aE,qp,cf,ia,kV⟩:=og h;subst aE;clear qp;cases hK:Cm x.key with
 | false =>have HF:=I (W5 hK);have HK:=I hK;clear hK;exact sT
 | true =>
   have HK:=I hK;by_cases ia:1≤x.op∧x.op≤4
   ·by_cases h2:2 < x.op
    ·have hg:=W7 hK ia h2;obtain ⟨tx,hop2⟩:=ia;by_cases h0:x.values.length = 0
     ·rw [decide_eq_true h0] at hg;have HF:=I hg;have H0:=I h0;clear hK hg h0;go_enter Tryz.func125,Tryz.ntmps125;go_wp2_with fail
      refine (qK x.key _ gd).mono ?_;rw [HK.out];rintro e w2 ⟨rfl,ar⟩;obtain ⟨cq,cL⟩:=ay ar;have cw:w.heap.size < w2.heap.size:=(by have:=ar.size;simp at this;omega);have ei:w2.cell? ⟨w.heap.size,1,none⟩ = some (.int .i64 x.op):=(by rw [cq _ _ S',cell_of_row _ _ _ _ _ _ (heap_alloc_new w _)];rfl);have lR:w2.cell? ⟨w.heap.size,2,none⟩ = some (.slice jy x.values.length ji):=(by rw [cq _ _ S',cell_of_row _ _ _ _ _ _ (heap_alloc_new w _)];rfl);have eM:Below w.heap.size w w2:=bJ;clear cq cL;have Xa:((x.values.length:Int) == 0) = true:=(by simp [H0.out]);go_wp2;go_ret
      exact ⟨by rw [HF.out];first | rfl | simp_all,eM⟩
     ·rw [decide_eq_false h0] at hg;have HF:=I hg;have Xa:((x.values.length:Int) == 0) = false:=(by rw [beq_eq_false_iff_ne];omega);clear hK hg;exact sT
    ·have HI:=I (W8 hK ia h2);obtain ⟨tx,hop2⟩:=ia;have h2':x.op≤2:=J;clear hK;go_enter Tryz.func125,Tryz.ntmps125;go_wp2_with fail
     refine (qK x.key _ gd).mono ?_;rw [HK.out];rintro e w2 ⟨rfl,ar⟩;obtain ⟨cq,cL⟩:=ay ar;have cw:w.heap.size < w2.heap.size:=(by have:=ar.size;simp at this;omega);have ei:w2.cell? ⟨w.heap.size,1,none⟩ = some (.int .i64 x.op):=(by rw [cq _ _ S',cell_of_row _ _ _ _ _ _ (heap_alloc_new w _)];rfl);have lR:w2.cell? ⟨w.heap.size,2,none⟩ = some (.slice jy x.values.length ji):=(by rw [cq _ _ S',cell_of_row _ _ _ _ _ _ (heap_alloc_new w _)];rfl);have eM:Below w.heap.size w w2:=bJ;clear cq cL;by_cases lI:1≤x.values.length
     ·have Xb:(1:Int)≤x.values.length:=J;by_cases hm:(x.values.length:Int)≤4
      ·go_wp2;go_loopw [3] (fun i wr=>∃k:Nat,k≤x.values.length∧i = .int .i64 k∧Hid (∀j,j < k→bS AQ bl x.values j = true)∧wr.cell? ⟨w.heap.size,2,none⟩ = some (.slice jy x.values.length ji)∧Below w.heap.size w wr) (fun i _=>x.values.length - (intOf i).toNat)
       case atStart=>exact ⟨0,Nat.zero_le _,rfl,(fun j hj=>by omega),lR,eM⟩
       case round =>
        obtain ⟨k,hk,rfl,hall,aK,aR⟩:=hrel;have fV:w.heap.size < wr.heap.size:=World.block_lt_of_cell? wr _ aK;by_cases ax:k < x.values.length
        ·obtain rfl | ⟨j,rfl⟩:k = 0∨∃j,k = j+1:=by cases k with | zero=>exact .inl rfl | succ j=>exact .inr ⟨j,rfl⟩
         ·obtain ⟨b,o,ck,Fk,rfl,o9,hbs,hr,bB,hc⟩:=(Sl.ext (w':=wr) (A:=jy) (c:=ji) kV aR).get ax;obtain ⟨aE,su,gT⟩:=hr;subst aE su;have q0:wr.cell? ⟨b,o+0,none⟩ = some (.string x.values[0]):=(by have:=hc 0 _ rfl;rwa [show o+(0 * bc.size ByteArray+0) = o+0 from by show o+(0 * 1+0) = _;omega] at this);clear hc;simp only [Nat.add_zero] at q0;have dB:=Eo.out x.values[0] (List.getElem_mem ..);cases h1:AQ x.values[0]
          all_goals
           have hp:=cF (ok:=AQ) (less:=bl) ax;rw [h1] at hp;try simp only [Bool.false_and,Bool.and_false,Bool.and_true,Bool.and_self] at hp
           change bS AQ bl x.values _ = _ at hp;have H1:=I h1
           first
            | have HN:=I (gq hall.out hp)
            | have HF:=I (show uh x = false by rw [HI.out,wU (most:=4) ax hp];simp)
           clear h1 hp;go_wp2_with fail
           refine aF _ U' U' (aj _) ?_
           repeat (first
            | (apply aG
               case hw=>rfl
               simp only [Act.put,pz])
            | (apply aH
               case hw=>rfl
               case h =>
                intro wq hq;have ee:=(aB hq).1;have lJ:=(aB hq).2;go_simp
                first
                 | exact ⟨hq,rfl⟩
                 | exact ⟨aQ hq _,rfl⟩
                 | ((refine (vH x.values[0] _ dB).mono ?_;rw [H1.out];rintro e w2 ⟨rfl,ar⟩;exact ⟨rfl,aI hq ar⟩))
                 | (simp only [↓IntWalk.iteOmega];exact ⟨hq,rfl⟩)
               simp only [Act.put,pz]))
           refine aN ?_;intro wn Z;replace Z:=Z.out;go_wp2
           first
            | exact ⟨⟨0+1,J,N',HN.out,((ay Z).1 _ _ fV).trans aK,ah aR Z⟩,by simp [intOf];omega⟩
            | (go_ret;exact ⟨by rw [HF.out];rfl,ah aR Z⟩)
            | (go_roundw
               case rel=>exact ⟨0+1,J,N',HN.out,((ay Z).1 _ _ fV).trans aK,ah aR Z⟩
               case measure=>simp [intOf];omega)
         ·obtain ⟨b,o,ck,Fk,rfl,o9,hbs,hr,bB,hc⟩:=(Sl.ext (w':=wr) (A:=jy) (c:=ji) kV aR).get ax;obtain ⟨aE,su,gT⟩:=hr;subst aE su;have q0:wr.cell? ⟨b,o+(j+1),none⟩ = some (.string x.values[j+1]):=(by have:=hc 0 _ rfl;rwa [show o+((j+1) * bc.size ByteArray+0) = o+(j+1) from by show o+((j+1) * 1+0) = _;omega] at this);clear hc;obtain ⟨b',o',TY,Xw,e,Ht,hbs',d',zQ,hc'⟩:=Sl.get (Sl.ext (w':=wr) (c:=ji) kV aR) (show j < x.values.length by omega);obtain ⟨jU,abT,hsz2⟩:=d';subst jU;obtain ⟨rfl,rfl⟩:b' = b∧o' = o:=by simpa using e.symm
          clear e;have p0:wr.cell? ⟨b',o'+j,none⟩ = some (.string x.values[j]):=(by have:=hc' 0 _ rfl;rwa [show o'+(j * bc.size ByteArray+0) = o'+j from by show o'+(j * 1+0) = _;omega] at this);clear hc';have AJ:IntKind.i64.wrap (j:Int) = j:=IntWalk.i64_in _ J;have mW:j < x.values.length:=J;have dB:=Eo.out x.values[j+1] (List.getElem_mem ..);cases h1:AQ x.values[j+1] <;> cases h3:Op.bytesLess x.values[j].toList x.values[j+1].toList
          all_goals
           have hp:=yS (ok:=AQ) (less:=bl) ax;unfold bl at hp;rw [h1,h3] at hp;try simp only [Bool.false_and,Bool.and_false,Bool.and_true,Bool.and_self] at hp
           change bS AQ bl x.values _ = _ at hp;have H1:=I h1
           first
            | have HN:=I (gq hall.out hp)
            | have HF:=I (show uh x = false by rw [HI.out,wU (most:=4) ax hp];simp)
           clear h1 hp;go_wp2_with fail
           refine aF _ U' U' (aj _) ?_
           repeat (first
            | (apply aG
               case hw=>rfl
               simp only [Act.put,pz])
            | (apply aH
               case hw=>rfl
               case h =>
                intro wq hq;have ee:=(aB hq).1;have lJ:=(aB hq).2;go_simp
                first
                 | exact ⟨hq,rfl⟩
                 | exact ⟨aQ hq _,rfl⟩
                 | ((refine (vH x.values[j+1] _ dB).mono ?_;rw [H1.out];rintro e w2 ⟨rfl,ar⟩;exact ⟨rfl,aI hq ar⟩))
                 | (simp only [↓IntWalk.iteOmega];exact ⟨hq,rfl⟩)
               simp only [Act.put,pz]))
           refine aN ?_;intro wn Z;replace Z:=Z.out;go_wp2
           first
            | exact ⟨⟨j+1+1,J,N',HN.out,((ay Z).1 _ _ fV).trans aK,ah aR Z⟩,by simp [intOf];omega⟩
            | (go_ret;exact ⟨by rw [HF.out];rfl,ah aR Z⟩)
            | (go_roundw
               case rel=>exact ⟨j+1+1,J,N',HN.out,((ay Z).1 _ _ fV).trans aK,ah aR Z⟩
               case measure=>simp [intOf];omega)
        ·have bF:k = x.values.length:=J;subst bF;have HF:=I (show uh x = true by rw [HI.out,Jy hm hall.out];simp [lI]);go_wp2;go_ret
         exact ⟨by rw [HF.out];first | rfl | simp_all,aR⟩
      ·have HF:=I (show uh x = false by rw [HI.out,Jz (ok:=AQ) (less:=bl) hm];simp);have hd5:decide ((x.values.length:Int)≤4) = false:=(by simp;omega);go_wp2;go_ret
       exact ⟨by rw [HF.out];rfl,eM⟩
     ·have HF:=I (show uh x = false by rw [HI.out];simp [lI]);have lz:(x.values.length:Int) < 1:=J;go_wp2;go_ret
      exact ⟨by rw [HF.out];rfl,eM⟩
   ·have HF:=I (W6 ia);clear hK;by_cases h1:x.op < 1
    ·exact sT
    ·have WY:1≤x.op:=J;have h4':4 < x.op:=J;have hd4:decide (x.op≤4) = false:=(by simp;omega);exact sT
end Go.Proofs.YtajbbmembionpaaGreat
