/- TolerancesOk, of the program and of the reference. No condition. -/
import Derived.Test.YtjahcnjmjahbaaaGreatValCmp
import Derived.Lib.SlicesCompact
namespace Go.Proofs.YtjahcnjmjahbaaaGreat
open Go.ChangeShapes Go.WideShapes Go.ChangeAt Go.RowKit
set_option linter.unusedVariables false
set_option linter.unusedSimpArgs false
set_option maxHeartbeats 2000000
set_option maxRecDepth 100000
def Ya (xs:List bH):Bool:=lE Q5 vJ 4 xs
theorem RH (xs:List bH) (A:Option Addr) (n c:Nat) (F:List Nat) (w:World) (h:Sl w xs A c F) (hn:n = xs.length) (hl:(xs.length:Int)≤1048576) (cX:∀l∈xs,(l.key.size:Int)≤1048576∧(l.value.size:Int)≤1048576) :
 Calls Tryz.prog 79 #[.slice A n c] w fun e w'=>e = .returned (.bool (Ya xs))∧Below w.heap.size w w':=by
 subst hn;have Eo:=I cX;clear cX;go_enter Tryz.func79,Tryz.ntmps79;go_wp2_with fail
 go_loopw [7] (fun i wr=>∃k:Nat,k≤xs.length∧i = .int .i64 k∧Hid (∀j,j < k→bB Q5 vJ xs j = true)∧Below w.heap.size w wr) (fun i _=>xs.length - (intOf i).toNat)
 case atStart=>exact ⟨0,Nat.zero_le _,rfl,(fun j hj=>by omega),bs⟩
 case round =>
  obtain ⟨k,hk,rfl,hall,aE⟩:=hrel;by_cases ap:k < xs.length
  ·obtain rfl | ⟨j,rfl⟩:k = 0∨∃j,k = j+1:=by cases k with | zero=>exact .inl rfl | succ j=>exact .inr ⟨j,rfl⟩
   ·obtain ⟨b,o,ck,Fk,rfl,o9,hbs,hr,bv,hc⟩:=(Sl.ext (w':=wr) (A:=A) (c:=c) h aE).get ap;obtain ⟨aw,su,ca,kP,lD⟩:=jv hr;subst aw;obtain ⟨q0,q1,q2,q3⟩:=qT 4 hc;clear hc;simp only [Nat.zero_mul,Nat.add_zero] at q0 q1 q2 q3;have cJ:=(Eo.out xs[0] (List.getElem_mem ..)).1;have cE:=(Eo.out xs[0] (List.getElem_mem ..)).2;subst su;have cS:=hr;cases h1:Q5 xs[0]
    all_goals
     have hp:=bR (ok:=Q5) (less:=vJ) ap;rw [h1] at hp;try simp only [Bool.false_and,Bool.and_false,Bool.and_true,Bool.and_self] at hp
     change bB Q5 vJ xs _ = _ at hp;have H1:=I h1
     first
      | have HN:=I (gq hall.out hp)
      | have HF:=I (wU (most:=4) ap hp)
     clear h1 hp;go_wp2_with fail
     refine aF _ U' U' (aj _) ?_
     repeat (first
      | (apply aG
         case hw=>rfl
         simp only [Act.put,pz])
      | (apply aH
         case hw=>rfl
         case h =>
          intro wq hq;have dc:=(aB hq).1;have lJ:=(aB hq).2;go_simp
          first
           | exact ⟨hq,rfl⟩
           | exact ⟨aQ hq _,rfl⟩
           | (first | (refine (Na xs[0] _ [] _ (aJ cS vE) cJ cE).mono ?_;rw [H1.out];rintro e w2 ⟨rfl,av⟩;exact ⟨rfl,aI hq av⟩) | (refine (mC.out _ sE).mono ?_;rintro e w2 ⟨rfl,av⟩;exact ⟨rfl,aI hq av⟩))
           | (simp only [↓IntWalk.iteOmega];exact ⟨hq,rfl⟩)
         simp only [Act.put,pz]))
     refine aN ?_;intro wn hn;replace hn:=hn.out;go_wp2
     first
      | exact ⟨⟨0+1,J,N',HN.out,ah (ak aE _) hn⟩,by simp [intOf];omega⟩
      | (go_ret;exact ⟨by unfold Ya;rw [HF.out];rfl,ah (ak aE _) hn⟩)
   ·obtain ⟨b,o,ck,Fk,rfl,o9,hbs,hr,bv,hc⟩:=(Sl.ext (w':=wr) (A:=A) (c:=c) h aE).get ap;obtain ⟨aw,su,ca,kP,lD⟩:=jv hr;subst aw;obtain ⟨q0,q1,q2,q3⟩:=qT 4 hc;clear hc;obtain ⟨b',o',TY,Xw,e,Ht,hbs',cN,zQ,hc'⟩:=Sl.get (Sl.ext (w':=wr) (c:=c) h aE) (show j < xs.length by omega);obtain ⟨jU,abT,vC,rP,uY⟩:=jv cN;subst jU;obtain ⟨rfl,rfl⟩:b' = b∧o' = o:=by simpa using e.symm
    clear e;obtain ⟨p0,p1,p2,p3⟩:=qT 4 hc';clear hc';have pa:IntKind.i64.wrap (j:Int) = j:=IntWalk.i64_in _ J;have gC:j < xs.length:=J;have cJ:=(Eo.out xs[j+1] (List.getElem_mem ..)).1;have cE:=(Eo.out xs[j+1] (List.getElem_mem ..)).2;subst su;have cS:=hr;cases h1:Q5 xs[j+1] <;> cases h3:vJ xs[j] xs[j+1]
    all_goals
     have hp:=yS (ok:=Q5) (less:=vJ) ap;rw [h1,h3] at hp;try simp only [Bool.false_and,Bool.and_false,Bool.and_true,Bool.and_self] at hp
     change bB Q5 vJ xs _ = _ at hp;have H1:=I h1
     first
      | have HN:=I (gq hall.out hp)
      | have HF:=I (wU (most:=4) ap hp)
     have hC:∀wq,Below wr.heap.size wr wq→Calls Tryz.prog 130 #[.agg #[.string xs[j].key,.bool xs[j].equal,.string xs[j].value,.int .i64 xs[j].al],.agg #[.string xs[j+1].key,.bool xs[j+1].equal,.string xs[j+1].value,.int .i64 xs[j+1].al]] wq fun e w'=>e = .returned (.int .i64 (Qa (o5 xs[j] xs[j+1])))∧Below wq.heap.size wq w' :=
      fun wq hq=>Xd xs[j] xs[j+1] _ _ _ _ _ (aJ cN hq) (aJ cS hq)
     have mC:=I hC;clear hC;have hz:=h3;unfold vJ at hz;simp only [decide_eq_true_eq,decide_eq_false_iff_not,Int.not_lt] at hz;generalize Qa (o5 xs[j] xs[j+1]) = z at mC hz;clear h1 hp;go_wp2_with fail
     refine aF _ U' U' (aj _) ?_
     repeat (first
      | (apply aG
         case hw=>rfl
         simp only [Act.put,pz])
      | (apply aH
         case hw=>rfl
         case h =>
          intro wq hq;have dc:=(aB hq).1;have lJ:=(aB hq).2;go_simp
          first
           | exact ⟨hq,rfl⟩
           | exact ⟨aQ hq _,rfl⟩
           | (first | (refine (Na xs[j+1] _ [] _ (aJ cS vE) cJ cE).mono ?_;rw [H1.out];rintro e w2 ⟨rfl,av⟩;exact ⟨rfl,aI hq av⟩) | (refine (mC.out _ sE).mono ?_;rintro e w2 ⟨rfl,av⟩;exact ⟨rfl,aI hq av⟩))
           | (simp only [↓IntWalk.iteOmega];exact ⟨hq,rfl⟩)
         simp only [Act.put,pz]))
     refine aN ?_;intro wn hn;replace hn:=hn.out;go_wp2
     first
      | exact ⟨⟨j+1+1,J,N',HN.out,ah (ak aE _) hn⟩,by simp [intOf];omega⟩
      | (go_ret;exact ⟨by unfold Ya;rw [HF.out];rfl,ah (ak aE _) hn⟩)
  ·have bx:k = xs.length:=J;subst bx;by_cases hm:(xs.length:Int)≤4
   ·have HF:=I (Jy hm hall.out);go_wp2;go_ret
    exact ⟨by unfold Ya;rw [HF.out];first | rfl | simp [hm],aE⟩
   ·have HF:=I (Jz (ok:=Q5) (less:=vJ) hm);go_wp2;go_ret
    exact ⟨by unfold Ya;rw [HF.out];first | rfl | simp [hm],aE⟩
theorem RI (xs:List bH) (A:Option Addr) (n c:Nat) (F:List Nat) (w:World) (h:Sl w xs A c F) (hn:n = xs.length) (hl:(xs.length:Int)≤1048576) (cX:∀l∈xs,(l.key.size:Int)≤1048576∧(l.value.size:Int)≤1048576) :
 Calls Tryz.prog 92 #[.slice A n c] w fun e w'=>e = .returned (.bool (Ya xs))∧Below w.heap.size w w':=by
 subst hn;have Eo:=I cX;clear cX;by_cases hm:(xs.length:Int)≤4
 ·go_enter Tryz.func92,Tryz.ntmps92;go_wp2_with fail
  go_loopw [3] (fun i wr=>∃k:Nat,k≤xs.length∧i = .int .i64 k∧Hid (∀j,j < k→bB Q5 vJ xs j = true)∧Below w.heap.size w wr) (fun i _=>xs.length - (intOf i).toNat)
  case atStart=>exact ⟨0,Nat.zero_le _,rfl,(fun j hj=>by omega),bs⟩
  case round =>
   obtain ⟨k,hk,rfl,hall,aE⟩:=hrel;by_cases ap:k < xs.length
   ·obtain rfl | ⟨j,rfl⟩:k = 0∨∃j,k = j+1:=by cases k with | zero=>exact .inl rfl | succ j=>exact .inr ⟨j,rfl⟩
    ·obtain ⟨b,o,ck,Fk,rfl,o9,hbs,hr,bv,hc⟩:=(Sl.ext (w':=wr) (A:=A) (c:=c) h aE).get ap;obtain ⟨aw,su,ca,kP,lD⟩:=jv hr;subst aw;obtain ⟨q0,q1,q2,q3⟩:=qT 4 hc;clear hc;simp only [Nat.zero_mul,Nat.add_zero] at q0 q1 q2 q3;have cJ:=(Eo.out xs[0] (List.getElem_mem ..)).1;have cE:=(Eo.out xs[0] (List.getElem_mem ..)).2;subst su;have cS:=hr;cases h1:Q5 xs[0]
     all_goals
      have hp:=bR (ok:=Q5) (less:=vJ) ap;rw [h1] at hp;try simp only [Bool.false_and,Bool.and_false,Bool.and_true,Bool.and_self] at hp
      change bB Q5 vJ xs _ = _ at hp;have H1:=I h1
      first
       | have HN:=I (gq hall.out hp)
       | have HF:=I (wU (most:=4) ap hp)
      clear h1 hp;go_wp2_with fail
      refine aF _ U' U' (aj _) ?_
      repeat (first
       | (apply aG
          case hw=>rfl
          simp only [Act.put,pz])
       | (apply aH
          case hw=>rfl
          case h =>
           intro wq hq;have dc:=(aB hq).1;have lJ:=(aB hq).2;go_simp
           first
            | exact ⟨hq,rfl⟩
            | exact ⟨aQ hq _,rfl⟩
            | (first | (refine (Nb xs[0] _ [] _ (aJ cS vE) cJ cE).mono ?_;rw [H1.out];rintro e w2 ⟨rfl,av⟩;exact ⟨rfl,aI hq av⟩) | (refine (mC.out _ sE).mono ?_;rintro e w2 ⟨rfl,av⟩;exact ⟨rfl,aI hq av⟩))
            | (simp only [↓IntWalk.iteOmega];exact ⟨hq,rfl⟩)
          simp only [Act.put,pz]))
      refine aN ?_;intro wn hn;replace hn:=hn.out;go_wp2
      first
       | exact ⟨⟨0+1,J,N',HN.out,ah aE hn⟩,by simp [intOf];omega⟩
       | (go_ret;exact ⟨by unfold Ya;rw [HF.out];rfl,ah aE hn⟩)
    ·obtain ⟨b,o,ck,Fk,rfl,o9,hbs,hr,bv,hc⟩:=(Sl.ext (w':=wr) (A:=A) (c:=c) h aE).get ap;obtain ⟨aw,su,ca,kP,lD⟩:=jv hr;subst aw;obtain ⟨q0,q1,q2,q3⟩:=qT 4 hc;clear hc;obtain ⟨b',o',TY,Xw,e,Ht,hbs',cN,zQ,hc'⟩:=Sl.get (Sl.ext (w':=wr) (c:=c) h aE) (show j < xs.length by omega);obtain ⟨jU,abT,vC,rP,uY⟩:=jv cN;subst jU;obtain ⟨rfl,rfl⟩:b' = b∧o' = o:=by simpa using e.symm
     clear e;obtain ⟨p0,p1,p2,p3⟩:=qT 4 hc';clear hc';have pa:IntKind.i64.wrap (j:Int) = j:=IntWalk.i64_in _ J;have gC:j < xs.length:=J;have cJ:=(Eo.out xs[j+1] (List.getElem_mem ..)).1;have cE:=(Eo.out xs[j+1] (List.getElem_mem ..)).2;subst su;have cS:=hr;cases h1:Q5 xs[j+1] <;> cases h3:vJ xs[j] xs[j+1]
     all_goals
      have hp:=yS (ok:=Q5) (less:=vJ) ap;rw [h1,h3] at hp;try simp only [Bool.false_and,Bool.and_false,Bool.and_true,Bool.and_self] at hp
      change bB Q5 vJ xs _ = _ at hp;have H1:=I h1
      first
       | have HN:=I (gq hall.out hp)
       | have HF:=I (wU (most:=4) ap hp)
      have hC:∀wq,Below wr.heap.size wr wq→Calls Tryz.prog 140 #[.agg #[.string xs[j].key,.bool xs[j].equal,.string xs[j].value,.int .i64 xs[j].al],.agg #[.string xs[j+1].key,.bool xs[j+1].equal,.string xs[j+1].value,.int .i64 xs[j+1].al]] wq fun e w'=>e = .returned (.bool (vJ xs[j] xs[j+1]))∧Below wq.heap.size wq w' :=
       fun wq hq=>YL xs[j] xs[j+1] _ _ _ _ _ (aJ cN hq) (aJ cS hq)
      rw [h3] at hC;have mC:=I hC;clear hC;clear h1 hp;go_wp2_with fail
      refine aF _ U' U' (aj _) ?_
      repeat (first
       | (apply aG
          case hw=>rfl
          simp only [Act.put,pz])
       | (apply aH
          case hw=>rfl
          case h =>
           intro wq hq;have dc:=(aB hq).1;have lJ:=(aB hq).2;go_simp
           first
            | exact ⟨hq,rfl⟩
            | exact ⟨aQ hq _,rfl⟩
            | (first | (refine (Nb xs[j+1] _ [] _ (aJ cS vE) cJ cE).mono ?_;rw [H1.out];rintro e w2 ⟨rfl,av⟩;exact ⟨rfl,aI hq av⟩) | (refine (mC.out _ sE).mono ?_;rintro e w2 ⟨rfl,av⟩;exact ⟨rfl,aI hq av⟩))
            | (simp only [↓IntWalk.iteOmega];exact ⟨hq,rfl⟩)
          simp only [Act.put,pz]))
      refine aN ?_;intro wn hn;replace hn:=hn.out;go_wp2
      first
       | exact ⟨⟨j+1+1,J,N',HN.out,ah aE hn⟩,by simp [intOf];omega⟩
       | (go_ret;exact ⟨by unfold Ya;rw [HF.out];rfl,ah aE hn⟩)
   ·have bx:k = xs.length:=J;subst bx;have HF:=I (Jy hm hall.out);go_wp2;go_ret
    exact ⟨by unfold Ya;rw [HF.out];rfl,aE⟩
 ·have HF:=I (Jz (ok:=Q5) (less:=vJ) hm);go_enter Tryz.func92,Tryz.ntmps92;go_wp2;go_ret
  exact ⟨by unfold Ya;rw [HF.out];rfl,bs⟩
def blt (x y:ByteArray):Bool:=Op.bytesLess x.toList y.toList
theorem BW:vt blt:=⟨fun x=>LC _,fun x y z=>LD _ _ _,fun x y h1 h2=>Ce (by rw [beq_iff_eq];exact LF _ _ h1 h2)⟩
def gf (xs:List ByteArray):List ByteArray:=eg blt [] xs
theorem aAP (xs:List ByteArray):(gf xs).length≤xs.length:=by have:=xU blt xs [];unfold gf;simpa using this
theorem aA4 {xs:List ByteArray} {z:ByteArray} (h:z∈gf xs):z∈xs:=by
 rcases (EQ BW z xs []).1 h with h | h
 ·cases h
 ·exact h
theorem aB3 (xs:List ByteArray):kL ByteArray.size (gf xs)≤kL ByteArray.size xs:=by
 have h:=ER ByteArray.size blt xs [];have hl:=xU blt xs [];unfold gf kL;exact As
def W9 (x y:ba):List Int:=[Lib.compareBytes x.key.data.toList y.key.data.toList,Lib.compareInt x.op y.op,qW x.values y.values]
def nD (x y:ba):Bool:=decide (Qa (W9 x y) < 0)
theorem ayN (x y:ba) (cs ds:List Value) (F G:List Nat) (w:World) (h:rd w x cs F) (h':rd w y ds G) (hl:(x.values.length:Int)≤1048576) (vQ:(y.values.length:Int)≤1048576) :
 Calls Tryz.prog 169 #[.agg cs.toArray,.agg ds.toArray] w fun e w'=>e = .returned (.int .i64 (Qa (W9 x y)))∧Gr w w':=by
 obtain ⟨pX,pY,KG,aw,hF1,xO,j8,wO⟩:=og h;obtain ⟨qO,qP,KL,jU,ld,vC,hop2,zS⟩:=og h';subst aw jU;subst hF1 ld;have fX:=qj x.key.data.toList y.key.data.toList;have fc:=BU x.op y.op;have eN:=ZR x.values y.values;go_enter Tryz.func169,Tryz.ntmps169;go_wp2_with fail
 refine nS ((w.alloc (.cells #[.string x.key,.int .i64 x.op,.slice pX x.values.length pY] 89)).alloc (.cells #[.string y.key,.int .i64 y.op,.slice qO y.values.length qP] 89)) [0,1,2,3,5,6,7,8,10,11,12,13] [4,9,14,15,16,17] U' U' H' (aj _) ?_;simp only [cH,List.getElem?_cons_succ,List.getElem?_cons_zero]
 iterate 12
  (apply dR
   case hy =>exact Ab
   simp only [Act.put,pz])
 refine fE ?_;have bu:=aA (aj ((w.alloc (.cells #[.string x.key,.int .i64 x.op,.slice pX x.values.length pY] 89)).alloc (.cells #[.string y.key,.int .i64 y.op,.slice qO y.values.length qP] 89)));refine aK rfl (fun K hK=>?_);go_simp;refine (N8 x.key y.key _).mono ?_;rintro e wz ⟨rfl,hw⟩;simp only [hw];clear hw wz;refine hK _ _ bu (fun _=>?_);try simp only [Act.put,pz]
 clear hK K;refine aK rfl (fun K hK=>?_);go_simp;refine (EI x.op y.op _).mono ?_;rintro e wz ⟨rfl,hw⟩;simp only [hw];clear hw wz;refine hK _ _ bu (fun _=>?_);try simp only [Act.put,pz]
 clear hK K;have ni:=ah (ak (ak (aj w) (.cells #[.string x.key,.int .i64 x.op,.slice pX x.values.length pY] 89)) (.cells #[.string y.key,.int .i64 y.op,.slice qO y.values.length qP] 89)) bu;refine aK rfl (fun K hK=>?_);go_simp;refine (aeC x.values y.values _ _ _ _ _ _ _ _ _ (wO.ext ni) (zS.ext ni) rfl rfl hl vQ).mono ?_;rintro e wz ⟨rfl,hw⟩;simp only [hw];clear hw wz;refine hK _ _ bu (fun _=>?_);try simp only [Act.put,pz]
 clear hK K;refine aK rfl (fun K hK=>?_);go_simp;replace bu:=ak bu (.cells #[.int .i64 (Lib.compareBytes x.key.data.toList y.key.data.toList),.int .i64 (Lib.compareInt x.op y.op),.int .i64 (qW x.values y.values)] 3);refine hK _ _ bu (fun _=>?_);try simp only [Act.put,pz]
 clear hK K;have hS:=Sl.Sz (Sl.vL ((w.alloc (.cells #[.string x.key,.int .i64 x.op,.slice pX x.values.length pY] 89)).alloc (.cells #[.string y.key,.int .i64 y.op,.slice qO y.values.length qP] 89)) _ _ _ 3 (bi.small fX) (bi.small fc) (bi.small eN) (w.heap.size+2) S');refine aK rfl (fun K hK=>?_);go_simp;refine (Sy _ _ 3 _ _ _ hS rfl S').mono ?_;rintro e wz ⟨rfl,hw⟩;simp only [hw];clear hw wz;refine hK _ _ bu (fun _=>?_);try simp only [Act.put,pz]
 clear hK K;refine aK rfl (fun K hK=>?_);go_simp;refine hK _ _ bu (fun _=>?_);try simp only [Act.put,pz]
 clear hK K;refine dX ?_;go_wp2;go_ret
 exact ⟨rfl,Sh⟩
theorem UA (x y:ba) (cs ds:List Value) (F G:List Nat) (w:World) (h:rd w x cs F) (h':rd w y ds G) (hl:(x.values.length:Int)≤1048576) (vQ:(y.values.length:Int)≤1048576) :
 Calls Tryz.prog 169 #[.agg cs.toArray,.agg ds.toArray] w fun e w'=>e = .returned (.int .i64 (Qa (W9 x y)))∧Below w.heap.size w w' :=
 (ayN x y cs ds F G w h h' hl vQ).mono fun _ _ hh=>⟨hh.1,hh.2.aM⟩
theorem ail (x y:ba) (cs ds:List Value) (F G:List Nat) (w:World) (h:rd w x cs F) (h':rd w y ds G) (hl:(x.values.length:Int)≤1048576) (vQ:(y.values.length:Int)≤1048576) :
 Calls Tryz.prog 128 #[.agg cs.toArray,.agg ds.toArray] w fun e w'=>e = .returned (.bool (nD x y))∧Below w.heap.size w w':=by
 have hC:∀wq,Below w.heap.size w wq→Calls Tryz.prog 169 #[.agg cs.toArray,.agg ds.toArray] wq fun e w'=>e = .returned (.int .i64 (Qa (W9 x y)))∧Below wq.heap.size wq w' :=
  fun wq hq=>UA x y cs ds F G wq (bd.frame h (fun b d9=>hq.block b (bd.lt h b d9)) hq.size) (bd.frame h' (fun b d9=>hq.block b (bd.lt h' b d9)) hq.size) hl vQ
 have hz:nD x y = decide (Qa (W9 x y) < 0):=rfl;generalize Qa (W9 x y) = z at hC hz;rw [hz];clear hz;obtain ⟨pX,pY,KG,aw,hF1,xO,j8,wO⟩:=og h;obtain ⟨qO,qP,KL,jU,ld,vC,hop2,zS⟩:=og h';subst aw jU;have HC:=I hC;clear hC;go_enter Tryz.func128,Tryz.ntmps128;go_wp2_with fail
 refine (HC.out _ bs).mono ?_;rintro e w2 ⟨rfl,av⟩;go_wp2;go_ret
 exact ⟨rfl,bs⟩
theorem Gj {P:Program} {C:World→Prop} {v:Value} {r:Result Next} {w:World} (e:r = .ok (.value v) w) (h:C w):ft P C v r:=by subst e;exact ⟨h,rfl⟩
theorem Y2 (x y:UInt8):x < y↔x.toNat < y.toNat:=UInt8.lt_iff_toNat_lt
theorem Dr {x y:UInt8} (h1:¬x < y) (h2:¬y < x):x = y:=by
 rw [Y2] at h1 h2;exact UInt8.toNat_inj.1 J
theorem GK:∀a b:List UInt8,Lib.compareBytes a b = 0↔a = b
 | [],[]=>by simp [Lib.compareBytes]
 | [],_ :: _=>by simp [Lib.compareBytes]
 | _ :: _,[]=>by simp [Lib.compareBytes]
 | x :: a,y :: b=>by
   have ih:=GK a b;unfold Lib.compareBytes;by_cases h1:x < y
   ·rw [if_pos h1];have:x≠y:=fun e=>by subst e;rw [Y2] at h1;omega
    simp [this]
   ·rw [if_neg h1];by_cases h2:y < x
    ·rw [if_pos h2];have:x≠y:=fun e=>by subst e;rw [Y2] at h2;omega
     simp [this]
    ·rw [if_neg h2,ih,Dr h1 h2];simp
theorem Ls:∀a b:List UInt8,Lib.compareBytes b a = - Lib.compareBytes a b
 | [],[]=>by simp [Lib.compareBytes]
 | [],_ :: _=>by simp [Lib.compareBytes]
 | _ :: _,[]=>by simp [Lib.compareBytes]
 | x :: a,y :: b=>by
   have ih:=Ls a b;unfold Lib.compareBytes;by_cases h1:x < y
   ·have h2:¬y < x:=(by rw [Y2] at *;omega);rw [if_pos h1,if_neg h2,if_pos h1];rfl
   ·by_cases h2:y < x
    ·rw [if_pos h2,if_neg h1,if_pos h2]
    ·rw [if_neg h2,if_neg h1,if_neg h1,if_neg h2,ih]
theorem aeM (a b:Int):Lib.compareInt a b = 0↔a = b:=by
 unfold Lib.compareInt;split
 ·omega
 ·split <;> omega
theorem aeN (a b:Int):Lib.compareInt b a = - Lib.compareInt a b:=by
 unfold Lib.compareInt;repeat' split
 all_goals omega
theorem ahr {a b:ByteArray} (h:a.data.toList = b.data.toList):a = b:=by cases a;cases b;simp_all
theorem acr:∀xs ys:List ByteArray,qW xs ys = 0↔xs = ys
 | [],[]=>by simp [qW]
 | [],_ :: _=>by simp [qW]
 | _ :: _,[]=>by simp [qW]
 | x :: xs,y :: ys=>by
   have ih:=acr xs ys;unfold qW;by_cases h:Lib.compareBytes x.data.toList y.data.toList = 0
   ·rw [if_pos h,ih,ahr ((GK _ _).1 h)];simp
   ·rw [if_neg h];have:x≠y:=fun e=>h (by rw [e];exact (GK _ _).2 rfl);simp [this,h]
theorem acs:∀xs ys:List ByteArray,qW ys xs = - qW xs ys
 | [],[]=>by simp [qW]
 | [],_ :: _=>by simp [qW]
 | _ :: _,[]=>by simp [qW]
 | x :: xs,y :: ys=>by
   have ih:=acs xs ys;have ha:=Ls x.data.toList y.data.toList;unfold qW;by_cases h:Lib.compareBytes x.data.toList y.data.toList = 0
   ·rw [if_pos h,if_pos (by rw [ha,h];rfl),ih]
   ·rw [if_neg h,if_neg (by rw [ha];omega),ha]
theorem aqi (x y:ba):Qa (W9 y x) = - Qa (W9 x y):=by
 unfold W9;simp only [Qa];rw [Ls x.key.data.toList,aeN x.op,acs x.values];repeat' split
 all_goals omega
theorem aqj (x y:ba):Qa (W9 x y) = 0↔yI x y = true:=by
 rw [SW];have h1:=GK x.key.data.toList y.key.data.toList;have h2:=aeM x.op y.op;have h3:=acr x.values y.values;unfold W9;simp only [Qa];constructor
 ·intro h;by_cases e1:Lib.compareBytes x.key.data.toList y.key.data.toList = 0
  ·rw [if_pos e1] at h;by_cases e2:Lib.compareInt x.op y.op = 0
   ·rw [if_pos e2] at h;by_cases e3:qW x.values y.values = 0
    ·have k1:=ahr (h1.1 e1);have k2:=h2.1 e2;have k3:=h3.1 e3;cases x;cases y
     simp only at k1 k2 k3;subst k1 k2 k3;rfl
    ·rw [if_neg e3] at h;exact absurd h e3
   ·rw [if_neg e2] at h;exact absurd h e2
  ·rw [if_neg e1] at h;exact absurd h e1
 ·rintro rfl;rw [if_pos (h1.2 rfl),if_pos (h2.2 rfl),if_pos (h3.2 rfl)]
theorem ad4 (x y:ba):(Qa (W9 x y) == 0) = yI x y:=by
 rw [Bool.eq_iff_iff,beq_iff_eq];exact aqj x y
theorem amW (x y:ba):(!(nD x y || nD y x)) = yI x y:=by
 rw [← ad4];unfold nD;rw [aqi x y];by_cases h:Qa (W9 x y) = 0
 ·simp [h]
 ·have h1:(Qa (W9 x y) == 0) = false:=by simpa using h
  rw [h1];by_cases h2:Qa (W9 x y) < 0
  ·simp [h2]
  ·have h3:- Qa (W9 x y) < 0:=J;rw [decide_eq_true h3,decide_eq_false h2];rfl
theorem pJ (xs ys:List ao) (A B:Option Addr) (c d:Nat) (F G:List Nat) (w:World) (h:Sl w xs A c F) (h':Sl w ys B d G) :
 Calls Tryz.prog 40 #[.slice A xs.length c,.slice B ys.length d] w fun e w'=>e = .returned (.bool (same vZ xs ys))∧Below w.heap.size w w':=by
 have hc:=h.aL;unfold maxLen at hc;obtain ⟨da,ce⟩:=hc;have hd:=h'.aL;unfold maxLen at hd;obtain ⟨we,UJ⟩:=hd;by_cases hl:xs.length = ys.length
 ·have HL:=I hl;have bk:((xs.length:Int) != (ys.length:Int)) = false:=by simp [hl]
  clear hl;go_enter Tryz.func40,Tryz.ntmps40;go_wp2;go_loopw [5] (fun i wr=>∃k:Nat,k≤xs.length∧i = .int .i64 k∧Hid (same vZ (xs.take k) (ys.take k) = true)∧Below w.heap.size w wr) (fun i _=>xs.length - (intOf i).toNat)
  case atStart=>exact ⟨0,Nat.zero_le _,rfl,by show _ = true;simp [same],aj _⟩
  case round =>
   obtain ⟨k,hk,rfl,Heq,aE⟩:=hrel;by_cases ap:k < xs.length
   ·obtain ⟨b,o,ck,Fk,rfl,o9,hbs,hr,bv,hc⟩:=(h.ext aE).get ap;have fq:k < ys.length:=(by rw [← HL.out];exact ap);obtain ⟨b',o',TY,Xw,rfl,Ht,hbs',cN,zQ,hc'⟩:=(h'.ext aE).get fq;obtain ⟨aw,rfl,xO,xk⟩:=vO hr;subst aw;obtain ⟨aw,rfl,vC,rP⟩:=vO cN;subst aw;obtain ⟨q0,q1⟩:=uy 2 hc;obtain ⟨p0,p1⟩:=uy 2 hc';clear hc hc';go_wp2_with fail
    refine aF wr U' U' ut ?_
    repeat (first
     | (apply aG
        case hw=>rfl
        simp only [Act.put,pz])
     | (apply aH
        case hw=>rfl
        case h =>
         intro wq hq;have dc:=(aB hq).1;have lJ:=(aB hq).2;go_simp
         first
          | exact ⟨hq,rfl⟩
          | exact ⟨aQ hq _,rfl⟩
          | ((refine Gj (v:=.bool (!(vZ xs[k] ys[k]))) ?_ hq;unfold vZ;repeat' split;all_goals simp [*]))
          | (simp only [↓IntWalk.iteOmega];exact ⟨hq,rfl⟩)
        simp only [Act.put,pz]))
    refine aN ?_;intro wn hn;replace hn:=hn.out;go_wp2
    ·rename_i cq;go_ret
     refine ⟨?_,ah aE hn⟩;rw [nP (k+1) YJ HL.out];rfl
    ·exact Hu
   ·exact IF
 ·have bk:((xs.length:Int) != (ys.length:Int)) = true:=by simp;omega
  have HL:=I (qN (eq:=vZ) hl);clear hl;go_enter Tryz.func40,Tryz.ntmps40;go_wp2;go_ret
  exact ⟨by rw [HL.out];rfl,aj _⟩
end Go.Proofs.YtjahcnjmjahbaaaGreat
