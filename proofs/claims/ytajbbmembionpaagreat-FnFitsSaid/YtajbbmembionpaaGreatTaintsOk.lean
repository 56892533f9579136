/- TaintsOk, of the program and of the reference. No condition. -/
import Derived.Test.YtajbbmembionpaaGreatNeedOk
namespace Go.Proofs.YtajbbmembionpaaGreat
open Go.ChangeShapes Go.WideShapes Go.ChangeAt Go.RowKit
set_option linter.unusedVariables false
set_option linter.unusedSimpArgs false
set_option maxHeartbeats 2000000
set_option maxRecDepth 100000
def La (xs:List iU):Bool:=l0 Dp qo 4 xs
theorem ZL (xs:List iU) (A:Option Addr) (n c:Nat) (F:List Nat) (w:World) (h:Sl w xs A c F) (X:n = xs.length) (hl:(xs.length:Int)≤1048576) (cW:∀l∈xs,(l.key.size:Int)≤1048576∧(l.value.size:Int)≤1048576) :
 Calls Tryz.prog 92 #[.slice A n c] w fun e w'=>e = .returned (.bool (La xs))∧Below w.heap.size w w':=by
 subst X;have Eo:=I cW;clear cW;by_cases hm:(xs.length:Int)≤4
 ·go_enter Tryz.func92,Tryz.ntmps92;go_wp2_with fail
  go_loopw [3] (fun i wr=>∃k:Nat,k≤xs.length∧i = .int .i64 k∧Hid (∀j,j < k→bO Dp qo xs j = true)∧Below w.heap.size w wr) (fun i _=>xs.length - (intOf i).toNat)
  case atStart=>exact ⟨0,Nat.zero_le _,rfl,(fun j hj=>by omega),bL⟩
  case round =>
   obtain ⟨k,hk,rfl,hall,aK⟩:=hrel;by_cases av:k < xs.length
   ·obtain rfl | ⟨j,rfl⟩:k = 0∨∃j,k = j+1:=by cases k with | zero=>exact .inl rfl | succ j=>exact .inr ⟨j,rfl⟩
    ·obtain ⟨b,o,ck,Fk,rfl,o9,hbs,hr,bA,hc⟩:=(Sl.ext (w':=wr) (A:=A) (c:=c) h aK).get av;obtain ⟨aD,su,ce,kP,lD⟩:=oK hr;subst aD;obtain ⟨q0,q1,q2⟩:=pp 3 hc;clear hc;simp only [Nat.zero_mul,Nat.add_zero] at q0 q1 q2;have dq:=(Eo.out xs[0] (List.getElem_mem ..)).1;have cR:=(Eo.out xs[0] (List.getElem_mem ..)).2;subst su;have d':=hr;cases Z:Dp xs[0]
     all_goals
      have hp:=cF (ok:=Dp) (less:=qo) av;rw [Z] at hp;try simp only [Bool.false_and,Bool.and_false,Bool.and_true,Bool.and_self] at hp
      change bO Dp qo xs _ = _ at hp;have H1:=I Z
      first
       | have HN:=I (gq hall.out hp)
       | have HF:=I (wU (most:=4) av hp)
      clear Z hp;go_wp2_with fail
      refine aF _ U' U' (aj _) ?_
      repeat (first
       | (apply aG
          case hw=>rfl
          simp only [Act.put,pz])
       | (apply aH
          case hw=>rfl
          case h =>
           intro wq hq;have dE:=(aB hq).1;have lJ:=(aB hq).2;go_simp
           first
            | exact ⟨hq,rfl⟩
            | exact ⟨aQ hq _,rfl⟩
            | (first | (refine (Wh xs[0] _ [] _ (aJ d' Ky) dq cR).mono ?_;rw [H1.out];rintro e w2 ⟨rfl,aq⟩;exact ⟨rfl,aI hq aq⟩) | (refine (xv.out _ AW).mono ?_;rintro e w2 ⟨rfl,aq⟩;exact ⟨rfl,aI hq aq⟩))
            | (simp only [↓IntWalk.iteOmega];exact ⟨hq,rfl⟩)
          simp only [Act.put,pz]))
      refine aN ?_;intro wn X;replace X:=X.out;go_wp2
      first
       | exact ⟨⟨0+1,J,N',HN.out,ah aK X⟩,by simp [intOf];omega⟩
       | (go_ret;exact ⟨by unfold La;rw [HF.out];rfl,ah aK X⟩)
    ·obtain ⟨b,o,ck,Fk,rfl,o9,hbs,hr,bA,hc⟩:=(Sl.ext (w':=wr) (A:=A) (c:=c) h aK).get av;obtain ⟨aD,su,ce,kP,lD⟩:=oK hr;subst aD;obtain ⟨q0,q1,q2⟩:=pp 3 hc;clear hc;obtain ⟨b',o',TY,Xw,e,Ht,hbs',dd,zQ,hc'⟩:=Sl.get (Sl.ext (w':=wr) (c:=c) h aK) (show j < xs.length by omega);obtain ⟨jU,abT,vC,rP,uY⟩:=oK dd;subst jU;obtain ⟨rfl,rfl⟩:b' = b∧o' = o:=by simpa using e.symm
     clear e;obtain ⟨p0,p1,p2⟩:=pp 3 hc';clear hc';have yk:IntKind.i64.wrap (j:Int) = j:=IntWalk.i64_in _ J;have mr:j < xs.length:=J;have dq:=(Eo.out xs[j+1] (List.getElem_mem ..)).1;have cR:=(Eo.out xs[j+1] (List.getElem_mem ..)).2;subst su;have d':=hr;cases Z:Dp xs[j+1] <;> cases h3:qo xs[j] xs[j+1]
     all_goals
      have hp:=yS (ok:=Dp) (less:=qo) av;rw [Z,h3] at hp;try simp only [Bool.false_and,Bool.and_false,Bool.and_true,Bool.and_self] at hp
      change bO Dp qo xs _ = _ at hp;have H1:=I Z
      first
       | have HN:=I (gq hall.out hp)
       | have HF:=I (wU (most:=4) av hp)
      have hC:∀wq,Below wr.heap.size wr wq→Calls Tryz.prog 139 #[.agg #[.string xs[j].key,.string xs[j].value,.int .i64 xs[j].ap],.agg #[.string xs[j+1].key,.string xs[j+1].value,.int .i64 xs[j+1].ap]] wq fun e w'=>e = .returned (.bool (qo xs[j] xs[j+1]))∧Below wq.heap.size wq w' :=
       fun wq hq=>Rv xs[j] xs[j+1] _ _ _ _ _ (aJ dd hq) (aJ d' hq)
      rw [h3] at hC;have xv:=I hC;clear hC;clear Z hp;go_wp2_with fail
      refine aF _ U' U' (aj _) ?_
      repeat (first
       | (apply aG
          case hw=>rfl
          simp only [Act.put,pz])
       | (apply aH
          case hw=>rfl
          case h =>
           intro wq hq;have dE:=(aB hq).1;have lJ:=(aB hq).2;go_simp
           first
            | exact ⟨hq,rfl⟩
            | exact ⟨aQ hq _,rfl⟩
            | (first | (refine (Wh xs[j+1] _ [] _ (aJ d' Ky) dq cR).mono ?_;rw [H1.out];rintro e w2 ⟨rfl,aq⟩;exact ⟨rfl,aI hq aq⟩) | (refine (xv.out _ AW).mono ?_;rintro e w2 ⟨rfl,aq⟩;exact ⟨rfl,aI hq aq⟩))
            | (simp only [↓IntWalk.iteOmega];exact ⟨hq,rfl⟩)
          simp only [Act.put,pz]))
      refine aN ?_;intro wn X;replace X:=X.out;go_wp2
      first
       | exact ⟨⟨j+1+1,J,N',HN.out,ah aK X⟩,by simp [intOf];omega⟩
       | (go_ret;exact ⟨by unfold La;rw [HF.out];rfl,ah aK X⟩)
   ·have bI:k = xs.length:=J;subst bI;have HF:=I (Jy hm hall.out);go_wp2;go_ret
    exact ⟨by unfold La;rw [HF.out];rfl,aK⟩
 ·have HF:=I (Jz (ok:=Dp) (less:=qo) hm);go_enter Tryz.func92,Tryz.ntmps92;go_wp2;go_ret
  exact ⟨by unfold La;rw [HF.out];rfl,bL⟩
def Ya (xs:List bH):Bool:=l0 Q5 vJ 4 xs
theorem RI (xs:List bH) (A:Option Addr) (n c:Nat) (F:List Nat) (w:World) (h:Sl w xs A c F) (X:n = xs.length) (hl:(xs.length:Int)≤1048576) (cW:∀l∈xs,(l.key.size:Int)≤1048576∧(l.value.size:Int)≤1048576) :
 Calls Tryz.prog 80 #[.slice A n c] w fun e w'=>e = .returned (.bool (Ya xs))∧Below w.heap.size w w':=by
 subst X;have Eo:=I cW;clear cW;by_cases hm:(xs.length:Int)≤4
 ·go_enter Tryz.func80,Tryz.ntmps80;go_wp2_with fail
  go_loopw [3] (fun i wr=>∃k:Nat,k≤xs.length∧i = .int .i64 k∧Hid (∀j,j < k→bO Q5 vJ xs j = true)∧Below w.heap.size w wr) (fun i _=>xs.length - (intOf i).toNat)
  case atStart=>exact ⟨0,Nat.zero_le _,rfl,(fun j hj=>by omega),bL⟩
  case round =>
   obtain ⟨k,hk,rfl,hall,aK⟩:=hrel;by_cases av:k < xs.length
   ·obtain rfl | ⟨j,rfl⟩:k = 0∨∃j,k = j+1:=by cases k with | zero=>exact .inl rfl | succ j=>exact .inr ⟨j,rfl⟩
    ·obtain ⟨b,o,ck,Fk,rfl,o9,hbs,hr,bA,hc⟩:=(Sl.ext (w':=wr) (A:=A) (c:=c) h aK).get av;obtain ⟨aD,su,ce,kP,lD⟩:=jv hr;subst aD;obtain ⟨q0,q1,q2,q3⟩:=Fg 4 hc;clear hc;simp only [Nat.zero_mul,Nat.add_zero] at q0 q1 q2 q3;have dq:=(Eo.out xs[0] (List.getElem_mem ..)).1;have cR:=(Eo.out xs[0] (List.getElem_mem ..)).2;subst su;have d':=hr;cases Z:Q5 xs[0]
     all_goals
      have hp:=cF (ok:=Q5) (less:=vJ) av;rw [Z] at hp;try simp only [Bool.false_and,Bool.and_false,Bool.and_true,Bool.and_self] at hp
      change bO Q5 vJ xs _ = _ at hp;have H1:=I Z
      first
       | have HN:=I (gq hall.out hp)
       | have HF:=I (wU (most:=4) av hp)
      clear Z hp;go_wp2_with fail
      refine aF _ U' U' (aj _) ?_
      repeat (first
       | (apply aG
          case hw=>rfl
          simp only [Act.put,pz])
       | (apply aH
          case hw=>rfl
          case h =>
           intro wq hq;have dE:=(aB hq).1;have lJ:=(aB hq).2;go_simp
           first
            | exact ⟨hq,rfl⟩
            | exact ⟨aQ hq _,rfl⟩
            | (first | (refine (Nb xs[0] _ [] _ (aJ d' Ky) dq cR).mono ?_;rw [H1.out];rintro e w2 ⟨rfl,aq⟩;exact ⟨rfl,aI hq aq⟩) | (refine (xv.out _ AW).mono ?_;rintro e w2 ⟨rfl,aq⟩;exact ⟨rfl,aI hq aq⟩))
            | (simp only [↓IntWalk.iteOmega];exact ⟨hq,rfl⟩)
          simp only [Act.put,pz]))
      refine aN ?_;intro wn X;replace X:=X.out;go_wp2
      first
       | exact ⟨⟨0+1,J,N',HN.out,ah aK X⟩,by simp [intOf];omega⟩
       | (go_ret;exact ⟨by unfold Ya;rw [HF.out];rfl,ah aK X⟩)
    ·obtain ⟨b,o,ck,Fk,rfl,o9,hbs,hr,bA,hc⟩:=(Sl.ext (w':=wr) (A:=A) (c:=c) h aK).get av;obtain ⟨aD,su,ce,kP,lD⟩:=jv hr;subst aD;obtain ⟨q0,q1,q2,q3⟩:=Fg 4 hc;clear hc;obtain ⟨b',o',TY,Xw,e,Ht,hbs',dd,zQ,hc'⟩:=Sl.get (Sl.ext (w':=wr) (c:=c) h aK) (show j < xs.length by omega);obtain ⟨jU,abT,vC,rP,uY⟩:=jv dd;subst jU;obtain ⟨rfl,rfl⟩:b' = b∧o' = o:=by simpa using e.symm
     clear e;obtain ⟨p0,p1,p2,p3⟩:=Fg 4 hc';clear hc';have yk:IntKind.i64.wrap (j:Int) = j:=IntWalk.i64_in _ J;have mr:j < xs.length:=J;have dq:=(Eo.out xs[j+1] (List.getElem_mem ..)).1;have cR:=(Eo.out xs[j+1] (List.getElem_mem ..)).2;subst su;have d':=hr;cases Z:Q5 xs[j+1] <;> cases h3:vJ xs[j] xs[j+1]
     all_goals
      have hp:=yS (ok:=Q5) (less:=vJ) av;rw [Z,h3] at hp;try simp only [Bool.false_and,Bool.and_false,Bool.and_true,Bool.and_self] at hp
      change bO Q5 vJ xs _ = _ at hp;have H1:=I Z
      first
       | have HN:=I (gq hall.out hp)
       | have HF:=I (wU (most:=4) av hp)
      have hC:∀wq,Below wr.heap.size wr wq→Calls Tryz.prog 79 #[.agg #[.string xs[j].key,.bool xs[j].equal,.string xs[j].value,.int .i64 xs[j].ap],.agg #[.string xs[j+1].key,.bool xs[j+1].equal,.string xs[j+1].value,.int .i64 xs[j+1].ap]] wq fun e w'=>e = .returned (.bool (vJ xs[j] xs[j+1]))∧Below wq.heap.size wq w' :=
       fun wq hq=>Ry xs[j] xs[j+1] _ _ _ _ _ (aJ dd hq) (aJ d' hq)
      rw [h3] at hC;have xv:=I hC;clear hC;clear Z hp;go_wp2_with fail
      refine aF _ U' U' (aj _) ?_
      repeat (first
       | (apply aG
          case hw=>rfl
          simp only [Act.put,pz])
       | (apply aH
          case hw=>rfl
          case h =>
           intro wq hq;have dE:=(aB hq).1;have lJ:=(aB hq).2;go_simp
           first
            | exact ⟨hq,rfl⟩
            | exact ⟨aQ hq _,rfl⟩
            | (first | (refine (Nb xs[j+1] _ [] _ (aJ d' Ky) dq cR).mono ?_;rw [H1.out];rintro e w2 ⟨rfl,aq⟩;exact ⟨rfl,aI hq aq⟩) | (refine (xv.out _ AW).mono ?_;rintro e w2 ⟨rfl,aq⟩;exact ⟨rfl,aI hq aq⟩))
            | (simp only [↓IntWalk.iteOmega];exact ⟨hq,rfl⟩)
          simp only [Act.put,pz]))
      refine aN ?_;intro wn X;replace X:=X.out;go_wp2
      first
       | exact ⟨⟨j+1+1,J,N',HN.out,ah aK X⟩,by simp [intOf];omega⟩
       | (go_ret;exact ⟨by unfold Ya;rw [HF.out];rfl,ah aK X⟩)
   ·have bI:k = xs.length:=J;subst bI;have HF:=I (Jy hm hall.out);go_wp2;go_ret
    exact ⟨by unfold Ya;rw [HF.out];rfl,aK⟩
 ·have HF:=I (Jz (ok:=Q5) (less:=vJ) hm);go_enter Tryz.func80,Tryz.ntmps80;go_wp2;go_ret
  exact ⟨by unfold Ya;rw [HF.out];rfl,bL⟩
theorem Uo {α:Type} (p:α→Bool):∀xs:List α,xs.any p = decide (0≤pK p xs)
 | []=>rfl
 | x :: xs=>by
   have h:=Uo p xs;simp only [List.any_cons,pK,h];by_cases hp:p x = true
   ·simp [hp]
   ·exact D6
def Ws (ts:List bH) (fk:Int) (x:iU):Bool:=(x.ap == fk)&&!(ts.any fun t=>AY t x)
def BD (ts:List bH) (fk:Int) (xs:List iU):Nat:=(xs.filter (Ws ts fk)).length
theorem Up {ts:List bH} {fk:Int} {xs:List iU} {k:Nat} (h:k < xs.length) (hp:Ws ts fk xs[k] = true):BD ts fk (xs.take (k+1)) = BD ts fk (xs.take k)+1:=by
 unfold BD;rw [List.take_succ_eq_append_getElem h,List.filter_append];simp [hp]
theorem OI {ts:List bH} {fk:Int} {xs:List iU} {k:Nat} (h:k < xs.length) (hp:Ws ts fk xs[k] = false):BD ts fk (xs.take (k+1)) = BD ts fk (xs.take k):=by
 unfold BD;rw [List.take_succ_eq_append_getElem h,List.filter_append];simp [hp]
theorem UN (ts:List bH) (fk:Int) (xs:List iU):BD ts fk xs≤xs.length:=List.length_filter_le _ _
theorem Uq (ts:List bH) (fk:Int) (xs:List iU) (k:Nat):BD ts fk (xs.take k)≤k:=Nat.le_trans (UN _ _ _) MJ
theorem Ur (t:bH) (cs:List Value) (F:List Nat) (x:iU) (q:Nat) (w:World) (h:rd w t cs F) (sc:w.cell? ⟨q,0,none⟩ = some (.string x.key)) (jK:w.cell? ⟨q,1,none⟩ = some (.string x.value)) (mj:w.cell? ⟨q,2,none⟩ = some (.int .i64 x.ap)) (hx:bt x.ap) (ow:q < w.heap.size)
 (fh:(t.key.size:Int)≤1048576) (mL:(t.value.size:Int)≤1048576) (sg:(x.key.size:Int)≤1048576) (j':(x.value.size:Int)≤1048576) :
 Calls Tryz.prog 88 #[.agg cs.toArray,.pointer (some ⟨q,0,none⟩)] w fun e w'=>e = .returned (.bool (AY t x))∧Below w.heap.size w w':=by
 obtain ⟨aD,hF,ce,kP,lD⟩:=jv h;subst aD;subst hF;go_enter Tryz.func88,Tryz.ntmps88;go_wp2_with fail
 refine (ahM t x _ _ [] [] _ (aJ h bL) (Q8 _ x j4 j4 hx) fh mL sg j').mono ?_;rintro e w2 ⟨rfl,aq⟩;go_wp2;go_ret
 exact ⟨rfl,bL⟩
theorem anA (ts:List bH) (A:Option Addr) (n c:Nat) (F:List Nat) (x:iU) (q:Nat) (w:World) (h:Sl w ts A c F) (X:n = ts.length) (sc:w.cell? ⟨q,0,none⟩ = some (.string x.key)) (jK:w.cell? ⟨q,1,none⟩ = some (.string x.value)) (mj:w.cell? ⟨q,2,none⟩ = some (.int .i64 x.ap)) (hx:bt x.ap) (ow:q < w.heap.size) (hl:(ts.length:Int)≤1048576)
 (cW:(∀t∈ts,(t.key.size:Int)≤1048576∧(t.value.size:Int)≤1048576)) (sg:(x.key.size:Int)≤1048576) (j':(x.value.size:Int)≤1048576) :
 Calls Tryz.prog 135 #[.slice A n c,.func (.func 88) #[] #[.pointer (some ⟨q,0,none⟩)]] w fun e w'=>e = .returned (.int .i64 (pK (fun t=>AY t x) ts))∧Below w.heap.size w w':=by
 subst X;have Eo:=I cW;clear cW;go_enter Tryz.func135,Tryz.ntmps135;go_wp2;go_loopw [5,8] (fun _ i wr=>∃k:Nat,k≤ts.length∧i = .int .i64 k∧Hid (∀t∈ts.take k,AY t x = false)∧Below w.heap.size w wr) (fun _ i _=>ts.length - (intOf i).toNat)
 case atStart=>exact ⟨0,Nat.zero_le _,rfl,by show ∀_,_;simp,aj _⟩
 case round =>
  obtain ⟨k,hk,rfl,Hn,aK⟩:=hrel;by_cases av:k < ts.length
  ·obtain ⟨b,o,ck,Fk,rfl,o9,hbs,hr,bA,hc⟩:=(h.ext aK).get av;obtain ⟨aD,su,ce,kP,lD⟩:=jv hr;subst aD;obtain ⟨q0,q1,q2,q3⟩:=Fg 4 hc;clear hc;have d':=aK.cell (p:=⟨q,0,none⟩) ow;have gN:=aK.cell (p:=⟨q,1,none⟩) ow;have g0:=aK.cell (p:=⟨q,2,none⟩) ow;rw [sc] at d';rw [jK] at gN;rw [mj] at g0;have FE:q < wr.heap.size:=Nat.lt_of_lt_of_le ow aK.size;obtain ⟨dq,cR⟩:=Eo.out ts[k] (List.getElem_mem ..);cases hp:AY ts[k] x with
   | false =>
     have HP:=I hp;clear hp;go_wp2_with (go_at_call 88;refine (Ur ts[k] _ _ x q _ hr d' gN g0 hx FE dq cR sg j').mono ?_;rw [HP.out];rintro e w2 ⟨rfl,aq⟩)
     exact ⟨⟨k+1,J,N',yQ (p:=fun t=>AY t x) av Hn.out HP.out,ah aK aq⟩,by simp [intOf];omega⟩
   | true =>
     have HP:=I hp;clear hp;have HI:=I (Fj (p:=fun t=>AY t x) av Hn.out HP.out);go_wp2_with (go_at_call 88;refine (Ur ts[k] _ _ x q _ hr d' gN g0 hx FE dq cR sg j').mono ?_;rw [HP.out];rintro e w2 ⟨rfl,aq⟩)
     go_ret
     exact ⟨by rw [HI.out];rfl,ah aK aq⟩
  ·have bI:k = ts.length:=J;subst bI;have X:=Hn.out;rw [List.take_length] at X;have HI:=I (F5 (p:=fun t=>AY t x) X);clear X;go_wp2;go_ret
   exact ⟨by rw [HI.out];rfl,aK⟩
theorem ahS (ts:List bH) (A:Option Addr) (n c:Nat) (F:List Nat) (x:iU) (q:Nat) (w:World) (h:Sl w ts A c F) (X:n = ts.length) (sc:w.cell? ⟨q,0,none⟩ = some (.string x.key)) (jK:w.cell? ⟨q,1,none⟩ = some (.string x.value)) (mj:w.cell? ⟨q,2,none⟩ = some (.int .i64 x.ap)) (hx:bt x.ap) (ow:q < w.heap.size) (hl:(ts.length:Int)≤1048576)
 (cW:(∀t∈ts,(t.key.size:Int)≤1048576∧(t.value.size:Int)≤1048576)) (sg:(x.key.size:Int)≤1048576) (j':(x.value.size:Int)≤1048576) :
 Calls Tryz.prog 87 #[.slice A n c,.func (.func 88) #[] #[.pointer (some ⟨q,0,none⟩)]] w fun e w'=>e = .returned (.bool (ts.any fun t=>AY t x))∧Below w.heap.size w w':=by
 subst X;have zd:=Uo (fun t=>AY t x) ts;have Eo:=I cW;clear cW;have Hp:=anA ts A _ c F x q w h rfl sc jK mj hx ow hl Eo.out sg j';generalize pK (fun t=>AY t x) ts = z at zd Hp;rw [zd];clear zd Eo;go_enter Tryz.func87,Tryz.ntmps87;go_wp2_with fail
 refine Hp.mono ?_;rintro e w2 ⟨rfl,aq⟩;go_wp2;go_ret
 exact ⟨rfl,aq⟩
theorem UO (ts:List bH) (xs:List iU) (fk:Int) (A B:Option Addr) (n m c d:Nat) (F G:List Nat) (w:World) (h:Sl w ts A c F) (h':Sl w xs B d G) (X:n = ts.length) (hm:m = xs.length) (hl:(ts.length:Int)≤1048576) (R8:(xs.length:Int)≤1048576)
 (cW:(∀t∈ts,(t.key.size:Int)≤1048576∧(t.value.size:Int)≤1048576)) (qD:(∀x∈xs,(x.key.size:Int)≤1048576∧(x.value.size:Int)≤1048576)) :
 Calls Tryz.prog 45 #[.slice A n c,.slice B m d,.int .i64 fk] w fun e w'=>e = .returned (.int .i64 (BD ts fk xs))∧Below w.heap.size w w':=by
 subst hm;subst X;have Eo:=I cW;have LB:=I qD;clear cW qD;go_enter Tryz.func45,Tryz.ntmps45;go_wp2_with fail
 go_loopw [7,12] (fun x i wr=>∃k:Nat,k≤xs.length∧i = .int .i64 k∧x = .int .i64 (BD ts fk (xs.take k))∧Below w.heap.size w wr) (fun _ i _=>xs.length - (intOf i).toNat)
 case atStart=>exact ⟨0,Nat.zero_le _,rfl,rfl,bL⟩
 case round =>
  obtain ⟨k,hk,rfl,rfl,aK⟩:=hrel;by_cases av:k < xs.length
  ·obtain ⟨b,o,ck,Fk,rfl,o9,hbs,hr,bA,hc⟩:=(Sl.ext (w':=wr) (A:=B) (c:=d) h' aK).get av;obtain ⟨aD,su,ce,kP,lD⟩:=oK hr;subst aD;obtain ⟨q0,q1,q2⟩:=pp 3 hc;clear hc;obtain ⟨dq,cR⟩:=LB.out xs[k] (List.getElem_mem ..);have hnt:=Uq ts fk xs k;cases hef:(xs[k].ap == fk) with
   | false =>have hp:Ws ts fk xs[k] = false:=(by unfold Ws;rw [hef];rfl);have HN:=I (OI av hp);clear hp;go_wp2;exact ⟨⟨k+1,J,N',by rw [HN.out] <;> first | rfl | go_num,ak aK _⟩,by simp [intOf];omega⟩
   | true =>
     cases han:(ts.any fun t=>AY t xs[k])
     all_goals
      have hp:Ws ts fk xs[k] = _:=(by unfold Ws;rw [hef,han]);have HA:=I han;clear han;first | have HN:=I (Up av hp) | have HN:=I (OI av hp)
      clear hp;go_wp2_with (go_at_call 87;refine (ahS ts A _ c F xs[k] wr.heap.size _ (Sl.ext (Sl.ext (w':=wr) h aK) bL) rfl KM KM KM lD S' hl Eo.out dq cR).mono ?_;rw [HA.out];rintro e w2 ⟨rfl,aq⟩)
      exact ⟨⟨k+1,J,N',by rw [HN.out] <;> first | rfl | go_num,ah (ak aK _) aq⟩,by simp [intOf];omega⟩
  ·exact Ey
theorem UQ (ts:List bH) (xs:List iU) (fk:Int) (A B:Option Addr) (n m c d:Nat) (F G:List Nat) (w:World) (h:Sl w ts A c F) (h':Sl w xs B d G) (X:n = ts.length) (hm:m = xs.length) (hl:(ts.length:Int)≤1048576) (R8:(xs.length:Int)≤1048576)
 (cW:(∀t∈ts,(t.key.size:Int)≤1048576∧(t.value.size:Int)≤1048576)) (qD:(∀x∈xs,(x.key.size:Int)≤1048576∧(x.value.size:Int)≤1048576)) :
 Calls Tryz.prog 129 #[.slice A n c,.slice B m d,.int .i64 fk] w fun e w'=>e = .returned (.int .i64 (BD ts fk xs))∧Below w.heap.size w w':=by
 subst hm;subst X;have Eo:=I cW;have LB:=I qD;clear cW qD;go_enter Tryz.func129,Tryz.ntmps129;go_wp2_with fail
 go_loopw [7,8] (fun x i wr=>∃k:Nat,k≤xs.length∧i = .int .i64 k∧x = .int .i64 (BD ts fk (xs.take k))∧Below w.heap.size w wr) (fun _ i _=>xs.length - (intOf i).toNat)
 case atStart=>exact ⟨0,Nat.zero_le _,rfl,rfl,bL⟩
 case round =>
  obtain ⟨k,hk,rfl,rfl,aK⟩:=hrel;by_cases av:k < xs.length
  ·obtain ⟨b,o,ck,Fk,rfl,o9,hbs,hr,bA,hc⟩:=(Sl.ext (w':=wr) (A:=B) (c:=d) h' aK).get av;obtain ⟨aD,su,ce,kP,lD⟩:=oK hr;subst aD;obtain ⟨q0,q1,q2⟩:=pp 3 hc;clear hc;obtain ⟨dq,cR⟩:=LB.out xs[k] (List.getElem_mem ..);have hnt:=Uq ts fk xs k;generalize hz:(BD ts fk (xs.take k):Int) = z at *;have LC:((xs[k].ap != fk) || (ts.take 0).any (fun t=>AY t xs[k])) = (xs[k].ap != fk):=S';obtain ⟨wo,hwo⟩:∃wo,wo = wr:=⟨_,rfl⟩;subst hwo;go_wp2_with fail
   go_loopw [9,10] (fun v u wi=>∃j:Nat,j≤ts.length∧u = .int .i64 j∧v = .bool ((xs[k].ap != fk) || (ts.take j).any (fun t=>AY t xs[k]))∧Below w.heap.size w wi∧Below wo.heap.size wo wi) (fun _ u _=>ts.length - (intOf u).toNat)
   case atStart=>exact ⟨0,Nat.zero_le _,rfl,by rw [LC],aK,aj _⟩
   case round =>
    obtain ⟨j,hj,rfl,rfl,hbi,yn⟩:=hrel;replace q0:=r' yn q0 hbs;replace q1:=r' yn q1 hbs;replace q2:=r' yn q2 hbs;replace hbs:=Nat.lt_of_lt_of_le hbs yn.size;by_cases mr:j < ts.length
    ·obtain ⟨b2,o2,ck2,Fk2,rfl,ayO,uO,g0,nJ,cj⟩:=(Sl.ext (w':=wr) (A:=A) (c:=c) h hbi).get mr;obtain ⟨aD,abT,vC,rP,uY⟩:=jv g0;subst aD;obtain ⟨p0,p1,p2,p3⟩:=Fg 4 cj;clear cj;obtain ⟨TO,ht2⟩:=Eo.out ts[j] (List.getElem_mem ..);have n9:(ts.take (j+1)).any (fun t=>AY t xs[k]) = ((ts.take j).any (fun t=>AY t xs[k]) || AY ts[j] xs[k]):=(by rw [List.take_succ_eq_append_getElem mr,List.any_append];simp);generalize hv:((xs[k].ap != fk) || (ts.take j).any (fun t=>AY t xs[k])) = v at *;have fq:((xs[k].ap != fk) || (ts.take (j+1)).any (fun t=>AY t xs[k])) = (v || AY ts[j] xs[k]):=(by rw [n9,← Bool.or_assoc,hv]);have Jf:=I fq;clear fq n9 hv LC;cases v
     all_goals
      go_wp2_with fail
      refine aF _ U' U' (aj _) ?_
      repeat (first
       | (apply aG
          case hw=>rfl
          simp only [Act.put,pz])
       | (apply aH
          case hw=>rfl
          case h =>
           intro wq hq;have dE:=(aB hq).1;have lJ:=(aB hq).2;go_simp
           first
            | exact ⟨hq,rfl⟩
            | exact ⟨aQ hq _,rfl⟩
            | (refine (ahN ts[j] xs[k] _ _ _ [] _ (aJ g0 RO) (Q8 _ xs[k] ce kP lD) TO ht2 dq cR).mono ?_;rintro e w2 ⟨rfl,aq⟩;exact ⟨rfl,aI hq aq⟩)
            | (simp only [↓IntWalk.iteOmega];exact ⟨hq,rfl⟩)
          simp only [Act.put,pz]))
      refine aN ?_;intro wn X;replace X:=X.out;go_wp2;exact ⟨⟨j+1,J,N',by rw [Jf.out];rfl,ah hbi X,ah yn X⟩,by simp [intOf];omega⟩
    ·have M8:j = ts.length:=J;subst M8;rw [List.take_length];cases hef:(xs[k].ap == fk) <;> cases han:(ts.any fun t=>AY t xs[k])
     all_goals
      have hp:Ws ts fk xs[k] = _:=(by unfold Ws;rw [hef,han]);simp only [Bool.false_and,Bool.true_and,Bool.not_true,Bool.not_false] at hp;first | have HN:=I (Up av hp) | have HN:=I (OI av hp)
      have bX:(xs[k].ap != fk) = _:=(by unfold bne;rw [hef]);rw [bX];clear hp han;go_wp2;exact ⟨⟨k+1,J,N',by rw [HN.out,← hz] <;> first | rfl | go_num,hbi⟩,by simp [intOf];omega⟩
  ·exact Ey
end Go.Proofs.YtajbbmembionpaaGreat
