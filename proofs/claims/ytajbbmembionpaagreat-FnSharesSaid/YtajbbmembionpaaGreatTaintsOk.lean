/- TaintsOk, of the program and of the reference. No condition. -/
import Derived.Test.YtajbbmembionpaaGreatCmp2
import Derived.Test.YtajbbmembionpaaGreatRows2
import Derived.Test.YtajbbmembionpaaGreatAt
namespace Go.Proofs.YtajbbmembionpaaGreat
open Go.ChangeShapes Go.WideShapes Go.ChangeAt Go.RowKit
set_option linter.unusedVariables false
set_option linter.unusedSimpArgs false
set_option maxHeartbeats 2000000
set_option maxRecDepth 100000
def La (xs:List iU):Bool:=nd Dp qo 4 xs
theorem ZL (xs:List iU) (A:Option Addr) (n c:Nat) (F:List Nat) (w:World) (h:Sl w xs A c F) (Z:n = xs.length) (hl:(xs.length:Int)≤1048576) (cP:∀l∈xs,(l.key.size:Int)≤1048576∧(l.value.size:Int)≤1048576) :
 Calls Tryz.prog 92 #[.slice A n c] w fun e w'=>e = .returned (.bool (La xs))∧Below w.heap.size w w':=by
 subst Z;have Eo:=I cP;clear cP;by_cases hm:(xs.length:Int)≤4
 ·go_enter Tryz.func92,Tryz.ntmps92;go_wp2_with fail
  go_loopw [3] (fun i wr=>∃k:Nat,k≤xs.length∧i = .int .i64 k∧Hid (∀j,j < k→bS Dp qo xs j = true)∧Below w.heap.size w wr) (fun i _=>xs.length - (intOf i).toNat)
  case atStart=>exact ⟨0,Nat.zero_le _,rfl,(fun j hj=>by omega),bJ⟩
  case round =>
   obtain ⟨k,hk,rfl,hall,aR⟩:=hrel;by_cases ax:k < xs.length
   ·obtain rfl | ⟨j,rfl⟩:k = 0∨∃j,k = j+1:=by cases k with | zero=>exact .inl rfl | succ j=>exact .inr ⟨j,rfl⟩
    ·obtain ⟨b,o,ck,Fk,rfl,o9,hbs,hr,bB,hc⟩:=(Sl.ext (w':=wr) (A:=A) (c:=c) h aR).get ax;obtain ⟨aE,su,cf,kP,lD⟩:=oK hr;subst aE;obtain ⟨q0,q1,q2⟩:=pS 3 hc;clear hc;simp only [Nat.zero_mul,Nat.add_zero] at q0 q1 q2;have dB:=(Eo.out xs[0] (List.getElem_mem ..)).1;have cR:=(Eo.out xs[0] (List.getElem_mem ..)).2;subst su;have du:=hr;cases h1:Dp xs[0]
     all_goals
      have hp:=cF (ok:=Dp) (less:=qo) ax;rw [h1] at hp;try simp only [Bool.false_and,Bool.and_false,Bool.and_true,Bool.and_self] at hp
      change bS Dp qo xs _ = _ at hp;have H1:=I h1
      first
       | have HN:=I (gq hall.out hp)
       | have HF:=I (wU (most:=4) ax hp)
      clear h1 hp;go_wp2_with fail
      refine aF _ U' U' (aj _) ?_
      repeat (first
       | (apply aG
          case hw=>rfl
          simp only [Act.put,pz])
       | (apply aH
          case hw=>rfl
          case h =>
           intro wq hq;have ee:=(aB hq).1;have lJ:=(aB hq).2;go_simp
           first
            | exact ⟨hq,rfl⟩
            | exact ⟨aQ hq _,rfl⟩
            | (first | (refine (Wh xs[0] _ [] _ (aJ du I7) dB cR).mono ?_;rw [H1.out];rintro e w2 ⟨rfl,ar⟩;exact ⟨rfl,aI hq ar⟩) | (refine (xu.out _ AE).mono ?_;rintro e w2 ⟨rfl,ar⟩;exact ⟨rfl,aI hq ar⟩))
            | (simp only [↓IntWalk.iteOmega];exact ⟨hq,rfl⟩)
          simp only [Act.put,pz]))
      refine aN ?_;intro wn Z;replace Z:=Z.out;go_wp2
      first
       | exact ⟨⟨0+1,J,N',HN.out,ah aR Z⟩,by simp [intOf];omega⟩
       | (go_ret;exact ⟨by unfold La;rw [HF.out];rfl,ah aR Z⟩)
    ·obtain ⟨b,o,ck,Fk,rfl,o9,hbs,hr,bB,hc⟩:=(Sl.ext (w':=wr) (A:=A) (c:=c) h aR).get ax;obtain ⟨aE,su,cf,kP,lD⟩:=oK hr;subst aE;obtain ⟨q0,q1,q2⟩:=pS 3 hc;clear hc;obtain ⟨b',o',TY,Xw,e,Ht,hbs',d',zQ,hc'⟩:=Sl.get (Sl.ext (w':=wr) (c:=c) h aR) (show j < xs.length by omega);obtain ⟨jU,abT,vC,rP,uY⟩:=oK d';subst jU;obtain ⟨rfl,rfl⟩:b' = b∧o' = o:=by simpa using e.symm
     clear e;obtain ⟨p0,p1,p2⟩:=pS 3 hc';clear hc';have AJ:IntKind.i64.wrap (j:Int) = j:=IntWalk.i64_in _ J;have mW:j < xs.length:=J;have dB:=(Eo.out xs[j+1] (List.getElem_mem ..)).1;have cR:=(Eo.out xs[j+1] (List.getElem_mem ..)).2;subst su;have du:=hr;cases h1:Dp xs[j+1] <;> cases h3:qo xs[j] xs[j+1]
     all_goals
      have hp:=yS (ok:=Dp) (less:=qo) ax;rw [h1,h3] at hp;try simp only [Bool.false_and,Bool.and_false,Bool.and_true,Bool.and_self] at hp
      change bS Dp qo xs _ = _ at hp;have H1:=I h1
      first
       | have HN:=I (gq hall.out hp)
       | have HF:=I (wU (most:=4) ax hp)
      have hC:∀wq,Below wr.heap.size wr wq→Calls Tryz.prog 139 #[.agg #[.string xs[j].key,.string xs[j].value,.int .i64 xs[j].ao],.agg #[.string xs[j+1].key,.string xs[j+1].value,.int .i64 xs[j+1].ao]] wq fun e w'=>e = .returned (.bool (qo xs[j] xs[j+1]))∧Below wq.heap.size wq w' :=
       fun wq hq=>PV xs[j] xs[j+1] _ _ _ _ _ (aJ d' hq) (aJ du hq)
      rw [h3] at hC;have xu:=I hC;clear hC;clear h1 hp;go_wp2_with fail
      refine aF _ U' U' (aj _) ?_
      repeat (first
       | (apply aG
          case hw=>rfl
          simp only [Act.put,pz])
       | (apply aH
          case hw=>rfl
          case h =>
           intro wq hq;have ee:=(aB hq).1;have lJ:=(aB hq).2;go_simp
           first
            | exact ⟨hq,rfl⟩
            | exact ⟨aQ hq _,rfl⟩
            | (first | (refine (Wh xs[j+1] _ [] _ (aJ du I7) dB cR).mono ?_;rw [H1.out];rintro e w2 ⟨rfl,ar⟩;exact ⟨rfl,aI hq ar⟩) | (refine (xu.out _ AE).mono ?_;rintro e w2 ⟨rfl,ar⟩;exact ⟨rfl,aI hq ar⟩))
            | (simp only [↓IntWalk.iteOmega];exact ⟨hq,rfl⟩)
          simp only [Act.put,pz]))
      refine aN ?_;intro wn Z;replace Z:=Z.out;go_wp2
      first
       | exact ⟨⟨j+1+1,J,N',HN.out,ah aR Z⟩,by simp [intOf];omega⟩
       | (go_ret;exact ⟨by unfold La;rw [HF.out];rfl,ah aR Z⟩)
   ·have bF:k = xs.length:=J;subst bF;have HF:=I (Jy hm hall.out);go_wp2;go_ret
    exact ⟨by unfold La;rw [HF.out];rfl,aR⟩
 ·have HF:=I (Jz (ok:=Dp) (less:=qo) hm);go_enter Tryz.func92,Tryz.ntmps92;go_wp2;go_ret
  exact ⟨by unfold La;rw [HF.out];rfl,bJ⟩
def Ya (xs:List bH):Bool:=nd Q5 vJ 4 xs
theorem RI (xs:List bH) (A:Option Addr) (n c:Nat) (F:List Nat) (w:World) (h:Sl w xs A c F) (Z:n = xs.length) (hl:(xs.length:Int)≤1048576) (cP:∀l∈xs,(l.key.size:Int)≤1048576∧(l.value.size:Int)≤1048576) :
 Calls Tryz.prog 80 #[.slice A n c] w fun e w'=>e = .returned (.bool (Ya xs))∧Below w.heap.size w w':=by
 subst Z;have Eo:=I cP;clear cP;by_cases hm:(xs.length:Int)≤4
 ·go_enter Tryz.func80,Tryz.ntmps80;go_wp2_with fail
  go_loopw [3] (fun i wr=>∃k:Nat,k≤xs.length∧i = .int .i64 k∧Hid (∀j,j < k→bS Q5 vJ xs j = true)∧Below w.heap.size w wr) (fun i _=>xs.length - (intOf i).toNat)
  case atStart=>exact ⟨0,Nat.zero_le _,rfl,(fun j hj=>by omega),bJ⟩
  case round =>
   obtain ⟨k,hk,rfl,hall,aR⟩:=hrel;by_cases ax:k < xs.length
   ·obtain rfl | ⟨j,rfl⟩:k = 0∨∃j,k = j+1:=by cases k with | zero=>exact .inl rfl | succ j=>exact .inr ⟨j,rfl⟩
    ·obtain ⟨b,o,ck,Fk,rfl,o9,hbs,hr,bB,hc⟩:=(Sl.ext (w':=wr) (A:=A) (c:=c) h aR).get ax;obtain ⟨aE,su,cf,kP,lD⟩:=jv hr;subst aE;obtain ⟨q0,q1,q2,q3⟩:=EE 4 hc;clear hc;simp only [Nat.zero_mul,Nat.add_zero] at q0 q1 q2 q3;have dB:=(Eo.out xs[0] (List.getElem_mem ..)).1;have cR:=(Eo.out xs[0] (List.getElem_mem ..)).2;subst su;have du:=hr;cases h1:Q5 xs[0]
     all_goals
      have hp:=cF (ok:=Q5) (less:=vJ) ax;rw [h1] at hp;try simp only [Bool.false_and,Bool.and_false,Bool.and_true,Bool.and_self] at hp
      change bS Q5 vJ xs _ = _ at hp;have H1:=I h1
      first
       | have HN:=I (gq hall.out hp)
       | have HF:=I (wU (most:=4) ax hp)
      clear h1 hp;go_wp2_with fail
      refine aF _ U' U' (aj _) ?_
      repeat (first
       | (apply aG
          case hw=>rfl
          simp only [Act.put,pz])
       | (apply aH
          case hw=>rfl
          case h =>
           intro wq hq;have ee:=(aB hq).1;have lJ:=(aB hq).2;go_simp
           first
            | exact ⟨hq,rfl⟩
            | exact ⟨aQ hq _,rfl⟩
            | (first | (refine (Nb xs[0] _ [] _ (aJ du I7) dB cR).mono ?_;rw [H1.out];rintro e w2 ⟨rfl,ar⟩;exact ⟨rfl,aI hq ar⟩) | (refine (xu.out _ AE).mono ?_;rintro e w2 ⟨rfl,ar⟩;exact ⟨rfl,aI hq ar⟩))
            | (simp only [↓IntWalk.iteOmega];exact ⟨hq,rfl⟩)
          simp only [Act.put,pz]))
      refine aN ?_;intro wn Z;replace Z:=Z.out;go_wp2
      first
       | exact ⟨⟨0+1,J,N',HN.out,ah aR Z⟩,by simp [intOf];omega⟩
       | (go_ret;exact ⟨by unfold Ya;rw [HF.out];rfl,ah aR Z⟩)
    ·obtain ⟨b,o,ck,Fk,rfl,o9,hbs,hr,bB,hc⟩:=(Sl.ext (w':=wr) (A:=A) (c:=c) h aR).get ax;obtain ⟨aE,su,cf,kP,lD⟩:=jv hr;subst aE;obtain ⟨q0,q1,q2,q3⟩:=EE 4 hc;clear hc;obtain ⟨b',o',TY,Xw,e,Ht,hbs',d',zQ,hc'⟩:=Sl.get (Sl.ext (w':=wr) (c:=c) h aR) (show j < xs.length by omega);obtain ⟨jU,abT,vC,rP,uY⟩:=jv d';subst jU;obtain ⟨rfl,rfl⟩:b' = b∧o' = o:=by simpa using e.symm
     clear e;obtain ⟨p0,p1,p2,p3⟩:=EE 4 hc';clear hc';have AJ:IntKind.i64.wrap (j:Int) = j:=IntWalk.i64_in _ J;have mW:j < xs.length:=J;have dB:=(Eo.out xs[j+1] (List.getElem_mem ..)).1;have cR:=(Eo.out xs[j+1] (List.getElem_mem ..)).2;subst su;have du:=hr;cases h1:Q5 xs[j+1] <;> cases h3:vJ xs[j] xs[j+1]
     all_goals
      have hp:=yS (ok:=Q5) (less:=vJ) ax;rw [h1,h3] at hp;try simp only [Bool.false_and,Bool.and_false,Bool.and_true,Bool.and_self] at hp
      change bS Q5 vJ xs _ = _ at hp;have H1:=I h1
      first
       | have HN:=I (gq hall.out hp)
       | have HF:=I (wU (most:=4) ax hp)
      have hC:∀wq,Below wr.heap.size wr wq→Calls Tryz.prog 79 #[.agg #[.string xs[j].key,.bool xs[j].equal,.string xs[j].value,.int .i64 xs[j].ao],.agg #[.string xs[j+1].key,.bool xs[j+1].equal,.string xs[j+1].value,.int .i64 xs[j+1].ao]] wq fun e w'=>e = .returned (.bool (vJ xs[j] xs[j+1]))∧Below wq.heap.size wq w' :=
       fun wq hq=>PZ xs[j] xs[j+1] _ _ _ _ _ (aJ d' hq) (aJ du hq)
      rw [h3] at hC;have xu:=I hC;clear hC;clear h1 hp;go_wp2_with fail
      refine aF _ U' U' (aj _) ?_
      repeat (first
       | (apply aG
          case hw=>rfl
          simp only [Act.put,pz])
       | (apply aH
          case hw=>rfl
          case h =>
           intro wq hq;have ee:=(aB hq).1;have lJ:=(aB hq).2;go_simp
           first
            | exact ⟨hq,rfl⟩
            | exact ⟨aQ hq _,rfl⟩
            | (first | (refine (Nb xs[j+1] _ [] _ (aJ du I7) dB cR).mono ?_;rw [H1.out];rintro e w2 ⟨rfl,ar⟩;exact ⟨rfl,aI hq ar⟩) | (refine (xu.out _ AE).mono ?_;rintro e w2 ⟨rfl,ar⟩;exact ⟨rfl,aI hq ar⟩))
            | (simp only [↓IntWalk.iteOmega];exact ⟨hq,rfl⟩)
          simp only [Act.put,pz]))
      refine aN ?_;intro wn Z;replace Z:=Z.out;go_wp2
      first
       | exact ⟨⟨j+1+1,J,N',HN.out,ah aR Z⟩,by simp [intOf];omega⟩
       | (go_ret;exact ⟨by unfold Ya;rw [HF.out];rfl,ah aR Z⟩)
   ·have bF:k = xs.length:=J;subst bF;have HF:=I (Jy hm hall.out);go_wp2;go_ret
    exact ⟨by unfold Ya;rw [HF.out];rfl,aR⟩
 ·have HF:=I (Jz (ok:=Q5) (less:=vJ) hm);go_enter Tryz.func80,Tryz.ntmps80;go_wp2;go_ret
  exact ⟨by unfold Ya;rw [HF.out];rfl,bJ⟩
theorem Sz {α:Type} (p:α→Bool):∀xs:List α,xs.any p = decide (0≤pK p xs)
 | []=>rfl
 | x :: xs=>by
   have h:=Sz p xs;simp only [List.any_cons,pK,h];by_cases hp:p x = true
   ·simp [hp]
   ·simp only [Bool.not_eq_true] at hp;simp only [hp,Bool.false_or,if_neg (show ¬false = true by simp)];rw [Bool.eq_iff_iff,decide_eq_true_eq,decide_eq_true_eq];split <;> omega
def Ws (ts:List bH) (fe:Int) (x:iU):Bool:=(x.ao == fe)&&!(ts.any fun t=>AY t x)
def BD (ts:List bH) (fe:Int) (xs:List iU):Nat:=(xs.filter (Ws ts fe)).length
theorem SA {ts:List bH} {fe:Int} {xs:List iU} {k:Nat} (h:k < xs.length) (hp:Ws ts fe xs[k] = true):BD ts fe (xs.take (k+1)) = BD ts fe (xs.take k)+1:=by
 unfold BD;rw [List.take_succ_eq_append_getElem h,List.filter_append];simp [hp]
theorem Nv {ts:List bH} {fe:Int} {xs:List iU} {k:Nat} (h:k < xs.length) (hp:Ws ts fe xs[k] = false):BD ts fe (xs.take (k+1)) = BD ts fe (xs.take k):=by
 unfold BD;rw [List.take_succ_eq_append_getElem h,List.filter_append];simp [hp]
theorem UN (ts:List bH) (fe:Int) (xs:List iU):BD ts fe xs≤xs.length:=List.length_filter_le _ _
theorem SF (ts:List bH) (fe:Int) (xs:List iU) (k:Nat):BD ts fe (xs.take k)≤k:=Nat.le_trans (UN _ _ _) LC
theorem SI (t:bH) (cs:List Value) (F:List Nat) (x:iU) (q:Nat) (w:World) (h:rd w t cs F) (sx:w.cell? ⟨q,0,none⟩ = some (.string x.key)) (ei:w.cell? ⟨q,1,none⟩ = some (.string x.value)) (lR:w.cell? ⟨q,2,none⟩ = some (.int .i64 x.ao)) (hx:br x.ao) (oE:q < w.heap.size)
 (gd:(t.key.size:Int)≤1048576) (mT:(t.value.size:Int)≤1048576) (sA:(x.key.size:Int)≤1048576) (j':(x.value.size:Int)≤1048576) :
 Calls Tryz.prog 88 #[.agg cs.toArray,.pointer (some ⟨q,0,none⟩)] w fun e w'=>e = .returned (.bool (AY t x))∧Below w.heap.size w w':=by
 obtain ⟨aE,hF,cf,kP,lD⟩:=jv h;subst aE;subst hF;go_enter Tryz.func88,Tryz.ntmps88;go_wp2_with fail
 refine (ahM t x _ _ [] [] _ (aJ h bJ) (Q8 _ x kD kD hx) gd mT sA j').mono ?_;rintro e w2 ⟨rfl,ar⟩;go_wp2;go_ret
 exact ⟨rfl,bJ⟩
theorem anA (ts:List bH) (A:Option Addr) (n c:Nat) (F:List Nat) (x:iU) (q:Nat) (w:World) (h:Sl w ts A c F) (Z:n = ts.length) (sx:w.cell? ⟨q,0,none⟩ = some (.string x.key)) (ei:w.cell? ⟨q,1,none⟩ = some (.string x.value)) (lR:w.cell? ⟨q,2,none⟩ = some (.int .i64 x.ao)) (hx:br x.ao) (oE:q < w.heap.size) (hl:(ts.length:Int)≤1048576)
 (cP:(∀t∈ts,(t.key.size:Int)≤1048576∧(t.value.size:Int)≤1048576)) (sA:(x.key.size:Int)≤1048576) (j':(x.value.size:Int)≤1048576) :
 Calls Tryz.prog 135 #[.slice A n c,.func (.func 88) #[] #[.pointer (some ⟨q,0,none⟩)]] w fun e w'=>e = .returned (.int .i64 (pK (fun t=>AY t x) ts))∧Below w.heap.size w w':=by
 subst Z;have Eo:=I cP;clear cP;go_enter Tryz.func135,Tryz.ntmps135;go_wp2;go_loopw [5,8] (fun _ i wr=>∃k:Nat,k≤ts.length∧i = .int .i64 k∧Hid (∀t∈ts.take k,AY t x = false)∧Below w.heap.size w wr) (fun _ i _=>ts.length - (intOf i).toNat)
 case atStart=>exact ⟨0,Nat.zero_le _,rfl,by show ∀_,_;simp,aj _⟩
 case round =>
  obtain ⟨k,hk,rfl,Hn,aR⟩:=hrel;by_cases ax:k < ts.length
  ·obtain ⟨b,o,ck,Fk,rfl,o9,hbs,hr,bB,hc⟩:=(h.ext aR).get ax;obtain ⟨aE,su,cf,kP,lD⟩:=jv hr;subst aE;obtain ⟨q0,q1,q2,q3⟩:=EE 4 hc;clear hc;have du:=aR.cell (p:=⟨q,0,none⟩) oE;have cW:=aR.cell (p:=⟨q,1,none⟩) oE;have gx:=aR.cell (p:=⟨q,2,none⟩) oE;rw [sx] at du;rw [ei] at cW;rw [lR] at gx;have ES:q < wr.heap.size:=Nat.lt_of_lt_of_le oE aR.size;obtain ⟨dB,cR⟩:=Eo.out ts[k] (List.getElem_mem ..);cases hp:AY ts[k] x with
   | false =>
     have HP:=I hp;clear hp;go_wp2_with (go_at_call 88;refine (SI ts[k] _ _ x q _ hr du cW gx hx ES dB cR sA j').mono ?_;rw [HP.out];rintro e w2 ⟨rfl,ar⟩)
     exact ⟨⟨k+1,J,N',yQ (p:=fun t=>AY t x) ax Hn.out HP.out,ah aR ar⟩,by simp [intOf];omega⟩
   | true =>
     have HP:=I hp;clear hp;have HI:=I (Fj (p:=fun t=>AY t x) ax Hn.out HP.out);go_wp2_with (go_at_call 88;refine (SI ts[k] _ _ x q _ hr du cW gx hx ES dB cR sA j').mono ?_;rw [HP.out];rintro e w2 ⟨rfl,ar⟩)
     go_ret
     exact ⟨by rw [HI.out];rfl,ah aR ar⟩
  ·have bF:k = ts.length:=J;subst bF;have Z:=Hn.out;rw [List.take_length] at Z;have HI:=I (F5 (p:=fun t=>AY t x) Z);clear Z;go_wp2;go_ret
   exact ⟨by rw [HI.out];rfl,aR⟩
theorem ahS (ts:List bH) (A:Option Addr) (n c:Nat) (F:List Nat) (x:iU) (q:Nat) (w:World) (h:Sl w ts A c F) (Z:n = ts.length) (sx:w.cell? ⟨q,0,none⟩ = some (.string x.key)) (ei:w.cell? ⟨q,1,none⟩ = some (.string x.value)) (lR:w.cell? ⟨q,2,none⟩ = some (.int .i64 x.ao)) (hx:br x.ao) (oE:q < w.heap.size) (hl:(ts.length:Int)≤1048576)
 (cP:(∀t∈ts,(t.key.size:Int)≤1048576∧(t.value.size:Int)≤1048576)) (sA:(x.key.size:Int)≤1048576) (j':(x.value.size:Int)≤1048576) :
 Calls Tryz.prog 87 #[.slice A n c,.func (.func 88) #[] #[.pointer (some ⟨q,0,none⟩)]] w fun e w'=>e = .returned (.bool (ts.any fun t=>AY t x))∧Below w.heap.size w w':=by
 subst Z;have Nw:=Sz (fun t=>AY t x) ts;have Eo:=I cP;clear cP;have SJ:=anA ts A _ c F x q w h rfl sx ei lR hx oE hl Eo.out sA j';generalize pK (fun t=>AY t x) ts = z at Nw SJ;rw [Nw];clear Nw Eo;go_enter Tryz.func87,Tryz.ntmps87;go_wp2_with fail
 refine SJ.mono ?_;rintro e w2 ⟨rfl,ar⟩;go_wp2;go_ret
 exact ⟨rfl,ar⟩
theorem UO (ts:List bH) (xs:List iU) (fe:Int) (A B:Option Addr) (n m c d:Nat) (F G:List Nat) (w:World) (h:Sl w ts A c F) (h':Sl w xs B d G) (Z:n = ts.length) (hm:m = xs.length) (hl:(ts.length:Int)≤1048576) (Qr:(xs.length:Int)≤1048576)
 (cP:(∀t∈ts,(t.key.size:Int)≤1048576∧(t.value.size:Int)≤1048576)) (ro:(∀x∈xs,(x.key.size:Int)≤1048576∧(x.value.size:Int)≤1048576)) :
 Calls Tryz.prog 45 #[.slice A n c,.slice B m d,.int .i64 fe] w fun e w'=>e = .returned (.int .i64 (BD ts fe xs))∧Below w.heap.size w w':=by
 subst hm;subst Z;have Eo:=I cP;have Ky:=I ro;clear cP ro;go_enter Tryz.func45,Tryz.ntmps45;go_wp2_with fail
 go_loopw [7,12] (fun x i wr=>∃k:Nat,k≤xs.length∧i = .int .i64 k∧x = .int .i64 (BD ts fe (xs.take k))∧Below w.heap.size w wr) (fun _ i _=>xs.length - (intOf i).toNat)
 case atStart=>exact ⟨0,Nat.zero_le _,rfl,rfl,bJ⟩
 case round =>
  obtain ⟨k,hk,rfl,rfl,aR⟩:=hrel;by_cases ax:k < xs.length
  ·obtain ⟨b,o,ck,Fk,rfl,o9,hbs,hr,bB,hc⟩:=(Sl.ext (w':=wr) (A:=B) (c:=d) h' aR).get ax;obtain ⟨aE,su,cf,kP,lD⟩:=oK hr;subst aE;obtain ⟨q0,q1,q2⟩:=pS 3 hc;clear hc;obtain ⟨dB,cR⟩:=Ky.out xs[k] (List.getElem_mem ..);have hnt:=SF ts fe xs k;cases hef:(xs[k].ao == fe) with
   | false =>have hp:Ws ts fe xs[k] = false:=(by unfold Ws;rw [hef];rfl);have HN:=I (Nv ax hp);clear hp;go_wp2;exact ⟨⟨k+1,J,N',by rw [HN.out] <;> first | rfl | go_num,ak aR _⟩,by simp [intOf];omega⟩
   | true =>
     cases han:(ts.any fun t=>AY t xs[k])
     all_goals
      have hp:Ws ts fe xs[k] = _:=(by unfold Ws;rw [hef,han]);have HA:=I han;clear han;first | have HN:=I (SA ax hp) | have HN:=I (Nv ax hp)
      clear hp;go_wp2_with (go_at_call 87;refine (ahS ts A _ c F xs[k] wr.heap.size _ (Sl.ext (Sl.ext (w':=wr) h aR) bJ) rfl Jc Jc Jc lD S' hl Eo.out dB cR).mono ?_;rw [HA.out];rintro e w2 ⟨rfl,ar⟩)
      exact ⟨⟨k+1,J,N',by rw [HN.out] <;> first | rfl | go_num,ah (ak aR _) ar⟩,by simp [intOf];omega⟩
  ·exact D2
theorem UQ (ts:List bH) (xs:List iU) (fe:Int) (A B:Option Addr) (n m c d:Nat) (F G:List Nat) (w:World) (h:Sl w ts A c F) (h':Sl w xs B d G) (Z:n = ts.length) (hm:m = xs.length) (hl:(ts.length:Int)≤1048576) (Qr:(xs.length:Int)≤1048576)
 (cP:(∀t∈ts,(t.key.size:Int)≤1048576∧(t.value.size:Int)≤1048576)) (ro:(∀x∈xs,(x.key.size:Int)≤1048576∧(x.value.size:Int)≤1048576)) :
 Calls Tryz.prog 129 #[.slice A n c,.slice B m d,.int .i64 fe] w fun e w'=>e = .returned (.int .i64 (BD ts fe xs))∧Below w.heap.size w w':=by
 subst hm;subst Z;have Eo:=I cP;have Ky:=I ro;clear cP ro;go_enter Tryz.func129,Tryz.ntmps129;go_wp2_with fail
 go_loopw [7,8] (fun x i wr=>∃k:Nat,k≤xs.length∧i = .int .i64 k∧x = .int .i64 (BD ts fe (xs.take k))∧Below w.heap.size w wr) (fun _ i _=>xs.length - (intOf i).toNat)
 case atStart=>exact ⟨0,Nat.zero_le _,rfl,rfl,bJ⟩
 case round =>
  obtain ⟨k,hk,rfl,rfl,aR⟩:=hrel;by_cases ax:k < xs.length
  ·obtain ⟨b,o,ck,Fk,rfl,o9,hbs,hr,bB,hc⟩:=(Sl.ext (w':=wr) (A:=B) (c:=d) h' aR).get ax;obtain ⟨aE,su,cf,kP,lD⟩:=oK hr;subst aE;obtain ⟨q0,q1,q2⟩:=pS 3 hc;clear hc;obtain ⟨dB,cR⟩:=Ky.out xs[k] (List.getElem_mem ..);have hnt:=SF ts fe xs k;generalize hz:(BD ts fe (xs.take k):Int) = z at *;have KA:((xs[k].ao != fe) || (ts.take 0).any (fun t=>AY t xs[k])) = (xs[k].ao != fe):=S';obtain ⟨wo,hwo⟩:∃wo,wo = wr:=⟨_,rfl⟩;subst hwo;go_wp2_with fail
   go_loopw [9,10] (fun v u wi=>∃j:Nat,j≤ts.length∧u = .int .i64 j∧v = .bool ((xs[k].ao != fe) || (ts.take j).any (fun t=>AY t xs[k]))∧Below w.heap.size w wi∧Below wo.heap.size wo wi) (fun _ u _=>ts.length - (intOf u).toNat)
   case atStart=>exact ⟨0,Nat.zero_le _,rfl,by rw [KA],aR,aj _⟩
   case round =>
    obtain ⟨j,hj,rfl,rfl,hbi,yk⟩:=hrel;replace q0:=r' yk q0 hbs;replace q1:=r' yk q1 hbs;replace q2:=r' yk q2 hbs;replace hbs:=Nat.lt_of_lt_of_le hbs yk.size;by_cases mW:j < ts.length
    ·obtain ⟨b2,o2,ck2,Fk2,rfl,ayO,uO,gx,nX,cq⟩:=(Sl.ext (w':=wr) (A:=A) (c:=c) h hbi).get mW;obtain ⟨aE,abT,vC,rP,uY⟩:=jv gx;subst aE;obtain ⟨p0,p1,p2,p3⟩:=EE 4 cq;clear cq;obtain ⟨RS,ht2⟩:=Eo.out ts[j] (List.getElem_mem ..);have ng:(ts.take (j+1)).any (fun t=>AY t xs[k]) = ((ts.take j).any (fun t=>AY t xs[k]) || AY ts[j] xs[k]):=(by rw [List.take_succ_eq_append_getElem mW,List.any_append];simp);generalize hv:((xs[k].ao != fe) || (ts.take j).any (fun t=>AY t xs[k])) = v at *;have fl:((xs[k].ao != fe) || (ts.take (j+1)).any (fun t=>AY t xs[k])) = (v || AY ts[j] xs[k]):=(by rw [ng,← Bool.or_assoc,hv]);have Jf:=I fl;clear fl ng hv KA;cases v
     all_goals
      go_wp2_with fail
      refine aF _ U' U' (aj _) ?_
      repeat (first
       | (apply aG
          case hw=>rfl
          simp only [Act.put,pz])
       | (apply aH
          case hw=>rfl
          case h =>
           intro wq hq;have ee:=(aB hq).1;have lJ:=(aB hq).2;go_simp
           first
            | exact ⟨hq,rfl⟩
            | exact ⟨aQ hq _,rfl⟩
            | (refine (ahN ts[j] xs[k] _ _ _ [] _ (aJ gx Qf) (Q8 _ xs[k] cf kP lD) RS ht2 dB cR).mono ?_;rintro e w2 ⟨rfl,ar⟩;exact ⟨rfl,aI hq ar⟩)
            | (simp only [↓IntWalk.iteOmega];exact ⟨hq,rfl⟩)
          simp only [Act.put,pz]))
      refine aN ?_;intro wn Z;replace Z:=Z.out;go_wp2;exact ⟨⟨j+1,J,N',by rw [Jf.out];rfl,ah hbi Z,ah yk Z⟩,by simp [intOf];omega⟩
    ·have L0:j = ts.length:=J;subst L0;rw [List.take_length];cases hef:(xs[k].ao == fe) <;> cases han:(ts.any fun t=>AY t xs[k])
     all_goals
      have hp:Ws ts fe xs[k] = _:=(by unfold Ws;rw [hef,han]);simp only [Bool.false_and,Bool.true_and,Bool.not_true,Bool.not_false] at hp;first | have HN:=I (SA ax hp) | have HN:=I (Nv ax hp)
      have b4:(xs[k].ao != fe) = _:=(by unfold bne;rw [hef]);rw [b4];clear hp han;go_wp2;exact ⟨⟨k+1,J,N',by rw [HN.out,← hz] <;> first | rfl | go_num,hbi⟩,by simp [intOf];omega⟩
  ·exact D2
end Go.Proofs.YtajbbmembionpaaGreat
