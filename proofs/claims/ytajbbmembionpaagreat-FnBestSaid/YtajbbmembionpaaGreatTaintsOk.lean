/- TaintsOk, of the program and of the reference. No condition. -/
import Derived.Test.YtajbbmembionpaaGreatCmp2
import Derived.Test.YtajbbmembionpaaGreatTaintOk
namespace Go.Proofs.YtajbbmembionpaaGreat
open Go.ChangeShapes Go.WideShapes Go.ChangeAt Go.RowKit
set_option linter.unusedVariables false
set_option linter.unusedSimpArgs false
set_option maxHeartbeats 2000000
set_option maxRecDepth 100000
def La (xs:List iU):Bool:=oc Dp qo 4 xs
theorem ZL (xs:List iU) (A:Option Addr) (n c:Nat) (F:List Nat) (w:World) (h:Sl w xs A c F) (hn:n = xs.length) (hl:(xs.length:Int)≤1048576) (cR:∀l∈xs,(l.key.size:Int)≤1048576∧(l.value.size:Int)≤1048576) :
 Calls Tryz.prog 92 #[.slice A n c] w fun e w'=>e = .returned (.bool (La xs))∧Below w.heap.size w w':=by
 subst hn;have Eo:=I cR;clear cR;by_cases hm:(xs.length:Int)≤4
 ·go_enter Tryz.func92,Tryz.ntmps92;go_wp2_with fail
  go_loopw [3] (fun i wr=>∃k:Nat,k≤xs.length∧i = .int .i64 k∧Hid (∀j,j < k→rowAt Dp qo xs j = true)∧Below w.heap.size w wr) (fun i _=>xs.length - (intOf i).toNat)
  case atStart=>exact ⟨0,Nat.zero_le _,rfl,(fun j hj=>by omega),bx⟩
  case round =>
   obtain ⟨k,hk,rfl,hall,ax⟩:=hrel;by_cases aq:k < xs.length
   ·obtain rfl | ⟨j,rfl⟩:k = 0∨∃j,k = j+1:=by cases k with | zero=>exact .inl rfl | succ j=>exact .inr ⟨j,rfl⟩
    ·obtain ⟨b,o,ck,Fk,rfl,o9,bc,hr,bv,hc⟩:=(Sl.ext (w':=wr) (A:=A) (c:=c) h ax).get aq;obtain ⟨aw,su,b8,kP,lD⟩:=oK hr;subst aw;obtain ⟨q0,q1,q2⟩:=qB 3 hc;clear hc;simp only [Nat.zero_mul,Nat.add_zero] at q0 q1 q2;have cX:=(Eo.out xs[0] (List.getElem_mem ..)).1;have cM:=(Eo.out xs[0] (List.getElem_mem ..)).2;subst su;have d7:=hr;cases h1:Dp xs[0]
     all_goals
      have hp:=cC (ok:=Dp) (less:=qo) aq;rw [h1] at hp;try simp only [Bool.false_and,Bool.and_false,Bool.and_true,Bool.and_self] at hp
      change rowAt Dp qo xs _ = _ at hp;have H1:=I h1
      first
       | have HN:=I (gq hall.out hp)
       | have HF:=I (wU (most:=4) aq hp)
      clear h1 hp;go_wp2_with fail
      refine aF _ U' U' (aj _) ?_
      repeat (first
       | (apply aG
          case hw=>rfl
          simp only [Act.put,pz])
       | (apply aH
          case hw=>rfl
          case h =>
           intro wq hq;have dC:=(aB hq).1;have lJ:=(aB hq).2;go_simp
           first
            | exact ⟨hq,rfl⟩
            | exact ⟨aQ hq _,rfl⟩
            | (first | (refine (Wh xs[0] _ [] _ (aJ d7 Mi) cX cM).mono ?_;rw [H1.out];rintro e w2 ⟨rfl,ap⟩;exact ⟨rfl,aI hq ap⟩) | (refine (zf.out _ CX).mono ?_;rintro e w2 ⟨rfl,ap⟩;exact ⟨rfl,aI hq ap⟩))
            | (simp only [↓IntWalk.iteOmega];exact ⟨hq,rfl⟩)
          simp only [Act.put,pz]))
      refine aN ?_;intro wn hn;replace hn:=hn.out;go_wp2
      first
       | exact ⟨⟨0+1,J,N',HN.out,ah ax hn⟩,by simp [intOf];omega⟩
       | (go_ret;exact ⟨by unfold La;rw [HF.out];rfl,ah ax hn⟩)
    ·obtain ⟨b,o,ck,Fk,rfl,o9,bc,hr,bv,hc⟩:=(Sl.ext (w':=wr) (A:=A) (c:=c) h ax).get aq;obtain ⟨aw,su,b8,kP,lD⟩:=oK hr;subst aw;obtain ⟨q0,q1,q2⟩:=qB 3 hc;clear hc;obtain ⟨b',o',TY,Xw,e,Ht,hbs',cI,zQ,hc'⟩:=Sl.get (Sl.ext (w':=wr) (c:=c) h ax) (show j < xs.length by omega);obtain ⟨jU,abT,vC,rP,uY⟩:=oK cI;subst jU;obtain ⟨rfl,rfl⟩:b' = b∧o' = o:=by simpa using e.symm
     clear e;obtain ⟨p0,p1,p2⟩:=qB 3 hc';clear hc';have wB:IntKind.i64.wrap (j:Int) = j:=IntWalk.i64_in _ J;have mD:j < xs.length:=J;have cX:=(Eo.out xs[j+1] (List.getElem_mem ..)).1;have cM:=(Eo.out xs[j+1] (List.getElem_mem ..)).2;subst su;have d7:=hr;cases h1:Dp xs[j+1] <;> cases h3:qo xs[j] xs[j+1]
     all_goals
      have hp:=yS (ok:=Dp) (less:=qo) aq;rw [h1,h3] at hp;try simp only [Bool.false_and,Bool.and_false,Bool.and_true,Bool.and_self] at hp
      change rowAt Dp qo xs _ = _ at hp;have H1:=I h1
      first
       | have HN:=I (gq hall.out hp)
       | have HF:=I (wU (most:=4) aq hp)
      have hC:∀wq,Below wr.heap.size wr wq→Calls Tryz.prog 139 #[.agg #[.string xs[j].key,.string xs[j].value,.int .i64 xs[j].effect],.agg #[.string xs[j+1].key,.string xs[j+1].value,.int .i64 xs[j+1].effect]] wq fun e w'=>e = .returned (.bool (qo xs[j] xs[j+1]))∧Below wq.heap.size wq w' :=
       fun wq hq=>TS xs[j] xs[j+1] _ _ _ _ _ (aJ cI hq) (aJ d7 hq)
      rw [h3] at hC;have zf:=I hC;clear hC;clear h1 hp;go_wp2_with fail
      refine aF _ U' U' (aj _) ?_
      repeat (first
       | (apply aG
          case hw=>rfl
          simp only [Act.put,pz])
       | (apply aH
          case hw=>rfl
          case h =>
           intro wq hq;have dC:=(aB hq).1;have lJ:=(aB hq).2;go_simp
           first
            | exact ⟨hq,rfl⟩
            | exact ⟨aQ hq _,rfl⟩
            | (first | (refine (Wh xs[j+1] _ [] _ (aJ d7 Mi) cX cM).mono ?_;rw [H1.out];rintro e w2 ⟨rfl,ap⟩;exact ⟨rfl,aI hq ap⟩) | (refine (zf.out _ CX).mono ?_;rintro e w2 ⟨rfl,ap⟩;exact ⟨rfl,aI hq ap⟩))
            | (simp only [↓IntWalk.iteOmega];exact ⟨hq,rfl⟩)
          simp only [Act.put,pz]))
      refine aN ?_;intro wn hn;replace hn:=hn.out;go_wp2
      first
       | exact ⟨⟨j+1+1,J,N',HN.out,ah ax hn⟩,by simp [intOf];omega⟩
       | (go_ret;exact ⟨by unfold La;rw [HF.out];rfl,ah ax hn⟩)
   ·have bB:k = xs.length:=J;subst bB;have HF:=I (Jy hm hall.out);go_wp2;go_ret
    exact ⟨by unfold La;rw [HF.out];rfl,ax⟩
 ·have HF:=I (Jz (ok:=Dp) (less:=qo) hm);go_enter Tryz.func92,Tryz.ntmps92;go_wp2;go_ret
  exact ⟨by unfold La;rw [HF.out];rfl,bx⟩
def Ya (xs:List bH):Bool:=oc Q5 vJ 4 xs
theorem RI (xs:List bH) (A:Option Addr) (n c:Nat) (F:List Nat) (w:World) (h:Sl w xs A c F) (hn:n = xs.length) (hl:(xs.length:Int)≤1048576) (cR:∀l∈xs,(l.key.size:Int)≤1048576∧(l.value.size:Int)≤1048576) :
 Calls Tryz.prog 80 #[.slice A n c] w fun e w'=>e = .returned (.bool (Ya xs))∧Below w.heap.size w w':=by
 subst hn;have Eo:=I cR;clear cR;by_cases hm:(xs.length:Int)≤4
 ·go_enter Tryz.func80,Tryz.ntmps80;go_wp2_with fail
  go_loopw [3] (fun i wr=>∃k:Nat,k≤xs.length∧i = .int .i64 k∧Hid (∀j,j < k→rowAt Q5 vJ xs j = true)∧Below w.heap.size w wr) (fun i _=>xs.length - (intOf i).toNat)
  case atStart=>exact ⟨0,Nat.zero_le _,rfl,(fun j hj=>by omega),bx⟩
  case round =>
   obtain ⟨k,hk,rfl,hall,ax⟩:=hrel;by_cases aq:k < xs.length
   ·obtain rfl | ⟨j,rfl⟩:k = 0∨∃j,k = j+1:=by cases k with | zero=>exact .inl rfl | succ j=>exact .inr ⟨j,rfl⟩
    ·obtain ⟨b,o,ck,Fk,rfl,o9,bc,hr,bv,hc⟩:=(Sl.ext (w':=wr) (A:=A) (c:=c) h ax).get aq;obtain ⟨aw,su,b8,kP,lD⟩:=jv hr;subst aw;obtain ⟨q0,q1,q2,q3⟩:=IA 4 hc;clear hc;simp only [Nat.zero_mul,Nat.add_zero] at q0 q1 q2 q3;have cX:=(Eo.out xs[0] (List.getElem_mem ..)).1;have cM:=(Eo.out xs[0] (List.getElem_mem ..)).2;subst su;have d7:=hr;cases h1:Q5 xs[0]
     all_goals
      have hp:=cC (ok:=Q5) (less:=vJ) aq;rw [h1] at hp;try simp only [Bool.false_and,Bool.and_false,Bool.and_true,Bool.and_self] at hp
      change rowAt Q5 vJ xs _ = _ at hp;have H1:=I h1
      first
       | have HN:=I (gq hall.out hp)
       | have HF:=I (wU (most:=4) aq hp)
      clear h1 hp;go_wp2_with fail
      refine aF _ U' U' (aj _) ?_
      repeat (first
       | (apply aG
          case hw=>rfl
          simp only [Act.put,pz])
       | (apply aH
          case hw=>rfl
          case h =>
           intro wq hq;have dC:=(aB hq).1;have lJ:=(aB hq).2;go_simp
           first
            | exact ⟨hq,rfl⟩
            | exact ⟨aQ hq _,rfl⟩
            | (first | (refine (Nb xs[0] _ [] _ (aJ d7 Mi) cX cM).mono ?_;rw [H1.out];rintro e w2 ⟨rfl,ap⟩;exact ⟨rfl,aI hq ap⟩) | (refine (zf.out _ CX).mono ?_;rintro e w2 ⟨rfl,ap⟩;exact ⟨rfl,aI hq ap⟩))
            | (simp only [↓IntWalk.iteOmega];exact ⟨hq,rfl⟩)
          simp only [Act.put,pz]))
      refine aN ?_;intro wn hn;replace hn:=hn.out;go_wp2
      first
       | exact ⟨⟨0+1,J,N',HN.out,ah ax hn⟩,by simp [intOf];omega⟩
       | (go_ret;exact ⟨by unfold Ya;rw [HF.out];rfl,ah ax hn⟩)
    ·obtain ⟨b,o,ck,Fk,rfl,o9,bc,hr,bv,hc⟩:=(Sl.ext (w':=wr) (A:=A) (c:=c) h ax).get aq;obtain ⟨aw,su,b8,kP,lD⟩:=jv hr;subst aw;obtain ⟨q0,q1,q2,q3⟩:=IA 4 hc;clear hc;obtain ⟨b',o',TY,Xw,e,Ht,hbs',cI,zQ,hc'⟩:=Sl.get (Sl.ext (w':=wr) (c:=c) h ax) (show j < xs.length by omega);obtain ⟨jU,abT,vC,rP,uY⟩:=jv cI;subst jU;obtain ⟨rfl,rfl⟩:b' = b∧o' = o:=by simpa using e.symm
     clear e;obtain ⟨p0,p1,p2,p3⟩:=IA 4 hc';clear hc';have wB:IntKind.i64.wrap (j:Int) = j:=IntWalk.i64_in _ J;have mD:j < xs.length:=J;have cX:=(Eo.out xs[j+1] (List.getElem_mem ..)).1;have cM:=(Eo.out xs[j+1] (List.getElem_mem ..)).2;subst su;have d7:=hr;cases h1:Q5 xs[j+1] <;> cases h3:vJ xs[j] xs[j+1]
     all_goals
      have hp:=yS (ok:=Q5) (less:=vJ) aq;rw [h1,h3] at hp;try simp only [Bool.false_and,Bool.and_false,Bool.and_true,Bool.and_self] at hp
      change rowAt Q5 vJ xs _ = _ at hp;have H1:=I h1
      first
       | have HN:=I (gq hall.out hp)
       | have HF:=I (wU (most:=4) aq hp)
      have hC:∀wq,Below wr.heap.size wr wq→Calls Tryz.prog 79 #[.agg #[.string xs[j].key,.bool xs[j].equal,.string xs[j].value,.int .i64 xs[j].effect],.agg #[.string xs[j+1].key,.bool xs[j+1].equal,.string xs[j+1].value,.int .i64 xs[j+1].effect]] wq fun e w'=>e = .returned (.bool (vJ xs[j] xs[j+1]))∧Below wq.heap.size wq w' :=
       fun wq hq=>TT xs[j] xs[j+1] _ _ _ _ _ (aJ cI hq) (aJ d7 hq)
      rw [h3] at hC;have zf:=I hC;clear hC;clear h1 hp;go_wp2_with fail
      refine aF _ U' U' (aj _) ?_
      repeat (first
       | (apply aG
          case hw=>rfl
          simp only [Act.put,pz])
       | (apply aH
          case hw=>rfl
          case h =>
           intro wq hq;have dC:=(aB hq).1;have lJ:=(aB hq).2;go_simp
           first
            | exact ⟨hq,rfl⟩
            | exact ⟨aQ hq _,rfl⟩
            | (first | (refine (Nb xs[j+1] _ [] _ (aJ d7 Mi) cX cM).mono ?_;rw [H1.out];rintro e w2 ⟨rfl,ap⟩;exact ⟨rfl,aI hq ap⟩) | (refine (zf.out _ CX).mono ?_;rintro e w2 ⟨rfl,ap⟩;exact ⟨rfl,aI hq ap⟩))
            | (simp only [↓IntWalk.iteOmega];exact ⟨hq,rfl⟩)
          simp only [Act.put,pz]))
      refine aN ?_;intro wn hn;replace hn:=hn.out;go_wp2
      first
       | exact ⟨⟨j+1+1,J,N',HN.out,ah ax hn⟩,by simp [intOf];omega⟩
       | (go_ret;exact ⟨by unfold Ya;rw [HF.out];rfl,ah ax hn⟩)
   ·have bB:k = xs.length:=J;subst bB;have HF:=I (Jy hm hall.out);go_wp2;go_ret
    exact ⟨by unfold Ya;rw [HF.out];rfl,ax⟩
 ·have HF:=I (Jz (ok:=Q5) (less:=vJ) hm);go_enter Tryz.func80,Tryz.ntmps80;go_wp2;go_ret
  exact ⟨by unfold Ya;rw [HF.out];rfl,bx⟩
end Go.Proofs.YtajbbmembionpaaGreat
