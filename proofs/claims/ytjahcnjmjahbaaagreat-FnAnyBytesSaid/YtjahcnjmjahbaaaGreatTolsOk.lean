/- TolerancesOk, of the program and of the reference. No condition. -/
import Derived.Test.YtjahcnjmjahbaaaGreatCmp2
import Derived.Test.YtjahcnjmjahbaaaGreatKeys
namespace Go.Proofs.YtjahcnjmjahbaaaGreat
open Go.ChangeShapes Go.WideShapes Go.ChangeAt Go.RowKit
set_option linter.unusedVariables false
set_option linter.unusedSimpArgs false
set_option maxHeartbeats 2000000
set_option maxRecDepth 100000
def Ya (xs:List bH):Bool:=mw Q5 vJ 4 xs
theorem RH (xs:List bH) (A:Option Addr) (n c:Nat) (F:List Nat) (w:World) (h:Sl w xs A c F) (hn:n = xs.length) (hl:(xs.length:Int)<=1048576) (cR:∀l∈xs,(l.key.size:Int)<=1048576/\(l.value.size:Int)<=1048576) :
 Calls Tryz.prog 79 #[.slice A n c] w λe w'=>e = .returned (.bool (Ya xs))/\Below w.heap.size w w':=by
 subst hn;have Eo:=I cR;clear cR;go_enter Tryz.func79,Tryz.ntmps79;go_wp2_with fail
 go_loopw [7] (λi wr=>∃k:Nat,k<=xs.length/\i = .int .i64 k/\Hid (∀j,j < k->rowAt Q5 vJ xs j = true)/\Below w.heap.size w wr) (λi _=>xs.length - (intOf i).toNat)
 case atStart=>exact ⟨0,Nat.zero_le _,rfl,(λj hj=>by omega),bc⟩
 case round =>
  obtain ⟨k,hk,rfl,hall,ax⟩:=hrel;by_cases am:k < xs.length
  ·obtain rfl | ⟨j,rfl⟩:k = 0∨∃j,k = j+1:=by cases k with | zero=>exact .inl rfl | succ j=>exact .inr ⟨j,rfl⟩
   ·obtain ⟨b,o,ck,Fk,rfl,o9,hbs,hr,bm,hc⟩:=(Sl.ext (w':=wr) (A:=A) (c:=c) h ax).get am;obtain ⟨aq,su,b9,kP,lD⟩:=jv hr;subst aq;obtain ⟨q0,q1,q2,q3⟩:=sJ 4 hc;clear hc;simp only [Nat.zero_mul,Nat.add_zero] at q0 q1 q2 q3;have cF:=(Eo.out xs[0] (List.getElem_mem ..)).1;have cC:=(Eo.out xs[0] (List.getElem_mem ..)).2;subst su;have cH:=hr;cases h1:Q5 xs[0]
    all_goals
     have hp:=bF (ok:=Q5) (less:=vJ) am;rw [h1] at hp;try simp only [Bool.false_and,Bool.and_false,Bool.and_true,Bool.and_self] at hp
     change rowAt Q5 vJ xs _ = _ at hp;have H1:=I h1
     first
      | have HN:=I (gq hall.out hp)
      | have HF:=I (wU (most:=4) am hp)
     clear h1 hp;go_wp2_with fail
     refine aF _ U' U' (aj _) ?_
     repeat (first
      | (apply aG
         case hw=>rfl
         simp only [Act.put,pz])
      | (apply aH
         case hw=>rfl
         case h =>
          intro wq hq;have cN:=(aB hq).1;have lJ:=(aB hq).2;go_simp
          first
           | exact ⟨hq,rfl⟩
           | exact ⟨aQ hq _,rfl⟩
           | (first | (refine (Na xs[0] _ [] _ (aJ cH zH) cF cC).mono ?_;rw [H1.out];rintro e w2 ⟨rfl,ap⟩;exact ⟨rfl,aI hq ap⟩) | (refine (nx.out _ uR).mono ?_;rintro e w2 ⟨rfl,ap⟩;exact ⟨rfl,aI hq ap⟩))
           | (simp only [↓IntWalk.iteOmega];exact ⟨hq,rfl⟩)
         simp only [Act.put,pz]))
     refine aN ?_;intro wn hn;replace hn:=hn.out;go_wp2
     first
      | exact ⟨⟨0+1,J,N',HN.out,ah (ak ax _) hn⟩,by simp [intOf];omega⟩
      | (go_ret;exact ⟨by unfold Ya;rw [HF.out];rfl,ah (ak ax _) hn⟩)
   ·obtain ⟨b,o,ck,Fk,rfl,o9,hbs,hr,bm,hc⟩:=(Sl.ext (w':=wr) (A:=A) (c:=c) h ax).get am;obtain ⟨aq,su,b9,kP,lD⟩:=jv hr;subst aq;obtain ⟨q0,q1,q2,q3⟩:=sJ 4 hc;clear hc;obtain ⟨b',o',TY,Xw,e,Ht,hbs',cJ,zQ,hc'⟩:=Sl.get (Sl.ext (w':=wr) (c:=c) h ax) (show j < xs.length by omega);obtain ⟨jU,abT,vC,rP,uY⟩:=jv cJ;subst jU;obtain ⟨rfl,rfl⟩:b' = b/\o' = o:=by simpa using e.symm
    clear e;obtain ⟨p0,p1,p2,p3⟩:=sJ 4 hc';clear hc';have qd:IntKind.i64.wrap (j:Int) = j:=IntWalk.i64_in _ J;have gp:j < xs.length:=J;have cF:=(Eo.out xs[j+1] (List.getElem_mem ..)).1;have cC:=(Eo.out xs[j+1] (List.getElem_mem ..)).2;subst su;have cH:=hr;cases h1:Q5 xs[j+1] <;> cases h3:vJ xs[j] xs[j+1]
    all_goals
     have hp:=yS (ok:=Q5) (less:=vJ) am;rw [h1,h3] at hp;try simp only [Bool.false_and,Bool.and_false,Bool.and_true,Bool.and_self] at hp
     change rowAt Q5 vJ xs _ = _ at hp;have H1:=I h1
     first
      | have HN:=I (gq hall.out hp)
      | have HF:=I (wU (most:=4) am hp)
     have hC:∀wq,Below wr.heap.size wr wq->Calls Tryz.prog 130 #[.agg #[.string xs[j].key,.bool xs[j].equal,.string xs[j].value,.int .i64 xs[j].effect],.agg #[.string xs[j+1].key,.bool xs[j+1].equal,.string xs[j+1].value,.int .i64 xs[j+1].effect]] wq λe w'=>e = .returned (.int .i64 (Qa (qa xs[j] xs[j+1])))/\Below wq.heap.size wq w' :=
      λwq hq=>Xd xs[j] xs[j+1] _ _ _ _ _ (aJ cJ hq) (aJ cH hq)
     have nx:=I hC;clear hC;have hz:=h3;unfold vJ at hz;simp only [decide_eq_true_eq,decide_eq_false_iff_not,Int.not_lt] at hz;generalize Qa (qa xs[j] xs[j+1]) = z at nx hz;clear h1 hp;go_wp2_with fail
     refine aF _ U' U' (aj _) ?_
     repeat (first
      | (apply aG
         case hw=>rfl
         simp only [Act.put,pz])
      | (apply aH
         case hw=>rfl
         case h =>
          intro wq hq;have cN:=(aB hq).1;have lJ:=(aB hq).2;go_simp
          first
           | exact ⟨hq,rfl⟩
           | exact ⟨aQ hq _,rfl⟩
           | (first | (refine (Na xs[j+1] _ [] _ (aJ cH zH) cF cC).mono ?_;rw [H1.out];rintro e w2 ⟨rfl,ap⟩;exact ⟨rfl,aI hq ap⟩) | (refine (nx.out _ uR).mono ?_;rintro e w2 ⟨rfl,ap⟩;exact ⟨rfl,aI hq ap⟩))
           | (simp only [↓IntWalk.iteOmega];exact ⟨hq,rfl⟩)
         simp only [Act.put,pz]))
     refine aN ?_;intro wn hn;replace hn:=hn.out;go_wp2
     first
      | exact ⟨⟨j+1+1,J,N',HN.out,ah (ak ax _) hn⟩,by simp [intOf];omega⟩
      | (go_ret;exact ⟨by unfold Ya;rw [HF.out];rfl,ah (ak ax _) hn⟩)
  ·have bs:k = xs.length:=J;subst bs;by_cases hm:(xs.length:Int)<=4
   ·have HF:=I (Jy hm hall.out);go_wp2;go_ret
    exact ⟨by unfold Ya;rw [HF.out];first | rfl | simp [hm],ax⟩
   ·have HF:=I (Jz (ok:=Q5) (less:=vJ) hm);go_wp2;go_ret
    exact ⟨by unfold Ya;rw [HF.out];first | rfl | simp [hm],ax⟩
theorem RI (xs:List bH) (A:Option Addr) (n c:Nat) (F:List Nat) (w:World) (h:Sl w xs A c F) (hn:n = xs.length) (hl:(xs.length:Int)<=1048576) (cR:∀l∈xs,(l.key.size:Int)<=1048576/\(l.value.size:Int)<=1048576) :
 Calls Tryz.prog 92 #[.slice A n c] w λe w'=>e = .returned (.bool (Ya xs))/\Below w.heap.size w w':=by
 subst hn;have Eo:=I cR;clear cR;by_cases hm:(xs.length:Int)<=4
 ·go_enter Tryz.func92,Tryz.ntmps92;go_wp2_with fail
  go_loopw [3] (λi wr=>∃k:Nat,k<=xs.length/\i = .int .i64 k/\Hid (∀j,j < k->rowAt Q5 vJ xs j = true)/\Below w.heap.size w wr) (λi _=>xs.length - (intOf i).toNat)
  case atStart=>exact ⟨0,Nat.zero_le _,rfl,(λj hj=>by omega),bc⟩
  case round =>
   obtain ⟨k,hk,rfl,hall,ax⟩:=hrel;by_cases am:k < xs.length
   ·obtain rfl | ⟨j,rfl⟩:k = 0∨∃j,k = j+1:=by cases k with | zero=>exact .inl rfl | succ j=>exact .inr ⟨j,rfl⟩
    ·obtain ⟨b,o,ck,Fk,rfl,o9,hbs,hr,bm,hc⟩:=(Sl.ext (w':=wr) (A:=A) (c:=c) h ax).get am;obtain ⟨aq,su,b9,kP,lD⟩:=jv hr;subst aq;obtain ⟨q0,q1,q2,q3⟩:=sJ 4 hc;clear hc;simp only [Nat.zero_mul,Nat.add_zero] at q0 q1 q2 q3;have cF:=(Eo.out xs[0] (List.getElem_mem ..)).1;have cC:=(Eo.out xs[0] (List.getElem_mem ..)).2;subst su;have cH:=hr;cases h1:Q5 xs[0]
     all_goals
      have hp:=bF (ok:=Q5) (less:=vJ) am;rw [h1] at hp;try simp only [Bool.false_and,Bool.and_false,Bool.and_true,Bool.and_self] at hp
      change rowAt Q5 vJ xs _ = _ at hp;have H1:=I h1
      first
       | have HN:=I (gq hall.out hp)
       | have HF:=I (wU (most:=4) am hp)
      clear h1 hp;go_wp2_with fail
      refine aF _ U' U' (aj _) ?_
      repeat (first
       | (apply aG
          case hw=>rfl
          simp only [Act.put,pz])
       | (apply aH
          case hw=>rfl
          case h =>
           intro wq hq;have cN:=(aB hq).1;have lJ:=(aB hq).2;go_simp
           first
            | exact ⟨hq,rfl⟩
            | exact ⟨aQ hq _,rfl⟩
            | (first | (refine (Nb xs[0] _ [] _ (aJ cH zH) cF cC).mono ?_;rw [H1.out];rintro e w2 ⟨rfl,ap⟩;exact ⟨rfl,aI hq ap⟩) | (refine (nx.out _ uR).mono ?_;rintro e w2 ⟨rfl,ap⟩;exact ⟨rfl,aI hq ap⟩))
            | (simp only [↓IntWalk.iteOmega];exact ⟨hq,rfl⟩)
          simp only [Act.put,pz]))
      refine aN ?_;intro wn hn;replace hn:=hn.out;go_wp2
      first
       | exact ⟨⟨0+1,J,N',HN.out,ah ax hn⟩,by simp [intOf];omega⟩
       | (go_ret;exact ⟨by unfold Ya;rw [HF.out];rfl,ah ax hn⟩)
    ·obtain ⟨b,o,ck,Fk,rfl,o9,hbs,hr,bm,hc⟩:=(Sl.ext (w':=wr) (A:=A) (c:=c) h ax).get am;obtain ⟨aq,su,b9,kP,lD⟩:=jv hr;subst aq;obtain ⟨q0,q1,q2,q3⟩:=sJ 4 hc;clear hc;obtain ⟨b',o',TY,Xw,e,Ht,hbs',cJ,zQ,hc'⟩:=Sl.get (Sl.ext (w':=wr) (c:=c) h ax) (show j < xs.length by omega);obtain ⟨jU,abT,vC,rP,uY⟩:=jv cJ;subst jU;obtain ⟨rfl,rfl⟩:b' = b/\o' = o:=by simpa using e.symm
     clear e;obtain ⟨p0,p1,p2,p3⟩:=sJ 4 hc';clear hc';have qd:IntKind.i64.wrap (j:Int) = j:=IntWalk.i64_in _ J;have gp:j < xs.length:=J;have cF:=(Eo.out xs[j+1] (List.getElem_mem ..)).1;have cC:=(Eo.out xs[j+1] (List.getElem_mem ..)).2;subst su;have cH:=hr;cases h1:Q5 xs[j+1] <;> cases h3:vJ xs[j] xs[j+1]
     all_goals
      have hp:=yS (ok:=Q5) (less:=vJ) am;rw [h1,h3] at hp;try simp only [Bool.false_and,Bool.and_false,Bool.and_true,Bool.and_self] at hp
      change rowAt Q5 vJ xs _ = _ at hp;have H1:=I h1
      first
       | have HN:=I (gq hall.out hp)
       | have HF:=I (wU (most:=4) am hp)
      have hC:∀wq,Below wr.heap.size wr wq->Calls Tryz.prog 140 #[.agg #[.string xs[j].key,.bool xs[j].equal,.string xs[j].value,.int .i64 xs[j].effect],.agg #[.string xs[j+1].key,.bool xs[j+1].equal,.string xs[j+1].value,.int .i64 xs[j+1].effect]] wq λe w'=>e = .returned (.bool (vJ xs[j] xs[j+1]))/\Below wq.heap.size wq w' :=
       λwq hq=>aiC xs[j] xs[j+1] _ _ _ _ _ (aJ cJ hq) (aJ cH hq)
      rw [h3] at hC;have nx:=I hC;clear hC;clear h1 hp;go_wp2_with fail
      refine aF _ U' U' (aj _) ?_
      repeat (first
       | (apply aG
          case hw=>rfl
          simp only [Act.put,pz])
       | (apply aH
          case hw=>rfl
          case h =>
           intro wq hq;have cN:=(aB hq).1;have lJ:=(aB hq).2;go_simp
           first
            | exact ⟨hq,rfl⟩
            | exact ⟨aQ hq _,rfl⟩
            | (first | (refine (Nb xs[j+1] _ [] _ (aJ cH zH) cF cC).mono ?_;rw [H1.out];rintro e w2 ⟨rfl,ap⟩;exact ⟨rfl,aI hq ap⟩) | (refine (nx.out _ uR).mono ?_;rintro e w2 ⟨rfl,ap⟩;exact ⟨rfl,aI hq ap⟩))
            | (simp only [↓IntWalk.iteOmega];exact ⟨hq,rfl⟩)
          simp only [Act.put,pz]))
      refine aN ?_;intro wn hn;replace hn:=hn.out;go_wp2
      first
       | exact ⟨⟨j+1+1,J,N',HN.out,ah ax hn⟩,by simp [intOf];omega⟩
       | (go_ret;exact ⟨by unfold Ya;rw [HF.out];rfl,ah ax hn⟩)
   ·have bs:k = xs.length:=J;subst bs;have HF:=I (Jy hm hall.out);go_wp2;go_ret
    exact ⟨by unfold Ya;rw [HF.out];rfl,ax⟩
 ·have HF:=I (Jz (ok:=Q5) (less:=vJ) hm);go_enter Tryz.func92,Tryz.ntmps92;go_wp2;go_ret
  exact ⟨by unfold Ya;rw [HF.out];rfl,bc⟩
end Go.Proofs.YtjahcnjmjahbaaaGreat
