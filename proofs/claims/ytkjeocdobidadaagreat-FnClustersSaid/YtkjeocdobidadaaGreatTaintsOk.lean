/- TaintsOk, of the program and of the reference. No condition. -/
import Derived.Test.YtkjeocdobidadaaGreatCmp2
import Derived.Test.YtkjeocdobidadaaGreatKeys
import Derived.Test.YtkjeocdobidadaaGreatUsed
namespace Go.Proofs.YtkjeocdobidadaaGreat
open Go.ChangeShapes Go.WideShapes Go.ChangeAt Go.RowKit
set_option linter.unusedVariables false
set_option linter.unusedSimpArgs false
set_option maxHeartbeats 2000000
set_option maxRecDepth 100000
def La (xs:List iU):Bool:=adb Dp qo 4 xs
theorem ZK (xs:List iU) (A:Option Addr) (n c:Nat) (F:List Nat) (w:World) (h:Sl w xs A c F) (hn:n = xs.length) (hl:(xs.length:Int)≤1048576) (hsm:∀l∈xs,(l.key.size:Int)≤1048576∧(l.value.size:Int)≤1048576) :
 Calls Tryz.prog 110 #[.slice A n c] w fun e w'=>e = .returned (.bool (La xs))∧Below w.heap.size w w':=by
 subst hn;have Eo:=I' hsm;clear hsm;go_enter Tryz.func110,Tryz.ntmps110;go_wp2_with fail
 go_loopw [7] (fun i wr=>∃k:Nat,k≤xs.length∧i = .int .i64 k∧Hid (∀j,j < k→rowAt Dp qo xs j = true)∧Below w.heap.size w wr) (fun i _=>xs.length - (intOf i).toNat)
 case atStart=>exact ⟨0,Nat.zero_le _,rfl,(fun j hj=>by omega),atS⟩
 case round =>
  obtain ⟨k,hk,rfl,hall,hbl⟩:=hrel;by_cases hlt:k < xs.length
  ·obtain rfl | ⟨j,rfl⟩:k = 0∨∃j,k = j+1:=by cases k with | zero=>exact .inl rfl | succ j=>exact .inr ⟨j,rfl⟩
   ·obtain ⟨b,o,ck,Fk,rfl,o9,hbs,hr,hsub,hc⟩:=(Sl.ext (w':=wr) (A:=A) (c:=c) h hbl).get hlt;obtain ⟨hck,su,hkey,kP,lD⟩:=oK hr;subst hck;have q0:wr.cell? ⟨b,o+0 * 3,none⟩ = some (.string xs[0].key):=(by exact hc 0 _ rfl);have q1:wr.cell? ⟨b,o+0 * 3+1,none⟩ = some (.string xs[0].value):=(by rw [Nat.add_assoc];exact hc 1 _ rfl);have q2:wr.cell? ⟨b,o+0 * 3+2,none⟩ = some (.int .i64 xs[0].effect):=(by rw [Nat.add_assoc];exact hc 2 _ rfl);clear hc;simp only [Nat.zero_mul,Nat.add_zero] at q0 q1 q2;have hs1:=(Eo.out xs[0] (List.getElem_mem ..)).1;have hs2:=(Eo.out xs[0] (List.getElem_mem ..)).2;subst su;have hr0:=hr;cases h1:Dp xs[0]
    all_goals
     have hp:=rowAt_zero (ok:=Dp) (less:=qo) hlt;rw [h1] at hp;try simp only [Bool.false_and,Bool.and_false,Bool.and_true,Bool.and_self] at hp
     change rowAt Dp qo xs _ = _ at hp;have H1:=I' h1
     first
      | have HN:=I' (gq hall.out hp)
      | have HF:=I' (wU (most:=4) hlt hp)
     clear h1 hp;go_wp2_with fail
     refine aF _ U' U' (aj _) ?_
     repeat (first
      | (apply aG
         case hw=>rfl
         simp only [Act.put,pz])
      | (apply aH
         case hw=>rfl
         case h =>
          intro wq hq;have hcq:=(aB hq).1;have lJ:=(aB hq).2;go_simp
          first
           | exact ⟨hq,rfl⟩
           | exact ⟨aQ hq _,rfl⟩
           | (first | (refine (V9 xs[0] _ [] _ (aJ hr0 ave) hs1 hs2).mono ?_;rw [H1.out];rintro e w2 ⟨rfl,hb2⟩;exact ⟨rfl,aI hq hb2⟩) | (refine (CMP.out _ aut).mono ?_;rintro e w2 ⟨rfl,hb2⟩;exact ⟨rfl,aI hq hb2⟩))
           | (simp only [↓IntWalk.iteOmega];exact ⟨hq,rfl⟩)
         simp only [Act.put,pz]))
     refine aN ?_;intro wn hn;replace hn:=hn.out;go_wp2
     first
      | exact ⟨⟨0+1,O',N',HN.out,ah (ak hbl _) hn⟩,by simp [intOf];omega⟩
      | (go_ret;exact ⟨by unfold La;rw [HF.out];rfl,ah (ak hbl _) hn⟩)
   ·obtain ⟨b,o,ck,Fk,rfl,o9,hbs,hr,hsub,hc⟩:=(Sl.ext (w':=wr) (A:=A) (c:=c) h hbl).get hlt;obtain ⟨hck,su,hkey,kP,lD⟩:=oK hr;subst hck;have q0:wr.cell? ⟨b,o+(j+1) * 3,none⟩ = some (.string xs[j+1].key):=(by exact hc 0 _ rfl);have q1:wr.cell? ⟨b,o+(j+1) * 3+1,none⟩ = some (.string xs[j+1].value):=(by rw [Nat.add_assoc];exact hc 1 _ rfl);have q2:wr.cell? ⟨b,o+(j+1) * 3+2,none⟩ = some (.int .i64 xs[j+1].effect):=(by rw [Nat.add_assoc];exact hc 2 _ rfl);clear hc;obtain ⟨b',o',TY,Xw,e,Ht,hbs',hr',zQ,hc'⟩:=Sl.get (Sl.ext (w':=wr) (c:=c) h hbl) (show j < xs.length by omega);obtain ⟨jU,abT,vC,rP,uY⟩:=oK hr';subst jU;obtain ⟨rfl,rfl⟩:b' = b∧o' = o:=by simpa using e.symm
    clear e;have p0:wr.cell? ⟨b',o'+j * 3,none⟩ = some (.string xs[j].key):=(by exact hc' 0 _ rfl);have p1:wr.cell? ⟨b',o'+j * 3+1,none⟩ = some (.string xs[j].value):=(by rw [Nat.add_assoc];exact hc' 1 _ rfl);have p2:wr.cell? ⟨b',o'+j * 3+2,none⟩ = some (.int .i64 xs[j].effect):=(by rw [Nat.add_assoc];exact hc' 2 _ rfl);clear hc';have hwj:IntKind.i64.wrap (j:Int) = j:=IntWalk.i64_in _ O';have hjl:j < xs.length:=O';have hs1:=(Eo.out xs[j+1] (List.getElem_mem ..)).1;have hs2:=(Eo.out xs[j+1] (List.getElem_mem ..)).2;subst su;have hr0:=hr;cases h1:Dp xs[j+1] <;> cases h3:qo xs[j] xs[j+1]
    all_goals
     have hp:=yS (ok:=Dp) (less:=qo) hlt;rw [h1,h3] at hp;try simp only [Bool.false_and,Bool.and_false,Bool.and_true,Bool.and_self] at hp
     change rowAt Dp qo xs _ = _ at hp;have H1:=I' h1
     first
      | have HN:=I' (gq hall.out hp)
      | have HF:=I' (wU (most:=4) hlt hp)
     have hC:∀wq,Below wr.heap.size wr wq→Calls Tryz.prog 155 #[.agg #[.string xs[j].key,.string xs[j].value,.int .i64 xs[j].effect],.agg #[.string xs[j+1].key,.string xs[j+1].value,.int .i64 xs[j+1].effect]] wq fun e w'=>e = .returned (.int .i64 (Qa (ao0 xs[j] xs[j+1])))∧Below wq.heap.size wq w' :=
      fun wq hq=>acE xs[j] xs[j+1] _ _ _ _ _ (aJ hr' hq) (aJ hr0 hq)
     have CMP:=I' hC;clear hC;have hz:=h3;unfold qo at hz;simp only [decide_eq_true_eq,decide_eq_false_iff_not,Int.not_lt] at hz;generalize Qa (ao0 xs[j] xs[j+1]) = z at CMP hz;clear h1 hp;go_wp2_with fail
     refine aF _ U' U' (aj _) ?_
     repeat (first
      | (apply aG
         case hw=>rfl
         simp only [Act.put,pz])
      | (apply aH
         case hw=>rfl
         case h =>
          intro wq hq;have hcq:=(aB hq).1;have lJ:=(aB hq).2;go_simp
          first
           | exact ⟨hq,rfl⟩
           | exact ⟨aQ hq _,rfl⟩
           | (first | (refine (V9 xs[j+1] _ [] _ (aJ hr0 ave) hs1 hs2).mono ?_;rw [H1.out];rintro e w2 ⟨rfl,hb2⟩;exact ⟨rfl,aI hq hb2⟩) | (refine (CMP.out _ aut).mono ?_;rintro e w2 ⟨rfl,hb2⟩;exact ⟨rfl,aI hq hb2⟩))
           | (simp only [↓IntWalk.iteOmega];exact ⟨hq,rfl⟩)
         simp only [Act.put,pz]))
     refine aN ?_;intro wn hn;replace hn:=hn.out;go_wp2
     first
      | exact ⟨⟨j+1+1,O',N',HN.out,ah (ak hbl _) hn⟩,by simp [intOf];omega⟩
      | (go_ret;exact ⟨by unfold La;rw [HF.out];rfl,ah (ak hbl _) hn⟩)
  ·have hkl:k = xs.length:=O';subst hkl;by_cases hm:(xs.length:Int)≤4
   ·have HF:=I' (Jy hm hall.out);go_wp2;go_ret
    exact ⟨by unfold La;rw [HF.out];first | rfl | simp [hm],hbl⟩
   ·have HF:=I' (Jz (ok:=Dp) (less:=qo) hm);go_wp2;go_ret
    exact ⟨by unfold La;rw [HF.out];first | rfl | simp [hm],hbl⟩
theorem ZL (xs:List iU) (A:Option Addr) (n c:Nat) (F:List Nat) (w:World) (h:Sl w xs A c F) (hn:n = xs.length) (hl:(xs.length:Int)≤1048576) (hsm:∀l∈xs,(l.key.size:Int)≤1048576∧(l.value.size:Int)≤1048576) :
 Calls Tryz.prog 136 #[.slice A n c] w fun e w'=>e = .returned (.bool (La xs))∧Below w.heap.size w w':=by
 subst hn;have Eo:=I' hsm;clear hsm;by_cases hm:(xs.length:Int)≤4
 ·go_enter Tryz.func136,Tryz.ntmps136;go_wp2_with fail
  go_loopw [3] (fun i wr=>∃k:Nat,k≤xs.length∧i = .int .i64 k∧Hid (∀j,j < k→rowAt Dp qo xs j = true)∧Below w.heap.size w wr) (fun i _=>xs.length - (intOf i).toNat)
  case atStart=>exact ⟨0,Nat.zero_le _,rfl,(fun j hj=>by omega),atS⟩
  case round =>
   obtain ⟨k,hk,rfl,hall,hbl⟩:=hrel;by_cases hlt:k < xs.length
   ·obtain rfl | ⟨j,rfl⟩:k = 0∨∃j,k = j+1:=by cases k with | zero=>exact .inl rfl | succ j=>exact .inr ⟨j,rfl⟩
    ·obtain ⟨b,o,ck,Fk,rfl,o9,hbs,hr,hsub,hc⟩:=(Sl.ext (w':=wr) (A:=A) (c:=c) h hbl).get hlt;obtain ⟨hck,su,hkey,kP,lD⟩:=oK hr;subst hck;have q0:wr.cell? ⟨b,o+0 * 3,none⟩ = some (.string xs[0].key):=(by exact hc 0 _ rfl);have q1:wr.cell? ⟨b,o+0 * 3+1,none⟩ = some (.string xs[0].value):=(by rw [Nat.add_assoc];exact hc 1 _ rfl);have q2:wr.cell? ⟨b,o+0 * 3+2,none⟩ = some (.int .i64 xs[0].effect):=(by rw [Nat.add_assoc];exact hc 2 _ rfl);clear hc;simp only [Nat.zero_mul,Nat.add_zero] at q0 q1 q2;have hs1:=(Eo.out xs[0] (List.getElem_mem ..)).1;have hs2:=(Eo.out xs[0] (List.getElem_mem ..)).2;subst su;have hr0:=hr;cases h1:Dp xs[0]
     all_goals
      have hp:=rowAt_zero (ok:=Dp) (less:=qo) hlt;rw [h1] at hp;try simp only [Bool.false_and,Bool.and_false,Bool.and_true,Bool.and_self] at hp
      change rowAt Dp qo xs _ = _ at hp;have H1:=I' h1
      first
       | have HN:=I' (gq hall.out hp)
       | have HF:=I' (wU (most:=4) hlt hp)
      clear h1 hp;go_wp2_with fail
      refine aF _ U' U' (aj _) ?_
      repeat (first
       | (apply aG
          case hw=>rfl
          simp only [Act.put,pz])
       | (apply aH
          case hw=>rfl
          case h =>
           intro wq hq;have hcq:=(aB hq).1;have lJ:=(aB hq).2;go_simp
           first
            | exact ⟨hq,rfl⟩
            | exact ⟨aQ hq _,rfl⟩
            | (first | (refine (Wh xs[0] _ [] _ (aJ hr0 ave) hs1 hs2).mono ?_;rw [H1.out];rintro e w2 ⟨rfl,hb2⟩;exact ⟨rfl,aI hq hb2⟩) | (refine (CMP.out _ aut).mono ?_;rintro e w2 ⟨rfl,hb2⟩;exact ⟨rfl,aI hq hb2⟩))
            | (simp only [↓IntWalk.iteOmega];exact ⟨hq,rfl⟩)
          simp only [Act.put,pz]))
      refine aN ?_;intro wn hn;replace hn:=hn.out;go_wp2
      first
       | exact ⟨⟨0+1,O',N',HN.out,ah hbl hn⟩,by simp [intOf];omega⟩
       | (go_ret;exact ⟨by unfold La;rw [HF.out];rfl,ah hbl hn⟩)
    ·obtain ⟨b,o,ck,Fk,rfl,o9,hbs,hr,hsub,hc⟩:=(Sl.ext (w':=wr) (A:=A) (c:=c) h hbl).get hlt;obtain ⟨hck,su,hkey,kP,lD⟩:=oK hr;subst hck;have q0:wr.cell? ⟨b,o+(j+1) * 3,none⟩ = some (.string xs[j+1].key):=(by exact hc 0 _ rfl);have q1:wr.cell? ⟨b,o+(j+1) * 3+1,none⟩ = some (.string xs[j+1].value):=(by rw [Nat.add_assoc];exact hc 1 _ rfl);have q2:wr.cell? ⟨b,o+(j+1) * 3+2,none⟩ = some (.int .i64 xs[j+1].effect):=(by rw [Nat.add_assoc];exact hc 2 _ rfl);clear hc;obtain ⟨b',o',TY,Xw,e,Ht,hbs',hr',zQ,hc'⟩:=Sl.get (Sl.ext (w':=wr) (c:=c) h hbl) (show j < xs.length by omega);obtain ⟨jU,abT,vC,rP,uY⟩:=oK hr';subst jU;obtain ⟨rfl,rfl⟩:b' = b∧o' = o:=by simpa using e.symm
     clear e;have p0:wr.cell? ⟨b',o'+j * 3,none⟩ = some (.string xs[j].key):=(by exact hc' 0 _ rfl);have p1:wr.cell? ⟨b',o'+j * 3+1,none⟩ = some (.string xs[j].value):=(by rw [Nat.add_assoc];exact hc' 1 _ rfl);have p2:wr.cell? ⟨b',o'+j * 3+2,none⟩ = some (.int .i64 xs[j].effect):=(by rw [Nat.add_assoc];exact hc' 2 _ rfl);clear hc';have hwj:IntKind.i64.wrap (j:Int) = j:=IntWalk.i64_in _ O';have hjl:j < xs.length:=O';have hs1:=(Eo.out xs[j+1] (List.getElem_mem ..)).1;have hs2:=(Eo.out xs[j+1] (List.getElem_mem ..)).2;subst su;have hr0:=hr;cases h1:Dp xs[j+1] <;> cases h3:qo xs[j] xs[j+1]
     all_goals
      have hp:=yS (ok:=Dp) (less:=qo) hlt;rw [h1,h3] at hp;try simp only [Bool.false_and,Bool.and_false,Bool.and_true,Bool.and_self] at hp
      change rowAt Dp qo xs _ = _ at hp;have H1:=I' h1
      first
       | have HN:=I' (gq hall.out hp)
       | have HF:=I' (wU (most:=4) hlt hp)
      have hC:∀wq,Below wr.heap.size wr wq→Calls Tryz.prog 187 #[.agg #[.string xs[j].key,.string xs[j].value,.int .i64 xs[j].effect],.agg #[.string xs[j+1].key,.string xs[j+1].value,.int .i64 xs[j+1].effect]] wq fun e w'=>e = .returned (.bool (qo xs[j] xs[j+1]))∧Below wq.heap.size wq w' :=
       fun wq hq=>anf xs[j] xs[j+1] _ _ _ _ _ (aJ hr' hq) (aJ hr0 hq)
      rw [h3] at hC;have CMP:=I' hC;clear hC;clear h1 hp;go_wp2_with fail
      refine aF _ U' U' (aj _) ?_
      repeat (first
       | (apply aG
          case hw=>rfl
          simp only [Act.put,pz])
       | (apply aH
          case hw=>rfl
          case h =>
           intro wq hq;have hcq:=(aB hq).1;have lJ:=(aB hq).2;go_simp
           first
            | exact ⟨hq,rfl⟩
            | exact ⟨aQ hq _,rfl⟩
            | (first | (refine (Wh xs[j+1] _ [] _ (aJ hr0 ave) hs1 hs2).mono ?_;rw [H1.out];rintro e w2 ⟨rfl,hb2⟩;exact ⟨rfl,aI hq hb2⟩) | (refine (CMP.out _ aut).mono ?_;rintro e w2 ⟨rfl,hb2⟩;exact ⟨rfl,aI hq hb2⟩))
            | (simp only [↓IntWalk.iteOmega];exact ⟨hq,rfl⟩)
          simp only [Act.put,pz]))
      refine aN ?_;intro wn hn;replace hn:=hn.out;go_wp2
      first
       | exact ⟨⟨j+1+1,O',N',HN.out,ah hbl hn⟩,by simp [intOf];omega⟩
       | (go_ret;exact ⟨by unfold La;rw [HF.out];rfl,ah hbl hn⟩)
   ·have hkl:k = xs.length:=O';subst hkl;have HF:=I' (Jy hm hall.out);go_wp2;go_ret
    exact ⟨by unfold La;rw [HF.out];rfl,hbl⟩
 ·have HF:=I' (Jz (ok:=Dp) (less:=qo) hm);go_enter Tryz.func136,Tryz.ntmps136;go_wp2;go_ret
  exact ⟨by unfold La;rw [HF.out];rfl,atS⟩
def Ya (xs:List bH):Bool:=adb Q5 vJ 4 xs
theorem RH (xs:List bH) (A:Option Addr) (n c:Nat) (F:List Nat) (w:World) (h:Sl w xs A c F) (hn:n = xs.length) (hl:(xs.length:Int)≤1048576) (hsm:∀l∈xs,(l.key.size:Int)≤1048576∧(l.value.size:Int)≤1048576) :
 Calls Tryz.prog 112 #[.slice A n c] w fun e w'=>e = .returned (.bool (Ya xs))∧Below w.heap.size w w':=by
 subst hn;have Eo:=I' hsm;clear hsm;go_enter Tryz.func112,Tryz.ntmps112;go_wp2_with fail
 go_loopw [7] (fun i wr=>∃k:Nat,k≤xs.length∧i = .int .i64 k∧Hid (∀j,j < k→rowAt Q5 vJ xs j = true)∧Below w.heap.size w wr) (fun i _=>xs.length - (intOf i).toNat)
 case atStart=>exact ⟨0,Nat.zero_le _,rfl,(fun j hj=>by omega),atS⟩
 case round =>
  obtain ⟨k,hk,rfl,hall,hbl⟩:=hrel;by_cases hlt:k < xs.length
  ·obtain rfl | ⟨j,rfl⟩:k = 0∨∃j,k = j+1:=by cases k with | zero=>exact .inl rfl | succ j=>exact .inr ⟨j,rfl⟩
   ·obtain ⟨b,o,ck,Fk,rfl,o9,hbs,hr,hsub,hc⟩:=(Sl.ext (w':=wr) (A:=A) (c:=c) h hbl).get hlt;obtain ⟨hck,su,hkey,kP,lD⟩:=jv hr;subst hck;have q0:wr.cell? ⟨b,o+0 * 4,none⟩ = some (.string xs[0].key):=(by exact hc 0 _ rfl);have q1:wr.cell? ⟨b,o+0 * 4+1,none⟩ = some (.bool xs[0].equal):=(by rw [Nat.add_assoc];exact hc 1 _ rfl);have q2:wr.cell? ⟨b,o+0 * 4+2,none⟩ = some (.string xs[0].value):=(by rw [Nat.add_assoc];exact hc 2 _ rfl);have q3:wr.cell? ⟨b,o+0 * 4+3,none⟩ = some (.int .i64 xs[0].effect):=(by rw [Nat.add_assoc];exact hc 3 _ rfl);clear hc;simp only [Nat.zero_mul,Nat.add_zero] at q0 q1 q2 q3;have hs1:=(Eo.out xs[0] (List.getElem_mem ..)).1;have hs2:=(Eo.out xs[0] (List.getElem_mem ..)).2;subst su;have hr0:=hr;cases h1:Q5 xs[0]
    all_goals
     have hp:=rowAt_zero (ok:=Q5) (less:=vJ) hlt;rw [h1] at hp;try simp only [Bool.false_and,Bool.and_false,Bool.and_true,Bool.and_self] at hp
     change rowAt Q5 vJ xs _ = _ at hp;have H1:=I' h1
     first
      | have HN:=I' (gq hall.out hp)
      | have HF:=I' (wU (most:=4) hlt hp)
     clear h1 hp;go_wp2_with fail
     refine aF _ U' U' (aj _) ?_
     repeat (first
      | (apply aG
         case hw=>rfl
         simp only [Act.put,pz])
      | (apply aH
         case hw=>rfl
         case h =>
          intro wq hq;have hcq:=(aB hq).1;have lJ:=(aB hq).2;go_simp
          first
           | exact ⟨hq,rfl⟩
           | exact ⟨aQ hq _,rfl⟩
           | (first | (refine (Na xs[0] _ [] _ (aJ hr0 ave) hs1 hs2).mono ?_;rw [H1.out];rintro e w2 ⟨rfl,hb2⟩;exact ⟨rfl,aI hq hb2⟩) | (refine (CMP.out _ aut).mono ?_;rintro e w2 ⟨rfl,hb2⟩;exact ⟨rfl,aI hq hb2⟩))
           | (simp only [↓IntWalk.iteOmega];exact ⟨hq,rfl⟩)
         simp only [Act.put,pz]))
     refine aN ?_;intro wn hn;replace hn:=hn.out;go_wp2
     first
      | exact ⟨⟨0+1,O',N',HN.out,ah (ak hbl _) hn⟩,by simp [intOf];omega⟩
      | (go_ret;exact ⟨by unfold Ya;rw [HF.out];rfl,ah (ak hbl _) hn⟩)
   ·obtain ⟨b,o,ck,Fk,rfl,o9,hbs,hr,hsub,hc⟩:=(Sl.ext (w':=wr) (A:=A) (c:=c) h hbl).get hlt;obtain ⟨hck,su,hkey,kP,lD⟩:=jv hr;subst hck;have q0:wr.cell? ⟨b,o+(j+1) * 4,none⟩ = some (.string xs[j+1].key):=(by exact hc 0 _ rfl);have q1:wr.cell? ⟨b,o+(j+1) * 4+1,none⟩ = some (.bool xs[j+1].equal):=(by rw [Nat.add_assoc];exact hc 1 _ rfl);have q2:wr.cell? ⟨b,o+(j+1) * 4+2,none⟩ = some (.string xs[j+1].value):=(by rw [Nat.add_assoc];exact hc 2 _ rfl);have q3:wr.cell? ⟨b,o+(j+1) * 4+3,none⟩ = some (.int .i64 xs[j+1].effect):=(by rw [Nat.add_assoc];exact hc 3 _ rfl);clear hc;obtain ⟨b',o',TY,Xw,e,Ht,hbs',hr',zQ,hc'⟩:=Sl.get (Sl.ext (w':=wr) (c:=c) h hbl) (show j < xs.length by omega);obtain ⟨jU,abT,vC,rP,uY⟩:=jv hr';subst jU;obtain ⟨rfl,rfl⟩:b' = b∧o' = o:=by simpa using e.symm
    clear e;have p0:wr.cell? ⟨b',o'+j * 4,none⟩ = some (.string xs[j].key):=(by exact hc' 0 _ rfl);have p1:wr.cell? ⟨b',o'+j * 4+1,none⟩ = some (.bool xs[j].equal):=(by rw [Nat.add_assoc];exact hc' 1 _ rfl);have p2:wr.cell? ⟨b',o'+j * 4+2,none⟩ = some (.string xs[j].value):=(by rw [Nat.add_assoc];exact hc' 2 _ rfl);have p3:wr.cell? ⟨b',o'+j * 4+3,none⟩ = some (.int .i64 xs[j].effect):=(by rw [Nat.add_assoc];exact hc' 3 _ rfl);clear hc';have hwj:IntKind.i64.wrap (j:Int) = j:=IntWalk.i64_in _ O';have hjl:j < xs.length:=O';have hs1:=(Eo.out xs[j+1] (List.getElem_mem ..)).1;have hs2:=(Eo.out xs[j+1] (List.getElem_mem ..)).2;subst su;have hr0:=hr;cases h1:Q5 xs[j+1] <;> cases h3:vJ xs[j] xs[j+1]
    all_goals
     have hp:=yS (ok:=Q5) (less:=vJ) hlt;rw [h1,h3] at hp;try simp only [Bool.false_and,Bool.and_false,Bool.and_true,Bool.and_self] at hp
     change rowAt Q5 vJ xs _ = _ at hp;have H1:=I' h1
     first
      | have HN:=I' (gq hall.out hp)
      | have HF:=I' (wU (most:=4) hlt hp)
     have hC:∀wq,Below wr.heap.size wr wq→Calls Tryz.prog 159 #[.agg #[.string xs[j].key,.bool xs[j].equal,.string xs[j].value,.int .i64 xs[j].effect],.agg #[.string xs[j+1].key,.bool xs[j+1].equal,.string xs[j+1].value,.int .i64 xs[j+1].effect]] wq fun e w'=>e = .returned (.int .i64 (Qa (anq xs[j] xs[j+1])))∧Below wq.heap.size wq w' :=
      fun wq hq=>Xd xs[j] xs[j+1] _ _ _ _ _ (aJ hr' hq) (aJ hr0 hq)
     have CMP:=I' hC;clear hC;have hz:=h3;unfold vJ at hz;simp only [decide_eq_true_eq,decide_eq_false_iff_not,Int.not_lt] at hz;generalize Qa (anq xs[j] xs[j+1]) = z at CMP hz;clear h1 hp;go_wp2_with fail
     refine aF _ U' U' (aj _) ?_
     repeat (first
      | (apply aG
         case hw=>rfl
         simp only [Act.put,pz])
      | (apply aH
         case hw=>rfl
         case h =>
          intro wq hq;have hcq:=(aB hq).1;have lJ:=(aB hq).2;go_simp
          first
           | exact ⟨hq,rfl⟩
           | exact ⟨aQ hq _,rfl⟩
           | (first | (refine (Na xs[j+1] _ [] _ (aJ hr0 ave) hs1 hs2).mono ?_;rw [H1.out];rintro e w2 ⟨rfl,hb2⟩;exact ⟨rfl,aI hq hb2⟩) | (refine (CMP.out _ aut).mono ?_;rintro e w2 ⟨rfl,hb2⟩;exact ⟨rfl,aI hq hb2⟩))
           | (simp only [↓IntWalk.iteOmega];exact ⟨hq,rfl⟩)
         simp only [Act.put,pz]))
     refine aN ?_;intro wn hn;replace hn:=hn.out;go_wp2
     first
      | exact ⟨⟨j+1+1,O',N',HN.out,ah (ak hbl _) hn⟩,by simp [intOf];omega⟩
      | (go_ret;exact ⟨by unfold Ya;rw [HF.out];rfl,ah (ak hbl _) hn⟩)
  ·have hkl:k = xs.length:=O';subst hkl;by_cases hm:(xs.length:Int)≤4
   ·have HF:=I' (Jy hm hall.out);go_wp2;go_ret
    exact ⟨by unfold Ya;rw [HF.out];first | rfl | simp [hm],hbl⟩
   ·have HF:=I' (Jz (ok:=Q5) (less:=vJ) hm);go_wp2;go_ret
    exact ⟨by unfold Ya;rw [HF.out];first | rfl | simp [hm],hbl⟩
theorem RI (xs:List bH) (A:Option Addr) (n c:Nat) (F:List Nat) (w:World) (h:Sl w xs A c F) (hn:n = xs.length) (hl:(xs.length:Int)≤1048576) (hsm:∀l∈xs,(l.key.size:Int)≤1048576∧(l.value.size:Int)≤1048576) :
 Calls Tryz.prog 128 #[.slice A n c] w fun e w'=>e = .returned (.bool (Ya xs))∧Below w.heap.size w w':=by
 subst hn;have Eo:=I' hsm;clear hsm;by_cases hm:(xs.length:Int)≤4
 ·go_enter Tryz.func128,Tryz.ntmps128;go_wp2_with fail
  go_loopw [3] (fun i wr=>∃k:Nat,k≤xs.length∧i = .int .i64 k∧Hid (∀j,j < k→rowAt Q5 vJ xs j = true)∧Below w.heap.size w wr) (fun i _=>xs.length - (intOf i).toNat)
  case atStart=>exact ⟨0,Nat.zero_le _,rfl,(fun j hj=>by omega),atS⟩
  case round =>
   obtain ⟨k,hk,rfl,hall,hbl⟩:=hrel;by_cases hlt:k < xs.length
   ·obtain rfl | ⟨j,rfl⟩:k = 0∨∃j,k = j+1:=by cases k with | zero=>exact .inl rfl | succ j=>exact .inr ⟨j,rfl⟩
    ·obtain ⟨b,o,ck,Fk,rfl,o9,hbs,hr,hsub,hc⟩:=(Sl.ext (w':=wr) (A:=A) (c:=c) h hbl).get hlt;obtain ⟨hck,su,hkey,kP,lD⟩:=jv hr;subst hck;have q0:wr.cell? ⟨b,o+0 * 4,none⟩ = some (.string xs[0].key):=(by exact hc 0 _ rfl);have q1:wr.cell? ⟨b,o+0 * 4+1,none⟩ = some (.bool xs[0].equal):=(by rw [Nat.add_assoc];exact hc 1 _ rfl);have q2:wr.cell? ⟨b,o+0 * 4+2,none⟩ = some (.string xs[0].value):=(by rw [Nat.add_assoc];exact hc 2 _ rfl);have q3:wr.cell? ⟨b,o+0 * 4+3,none⟩ = some (.int .i64 xs[0].effect):=(by rw [Nat.add_assoc];exact hc 3 _ rfl);clear hc;simp only [Nat.zero_mul,Nat.add_zero] at q0 q1 q2 q3;have hs1:=(Eo.out xs[0] (List.getElem_mem ..)).1;have hs2:=(Eo.out xs[0] (List.getElem_mem ..)).2;subst su;have hr0:=hr;cases h1:Q5 xs[0]
     all_goals
      have hp:=rowAt_zero (ok:=Q5) (less:=vJ) hlt;rw [h1] at hp;try simp only [Bool.false_and,Bool.and_false,Bool.and_true,Bool.and_self] at hp
      change rowAt Q5 vJ xs _ = _ at hp;have H1:=I' h1
      first
       | have HN:=I' (gq hall.out hp)
       | have HF:=I' (wU (most:=4) hlt hp)
      clear h1 hp;go_wp2_with fail
      refine aF _ U' U' (aj _) ?_
      repeat (first
       | (apply aG
          case hw=>rfl
          simp only [Act.put,pz])
       | (apply aH
          case hw=>rfl
          case h =>
           intro wq hq;have hcq:=(aB hq).1;have lJ:=(aB hq).2;go_simp
           first
            | exact ⟨hq,rfl⟩
            | exact ⟨aQ hq _,rfl⟩
            | (first | (refine (Nb xs[0] _ [] _ (aJ hr0 ave) hs1 hs2).mono ?_;rw [H1.out];rintro e w2 ⟨rfl,hb2⟩;exact ⟨rfl,aI hq hb2⟩) | (refine (CMP.out _ aut).mono ?_;rintro e w2 ⟨rfl,hb2⟩;exact ⟨rfl,aI hq hb2⟩))
            | (simp only [↓IntWalk.iteOmega];exact ⟨hq,rfl⟩)
          simp only [Act.put,pz]))
      refine aN ?_;intro wn hn;replace hn:=hn.out;go_wp2
      first
       | exact ⟨⟨0+1,O',N',HN.out,ah hbl hn⟩,by simp [intOf];omega⟩
       | (go_ret;exact ⟨by unfold Ya;rw [HF.out];rfl,ah hbl hn⟩)
    ·obtain ⟨b,o,ck,Fk,rfl,o9,hbs,hr,hsub,hc⟩:=(Sl.ext (w':=wr) (A:=A) (c:=c) h hbl).get hlt;obtain ⟨hck,su,hkey,kP,lD⟩:=jv hr;subst hck;have q0:wr.cell? ⟨b,o+(j+1) * 4,none⟩ = some (.string xs[j+1].key):=(by exact hc 0 _ rfl);have q1:wr.cell? ⟨b,o+(j+1) * 4+1,none⟩ = some (.bool xs[j+1].equal):=(by rw [Nat.add_assoc];exact hc 1 _ rfl);have q2:wr.cell? ⟨b,o+(j+1) * 4+2,none⟩ = some (.string xs[j+1].value):=(by rw [Nat.add_assoc];exact hc 2 _ rfl);have q3:wr.cell? ⟨b,o+(j+1) * 4+3,none⟩ = some (.int .i64 xs[j+1].effect):=(by rw [Nat.add_assoc];exact hc 3 _ rfl);clear hc;obtain ⟨b',o',TY,Xw,e,Ht,hbs',hr',zQ,hc'⟩:=Sl.get (Sl.ext (w':=wr) (c:=c) h hbl) (show j < xs.length by omega);obtain ⟨jU,abT,vC,rP,uY⟩:=jv hr';subst jU;obtain ⟨rfl,rfl⟩:b' = b∧o' = o:=by simpa using e.symm
     clear e;have p0:wr.cell? ⟨b',o'+j * 4,none⟩ = some (.string xs[j].key):=(by exact hc' 0 _ rfl);have p1:wr.cell? ⟨b',o'+j * 4+1,none⟩ = some (.bool xs[j].equal):=(by rw [Nat.add_assoc];exact hc' 1 _ rfl);have p2:wr.cell? ⟨b',o'+j * 4+2,none⟩ = some (.string xs[j].value):=(by rw [Nat.add_assoc];exact hc' 2 _ rfl);have p3:wr.cell? ⟨b',o'+j * 4+3,none⟩ = some (.int .i64 xs[j].effect):=(by rw [Nat.add_assoc];exact hc' 3 _ rfl);clear hc';have hwj:IntKind.i64.wrap (j:Int) = j:=IntWalk.i64_in _ O';have hjl:j < xs.length:=O';have hs1:=(Eo.out xs[j+1] (List.getElem_mem ..)).1;have hs2:=(Eo.out xs[j+1] (List.getElem_mem ..)).2;subst su;have hr0:=hr;cases h1:Q5 xs[j+1] <;> cases h3:vJ xs[j] xs[j+1]
     all_goals
      have hp:=yS (ok:=Q5) (less:=vJ) hlt;rw [h1,h3] at hp;try simp only [Bool.false_and,Bool.and_false,Bool.and_true,Bool.and_self] at hp
      change rowAt Q5 vJ xs _ = _ at hp;have H1:=I' h1
      first
       | have HN:=I' (gq hall.out hp)
       | have HF:=I' (wU (most:=4) hlt hp)
      have hC:∀wq,Below wr.heap.size wr wq→Calls Tryz.prog 127 #[.agg #[.string xs[j].key,.bool xs[j].equal,.string xs[j].value,.int .i64 xs[j].effect],.agg #[.string xs[j+1].key,.bool xs[j+1].equal,.string xs[j+1].value,.int .i64 xs[j+1].effect]] wq fun e w'=>e = .returned (.bool (vJ xs[j] xs[j+1]))∧Below wq.heap.size wq w' :=
       fun wq hq=>aiC xs[j] xs[j+1] _ _ _ _ _ (aJ hr' hq) (aJ hr0 hq)
      rw [h3] at hC;have CMP:=I' hC;clear hC;clear h1 hp;go_wp2_with fail
      refine aF _ U' U' (aj _) ?_
      repeat (first
       | (apply aG
          case hw=>rfl
          simp only [Act.put,pz])
       | (apply aH
          case hw=>rfl
          case h =>
           intro wq hq;have hcq:=(aB hq).1;have lJ:=(aB hq).2;go_simp
           first
            | exact ⟨hq,rfl⟩
            | exact ⟨aQ hq _,rfl⟩
            | (first | (refine (Nb xs[j+1] _ [] _ (aJ hr0 ave) hs1 hs2).mono ?_;rw [H1.out];rintro e w2 ⟨rfl,hb2⟩;exact ⟨rfl,aI hq hb2⟩) | (refine (CMP.out _ aut).mono ?_;rintro e w2 ⟨rfl,hb2⟩;exact ⟨rfl,aI hq hb2⟩))
            | (simp only [↓IntWalk.iteOmega];exact ⟨hq,rfl⟩)
          simp only [Act.put,pz]))
      refine aN ?_;intro wn hn;replace hn:=hn.out;go_wp2
      first
       | exact ⟨⟨j+1+1,O',N',HN.out,ah hbl hn⟩,by simp [intOf];omega⟩
       | (go_ret;exact ⟨by unfold Ya;rw [HF.out];rfl,ah hbl hn⟩)
   ·have hkl:k = xs.length:=O';subst hkl;have HF:=I' (Jy hm hall.out);go_wp2;go_ret
    exact ⟨by unfold Ya;rw [HF.out];rfl,hbl⟩
 ·have HF:=I' (Jz (ok:=Q5) (less:=vJ) hm);go_enter Tryz.func128,Tryz.ntmps128;go_wp2;go_ret
  exact ⟨by unfold Ya;rw [HF.out];rfl,atS⟩
end Go.Proofs.YtkjeocdobidadaaGreat
