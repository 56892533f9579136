/- TaintsOk, of the program and of the reference. No condition. -/
import Derived.Test.YtkjeocdobidadaaGreatCmp2
import Derived.Test.YtkjeocdobidadaaGreatWordsS
import Derived.Test.YtkjeocdobidadaaGreatMark
namespace Go.Proofs.YtkjeocdobidadaaGreat
open Go.ChangeShapes Go.WideShapes Go.ChangeAt Go.RowKit
set_option linter.unusedVariables false
set_option linter.unusedSimpArgs false
set_option maxHeartbeats 2000000
set_option maxRecDepth 100000
def La (xs:List iU):Bool:=adb Dp qo 4 xs
theorem ZK (xs:List iU) (A:Option Addr) (n c:Nat) (F:List Nat) (w:World) (h:Sl w xs A c F) (hn:n = xs.length) (hl:(xs.length:Int)≤1048576) (hsm:∀l∈xs,(l.key.size:Int)≤1048576∧(l.value.size:Int)≤1048576) :
 Calls Tryz.prog 110 #[.slice A n c] w fun e w'=>e = .returned (.bool (La xs))∧Below w.heap.size w w':=by
 subst hn;have Eo:=I' hsm;clear hsm;go_enter Tryz.func110,Tryz.ntmps110;go_wp2_with fail
 go_loopw [7] (fun i wr=>∃k:Nat,k≤xs.length∧i = .int .i64 k∧Hid (∀j,j < k→rowAt Dp qo xs j = true)∧Below w.heap.size w wr) (fun i _=>xs.length - (intOf i).toNat)
 case atStart=>exact ⟨0,Nat.zero_le _,rfl,(fun j hj=>by omega),atS⟩
 case round =>
  obtain ⟨k,hk,rfl,hall,hbl⟩:=hrel;by_cases hlt:k < xs.length
  ·obtain rfl | ⟨j,rfl⟩:k = 0∨∃j,k = j+1:=by cases k with | zero=>exact .inl rfl | succ j=>exact .inr ⟨j,rfl⟩
   ·obtain ⟨b,o,ck,Fk,rfl,o9,hbs,hr,hsub,hc⟩:=(Sl.ext (w':=wr) (A:=A) (c:=c) h hbl).get hlt;obtain ⟨hck,su,hkey,kP,lD⟩:=oK hr;subst hck;have q0:wr.cell? ⟨b,o+0 * 3,none⟩ = some (.string xs[0].key):=(by exact hc 0 _ rfl);have q1:wr.cell? ⟨b,o+0 * 3+1,none⟩ = some (.string xs[0].value):=(by rw [Nat.add_assoc];exact hc 1 _ rfl);have q2:wr.cell? ⟨b,o+0 * 3+2,none⟩ = some (.int .i64 xs[0].effect):=(by rw [Nat.add_assoc];exact hc 2 _ rfl);clear hc;simp only [Nat.zero_mul,Nat.add_zero] at q0 q1 q2;have hs1:=(Eo.out xs[0] (List.getElem_mem ..)).1;have hs2:=(Eo.out xs[0] (List.getElem_mem ..)).2;subst su;have hr0:=hr;cases h1:Dp xs[0]
    all_goals
     have hp:=rowAt_zero (ok:=Dp) (less:=qo) hlt;rw [h1] at hp;try simp only [Bool.false_and,Bool.and_false,Bool.and_true,Bool.and_self] at hp
     change rowAt Dp qo xs _ = _ at hp;have H1:=I' h1
     first
      | have HN:=I' (gq hall.out hp)
      | have HF:=I' (wU (most:=4) hlt hp)
     clear h1 hp;go_wp2_with fail
     refine aF _ U' U' (aj _) ?_
     repeat (first
      | (apply aG
         case hw=>rfl
         simp only [Act.put,pz])
      | (apply aH
         case hw=>rfl
         case h =>
          intro wq hq;have hcq:=(aB hq).1;have lJ:=(aB hq).2;go_simp
          first
           | exact ⟨hq,rfl⟩
           | exact ⟨aQ hq _,rfl⟩
           | (first | (refine (V9 xs[0] _ [] _ (aJ hr0 ave) hs1 hs2).mono ?_;rw [H1.out];rintro e w2 ⟨rfl,hb2⟩;exact ⟨rfl,aI hq hb2⟩) | (refine (CMP.out _ aut).mono ?_;rintro e w2 ⟨rfl,hb2⟩;exact ⟨rfl,aI hq hb2⟩))
           | (simp only [↓IntWalk.iteOmega];exact ⟨hq,rfl⟩)
         simp only [Act.put,pz]))
     refine aN ?_;intro wn hn;replace hn:=hn.out;go_wp2
     first
      | exact ⟨⟨0+1,O',N',HN.out,ah (ak hbl _) hn⟩,by simp [intOf];omega⟩
      | (go_ret;exact ⟨by unfold La;rw [HF.out];rfl,ah (ak hbl _) hn⟩)
   ·obtain ⟨b,o,ck,Fk,rfl,o9,hbs,hr,hsub,hc⟩:=(Sl.ext (w':=wr) (A:=A) (c:=c) h hbl).get hlt;obtain ⟨hck,su,hkey,kP,lD⟩:=oK hr;subst hck;have q0:wr.cell? ⟨b,o+(j+1) * 3,none⟩ = some (.string xs[j+1].key):=(by exact hc 0 _ rfl);have q1:wr.cell? ⟨b,o+(j+1) * 3+1,none⟩ = some (.string xs[j+1].value):=(by rw [Nat.add_assoc];exact hc 1 _ rfl);have q2:wr.cell? ⟨b,o+(j+1) * 3+2,none⟩ = some (.int .i64 xs[j+1].effect):=(by rw [Nat.add_assoc];exact hc 2 _ rfl);clear hc;obtain ⟨b',o',TY,Xw,e,Ht,hbs',hr',zQ,hc'⟩:=Sl.get (Sl.ext (w':=wr) (c:=c) h hbl) (show j < xs.length by omega);obtain ⟨jU,abT,vC,rP,uY⟩:=oK hr';subst jU;obtain ⟨rfl,rfl⟩:b' = b∧o' = o:=by simpa using e.symm
    clear e;have p0:wr.cell? ⟨b',o'+j * 3,none⟩ = some (.string xs[j].key):=(by exact hc' 0 _ rfl);have p1:wr.cell? ⟨b',o'+j * 3+1,none⟩ = some (.string xs[j].value):=(by rw [Nat.add_assoc];exact hc' 1 _ rfl);have p2:wr.cell? ⟨b',o'+j * 3+2,none⟩ = some (.int .i64 xs[j].effect):=(by rw [Nat.add_assoc];exact hc' 2 _ rfl);clear hc';have hwj:IntKind.i64.wrap (j:Int) = j:=IntWalk.i64_in _ O';have hjl:j < xs.length:=O';have hs1:=(Eo.out xs[j+1] (List.getElem_mem ..)).1;have hs2:=(Eo.out xs[j+1] (List.getElem_mem ..)).2;subst su;have hr0:=hr;cases h1:Dp xs[j+1] <;> cases h3:qo xs[j] xs[j+1]
    all_goals
     have hp:=yS (ok:=Dp) (less:=qo) hlt;rw [h1,h3] at hp;try simp only [Bool.false_and,Bool.and_false,Bool.and_true,Bool.and_self] at hp
     change rowAt Dp qo xs _ = _ at hp;have H1:=I' h1
     first
      | have HN:=I' (gq hall.out hp)
      | have HF:=I' (wU (most:=4) hlt hp)
     have hC:∀wq,Below wr.heap.size wr wq→Calls Tryz.prog 155 #[.agg #[.string xs[j].key,.string xs[j].value,.int .i64 xs[j].effect],.agg #[.string xs[j+1].key,.string xs[j+1].value,.int .i64 xs[j+1].effect]] wq fun e w'=>e = .returned (.int .i64 (Qa (ao0 xs[j] xs[j+1])))∧Below wq.heap.size wq w' :=
      fun wq hq=>acE xs[j] xs[j+1] _ _ _ _ _ (aJ hr' hq) (aJ hr0 hq)
     have CMP:=I' hC;clear hC;have hz:=h3;unfold qo at hz;simp only [decide_eq_true_eq,decide_eq_false_iff_not,Int.not_lt] at hz;generalize Qa (ao0 xs[j] xs[j+1]) = z at CMP hz;clear h1 hp;go_wp2_with fail
     refine aF _ U' U' (aj _) ?_
     repeat (first
      | (apply aG
         case hw=>rfl
         simp only [Act.put,pz])
      | (apply aH
         case hw=>rfl
         case h =>
          intro wq hq;have hcq:=(aB hq).1;have lJ:=(aB hq).2;go_simp
          first
           | exact ⟨hq,rfl⟩
           | exact ⟨aQ hq _,rfl⟩
           | (first | (refine (V9 xs[j+1] _ [] _ (aJ hr0 ave) hs1 hs2).mono ?_;rw [H1.out];rintro e w2 ⟨rfl,hb2⟩;exact ⟨rfl,aI hq hb2⟩) | (refine (CMP.out _ aut).mono ?_;rintro e w2 ⟨rfl,hb2⟩;exact ⟨rfl,aI hq hb2⟩))
           | (simp only [↓IntWalk.iteOmega];exact ⟨hq,rfl⟩)
         simp only [Act.put,pz]))
     refine aN ?_;intro wn hn;replace hn:=hn.out;go_wp2
     first
      | exact ⟨⟨j+1+1,O',N',HN.out,ah (ak hbl _) hn⟩,by simp [intOf];omega⟩
      | (go_ret;exact ⟨by unfold La;rw [HF.out];rfl,ah (ak hbl _) hn⟩)
  ·have hkl:k = xs.length:=O';subst hkl;by_cases hm:(xs.length:Int)≤4
   ·have HF:=I' (Jy hm hall.out);go_wp2;go_ret
    exact ⟨by unfold La;rw [HF.out];first | rfl | simp [hm],hbl⟩
   ·have HF:=I' (Jz (ok:=Dp) (less:=qo) hm);go_wp2;go_ret
    exact ⟨by unfold La;rw [HF.out];first | rfl | simp [hm],hbl⟩
theorem ZL (xs:List iU) (A:Option Addr) (n c:Nat) (F:List Nat) (w:World) (h:Sl w xs A c F) (hn:n = xs.length) (hl:(xs.length:Int)≤1048576) (hsm:∀l∈xs,(l.key.size:Int)≤1048576∧(l.value.size:Int)≤1048576) :
 Calls Tryz.prog 136 #[.slice A n c] w fun e w'=>e = .returned (.bool (La xs))∧Below w.heap.size w w':=by
 subst hn;have Eo:=I' hsm;clear hsm;by_cases hm:(xs.length:Int)≤4
 ·go_enter Tryz.func136,Tryz.ntmps136;go_wp2_with fail
  go_loopw [3] (fun i wr=>∃k:Nat,k≤xs.length∧i = .int .i64 k∧Hid (∀j,j < k→rowAt Dp qo xs j = true)∧Below w.heap.size w wr) (fun i _=>xs.length - (intOf i).toNat)
  case atStart=>exact ⟨0,Nat.zero_le _,rfl,(fun j hj=>by omega),atS⟩
  case round =>
   obtain ⟨k,hk,rfl,hall,hbl⟩:=hrel;by_cases hlt:k < xs.length
   ·obtain rfl | ⟨j,rfl⟩:k = 0∨∃j,k = j+1:=by cases k with | zero=>exact .inl rfl | succ j=>exact .inr ⟨j,rfl⟩
    ·obtain ⟨b,o,ck,Fk,rfl,o9,hbs,hr,hsub,hc⟩:=(Sl.ext (w':=wr) (A:=A) (c:=c) h hbl).get hlt;obtain ⟨hck,su,hkey,kP,lD⟩:=oK hr;subst hck;have q0:wr.cell? ⟨b,o+0 * 3,none⟩ = some (.string xs[0].key):=(by exact hc 0 _ rfl);have q1:wr.cell? ⟨b,o+0 * 3+1,none⟩ = some (.string xs[0].value):=(by rw [Nat.add_assoc];exact hc 1 _ rfl);have q2:wr.cell? ⟨b,o+0 * 3+2,none⟩ = some (.int .i64 xs[0].effect):=(by rw [Nat.add_assoc];exact hc 2 _ rfl);clear hc;simp only [Nat.zero_mul,Nat.add_zero] at q0 q1 q2;have hs1:=(Eo.out xs[0] (List.getElem_mem ..)).1;have hs2:=(Eo.out xs[0] (List.getElem_mem ..)).2;subst su;have hr0:=hr;cases h1:Dp xs[0]
     all_goals
      have hp:=rowAt_zero (ok:=Dp) (less:=qo) hlt;rw [h1] at hp;try simp only [Bool.false_and,Bool.and_false,Bool.and_true,Bool.and_self] at hp
      change rowAt Dp qo xs _ = _ at hp;have H1:=I' h1
      first
       | have HN:=I' (gq hall.out hp)
       | have HF:=I' (wU (most:=4) hlt hp)
      clear h1 hp;go_wp2_with fail
      refine aF _ U' U' (aj _) ?_
      repeat (first
       | (apply aG
          case hw=>rfl
          simp only [Act.put,pz])
       | (apply aH
          case hw=>rfl
          case h =>
           intro wq hq;have hcq:=(aB hq).1;have lJ:=(aB hq).2;go_simp
           first
            | exact ⟨hq,rfl⟩
            | exact ⟨aQ hq _,rfl⟩
            | (first | (refine (Wh xs[0] _ [] _ (aJ hr0 ave) hs1 hs2).mono ?_;rw [H1.out];rintro e w2 ⟨rfl,hb2⟩;exact ⟨rfl,aI hq hb2⟩) | (refine (CMP.out _ aut).mono ?_;rintro e w2 ⟨rfl,hb2⟩;exact ⟨rfl,aI hq hb2⟩))
            | (simp only [↓IntWalk.iteOmega];exact ⟨hq,rfl⟩)
          simp only [Act.put,pz]))
      refine aN ?_;intro wn hn;replace hn:=hn.out;go_wp2
      first
       | exact ⟨⟨0+1,O',N',HN.out,ah hbl hn⟩,by simp [intOf];omega⟩
       | (go_ret;exact ⟨by unfold La;rw [HF.out];rfl,ah hbl hn⟩)
    ·obtain ⟨b,o,ck,Fk,rfl,o9,hbs,hr,hsub,hc⟩:=(Sl.ext (w':=wr) (A:=A) (c:=c) h hbl).get hlt;obtain ⟨hck,su,hkey,kP,lD⟩:=oK hr;subst hck;have q0:wr.cell? ⟨b,o+(j+1) * 3,none⟩ = some (.string xs[j+1].key):=(by exact hc 0 _ rfl);have q1:wr.cell? ⟨b,o+(j+1) * 3+1,none⟩ = some (.string xs[j+1].value):=(by rw [Nat.add_assoc];exact hc 1 _ rfl);have q2:wr.cell? ⟨b,o+(j+1) * 3+2,none⟩ = some (.int .i64 xs[j+1].effect):=(by rw [Nat.add_assoc];exact hc 2 _ rfl);clear hc;obtain ⟨b',o',TY,Xw,e,Ht,hbs',hr',zQ,hc'⟩:=Sl.get (Sl.ext (w':=wr) (c:=c) h hbl) (show j < xs.length by omega);obtain ⟨jU,abT,vC,rP,uY⟩:=oK hr';subst jU;obtain ⟨rfl,rfl⟩:b' = b∧o' = o:=by simpa using e.symm
     clear e;have p0:wr.cell? ⟨b',o'+j * 3,none⟩ = some (.string xs[j].key):=(by exact hc' 0 _ rfl);have p1:wr.cell? ⟨b',o'+j * 3+1,none⟩ = some (.string xs[j].value):=(by rw [Nat.add_assoc];exact hc' 1 _ rfl);have p2:wr.cell? ⟨b',o'+j * 3+2,none⟩ = some (.int .i64 xs[j].effect):=(by rw [Nat.add_assoc];exact hc' 2 _ rfl);clear hc';have hwj:IntKind.i64.wrap (j:Int) = j:=IntWalk.i64_in _ O';have hjl:j < xs.length:=O';have hs1:=(Eo.out xs[j+1] (List.getElem_mem ..)).1;have hs2:=(Eo.out xs[j+1] (List.getElem_mem ..)).2;subst su;have hr0:=hr;cases h1:Dp xs[j+1] <;> cases h3:qo xs[j] xs[j+1]
     all_goals
      have hp:=yS (ok:=Dp) (less:=qo) hlt;rw [h1,h3] at hp;try simp only [Bool.false_and,Bool.and_false,Bool.and_true,Bool.and_self] at hp
      change rowAt Dp qo xs _ = _ at hp;have H1:=I' h1
      first
       | have HN:=I' (gq hall.out hp)
       | have HF:=I' (wU (most:=4) hlt hp)
      have hC:∀wq,Below wr.heap.size wr wq→Calls Tryz.prog 187 #[.agg #[.string xs[j].key,.string xs[j].value,.int .i64 xs[j].effect],.agg #[.string xs[j+1].key,.string xs[j+1].value,.int .i64 xs[j+1].effect]] wq fun e w'=>e = .returned (.bool (qo xs[j] xs[j+1]))∧Below wq.heap.size wq w' :=
       fun wq hq=>anf xs[j] xs[j+1] _ _ _ _ _ (aJ hr' hq) (aJ hr0 hq)
      rw [h3] at hC;have CMP:=I' hC;clear hC;clear h1 hp;go_wp2_with fail
      refine aF _ U' U' (aj _) ?_
      repeat (first
       | (apply aG
          case hw=>rfl
          simp only [Act.put,pz])
       | (apply aH
          case hw=>rfl
          case h =>
           intro wq hq;have hcq:=(aB hq).1;have lJ:=(aB hq).2;go_simp
           first
            | exact ⟨hq,rfl⟩
            | exact ⟨aQ hq _,rfl⟩
            | (first | (refine (Wh xs[j+1] _ [] _ (aJ hr0 ave) hs1 hs2).mono ?_;rw [H1.out];rintro e w2 ⟨rfl,hb2⟩;exact ⟨rfl,aI hq hb2⟩) | (refine (CMP.out _ aut).mono ?_;rintro e w2 ⟨rfl,hb2⟩;exact ⟨rfl,aI hq hb2⟩))
            | (simp only [↓IntWalk.iteOmega];exact ⟨hq,rfl⟩)
          simp only [Act.put,pz]))
      refine aN ?_;intro wn hn;replace hn:=hn.out;go_wp2
      first
       | exact ⟨⟨j+1+1,O',N',HN.out,ah hbl hn⟩,by simp [intOf];omega⟩
       | (go_ret;exact ⟨by unfold La;rw [HF.out];rfl,ah hbl hn⟩)
   ·have hkl:k = xs.length:=O';subst hkl;have HF:=I' (Jy hm hall.out);go_wp2;go_ret
    exact ⟨by unfold La;rw [HF.out];rfl,hbl⟩
 ·have HF:=I' (Jz (ok:=Dp) (less:=qo) hm);go_enter Tryz.func136,Tryz.ntmps136;go_wp2;go_ret
  exact ⟨by unfold La;rw [HF.out];rfl,atS⟩
def Ws (ts:List bH) (eff:Int) (x:iU):Bool:=(x.effect == eff)&&!(ts.any fun t=>AY t x)
def BD (ts:List bH) (eff:Int) (xs:List iU):Nat:=(xs.filter (Ws ts eff)).length
theorem ahR {ts:List bH} {eff:Int} {xs:List iU} {k:Nat} (h:k < xs.length) (hp:Ws ts eff xs[k] = true):BD ts eff (xs.take (k+1)) = BD ts eff (xs.take k)+1:=by
 unfold BD;rw [List.take_succ_eq_append_getElem h,List.filter_append];simp [hp]
theorem ady {ts:List bH} {eff:Int} {xs:List iU} {k:Nat} (h:k < xs.length) (hp:Ws ts eff xs[k] = false):BD ts eff (xs.take (k+1)) = BD ts eff (xs.take k):=by
 unfold BD;rw [List.take_succ_eq_append_getElem h,List.filter_append];simp [hp]
theorem UN (ts:List bH) (eff:Int) (xs:List iU):BD ts eff xs≤xs.length:=List.length_filter_le _ _
theorem aee (ts:List bH) (eff:Int) (xs:List iU) (k:Nat):BD ts eff (xs.take k)≤k:=Nat.le_trans (UN _ _ _) avI
theorem UQ (ts:List bH) (xs:List iU) (eff:Int) (A B:Option Addr) (n m c d:Nat) (F G:List Nat) (w:World) (h:Sl w ts A c F) (h':Sl w xs B d G) (hn:n = ts.length) (hm:m = xs.length) (hl:(ts.length:Int)≤1048576) (hl':(xs.length:Int)≤1048576)
 (hsm:(∀t∈ts,(t.key.size:Int)≤1048576∧(t.value.size:Int)≤1048576)) (hsm':(∀x∈xs,(x.key.size:Int)≤1048576∧(x.value.size:Int)≤1048576)) :
 Calls Tryz.prog 181 #[.slice A n c,.slice B m d,.int .i64 eff] w fun e w'=>e = .returned (.int .i64 (BD ts eff xs))∧Below w.heap.size w w':=by
 subst hm;subst hn;have Eo:=I' hsm;have HSX:=I' hsm';clear hsm hsm';go_enter Tryz.func181,Tryz.ntmps181;go_wp2_with fail
 go_loopw [7,8] (fun x i wr=>∃k:Nat,k≤xs.length∧i = .int .i64 k∧x = .int .i64 (BD ts eff (xs.take k))∧Below w.heap.size w wr) (fun _ i _=>xs.length - (intOf i).toNat)
 case atStart=>exact ⟨0,Nat.zero_le _,rfl,rfl,atS⟩
 case round =>
  obtain ⟨k,hk,rfl,rfl,hbl⟩:=hrel;by_cases hlt:k < xs.length
  ·obtain ⟨b,o,ck,Fk,rfl,o9,hbs,hr,hsub,hc⟩:=(Sl.ext (w':=wr) (A:=B) (c:=d) h' hbl).get hlt;obtain ⟨hck,su,hkey,kP,lD⟩:=oK hr;subst hck;have q0:wr.cell? ⟨b,o+k * 3,none⟩ = some (.string xs[k].key):=(by exact hc 0 _ rfl);have q1:wr.cell? ⟨b,o+k * 3+1,none⟩ = some (.string xs[k].value):=(by rw [Nat.add_assoc];exact hc 1 _ rfl);have q2:wr.cell? ⟨b,o+k * 3+2,none⟩ = some (.int .i64 xs[k].effect):=(by rw [Nat.add_assoc];exact hc 2 _ rfl);clear hc;obtain ⟨hs1,hs2⟩:=HSX.out xs[k] (List.getElem_mem ..);have hnt:=aee ts eff xs k;generalize hz:(BD ts eff (xs.take k):Int) = z at *;have hkk:((xs[k].effect != eff) || (ts.take 0).any (fun t=>AY t xs[k])) = (xs[k].effect != eff):=S';obtain ⟨wo,hwo⟩:∃wo,wo = wr:=⟨_,rfl⟩;subst hwo;go_wp2_with fail
   go_loopw [9,10] (fun v u wi=>∃j:Nat,j≤ts.length∧u = .int .i64 j∧v = .bool ((xs[k].effect != eff) || (ts.take j).any (fun t=>AY t xs[k]))∧Below w.heap.size w wi∧Below wo.heap.size wo wi) (fun _ u _=>ts.length - (intOf u).toNat)
   case atStart=>exact ⟨0,Nat.zero_le _,rfl,by rw [hkk],hbl,aj _⟩
   case round =>
    obtain ⟨j,hj,rfl,rfl,hbi,hbw⟩:=hrel;replace q0:=((ay hbw).1 b _ hbs).trans q0;replace q1:=((ay hbw).1 b _ hbs).trans q1;replace q2:=((ay hbw).1 b _ hbs).trans q2;replace hbs:=Nat.lt_of_lt_of_le hbs hbw.size;by_cases hjl:j < ts.length
    ·obtain ⟨b2,o2,ck2,Fk2,rfl,hbF2,uO,hr2,hsub2,hc2⟩:=(Sl.ext (w':=wr) (A:=A) (c:=c) h hbi).get hjl;obtain ⟨hck,abT,vC,rP,uY⟩:=jv hr2;subst hck;have p0:wr.cell? ⟨b2,o2+j * 4,none⟩ = some (.string ts[j].key):=(by exact hc2 0 _ rfl);have p1:wr.cell? ⟨b2,o2+j * 4+1,none⟩ = some (.bool ts[j].equal):=(by rw [Nat.add_assoc];exact hc2 1 _ rfl);have p2:wr.cell? ⟨b2,o2+j * 4+2,none⟩ = some (.string ts[j].value):=(by rw [Nat.add_assoc];exact hc2 2 _ rfl);have p3:wr.cell? ⟨b2,o2+j * 4+3,none⟩ = some (.int .i64 ts[j].effect):=(by rw [Nat.add_assoc];exact hc2 3 _ rfl);clear hc2;obtain ⟨ht1,ht2⟩:=Eo.out ts[j] (List.getElem_mem ..);have hst:(ts.take (j+1)).any (fun t=>AY t xs[k]) = ((ts.take j).any (fun t=>AY t xs[k]) || AY ts[j] xs[k]):=(by rw [List.take_succ_eq_append_getElem hjl,List.any_append];simp);generalize hv:((xs[k].effect != eff) || (ts.take j).any (fun t=>AY t xs[k])) = v at *;have hnx:((xs[k].effect != eff) || (ts.take (j+1)).any (fun t=>AY t xs[k])) = (v || AY ts[j] xs[k]):=(by rw [hst,← Bool.or_assoc,hv]);have Jf:=I' hnx;clear hnx hst hv hkk;cases v
     all_goals
      go_wp2_with fail
      refine aF _ U' U' (aj _) ?_
      repeat (first
       | (apply aG
          case hw=>rfl
          simp only [Act.put,pz])
       | (apply aH
          case hw=>rfl
          case h =>
           intro wq hq;have hcq:=(aB hq).1;have lJ:=(aB hq).2;go_simp
           first
            | exact ⟨hq,rfl⟩
            | exact ⟨aQ hq _,rfl⟩
            | (refine (ahN ts[j] xs[k] _ _ _ [] _ (aJ hr2 atV) (Q8 _ xs[k] hkey kP lD) ht1 ht2 hs1 hs2).mono ?_;rintro e w2 ⟨rfl,hb2⟩;exact ⟨rfl,aI hq hb2⟩)
            | (simp only [↓IntWalk.iteOmega];exact ⟨hq,rfl⟩)
          simp only [Act.put,pz]))
      refine aN ?_;intro wn hn;replace hn:=hn.out;go_wp2;exact ⟨⟨j+1,O',N',by rw [Jf.out];rfl,ah hbi hn,ah hbw hn⟩,by simp [intOf];omega⟩
    ·have hjo:j = ts.length:=O';subst hjo;rw [List.take_length];cases hef:(xs[k].effect == eff) <;> cases han:(ts.any fun t=>AY t xs[k])
     all_goals
      have hp:Ws ts eff xs[k] = _:=(by unfold Ws;rw [hef,han]);simp only [Bool.false_and,Bool.true_and,Bool.not_true,Bool.not_false] at hp;first | have HN:=I' (ahR hlt hp) | have HN:=I' (ady hlt hp)
      have hne:(xs[k].effect != eff) = _:=(by unfold bne;rw [hef]);rw [hne];clear hp han;go_wp2;exact ⟨⟨k+1,O',N',by rw [HN.out,← hz] <;> first | rfl | go_num,hbi⟩,by simp [intOf];omega⟩
  ·have hkl:k = xs.length:=O';subst hkl;go_wp2;go_ret
   exact ⟨by rw [List.take_length];rfl,hbl⟩
theorem akQ {x y:Need} (h:(x.key.toList == y.key.toList) = false):nD x y = Op.bytesLess x.key.toList y.key.toList:=by
 have h1:Lib.compareBytes x.key.data.toList y.key.data.toList≠0:=fun e=>by
  exact Zac1
 unfold nD W9;simp only [Qa,if_neg h1];exact Zacx
theorem amw {x y:Need} (hk:(x.key.toList == y.key.toList) = true) (h:x.op≠y.op):nD x y = decide (x.op < y.op):=by
 have h0:Lib.compareBytes x.key.data.toList y.key.data.toList = 0:=by rw [J5,← ByteArray.toList_eq,← ByteArray.toList_eq];simpa using hk
 have h1:Lib.compareInt x.op y.op≠0:=by unfold Lib.compareInt;repeat' split <;> omega
 unfold nD W9;simp only [Qa,if_pos h0,if_neg h1];exact Zadg
theorem aeD {x y:Need} (hk:(x.key.toList == y.key.toList) = true) (h:x.op = y.op):nD x y = decide (qW x.values y.values < 0):=by
 have h0:Lib.compareBytes x.key.data.toList y.key.data.toList = 0:=by rw [J5,← ByteArray.toList_eq,← ByteArray.toList_eq];simpa using hk
 have h1:Lib.compareInt x.op y.op = 0:=by unfold Lib.compareInt;repeat' split <;> omega
 unfold nD W9;simp only [Qa,if_pos h0,if_pos h1];by_cases h2:qW x.values y.values = 0
 ·rw [if_pos h2,h2]
 ·rw [if_neg h2]
theorem TN (x y:Need) (cs ds:List Value) (F G:List Nat) (w:World) (h:rd w x cs F) (h':rd w y ds G) (hl:(x.values.length:Int)≤1048576) (hl':(y.values.length:Int)≤1048576) :
 Calls Tryz.prog 125 #[.agg cs.toArray,.agg ds.toArray] w fun e w'=>e = .returned (.bool (nD x y))∧Below w.heap.size w w':=by
 obtain ⟨pX,pY,KG,hck,hF1,xO,hop1,wO⟩:=og h;obtain ⟨qO,qP,KL,jU,hF2,vC,hop2,zS⟩:=og h';subst hck jU;cases h1:(x.key.toList == y.key.toList) with
 | false =>rw [akQ h1];go_enter Tryz.func125,Tryz.ntmps125;exact Zacc
 | true =>
   by_cases h3:x.op = y.op
   ·have hfin:=aeD h1 h3;have HF:=I' hfin;clear hfin;have h4:(x.op == y.op) = true:=(by simp [h3]);go_enter Tryz.func125,Tryz.ntmps125;go_wp2;go_loopw [5] (fun i wr=>∃k:Nat,k≤x.values.length∧i = .int .i64 k∧Hid (k≤y.values.length)∧Hid (qW x.values y.values = qW (x.values.drop k) (y.values.drop k))∧wr.cell? ⟨w.heap.size,2,none⟩ = some (.slice pX x.values.length pY)∧wr.cell? ⟨w.heap.size+1,2,none⟩ = some (.slice qO y.values.length qP)∧Below w.heap.size w wr) (fun i _=>x.values.length - (intOf i).toNat)
    case atStart =>
     refine ⟨0,Nat.zero_le _,rfl,Nat.zero_le _,rfl,?_,?_,atS⟩
     ·exact Zacr
     ·simp
    case round =>
     obtain ⟨k,hk,rfl,HK,HO,hx1,hx2,hbl⟩:=hrel;have hky:=HK.out;have hz1:=World.block_lt_of_cell? wr _ hx1;have hz2:=World.block_lt_of_cell? wr _ hx2;simp only at hz1 hz2;by_cases hlt:k < x.values.length
     ·by_cases hly:k < y.values.length
      ·obtain ⟨b,o,ck,Fk,rfl,o9,hbs,hr,hsub,hc⟩:=(Sl.ext (w':=wr) (A:=pX) (c:=pY) wO hbl).get hlt;obtain ⟨hck,su,hsz⟩:=hr;subst hck su;have q0:wr.cell? ⟨b,o+k,none⟩ = some (.string x.values[k]):=(by have:=hc 0 _ rfl;rwa [show o+(k * Dat.size ByteArray+0) = o+k from by show o+(k * 1+0) = _;omega] at this);clear hc;obtain ⟨b2,o2,ck2,Fk2,rfl,hbF2,uO,hr2,hsub2,hc2⟩:=(Sl.ext (w':=wr) (A:=qO) (c:=qP) zS hbl).get hly;obtain ⟨hck,su,hsz2⟩:=hr2;subst hck su;have p0:wr.cell? ⟨b2,o2+k,none⟩ = some (.string y.values[k]):=(by have:=hc2 0 _ rfl;rwa [show o2+(k * Dat.size ByteArray+0) = o2+k from by show o2+(k * 1+0) = _;omega] at this);clear hc2;have hd:=ab5 hlt hly;cases he:(x.values[k].toList == y.values[k].toList) with
       | true =>
         have h0:Lib.compareBytes x.values[k].data.toList y.values[k].data.toList = 0:=(by rw [J5,← ByteArray.toList_eq,← ByteArray.toList_eq];simpa using he);rw [if_pos h0] at hd;have HN:=I' (HO.out.trans hd);clear hd h0;go_wp2_with fail
         refine aF _ U' U' (aj _) ?_
         repeat (first
          | (apply aG
             case hw=>rfl
             simp only [Act.put,pz])
          | (apply aH
             case hw=>rfl
             case h =>exact Zaak
             simp only [Act.put,pz]))
         refine aN ?_;intro wn hn;replace hn:=hn.out;replace hx1:=((ay hn).1 _ _ hz1).trans hx1;replace hx2:=((ay hn).1 _ _ hz2).trans hx2;replace q0:=((ay hn).1 _ _ hbs).trans q0;replace p0:=((ay hn).1 _ _ uO).trans p0;replace hz1:=Nat.lt_of_lt_of_le hz1 hn.size;replace hz2:=Nat.lt_of_lt_of_le hz2 hn.size;replace hbs:=Nat.lt_of_lt_of_le hbs hn.size;replace uO:=Nat.lt_of_lt_of_le uO hn.size;replace hbl:=ah hbl hn;go_wp2;exact ⟨⟨k+1,O',N',by show k+1≤y.values.length;omega,HN.out,hx1,hx2,hbl⟩,by simp [intOf];omega⟩
       | false =>
         have h0:Lib.compareBytes x.values[k].data.toList y.values[k].data.toList≠0:=fun e=>by
          rw [J5,← ByteArray.toList_eq,← ByteArray.toList_eq] at e;simp [e] at he
         rw [if_neg h0] at hd;have hg:nD x y = Op.bytesLess x.values[k].toList y.values[k].toList:=by rw [HF.out,HO.out,hd,Bool.eq_iff_iff,decide_eq_true_eq,Wx,ByteArray.toList_eq,ByteArray.toList_eq]
         have HG:=I' hg;clear hd h0 hg;go_wp2_with fail
         refine aF _ U' U' (aj _) ?_
         repeat (first
          | (apply aG
             case hw=>rfl
             simp only [Act.put,pz])
          | (apply aH
             case hw=>rfl
             case h =>exact Zaak
             simp only [Act.put,pz]))
         refine aN ?_;intro wn hn;replace hn:=hn.out;replace hx1:=((ay hn).1 _ _ hz1).trans hx1;replace hx2:=((ay hn).1 _ _ hz2).trans hx2;replace q0:=((ay hn).1 _ _ hbs).trans q0;replace p0:=((ay hn).1 _ _ uO).trans p0;replace hz1:=Nat.lt_of_lt_of_le hz1 hn.size;replace hz2:=Nat.lt_of_lt_of_le hz2 hn.size;replace hbs:=Nat.lt_of_lt_of_le hbs hn.size;replace uO:=Nat.lt_of_lt_of_le uO hn.size;replace hbl:=ah hbl hn;clear hn;go_wp2_with fail
         first
          | (go_ret;exact ⟨by rw [HG.out];first | rfl | simp_all,hbl⟩)
          | (refine aF _ U' U' (aj _) ?_
             repeat (first
              | (apply aG
                 case hw=>rfl
                 simp only [Act.put,pz])
              | (apply aH
                 case hw=>rfl
                 case h =>exact Zaak
                 simp only [Act.put,pz]))
             refine aN ?_;intro wn2 hn2;replace hn2:=hn2.out;go_wp2;go_ret
             exact ⟨by rw [HG.out];first | rfl | simp_all,ah hbl hn2⟩)
      ·have hg:nD x y = false:=(by rw [HF.out,HO.out,ab6 hlt O'];rfl);have HG:=I' hg;have hli:¬(x.values.length:Int) < y.values.length:=O';clear hg;exact Zadv
     ·have hkl:k = x.values.length:=O';subst hkl;have he:=HO.out.trans (adS (Nat.le_refl _));by_cases hly:x.values.length < y.values.length
      ·rw [if_pos hly] at he;have hg:nD x y = true:=(by rw [HF.out,he];rfl);have HG:=I' hg;have hli:(x.values.length:Int) < y.values.length:=O';clear hg he;exact Zadv
      ·rw [if_neg hly] at he;have hg:nD x y = false:=(by rw [HF.out,he];rfl);have HG:=I' hg;have hli:¬(x.values.length:Int) < y.values.length:=O';clear hg he;exact Zadv
   ·rw [amw h1 h3];have h4:(x.op == y.op) = false:=(by simp [h3]);go_enter Tryz.func125,Tryz.ntmps125;exact Zacc
end Go.Proofs.YtkjeocdobidadaaGreat
