/- LabelsOk, of the program and of the reference. No condition. -/
import Derived.Test.YthjdahommnnliaaGreatAt
namespace Go.Proofs.YthjdahommnnliaaGreat
open Go.ChangeShapes Go.WideShapes Go.ChangeAt Go.RowKit
set_option linter.unusedVariables false
set_option linter.unusedSimpArgs false
def zX (l:Label):Bool:=Cm l.key&&AQ l.value
def zi (a b:Label):Bool:=Op.bytesLess a.key.toList b.key.toList
def sD (xs:List Label):Bool:=adb zX zi 6 xs
set_option maxRecDepth 100000 in
set_option maxHeartbeats 2000000 in
theorem Jv (xs:List Label) (A:Option Addr) (n c:Nat) (F:List Nat) (w:World) (h:Sl w xs A c F) (hn:n = xs.length) (hl:(xs.length:Int)≤1048576) (hsm:∀l∈xs,(l.key.size:Int)≤1048576∧(l.value.size:Int)≤1048576) :
 Calls Tryz.prog 155 #[.slice A n c] w fun e w'=>e = .returned (.bool (sD xs))∧Below w.heap.size w w':=by
 subst hn
 have Eo:=Lib.hid hsm
 clear hsm
 go_enter Tryz.func155,Tryz.ntmps155
 go_wp2_with fail
 go_loopw [7] (fun i wr=>∃k:Nat,k≤xs.length∧i = .int .i64 k∧Hid (∀j,j < k→rowAt zX zi xs j = true)∧Below w.heap.size w wr) (fun i _=>xs.length - (intOf i).toNat)
 case atStart=>exact ⟨0,Nat.zero_le _,rfl,(fun j hj=>by omega),atS⟩
 case round =>
  obtain ⟨k,hk,rfl,hall,hbl⟩:=hrel
  by_cases hlt:k < xs.length
  ·obtain rfl | ⟨j,rfl⟩:k = 0∨∃j,k = j+1:=by cases k with | zero=>exact .inl rfl | succ j=>exact .inr ⟨j,rfl⟩
   ·obtain ⟨b,o,ck,Fk,rfl,o9,hbs,hr,hsub,hc⟩:=(Sl.ext (w':=wr) (A:=A) (c:=c) h hbl).get hlt
    obtain ⟨hck,su,hkey,kP⟩:=vO hr
    subst hck
    have q0:wr.cell? ⟨b,o+0 * 2,none⟩ = some (.string xs[0].key):=by exact hc 0 _ rfl
    have q1:wr.cell? ⟨b,o+0 * 2+1,none⟩ = some (.string xs[0].value):=by rw [Nat.add_assoc];exact hc 1 _ rfl
    clear hc
    simp only [Nat.zero_mul,Nat.add_zero] at q0 q1
    have hs1:=(Eo.out xs[0] (List.getElem_mem ..)).1
    have hs2:=(Eo.out xs[0] (List.getElem_mem ..)).2
    cases h1:Cm xs[0].key <;> cases h2:AQ xs[0].value
    all_goals
     have hp:=rowAt_zero (ok:=zX) (less:=zi) hlt
     unfold zX at hp
     rw [h1,h2] at hp
     simp only [Bool.false_and,Bool.and_false,Bool.and_true,Bool.and_self] at hp
     change rowAt zX zi xs _ = _ at hp
     have H1:=Lib.hid h1
     have H2:=Lib.hid h2
     first
      | have HN:=Lib.hid (gq hall.out hp)
      | have HF:=Lib.hid (wU (most:=6) hlt hp)
     clear h1 h2 hp
     go_wp2_with fail
     refine aF _ (by kernel_rfl) (by kernel_rfl) (aj _) ?_
     repeat (first
      | (apply aG
         case hw=>rfl
         simp only [Act.put,pz])
      | (apply aH
         case hw=>rfl
         case h =>
          intro wq hq
          have hcq:=(aB hq).1
          have lJ:=(aB hq).2
          go_simp
          first
           | exact ⟨hq,rfl⟩
           | exact ⟨aQ hq _,rfl⟩
           | (first | (refine (rX xs[0].key _ hs1).mono ?_;rw [H1.out];rintro e w2 ⟨rfl,hb2⟩;exact ⟨rfl,aI hq hb2⟩) | (refine (xQ xs[0].value _ hs2).mono ?_;rw [H2.out];rintro e w2 ⟨rfl,hb2⟩;exact ⟨rfl,aI hq hb2⟩))
           | (simp only [↓IntWalk.iteOmega];exact ⟨hq,rfl⟩)
         simp only [Act.put,pz]))
     refine aN ?_
     intro wn hn
     replace hn:=hn.out
     go_wp2
     first
      | exact ⟨⟨0+1,by omega,by go_num,HN.out,ah (ak hbl _) hn⟩,by simp [intOf];omega⟩
      | (go_ret;exact ⟨by unfold sD;rw [HF.out];rfl,ah (ak hbl _) hn⟩)
   ·obtain ⟨b,o,ck,Fk,rfl,o9,hbs,hr,hsub,hc⟩:=(Sl.ext (w':=wr) (A:=A) (c:=c) h hbl).get hlt
    obtain ⟨hck,su,hkey,kP⟩:=vO hr
    subst hck
    have q0:wr.cell? ⟨b,o+(j+1) * 2,none⟩ = some (.string xs[j+1].key):=by exact hc 0 _ rfl
    have q1:wr.cell? ⟨b,o+(j+1) * 2+1,none⟩ = some (.string xs[j+1].value):=by rw [Nat.add_assoc];exact hc 1 _ rfl
    clear hc
    obtain ⟨b',o',TY,Xw,e,Ht,hbs',hr',zQ,hc'⟩:=Sl.get (Sl.ext (w':=wr) (c:=c) h hbl) (show j < xs.length by omega)
    obtain ⟨jU,abT,vC,rP⟩:=vO hr'
    subst jU
    obtain ⟨rfl,rfl⟩:b' = b∧o' = o:=by simpa using e.symm
    clear e
    have p0:wr.cell? ⟨b',o'+j * 2,none⟩ = some (.string xs[j].key):=by exact hc' 0 _ rfl
    have p1:wr.cell? ⟨b',o'+j * 2+1,none⟩ = some (.string xs[j].value):=by rw [Nat.add_assoc];exact hc' 1 _ rfl
    clear hc'
    have hwj:IntKind.i64.wrap (j:Int) = j:=IntWalk.i64_in _ (by omega)
    have hjl:j < xs.length:=by omega
    have hs1:=(Eo.out xs[j+1] (List.getElem_mem ..)).1
    have hs2:=(Eo.out xs[j+1] (List.getElem_mem ..)).2
    cases h1:Cm xs[j+1].key <;> cases h2:AQ xs[j+1].value <;> cases h3:Op.bytesLess xs[j].key.toList xs[j+1].key.toList
    all_goals
     have hp:=yS (ok:=zX) (less:=zi) hlt
     unfold zX zi at hp
     rw [h1,h2,h3] at hp
     simp only [Bool.false_and,Bool.and_false,Bool.and_true,Bool.and_self] at hp
     change rowAt zX zi xs _ = _ at hp
     have H1:=Lib.hid h1
     have H2:=Lib.hid h2
     first
      | have HN:=Lib.hid (gq hall.out hp)
      | have HF:=Lib.hid (wU (most:=6) hlt hp)
     clear h1 h2 hp
     go_wp2_with fail
     refine aF _ (by kernel_rfl) (by kernel_rfl) (aj _) ?_
     repeat (first
      | (apply aG
         case hw=>rfl
         simp only [Act.put,pz])
      | (apply aH
         case hw=>rfl
         case h =>
          intro wq hq
          have hcq:=(aB hq).1
          have lJ:=(aB hq).2
          go_simp
          first
           | exact ⟨hq,rfl⟩
           | exact ⟨aQ hq _,rfl⟩
           | (first | (refine (rX xs[j+1].key _ hs1).mono ?_;rw [H1.out];rintro e w2 ⟨rfl,hb2⟩;exact ⟨rfl,aI hq hb2⟩) | (refine (xQ xs[j+1].value _ hs2).mono ?_;rw [H2.out];rintro e w2 ⟨rfl,hb2⟩;exact ⟨rfl,aI hq hb2⟩))
           | (simp only [↓IntWalk.iteOmega];exact ⟨hq,rfl⟩)
         simp only [Act.put,pz]))
     refine aN ?_
     intro wn hn
     replace hn:=hn.out
     go_wp2
     first
      | exact ⟨⟨j+1+1,by omega,by go_num,HN.out,ah (ak hbl _) hn⟩,by simp [intOf];omega⟩
      | (go_ret;exact ⟨by unfold sD;rw [HF.out];rfl,ah (ak hbl _) hn⟩)
  ·have hkl:k = xs.length:=by omega
   subst hkl
   by_cases hm:(xs.length:Int)≤6
   ·have HF:=Lib.hid (Jy hm hall.out)
    go_wp2
    go_ret
    exact ⟨by unfold sD;rw [HF.out];first | rfl | simp [hm],hbl⟩
   ·have HF:=Lib.hid (Jz (ok:=zX) (less:=zi) hm)
    go_wp2
    go_ret
    exact ⟨by unfold sD;rw [HF.out];first | rfl | simp [hm],hbl⟩
set_option maxRecDepth 100000 in
set_option maxHeartbeats 2000000 in
theorem Jw (xs:List Label) (A:Option Addr) (n c:Nat) (F:List Nat) (w:World) (h:Sl w xs A c F) (hn:n = xs.length) (hl:(xs.length:Int)≤1048576) (hsm:∀l∈xs,(l.key.size:Int)≤1048576∧(l.value.size:Int)≤1048576) :
 Calls Tryz.prog 142 #[.slice A n c] w fun e w'=>e = .returned (.bool (sD xs))∧Below w.heap.size w w':=by
 subst hn
 have Eo:=Lib.hid hsm
 clear hsm
 by_cases hm:(xs.length:Int)≤6
 ·go_enter Tryz.func142,Tryz.ntmps142
  go_wp2_with fail
  go_loopw [3] (fun i wr=>∃k:Nat,k≤xs.length∧i = .int .i64 k∧Hid (∀j,j < k→rowAt zX zi xs j = true)∧Below w.heap.size w wr) (fun i _=>xs.length - (intOf i).toNat)
  case atStart=>exact ⟨0,Nat.zero_le _,rfl,(fun j hj=>by omega),atS⟩
  case round =>
   obtain ⟨k,hk,rfl,hall,hbl⟩:=hrel
   by_cases hlt:k < xs.length
   ·obtain rfl | ⟨j,rfl⟩:k = 0∨∃j,k = j+1:=by cases k with | zero=>exact .inl rfl | succ j=>exact .inr ⟨j,rfl⟩
    ·obtain ⟨b,o,ck,Fk,rfl,o9,hbs,hr,hsub,hc⟩:=(Sl.ext (w':=wr) (A:=A) (c:=c) h hbl).get hlt
     obtain ⟨hck,su,hkey,kP⟩:=vO hr
     subst hck
     have q0:wr.cell? ⟨b,o+0 * 2,none⟩ = some (.string xs[0].key):=by exact hc 0 _ rfl
     have q1:wr.cell? ⟨b,o+0 * 2+1,none⟩ = some (.string xs[0].value):=by rw [Nat.add_assoc];exact hc 1 _ rfl
     clear hc
     simp only [Nat.zero_mul,Nat.add_zero] at q0 q1
     have hs1:=(Eo.out xs[0] (List.getElem_mem ..)).1
     have hs2:=(Eo.out xs[0] (List.getElem_mem ..)).2
     cases h1:Cm xs[0].key <;> cases h2:AQ xs[0].value
     all_goals
      have hp:=rowAt_zero (ok:=zX) (less:=zi) hlt
      unfold zX at hp
      rw [h1,h2] at hp
      simp only [Bool.false_and,Bool.and_false,Bool.and_true,Bool.and_self] at hp
      change rowAt zX zi xs _ = _ at hp
      have H1:=Lib.hid h1
      have H2:=Lib.hid h2
      first
       | have HN:=Lib.hid (gq hall.out hp)
       | have HF:=Lib.hid (wU (most:=6) hlt hp)
      clear h1 h2 hp
      go_wp2_with fail
      refine aF _ (by kernel_rfl) (by kernel_rfl) (aj _) ?_
      repeat (first
       | (apply aG
          case hw=>rfl
          simp only [Act.put,pz])
       | (apply aH
          case hw=>rfl
          case h =>
           intro wq hq
           have hcq:=(aB hq).1
           have lJ:=(aB hq).2
           go_simp
           first
            | exact ⟨hq,rfl⟩
            | exact ⟨aQ hq _,rfl⟩
            | (first | (refine (qK xs[0].key _ hs1).mono ?_;rw [H1.out];rintro e w2 ⟨rfl,hb2⟩;exact ⟨rfl,aI hq hb2⟩) | (refine (vH xs[0].value _ hs2).mono ?_;rw [H2.out];rintro e w2 ⟨rfl,hb2⟩;exact ⟨rfl,aI hq hb2⟩))
            | (simp only [↓IntWalk.iteOmega];exact ⟨hq,rfl⟩)
          simp only [Act.put,pz]))
      refine aN ?_
      intro wn hn
      replace hn:=hn.out
      go_wp2
      first
       | exact ⟨⟨0+1,by omega,by go_num,HN.out,ah hbl hn⟩,by simp [intOf];omega⟩
       | (go_ret;exact ⟨by unfold sD;rw [HF.out];rfl,ah hbl hn⟩)
    ·obtain ⟨b,o,ck,Fk,rfl,o9,hbs,hr,hsub,hc⟩:=(Sl.ext (w':=wr) (A:=A) (c:=c) h hbl).get hlt
     obtain ⟨hck,su,hkey,kP⟩:=vO hr
     subst hck
     have q0:wr.cell? ⟨b,o+(j+1) * 2,none⟩ = some (.string xs[j+1].key):=by exact hc 0 _ rfl
     have q1:wr.cell? ⟨b,o+(j+1) * 2+1,none⟩ = some (.string xs[j+1].value):=by rw [Nat.add_assoc];exact hc 1 _ rfl
     clear hc
     obtain ⟨b',o',TY,Xw,e,Ht,hbs',hr',zQ,hc'⟩:=Sl.get (Sl.ext (w':=wr) (c:=c) h hbl) (show j < xs.length by omega)
     obtain ⟨jU,abT,vC,rP⟩:=vO hr'
     subst jU
     obtain ⟨rfl,rfl⟩:b' = b∧o' = o:=by simpa using e.symm
     clear e
     have p0:wr.cell? ⟨b',o'+j * 2,none⟩ = some (.string xs[j].key):=by exact hc' 0 _ rfl
     have p1:wr.cell? ⟨b',o'+j * 2+1,none⟩ = some (.string xs[j].value):=by rw [Nat.add_assoc];exact hc' 1 _ rfl
     clear hc'
     have hwj:IntKind.i64.wrap (j:Int) = j:=IntWalk.i64_in _ (by omega)
     have hjl:j < xs.length:=by omega
     have hs1:=(Eo.out xs[j+1] (List.getElem_mem ..)).1
     have hs2:=(Eo.out xs[j+1] (List.getElem_mem ..)).2
     cases h1:Cm xs[j+1].key <;> cases h2:AQ xs[j+1].value <;> cases h3:Op.bytesLess xs[j].key.toList xs[j+1].key.toList
     all_goals
      have hp:=yS (ok:=zX) (less:=zi) hlt
      unfold zX zi at hp
      rw [h1,h2,h3] at hp
      simp only [Bool.false_and,Bool.and_false,Bool.and_true,Bool.and_self] at hp
      change rowAt zX zi xs _ = _ at hp
      have H1:=Lib.hid h1
      have H2:=Lib.hid h2
      first
       | have HN:=Lib.hid (gq hall.out hp)
       | have HF:=Lib.hid (wU (most:=6) hlt hp)
      clear h1 h2 hp
      go_wp2_with fail
      refine aF _ (by kernel_rfl) (by kernel_rfl) (aj _) ?_
      repeat (first
       | (apply aG
          case hw=>rfl
          simp only [Act.put,pz])
       | (apply aH
          case hw=>rfl
          case h =>
           intro wq hq
           have hcq:=(aB hq).1
           have lJ:=(aB hq).2
           go_simp
           first
            | exact ⟨hq,rfl⟩
            | exact ⟨aQ hq _,rfl⟩
            | (first | (refine (qK xs[j+1].key _ hs1).mono ?_;rw [H1.out];rintro e w2 ⟨rfl,hb2⟩;exact ⟨rfl,aI hq hb2⟩) | (refine (vH xs[j+1].value _ hs2).mono ?_;rw [H2.out];rintro e w2 ⟨rfl,hb2⟩;exact ⟨rfl,aI hq hb2⟩))
            | (simp only [↓IntWalk.iteOmega];exact ⟨hq,rfl⟩)
          simp only [Act.put,pz]))
      refine aN ?_
      intro wn hn
      replace hn:=hn.out
      go_wp2
      first
       | exact ⟨⟨j+1+1,by omega,by go_num,HN.out,ah hbl hn⟩,by simp [intOf];omega⟩
       | (go_ret;exact ⟨by unfold sD;rw [HF.out];rfl,ah hbl hn⟩)
   ·have hkl:k = xs.length:=by omega
    subst hkl
    have HF:=Lib.hid (Jy hm hall.out)
    go_wp2
    go_ret
    exact ⟨by unfold sD;rw [HF.out];rfl,hbl⟩
 ·have HF:=Lib.hid (Jz (ok:=zX) (less:=zi) hm)
  go_enter Tryz.func142,Tryz.ntmps142
  go_wp2
  go_ret
  exact ⟨by unfold sD;rw [HF.out];rfl,atS⟩
end Go.Proofs.YthjdahommnnliaaGreat
