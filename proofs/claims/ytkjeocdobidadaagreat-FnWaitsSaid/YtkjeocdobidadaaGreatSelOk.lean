/- SelectorOk, of the program and of the reference. No condition. -/
import Derived.Test.YtkjeocdobidadaaGreatNeedOk
import Derived.Test.YtkjeocdobidadaaGreatTaintsOk
import Derived.Test.YtkjeocdobidadaaGreatBoundU
namespace Go.Proofs.YtkjeocdobidadaaGreat
open Go.ChangeShapes Go.WideShapes Go.ChangeAt Go.RowKit
set_option linter.unusedVariables false
set_option linter.unusedSimpArgs false
set_option maxHeartbeats 2000000
set_option maxRecDepth 100000
def aeH (xs:List Need):Bool:=adb uh nD 4 xs
theorem WI (xs:List Need) (A:Option Addr) (n c:Nat) (F:List Nat) (w:World) (h:Sl w xs A c F) (hn:n = xs.length) (hl:(xs.length:Int)≤1048576) (hsm:(∀l∈xs,(l.key.size:Int)≤1048576∧(l.values.length:Int)≤1048576∧∀v∈l.values,(v.size:Int)≤1048576)) :
 Calls Tryz.prog 111 #[.slice A n c] w fun e w'=>e = .returned (.bool (aeH xs))∧Below w.heap.size w w':=by
 subst hn;have Eo:=I' hsm;clear hsm;go_enter Tryz.func111,Tryz.ntmps111;go_wp2_with fail
 go_loopw [7] (fun i wr=>∃k:Nat,k≤xs.length∧i = .int .i64 k∧Hid (∀j,j < k→rowAt uh nD xs j = true)∧Below w.heap.size w wr) (fun i _=>xs.length - (intOf i).toNat)
 case atStart=>exact ⟨0,Nat.zero_le _,rfl,(fun j hj=>by omega),atS⟩
 case round =>
  obtain ⟨k,hk,rfl,hall,hbl⟩:=hrel;by_cases hlt:k < xs.length
  ·obtain rfl | ⟨j,rfl⟩:k = 0∨∃j,k = j+1:=by cases k with | zero=>exact .inl rfl | succ j=>exact .inr ⟨j,rfl⟩
   ·obtain ⟨b,o,ck,Fk,rfl,o9,hbs,hr,hsub,hc⟩:=(Sl.ext (w':=wr) (A:=A) (c:=c) h hbl).get hlt;have hr0:=hr;obtain ⟨jy,ji,Bo,hck,su,hkey,hop,kV⟩:=og hr;subst hck;have q0:wr.cell? ⟨b,o+0 * 3,none⟩ = some (.string xs[0].key):=(by exact hc 0 _ rfl);have q1:wr.cell? ⟨b,o+0 * 3+1,none⟩ = some (.int .i64 xs[0].op):=(by rw [Nat.add_assoc];exact hc 1 _ rfl);have q2:wr.cell? ⟨b,o+0 * 3+2,none⟩ = some (.slice jy xs[0].values.length ji):=(by rw [Nat.add_assoc];exact hc 2 _ rfl);clear hc;simp only [Nat.zero_mul,Nat.add_zero] at q0 q1 q2;obtain ⟨hs1,hs2,hs3⟩:=Eo.out xs[0] (List.getElem_mem ..);cases h1:uh xs[0]
    all_goals
     have hp:=rowAt_zero (ok:=uh) (less:=nD) hlt;rw [h1] at hp;try simp only [Bool.false_and,Bool.and_false,Bool.and_true,Bool.and_self] at hp
     change rowAt uh nD xs _ = _ at hp
     have hK:∀wq,Below wr.heap.size wr wq→Calls Tryz.prog 156 #[.agg #[.string xs[0].key,.int .i64 xs[0].op,.slice jy xs[0].values.length ji]] wq fun e w'=>e = .returned (.bool (uh xs[0]))∧Below wq.heap.size wq w' :=
      fun wq hq=>Rw xs[0] _ _ _ (aJ hr0 hq) hs1 hs2 hs3
     rw [h1] at hK;have NOK:=I' hK;clear hK
     first
      | have HN:=I' (gq hall.out hp)
      | have HF:=I' (wU (most:=4) hlt hp)
     clear h1 hp;go_wp2_with fail
     refine aF _ U' U' (aj _) ?_
     repeat (first
      | (apply aG
         case hw=>rfl
         simp only [Act.put,pz])
      | (apply aH
         case hw=>rfl
         case h =>exact Zabp
         simp only [Act.put,pz]))
     refine aN ?_;intro wn hn;replace hn:=hn.out;go_wp2
     first
      | exact ⟨⟨0+1,O',N',HN.out,ah (ak hbl _) hn⟩,by simp [intOf];omega⟩
      | (go_ret;exact ⟨by unfold aeH;rw [HF.out];rfl,ah (ak hbl _) hn⟩)
   ·obtain ⟨b,o,ck,Fk,rfl,o9,hbs,hr,hsub,hc⟩:=(Sl.ext (w':=wr) (A:=A) (c:=c) h hbl).get hlt;have hr0:=hr;obtain ⟨jy,ji,Bo,hck,su,hkey,hop,kV⟩:=og hr;subst hck;have q0:wr.cell? ⟨b,o+(j+1) * 3,none⟩ = some (.string xs[j+1].key):=(by exact hc 0 _ rfl);have q1:wr.cell? ⟨b,o+(j+1) * 3+1,none⟩ = some (.int .i64 xs[j+1].op):=(by rw [Nat.add_assoc];exact hc 1 _ rfl);have q2:wr.cell? ⟨b,o+(j+1) * 3+2,none⟩ = some (.slice jy xs[j+1].values.length ji):=(by rw [Nat.add_assoc];exact hc 2 _ rfl);clear hc;obtain ⟨b',o',TY,Xw,e,Ht,hbs',hr',zQ,hc'⟩:=Sl.get (Sl.ext (w':=wr) (c:=c) h hbl) (show j < xs.length by omega);have QS:=hr';obtain ⟨qO,qP,KL,jU,abT,vC,hop2,zS⟩:=og hr';subst jU;obtain ⟨rfl,rfl⟩:b' = b∧o' = o:=by simpa using e.symm
    clear e;have p0:wr.cell? ⟨b',o'+j * 3,none⟩ = some (.string xs[j].key):=(by exact hc' 0 _ rfl);have p1:wr.cell? ⟨b',o'+j * 3+1,none⟩ = some (.int .i64 xs[j].op):=(by rw [Nat.add_assoc];exact hc' 1 _ rfl);have p2:wr.cell? ⟨b',o'+j * 3+2,none⟩ = some (.slice qO xs[j].values.length qP):=(by rw [Nat.add_assoc];exact hc' 2 _ rfl);clear hc';have hwj:IntKind.i64.wrap (j:Int) = j:=IntWalk.i64_in _ O';have hjl:j < xs.length:=O';obtain ⟨hp1,hp2,hp3⟩:=Eo.out xs[j] (List.getElem_mem ..);obtain ⟨hs1,hs2,hs3⟩:=Eo.out xs[j+1] (List.getElem_mem ..);cases h1:uh xs[j+1] <;> cases h3:nD xs[j] xs[j+1]
    all_goals
     have hp:=yS (ok:=uh) (less:=nD) hlt;rw [h1,h3] at hp;try simp only [Bool.false_and,Bool.and_false,Bool.and_true,Bool.and_self] at hp
     change rowAt uh nD xs _ = _ at hp
     have hK:∀wq,Below wr.heap.size wr wq→Calls Tryz.prog 156 #[.agg #[.string xs[j+1].key,.int .i64 xs[j+1].op,.slice jy xs[j+1].values.length ji]] wq fun e w'=>e = .returned (.bool (uh xs[j+1]))∧Below wq.heap.size wq w' :=
      fun wq hq=>Rw xs[j+1] _ _ _ (aJ hr0 hq) hs1 hs2 hs3
     rw [h1] at hK;have NOK:=I' hK;clear hK
     first
      | have HN:=I' (gq hall.out hp)
      | have HF:=I' (wU (most:=4) hlt hp)
     have hC:∀wq,Below wr.heap.size wr wq→Calls Tryz.prog 157 #[.agg #[.string xs[j].key,.int .i64 xs[j].op,.slice qO xs[j].values.length qP],.agg #[.string xs[j+1].key,.int .i64 xs[j+1].op,.slice jy xs[j+1].values.length ji]] wq fun e w'=>e = .returned (.bool (nD xs[j] xs[j+1]))∧Below wq.heap.size wq w' :=
      fun wq hq=>ail xs[j] xs[j+1] _ _ _ _ _ (aJ QS hq) (aJ hr0 hq) hp2 hs2
     rw [h3] at hC;have CMP:=I' hC;clear hC;clear h1 hp;go_wp2_with fail
     refine aF _ U' U' (aj _) ?_
     repeat (first
      | (apply aG
         case hw=>rfl
         simp only [Act.put,pz])
      | (apply aH
         case hw=>rfl
         case h =>exact Zabp
         simp only [Act.put,pz]))
     refine aN ?_;intro wn hn;replace hn:=hn.out;go_wp2
     first
      | exact ⟨⟨j+1+1,O',N',HN.out,ah (ak hbl _) hn⟩,by simp [intOf];omega⟩
      | (go_ret;exact ⟨by unfold aeH;rw [HF.out];rfl,ah (ak hbl _) hn⟩)
  ·have hkl:k = xs.length:=O';subst hkl;by_cases hm:(xs.length:Int)≤4
   ·have HF:=I' (Jy hm hall.out);go_wp2;go_ret
    exact ⟨by unfold aeH;rw [HF.out];first | rfl | simp [hm],hbl⟩
   ·have HF:=I' (Jz (ok:=uh) (less:=nD) hm);go_wp2;go_ret
    exact ⟨by unfold aeH;rw [HF.out];first | rfl | simp [hm],hbl⟩
theorem WJ (xs:List Need) (A:Option Addr) (n c:Nat) (F:List Nat) (w:World) (h:Sl w xs A c F) (hn:n = xs.length) (hl:(xs.length:Int)≤1048576) (hsm:(∀l∈xs,(l.key.size:Int)≤1048576∧(l.values.length:Int)≤1048576∧∀v∈l.values,(v.size:Int)≤1048576)) :
 Calls Tryz.prog 126 #[.slice A n c] w fun e w'=>e = .returned (.bool (aeH xs))∧Below w.heap.size w w':=by
 subst hn;have Eo:=I' hsm;clear hsm;by_cases hm:(xs.length:Int)≤4
 ·go_enter Tryz.func126,Tryz.ntmps126;go_wp2_with fail
  go_loopw [3] (fun i wr=>∃k:Nat,k≤xs.length∧i = .int .i64 k∧Hid (∀j,j < k→rowAt uh nD xs j = true)∧Below w.heap.size w wr) (fun i _=>xs.length - (intOf i).toNat)
  case atStart=>exact ⟨0,Nat.zero_le _,rfl,(fun j hj=>by omega),atS⟩
  case round =>
   obtain ⟨k,hk,rfl,hall,hbl⟩:=hrel;by_cases hlt:k < xs.length
   ·obtain rfl | ⟨j,rfl⟩:k = 0∨∃j,k = j+1:=by cases k with | zero=>exact .inl rfl | succ j=>exact .inr ⟨j,rfl⟩
    ·obtain ⟨b,o,ck,Fk,rfl,o9,hbs,hr,hsub,hc⟩:=(Sl.ext (w':=wr) (A:=A) (c:=c) h hbl).get hlt;have hr0:=hr;obtain ⟨jy,ji,Bo,hck,su,hkey,hop,kV⟩:=og hr;subst hck;have q0:wr.cell? ⟨b,o+0 * 3,none⟩ = some (.string xs[0].key):=(by exact hc 0 _ rfl);have q1:wr.cell? ⟨b,o+0 * 3+1,none⟩ = some (.int .i64 xs[0].op):=(by rw [Nat.add_assoc];exact hc 1 _ rfl);have q2:wr.cell? ⟨b,o+0 * 3+2,none⟩ = some (.slice jy xs[0].values.length ji):=(by rw [Nat.add_assoc];exact hc 2 _ rfl);clear hc;simp only [Nat.zero_mul,Nat.add_zero] at q0 q1 q2;obtain ⟨hs1,hs2,hs3⟩:=Eo.out xs[0] (List.getElem_mem ..);cases h1:uh xs[0]
     all_goals
      have hp:=rowAt_zero (ok:=uh) (less:=nD) hlt;rw [h1] at hp;try simp only [Bool.false_and,Bool.and_false,Bool.and_true,Bool.and_self] at hp
      change rowAt uh nD xs _ = _ at hp
      have hK:∀wq,Below wr.heap.size wr wq→Calls Tryz.prog 177 #[.agg #[.string xs[0].key,.int .i64 xs[0].op,.slice jy xs[0].values.length ji]] wq fun e w'=>e = .returned (.bool (uh xs[0]))∧Below wq.heap.size wq w' :=
       fun wq hq=>Rx xs[0] _ _ _ (aJ hr0 hq) hs1 hs2 hs3
      rw [h1] at hK;have NOK:=I' hK;clear hK
      first
       | have HN:=I' (gq hall.out hp)
       | have HF:=I' (wU (most:=4) hlt hp)
      clear h1 hp;go_wp2_with fail
      refine aF _ U' U' (aj _) ?_
      repeat (first
       | (apply aG
          case hw=>rfl
          simp only [Act.put,pz])
       | (apply aH
          case hw=>rfl
          case h =>exact Zabp
          simp only [Act.put,pz]))
      refine aN ?_;intro wn hn;replace hn:=hn.out;go_wp2
      first
       | exact ⟨⟨0+1,O',N',HN.out,ah hbl hn⟩,by simp [intOf];omega⟩
       | (go_ret;exact ⟨by unfold aeH;rw [HF.out];rfl,ah hbl hn⟩)
    ·obtain ⟨b,o,ck,Fk,rfl,o9,hbs,hr,hsub,hc⟩:=(Sl.ext (w':=wr) (A:=A) (c:=c) h hbl).get hlt;have hr0:=hr;obtain ⟨jy,ji,Bo,hck,su,hkey,hop,kV⟩:=og hr;subst hck;have q0:wr.cell? ⟨b,o+(j+1) * 3,none⟩ = some (.string xs[j+1].key):=(by exact hc 0 _ rfl);have q1:wr.cell? ⟨b,o+(j+1) * 3+1,none⟩ = some (.int .i64 xs[j+1].op):=(by rw [Nat.add_assoc];exact hc 1 _ rfl);have q2:wr.cell? ⟨b,o+(j+1) * 3+2,none⟩ = some (.slice jy xs[j+1].values.length ji):=(by rw [Nat.add_assoc];exact hc 2 _ rfl);clear hc;obtain ⟨b',o',TY,Xw,e,Ht,hbs',hr',zQ,hc'⟩:=Sl.get (Sl.ext (w':=wr) (c:=c) h hbl) (show j < xs.length by omega);have QS:=hr';obtain ⟨qO,qP,KL,jU,abT,vC,hop2,zS⟩:=og hr';subst jU;obtain ⟨rfl,rfl⟩:b' = b∧o' = o:=by simpa using e.symm
     clear e;have p0:wr.cell? ⟨b',o'+j * 3,none⟩ = some (.string xs[j].key):=(by exact hc' 0 _ rfl);have p1:wr.cell? ⟨b',o'+j * 3+1,none⟩ = some (.int .i64 xs[j].op):=(by rw [Nat.add_assoc];exact hc' 1 _ rfl);have p2:wr.cell? ⟨b',o'+j * 3+2,none⟩ = some (.slice qO xs[j].values.length qP):=(by rw [Nat.add_assoc];exact hc' 2 _ rfl);clear hc';have hwj:IntKind.i64.wrap (j:Int) = j:=IntWalk.i64_in _ O';have hjl:j < xs.length:=O';obtain ⟨hp1,hp2,hp3⟩:=Eo.out xs[j] (List.getElem_mem ..);obtain ⟨hs1,hs2,hs3⟩:=Eo.out xs[j+1] (List.getElem_mem ..);cases h1:uh xs[j+1] <;> cases h3:nD xs[j] xs[j+1]
     all_goals
      have hp:=yS (ok:=uh) (less:=nD) hlt;rw [h1,h3] at hp;try simp only [Bool.false_and,Bool.and_false,Bool.and_true,Bool.and_self] at hp
      change rowAt uh nD xs _ = _ at hp
      have hK:∀wq,Below wr.heap.size wr wq→Calls Tryz.prog 177 #[.agg #[.string xs[j+1].key,.int .i64 xs[j+1].op,.slice jy xs[j+1].values.length ji]] wq fun e w'=>e = .returned (.bool (uh xs[j+1]))∧Below wq.heap.size wq w' :=
       fun wq hq=>Rx xs[j+1] _ _ _ (aJ hr0 hq) hs1 hs2 hs3
      rw [h1] at hK;have NOK:=I' hK;clear hK
      first
       | have HN:=I' (gq hall.out hp)
       | have HF:=I' (wU (most:=4) hlt hp)
      have hC:∀wq,Below wr.heap.size wr wq→Calls Tryz.prog 125 #[.agg #[.string xs[j].key,.int .i64 xs[j].op,.slice qO xs[j].values.length qP],.agg #[.string xs[j+1].key,.int .i64 xs[j+1].op,.slice jy xs[j+1].values.length ji]] wq fun e w'=>e = .returned (.bool (nD xs[j] xs[j+1]))∧Below wq.heap.size wq w' :=
       fun wq hq=>TN xs[j] xs[j+1] _ _ _ _ _ (aJ QS hq) (aJ hr0 hq) hp2 hs2
      rw [h3] at hC;have CMP:=I' hC;clear hC;clear h1 hp;go_wp2_with fail
      refine aF _ U' U' (aj _) ?_
      repeat (first
       | (apply aG
          case hw=>rfl
          simp only [Act.put,pz])
       | (apply aH
          case hw=>rfl
          case h =>exact Zabp
          simp only [Act.put,pz]))
      refine aN ?_;intro wn hn;replace hn:=hn.out;go_wp2
      first
       | exact ⟨⟨j+1+1,O',N',HN.out,ah hbl hn⟩,by simp [intOf];omega⟩
       | (go_ret;exact ⟨by unfold aeH;rw [HF.out];rfl,ah hbl hn⟩)
   ·have hkl:k = xs.length:=O';subst hkl;have HF:=I' (Jy hm hall.out);go_wp2;go_ret
    exact ⟨by unfold aeH;rw [HF.out];rfl,hbl⟩
 ·have HF:=I' (Jz (ok:=uh) (less:=nD) hm);go_enter Tryz.func126,Tryz.ntmps126;go_wp2;go_ret
  exact ⟨by unfold aeH;rw [HF.out];rfl,atS⟩
end Go.Proofs.YtkjeocdobidadaaGreat
