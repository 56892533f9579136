/- SelectorOk, of the program and of the reference. No condition. -/
import Derived.Test.YtkjeocdobidadaaGreatLabelsOk
import Derived.Test.YtkjeocdobidadaaGreatUsed
import Derived.Test.YtkjeocdobidadaaGreatLabAt
import Derived.Test.YtkjeocdobidadaaGreatRegionCut
import Derived.Test.YtkjeocdobidadaaGreatTaintsOk
import Derived.Test.YtkjeocdobidadaaGreatUsedP
import Derived.Test.YtkjeocdobidadaaGreatData
namespace Go.Proofs.YtkjeocdobidadaaGreat
open Go.ChangeShapes Go.WideShapes Go.ChangeAt Go.RowKit
set_option linter.unusedVariables false
set_option linter.unusedSimpArgs false
set_option maxHeartbeats 4000000
set_option maxRecDepth 100000
def aeH (xs:List Need):Bool:=adb uh nD 4 xs
theorem WI (xs:List Need) (A:Option Addr) (n c:Nat) (F:List Nat) (w:World) (h:Sl w xs A c F) (hn:n = xs.length) (hl:(xs.length:Int)≤1048576) (hsm:(∀l∈xs,(l.key.size:Int)≤1048576∧(l.values.length:Int)≤1048576∧∀v∈l.values,(v.size:Int)≤1048576)) :
 Calls Tryz.prog 111 #[.slice A n c] w fun e w'=>e = .returned (.bool (aeH xs))∧Below w.heap.size w w':=by
 subst hn;have Eo:=I' hsm;clear hsm;go_enter Tryz.func111,Tryz.ntmps111;go_wp2_with fail
 go_loopw [7] (fun i wr=>∃k:Nat,k≤xs.length∧i = .int .i64 k∧Hid (∀j,j < k→rowAt uh nD xs j = true)∧Below w.heap.size w wr) (fun i _=>xs.length - (intOf i).toNat)
 case atStart=>exact ⟨0,Nat.zero_le _,rfl,(fun j hj=>by omega),atS⟩
 case round =>
  obtain ⟨k,hk,rfl,hall,hbl⟩:=hrel;by_cases hlt:k < xs.length
  ·obtain rfl | ⟨j,rfl⟩:k = 0∨∃j,k = j+1:=by cases k with | zero=>exact .inl rfl | succ j=>exact .inr ⟨j,rfl⟩
   ·obtain ⟨b,o,ck,Fk,rfl,o9,hbs,hr,hsub,hc⟩:=(Sl.ext (w':=wr) (A:=A) (c:=c) h hbl).get hlt;have hr0:=hr;obtain ⟨jy,ji,Bo,hck,su,hkey,hop,kV⟩:=og hr;subst hck;have q0:wr.cell? ⟨b,o+0 * 3,none⟩ = some (.string xs[0].key):=(by exact hc 0 _ rfl);have q1:wr.cell? ⟨b,o+0 * 3+1,none⟩ = some (.int .i64 xs[0].op):=(by rw [Nat.add_assoc];exact hc 1 _ rfl);have q2:wr.cell? ⟨b,o+0 * 3+2,none⟩ = some (.slice jy xs[0].values.length ji):=(by rw [Nat.add_assoc];exact hc 2 _ rfl);clear hc;simp only [Nat.zero_mul,Nat.add_zero] at q0 q1 q2;obtain ⟨hs1,hs2,hs3⟩:=Eo.out xs[0] (List.getElem_mem ..);cases h1:uh xs[0]
    all_goals
     have hp:=rowAt_zero (ok:=uh) (less:=nD) hlt;rw [h1] at hp;try simp only [Bool.false_and,Bool.and_false,Bool.and_true,Bool.and_self] at hp
     change rowAt uh nD xs _ = _ at hp
     have hK:∀wq,Below wr.heap.size wr wq→Calls Tryz.prog 156 #[.agg #[.string xs[0].key,.int .i64 xs[0].op,.slice jy xs[0].values.length ji]] wq fun e w'=>e = .returned (.bool (uh xs[0]))∧Below wq.heap.size wq w' :=
      fun wq hq=>Rw xs[0] _ _ _ (aJ hr0 hq) hs1 hs2 hs3
     rw [h1] at hK;have NOK:=I' hK;clear hK
     first
      | have HN:=I' (gq hall.out hp)
      | have HF:=I' (wU (most:=4) hlt hp)
     clear h1 hp;go_wp2_with fail
     refine aF _ U' U' (aj _) ?_
     repeat (first
      | (apply aG
         case hw=>rfl
         simp only [Act.put,pz])
      | (apply aH
         case hw=>rfl
         case h =>exact Zabp
         simp only [Act.put,pz]))
     refine aN ?_;intro wn hn;replace hn:=hn.out;go_wp2
     first
      | exact ⟨⟨0+1,O',N',HN.out,ah (ak hbl _) hn⟩,by simp [intOf];omega⟩
      | (go_ret;exact ⟨by unfold aeH;rw [HF.out];rfl,ah (ak hbl _) hn⟩)
   ·obtain ⟨b,o,ck,Fk,rfl,o9,hbs,hr,hsub,hc⟩:=(Sl.ext (w':=wr) (A:=A) (c:=c) h hbl).get hlt;have hr0:=hr;obtain ⟨jy,ji,Bo,hck,su,hkey,hop,kV⟩:=og hr;subst hck;have q0:wr.cell? ⟨b,o+(j+1) * 3,none⟩ = some (.string xs[j+1].key):=(by exact hc 0 _ rfl);have q1:wr.cell? ⟨b,o+(j+1) * 3+1,none⟩ = some (.int .i64 xs[j+1].op):=(by rw [Nat.add_assoc];exact hc 1 _ rfl);have q2:wr.cell? ⟨b,o+(j+1) * 3+2,none⟩ = some (.slice jy xs[j+1].values.length ji):=(by rw [Nat.add_assoc];exact hc 2 _ rfl);clear hc;obtain ⟨b',o',TY,Xw,e,Ht,hbs',hr',zQ,hc'⟩:=Sl.get (Sl.ext (w':=wr) (c:=c) h hbl) (show j < xs.length by omega);have QS:=hr';obtain ⟨qO,qP,KL,jU,abT,vC,hop2,zS⟩:=og hr';subst jU;obtain ⟨rfl,rfl⟩:b' = b∧o' = o:=by simpa using e.symm
    clear e;have p0:wr.cell? ⟨b',o'+j * 3,none⟩ = some (.string xs[j].key):=(by exact hc' 0 _ rfl);have p1:wr.cell? ⟨b',o'+j * 3+1,none⟩ = some (.int .i64 xs[j].op):=(by rw [Nat.add_assoc];exact hc' 1 _ rfl);have p2:wr.cell? ⟨b',o'+j * 3+2,none⟩ = some (.slice qO xs[j].values.length qP):=(by rw [Nat.add_assoc];exact hc' 2 _ rfl);clear hc';have hwj:IntKind.i64.wrap (j:Int) = j:=IntWalk.i64_in _ O';have hjl:j < xs.length:=O';obtain ⟨hp1,hp2,hp3⟩:=Eo.out xs[j] (List.getElem_mem ..);obtain ⟨hs1,hs2,hs3⟩:=Eo.out xs[j+1] (List.getElem_mem ..);cases h1:uh xs[j+1] <;> cases h3:nD xs[j] xs[j+1]
    all_goals
     have hp:=yS (ok:=uh) (less:=nD) hlt;rw [h1,h3] at hp;try simp only [Bool.false_and,Bool.and_false,Bool.and_true,Bool.and_self] at hp
     change rowAt uh nD xs _ = _ at hp
     have hK:∀wq,Below wr.heap.size wr wq→Calls Tryz.prog 156 #[.agg #[.string xs[j+1].key,.int .i64 xs[j+1].op,.slice jy xs[j+1].values.length ji]] wq fun e w'=>e = .returned (.bool (uh xs[j+1]))∧Below wq.heap.size wq w' :=
      fun wq hq=>Rw xs[j+1] _ _ _ (aJ hr0 hq) hs1 hs2 hs3
     rw [h1] at hK;have NOK:=I' hK;clear hK
     first
      | have HN:=I' (gq hall.out hp)
      | have HF:=I' (wU (most:=4) hlt hp)
     have hC:∀wq,Below wr.heap.size wr wq→Calls Tryz.prog 157 #[.agg #[.string xs[j].key,.int .i64 xs[j].op,.slice qO xs[j].values.length qP],.agg #[.string xs[j+1].key,.int .i64 xs[j+1].op,.slice jy xs[j+1].values.length ji]] wq fun e w'=>e = .returned (.bool (nD xs[j] xs[j+1]))∧Below wq.heap.size wq w' :=
      fun wq hq=>ail xs[j] xs[j+1] _ _ _ _ _ (aJ QS hq) (aJ hr0 hq) hp2 hs2
     rw [h3] at hC;have CMP:=I' hC;clear hC;clear h1 hp;go_wp2_with fail
     refine aF _ U' U' (aj _) ?_
     repeat (first
      | (apply aG
         case hw=>rfl
         simp only [Act.put,pz])
      | (apply aH
         case hw=>rfl
         case h =>exact Zabp
         simp only [Act.put,pz]))
     refine aN ?_;intro wn hn;replace hn:=hn.out;go_wp2
     first
      | exact ⟨⟨j+1+1,O',N',HN.out,ah (ak hbl _) hn⟩,by simp [intOf];omega⟩
      | (go_ret;exact ⟨by unfold aeH;rw [HF.out];rfl,ah (ak hbl _) hn⟩)
  ·have hkl:k = xs.length:=O';subst hkl;by_cases hm:(xs.length:Int)≤4
   ·have HF:=I' (Jy hm hall.out);go_wp2;go_ret
    exact ⟨by unfold aeH;rw [HF.out];first | rfl | simp [hm],hbl⟩
   ·have HF:=I' (Jz (ok:=uh) (less:=nD) hm);go_wp2;go_ret
    exact ⟨by unfold aeH;rw [HF.out];first | rfl | simp [hm],hbl⟩
theorem WJ (xs:List Need) (A:Option Addr) (n c:Nat) (F:List Nat) (w:World) (h:Sl w xs A c F) (hn:n = xs.length) (hl:(xs.length:Int)≤1048576) (hsm:(∀l∈xs,(l.key.size:Int)≤1048576∧(l.values.length:Int)≤1048576∧∀v∈l.values,(v.size:Int)≤1048576)) :
 Calls Tryz.prog 126 #[.slice A n c] w fun e w'=>e = .returned (.bool (aeH xs))∧Below w.heap.size w w':=by
 subst hn;have Eo:=I' hsm;clear hsm;by_cases hm:(xs.length:Int)≤4
 ·go_enter Tryz.func126,Tryz.ntmps126;go_wp2_with fail
  go_loopw [3] (fun i wr=>∃k:Nat,k≤xs.length∧i = .int .i64 k∧Hid (∀j,j < k→rowAt uh nD xs j = true)∧Below w.heap.size w wr) (fun i _=>xs.length - (intOf i).toNat)
  case atStart=>exact ⟨0,Nat.zero_le _,rfl,(fun j hj=>by omega),atS⟩
  case round =>
   obtain ⟨k,hk,rfl,hall,hbl⟩:=hrel;by_cases hlt:k < xs.length
   ·obtain rfl | ⟨j,rfl⟩:k = 0∨∃j,k = j+1:=by cases k with | zero=>exact .inl rfl | succ j=>exact .inr ⟨j,rfl⟩
    ·obtain ⟨b,o,ck,Fk,rfl,o9,hbs,hr,hsub,hc⟩:=(Sl.ext (w':=wr) (A:=A) (c:=c) h hbl).get hlt;have hr0:=hr;obtain ⟨jy,ji,Bo,hck,su,hkey,hop,kV⟩:=og hr;subst hck;have q0:wr.cell? ⟨b,o+0 * 3,none⟩ = some (.string xs[0].key):=(by exact hc 0 _ rfl);have q1:wr.cell? ⟨b,o+0 * 3+1,none⟩ = some (.int .i64 xs[0].op):=(by rw [Nat.add_assoc];exact hc 1 _ rfl);have q2:wr.cell? ⟨b,o+0 * 3+2,none⟩ = some (.slice jy xs[0].values.length ji):=(by rw [Nat.add_assoc];exact hc 2 _ rfl);clear hc;simp only [Nat.zero_mul,Nat.add_zero] at q0 q1 q2;obtain ⟨hs1,hs2,hs3⟩:=Eo.out xs[0] (List.getElem_mem ..);cases h1:uh xs[0]
     all_goals
      have hp:=rowAt_zero (ok:=uh) (less:=nD) hlt;rw [h1] at hp;try simp only [Bool.false_and,Bool.and_false,Bool.and_true,Bool.and_self] at hp
      change rowAt uh nD xs _ = _ at hp
      have hK:∀wq,Below wr.heap.size wr wq→Calls Tryz.prog 177 #[.agg #[.string xs[0].key,.int .i64 xs[0].op,.slice jy xs[0].values.length ji]] wq fun e w'=>e = .returned (.bool (uh xs[0]))∧Below wq.heap.size wq w' :=
       fun wq hq=>Rx xs[0] _ _ _ (aJ hr0 hq) hs1 hs2 hs3
      rw [h1] at hK;have NOK:=I' hK;clear hK
      first
       | have HN:=I' (gq hall.out hp)
       | have HF:=I' (wU (most:=4) hlt hp)
      clear h1 hp;go_wp2_with fail
      refine aF _ U' U' (aj _) ?_
      repeat (first
       | (apply aG
          case hw=>rfl
          simp only [Act.put,pz])
       | (apply aH
          case hw=>rfl
          case h =>exact Zabp
          simp only [Act.put,pz]))
      refine aN ?_;intro wn hn;replace hn:=hn.out;go_wp2
      first
       | exact ⟨⟨0+1,O',N',HN.out,ah hbl hn⟩,by simp [intOf];omega⟩
       | (go_ret;exact ⟨by unfold aeH;rw [HF.out];rfl,ah hbl hn⟩)
    ·obtain ⟨b,o,ck,Fk,rfl,o9,hbs,hr,hsub,hc⟩:=(Sl.ext (w':=wr) (A:=A) (c:=c) h hbl).get hlt;have hr0:=hr;obtain ⟨jy,ji,Bo,hck,su,hkey,hop,kV⟩:=og hr;subst hck;have q0:wr.cell? ⟨b,o+(j+1) * 3,none⟩ = some (.string xs[j+1].key):=(by exact hc 0 _ rfl);have q1:wr.cell? ⟨b,o+(j+1) * 3+1,none⟩ = some (.int .i64 xs[j+1].op):=(by rw [Nat.add_assoc];exact hc 1 _ rfl);have q2:wr.cell? ⟨b,o+(j+1) * 3+2,none⟩ = some (.slice jy xs[j+1].values.length ji):=(by rw [Nat.add_assoc];exact hc 2 _ rfl);clear hc;obtain ⟨b',o',TY,Xw,e,Ht,hbs',hr',zQ,hc'⟩:=Sl.get (Sl.ext (w':=wr) (c:=c) h hbl) (show j < xs.length by omega);have QS:=hr';obtain ⟨qO,qP,KL,jU,abT,vC,hop2,zS⟩:=og hr';subst jU;obtain ⟨rfl,rfl⟩:b' = b∧o' = o:=by simpa using e.symm
     clear e;have p0:wr.cell? ⟨b',o'+j * 3,none⟩ = some (.string xs[j].key):=(by exact hc' 0 _ rfl);have p1:wr.cell? ⟨b',o'+j * 3+1,none⟩ = some (.int .i64 xs[j].op):=(by rw [Nat.add_assoc];exact hc' 1 _ rfl);have p2:wr.cell? ⟨b',o'+j * 3+2,none⟩ = some (.slice qO xs[j].values.length qP):=(by rw [Nat.add_assoc];exact hc' 2 _ rfl);clear hc';have hwj:IntKind.i64.wrap (j:Int) = j:=IntWalk.i64_in _ O';have hjl:j < xs.length:=O';obtain ⟨hp1,hp2,hp3⟩:=Eo.out xs[j] (List.getElem_mem ..);obtain ⟨hs1,hs2,hs3⟩:=Eo.out xs[j+1] (List.getElem_mem ..);cases h1:uh xs[j+1] <;> cases h3:nD xs[j] xs[j+1]
     all_goals
      have hp:=yS (ok:=uh) (less:=nD) hlt;rw [h1,h3] at hp;try simp only [Bool.false_and,Bool.and_false,Bool.and_true,Bool.and_self] at hp
      change rowAt uh nD xs _ = _ at hp
      have hK:∀wq,Below wr.heap.size wr wq→Calls Tryz.prog 177 #[.agg #[.string xs[j+1].key,.int .i64 xs[j+1].op,.slice jy xs[j+1].values.length ji]] wq fun e w'=>e = .returned (.bool (uh xs[j+1]))∧Below wq.heap.size wq w' :=
       fun wq hq=>Rx xs[j+1] _ _ _ (aJ hr0 hq) hs1 hs2 hs3
      rw [h1] at hK;have NOK:=I' hK;clear hK
      first
       | have HN:=I' (gq hall.out hp)
       | have HF:=I' (wU (most:=4) hlt hp)
      have hC:∀wq,Below wr.heap.size wr wq→Calls Tryz.prog 125 #[.agg #[.string xs[j].key,.int .i64 xs[j].op,.slice qO xs[j].values.length qP],.agg #[.string xs[j+1].key,.int .i64 xs[j+1].op,.slice jy xs[j+1].values.length ji]] wq fun e w'=>e = .returned (.bool (nD xs[j] xs[j+1]))∧Below wq.heap.size wq w' :=
       fun wq hq=>TN xs[j] xs[j+1] _ _ _ _ _ (aJ QS hq) (aJ hr0 hq) hp2 hs2
      rw [h3] at hC;have CMP:=I' hC;clear hC;clear h1 hp;go_wp2_with fail
      refine aF _ U' U' (aj _) ?_
      repeat (first
       | (apply aG
          case hw=>rfl
          simp only [Act.put,pz])
       | (apply aH
          case hw=>rfl
          case h =>exact Zabp
          simp only [Act.put,pz]))
      refine aN ?_;intro wn hn;replace hn:=hn.out;go_wp2
      first
       | exact ⟨⟨j+1+1,O',N',HN.out,ah hbl hn⟩,by simp [intOf];omega⟩
       | (go_ret;exact ⟨by unfold aeH;rw [HF.out];rfl,ah hbl hn⟩)
   ·have hkl:k = xs.length:=O';subst hkl;have HF:=I' (Jy hm hall.out);go_wp2;go_ret
    exact ⟨by unfold aeH;rw [HF.out];rfl,hbl⟩
 ·have HF:=I' (Jz (ok:=uh) (less:=nD) hm);go_enter Tryz.func126,Tryz.ntmps126;go_wp2;go_ret
  exact ⟨by unfold aeH;rw [HF.out];rfl,atS⟩
def Aj (x:Host):Bool:=Qs x.name&&sD x.labels&&La x.aT&&(decide (0≤x.cpu)&&decide (0≤x.mem))&&(decide (1≤x.slots)&&decide (x.slots≤20))
theorem tY (x:Host) (cs:List Value) (F:List Nat) (w:World) (h:rd w x cs F) (hw:(x.wt:Int)≤1048576) :
 Calls Tryz.prog 63 #[.agg cs.toArray] w fun e w'=>e = .returned (.bool (Aj x))∧Below w.heap.size w w':=by
 have hwx:x.wt = x.name.size+kL Label.wt x.labels+kL iU.wt x.aT:=rfl;obtain ⟨hll,hls⟩:=sW (xs:=x.labels) O';obtain ⟨htl,hts⟩:=BH (xs:=x.aT) O';have hns:(x.name.size:Int)≤1048576:=by omega
 have Zb:=I' hls;have Ux:=I' hts;clear hls hts;have hr:=h;obtain ⟨gu,gy,jw,kJ,kK,qU,hck,hF,hname,dO,vg,hmem,uI,jq⟩:=iy hr;subst hck;clear hr hF;go_enter Tryz.func63,Tryz.ntmps63
 go_wp2_with (first
  | (go_at_call 108;refine (Ro x.name _ hns).mono ?_;rintro e w2 ⟨rfl,hb2⟩;obtain ⟨hc2,hf2⟩:=ay hb2;have hz2:w.heap.size < w2.heap.size:=(sq hb2.size))
  | (go_at_call 109;refine (Jv x.labels _ _ _ _ _ (dO.ext atS) rfl hll Zb.out).mono ?_;rintro e w3 ⟨rfl,hb3⟩;obtain ⟨hc3,hf3⟩:=ay hb3;have hz3:w.heap.size < w3.heap.size:=(sq hb3.size))
  | (go_at_call 110;refine (ZK x.aT _ _ _ _ _ (jq.ext atS) rfl htl Ux.out).mono ?_;rintro e w4 ⟨rfl,hb4⟩;obtain ⟨hc4,hf4⟩:=ay hb4;have Wy:w.heap.size < w4.heap.size:=(sq hb4.size))
  | go_in)
 all_goals first
  | (go_ret;refine ⟨?_,atS⟩;refine congrArg (fun b=>Ending.returned (Value.bool b)) ?_;show (_:Bool) = _;(try clear hc2 hf2);(try clear hc3 hf3);(try clear hc4 hf4);unfold Aj;first | (simp [*];done) | (simp [*];omega) | (simp_all;done) | (simp_all;omega))
  | skip
theorem tZ (x:Host) (cs:List Value) (F:List Nat) (w:World) (h:rd w x cs F) (hw:(x.wt:Int)≤1048576) :
 Calls Tryz.prog 85 #[.agg cs.toArray] w fun e w'=>e = .returned (.bool (Aj x))∧Below w.heap.size w w':=by
 have hwx:x.wt = x.name.size+kL Label.wt x.labels+kL iU.wt x.aT:=rfl;obtain ⟨hll,hls⟩:=sW (xs:=x.labels) O';obtain ⟨htl,hts⟩:=BH (xs:=x.aT) O';have hns:(x.name.size:Int)≤1048576:=by omega
 have Zb:=I' hls;have Ux:=I' hts;clear hls hts;have hr:=h;obtain ⟨gu,gy,jw,kJ,kK,qU,hck,hF,hname,dO,vg,hmem,uI,jq⟩:=iy hr;subst hck;clear hr hF;go_enter Tryz.func85,Tryz.ntmps85
 go_wp2_with (first
  | (go_at_call 129;refine (Rq x.name _ hns).mono ?_;rintro e w2 ⟨rfl,hb2⟩;obtain ⟨hc2,hf2⟩:=ay hb2;have hz2:w.heap.size < w2.heap.size:=(sq hb2.size))
  | (go_at_call 123;refine (Jw x.labels _ _ _ _ _ (dO.ext atS) rfl hll Zb.out).mono ?_;rintro e w3 ⟨rfl,hb3⟩;obtain ⟨hc3,hf3⟩:=ay hb3;have hz3:w.heap.size < w3.heap.size:=(sq hb3.size))
  | (go_at_call 136;refine (ZL x.aT _ _ _ _ _ (jq.ext atS) rfl htl Ux.out).mono ?_;rintro e w4 ⟨rfl,hb4⟩;obtain ⟨hc4,hf4⟩:=ay hb4;have Wy:w.heap.size < w4.heap.size:=(sq hb4.size))
  | go_in)
 all_goals first
  | (go_ret;refine ⟨?_,atS⟩;refine congrArg (fun b=>Ending.returned (Value.bool b)) ?_;show (_:Bool) = _;(try clear hc2 hf2);(try clear hc3 hf3);(try clear hc4 hf4);unfold Aj;first | (simp [*];done) | (simp [*];omega) | (simp_all;done) | (simp_all;omega))
  | skip
def Rt (nm:ByteArray) (x:aU) (p:nI):Int :=
 if pK (iM nm) x.hosts < 0 then 0 else
 match x.hosts[(pK (iM nm) x.hosts).toNat]? with
 | none=>0
 | some h=>max 0 (100 - 25 * (BD p.tolerances 2 h.aT:Int))
theorem amY {nm:ByteArray} {x:aU} {p:nI} (h:pK (iM nm) x.hosts = -1):Rt nm x p = 0:=by unfold Rt;rw [h];rfl
theorem aje {nm:ByteArray} {x:aU} {p:nI} {k:Nat} (hk:k < x.hosts.length) (h:pK (iM nm) x.hosts = k):Rt nm x p = max 0 (100 - 25 * (BD p.tolerances 2 x.hosts[k].aT:Int)):=by
 unfold Rt;rw [h,if_neg O',Int.toNat_natCast,List.getElem?_eq_getElem hk]
theorem acy (n:Int) (w:World) (h:n≤100) (h0:-9223372036854775808≤n):Calls Tryz.prog 194 #[.int .i64 n,.int .i64 0,.int .i64 100] w fun e w'=>e = .returned (.int .i64 (max 0 n))∧w' = w:=by
 by_cases hn:n < 0
 ·rw [show max 0 n = 0 by omega];go_enter Tryz.func194,Tryz.ntmps194;go_wp2;go_ret
  exact ⟨rfl,rfl⟩
 ·rw [show max 0 n = n by omega];go_enter Tryz.func194,Tryz.ntmps194;go_wp2;go_ret
  exact ⟨rfl,rfl⟩
theorem ZI (x:aU) (p:nI) (cs ps:List Value) (F G:List Nat) (nm:ByteArray) (w:World) (h:rd w x cs F) (h':rd w p ps G) (hw:(x.wt:Int)≤1048576) (hw':(p.wt:Int)≤1048576) :
 Calls Tryz.prog 145 #[.agg cs.toArray,.string nm,.agg ps.toArray] w fun e w'=>e = .returned (.int .i64 (Rt nm x p))∧Below w.heap.size w w':=by
 have hwx:x.wt = kL Host.wt x.hosts+kL Placed.wt x.au:=rfl;have hwp:p.wt = p.name.size+kL Label.wt p.labels+kL Need.wt p.needs+kL bH.wt p.tolerances:=rfl;have hlen:(x.hosts.length:Int)≤1048576:=by have:=gJ Host.wt x.hosts;omega
 obtain ⟨htl,hts⟩:=FQ (xs:=p.tolerances) O';have Ux:=I' hts;clear hts;obtain ⟨bG,bD,fQ,dn,bW,jg,hck,hF,bQ,dM,hnext,aV,aP,aW⟩:=aO h;obtain ⟨bY,bZ,iq,eU,eX,jV,bg,bn,dK,jU,hG,jW,dA,kQ,lg,lG,iO,bK⟩:=dL h';subst hck jU;rcases yg (iM nm) x.hosts with hi | ⟨k,hk,hi⟩
 ·have HF:=I' (amY (p:=p) hi);have HI:=I' hi;clear hi;go_enter Tryz.func145,Tryz.ntmps145;go_wp2_with fail
  refine (gQ x _ _ nm _ (aJ h atS) hlen).mono ?_;rw [HI.out];rintro e w2 ⟨rfl,hb2⟩;exact Zaa0
 ·have HF:=I' (aje (p:=p) hk hi);have HI:=I' hi;clear hi;have hwk:(kL iU.wt x.hosts[k].aT:Int)≤1048576:=by
   have h1:=rM (f:=Host.wt) hk;have h2:Host.wt x.hosts[k] = x.hosts[k].name.size+kL Label.wt x.hosts[k].labels+kL iU.wt x.hosts[k].aT:=rfl;omega
  obtain ⟨hxl,hxs⟩:=BH hwk;have HXS:=I' hxs;clear hxs;have hul:=UN p.tolerances 2 x.hosts[k].aT;obtain ⟨b,o,ck,Fk,rfl,o9,hbs,hr,hsub,hc⟩:=Sl.get (α:=Host) (A:=bG) (c:=bD) bQ hk;obtain ⟨jM,jO,sN,jE,jF,sO,hck,su,zM,qY,Gt,Gw,xg,qA⟩:=iy hr;subst hck;have q0:w.cell? ⟨b,o+k * 6,none⟩ = some (.string x.hosts[k].name):=by exact hc 0 _ rfl
  have q1:w.cell? ⟨b,o+k * 6+1,none⟩ = some (.slice jM x.hosts[k].labels.length jO):=by rw [Nat.add_assoc];exact hc 1 _ rfl
  have q2:w.cell? ⟨b,o+k * 6+2,none⟩ = some (.int .i64 x.hosts[k].cpu):=by rw [Nat.add_assoc];exact hc 2 _ rfl
  have q3:w.cell? ⟨b,o+k * 6+3,none⟩ = some (.int .i64 x.hosts[k].mem):=by rw [Nat.add_assoc];exact hc 3 _ rfl
  have q4:w.cell? ⟨b,o+k * 6+4,none⟩ = some (.int .i64 x.hosts[k].slots):=by rw [Nat.add_assoc];exact hc 4 _ rfl
  have q5:w.cell? ⟨b,o+k * 6+5,none⟩ = some (.slice jE x.hosts[k].aT.length jF):=by rw [Nat.add_assoc];exact hc 5 _ rfl
  clear hc;go_enter Tryz.func145,Tryz.ntmps145;go_wp2_with fail
  refine (gQ x _ _ nm _ (aJ h atS) hlen).mono ?_;rw [HI.out];rintro e w2 ⟨rfl,hb2⟩;obtain ⟨hc2,hf2⟩:=ay hb2;have hz2:w.heap.size+1 < w2.heap.size:=sq hb2.size;have hy2:w.heap.size < w2.heap.size:=by omega
  have hB2:Below w.heap.size w w2:=atS;replace q5:=((ay hB2).1 b _ hbs).trans q5;have uO:b < w2.heap.size:=by omega
  have hUT:∀wq,Below w.heap.size w wq→Calls Tryz.prog 181 #[.slice bg p.tolerances.length bn,.slice jE x.hosts[k].aT.length jF,.int .i64 2] wq fun e w'=>e = .returned (.int .i64 (BD p.tolerances 2 x.hosts[k].aT))∧Below wq.heap.size wq w' :=
   fun wq hq=>UQ p.tolerances x.hosts[k].aT 2 _ _ _ _ _ _ _ _ _ (bK.ext hq) (qA.ext hq) rfl rfl htl hxl Ux.out HXS.out
  have HUT:=I' hUT;clear hUT;generalize BD p.tolerances 2 x.hosts[k].aT = z at HUT HF hul;have hzl:(z:Int)≤1048576:=by omega
  have hw1:IntKind.i64.wrap (25 * (z:Int)) = 25 * (z:Int):=IntWalk.i64_in _ O';have hw2:IntKind.i64.wrap (100 - 25 * (z:Int)) = 100 - 25 * (z:Int):=IntWalk.i64_in _ O';by_cases hpos:(100:Int) - 25 * (z:Int)≤0
  ·have hM:max 0 (100 - 25 * (z:Int)) = 0:=O';have HM:=I' hM;clear hM;go_wp2_with fail
   refine aF w2 U' U' (aj _) ?_
   repeat (first
    | (apply aG
       case hw=>rfl
       simp only [Act.put,pz])
    | (apply aH
       case hw=>rfl
       case h =>exact Zacm
       simp only [Act.put,pz]))
   refine aN ?_;intro wn hn;replace hn:=hn.out;go_wp2;go_ret
   exact ⟨by rw [HF.out,HM.out];rfl,ah hB2 hn⟩
  ·have hpos2:(0:Int) < 100 - 25 * (z:Int):=O';have hM:max 0 (100 - 25 * (z:Int)) = 100 - 25 * (z:Int):=O';have HM:=I' hM;clear hM;have hle:(100:Int) - 25 * (z:Int)≤100:=O';go_wp2_with fail
   refine aF w2 U' U' (aj _) ?_
   repeat (first
    | (apply aG
       case hw=>rfl
       simp only [Act.put,pz])
    | (apply aH
       case hw=>rfl
       case h =>exact Zacm
       simp only [Act.put,pz]))
   refine aN ?_;intro wn hn;replace hn:=hn.out;go_wp2;go_ret
   exact ⟨by rw [HF.out,HM.out] <;> first | rfl | (simp;omega),ah hB2 hn⟩
def uH (nm:ByteArray) (x:aU) (p:nI):Int :=
 if zL x.weights.pack x.weights.spread x.weights.soft = true then x.weights.pack * OT nm x p+x.weights.spread * EF nm x+x.weights.soft * Rt nm x p else 0
theorem adN (nm:ByteArray) (x:aU) (p:nI):0≤Rt nm x p∧Rt nm x p≤100:=by
 unfold Rt;split
 ·omega
 ·split <;> omega
theorem PX {a b:Int} (ha:0≤a∧a≤10) (hb:0≤b∧b≤100):0≤a * b∧a * b≤1000:=by
 refine ⟨Int.mul_nonneg ha.1 hb.1,?_⟩;have h1:a * b≤10 * b:=Int.mul_le_mul_of_nonneg_right ha.2 hb.1;omega
theorem XO {p s f:Int} (h:zL p s f = true):(0≤p∧p≤10)∧(0≤s∧s≤10)∧(0≤f∧f≤10):=by
 unfold zL at h;exact Zad6
theorem vY {n:Int} (h:0≤n∧n≤3000):Value.int .i64 (IntKind.i64.wrap n) = Value.int .i64 n:=by
 have e:IntKind.i64.wrap n = n:=by rw [IntKind.wrap_i64];omega
 rw [e]
theorem Kq (x:aU) (p:nI) (cs ps:List Value) (F G:List Nat) (nm:ByteArray) (w:World) (h:rd w x cs F) (h':rd w p ps G) (hw:(x.wt:Int)≤1048576) (hw':(p.wt:Int)≤1048576) :
 Calls Tryz.prog 99 #[.agg cs.toArray,.string nm,.agg ps.toArray] w fun e w'=>e = .returned (.int .i64 (uH nm x p))∧Below w.heap.size w w':=by
 have ZN:=I' hw;have Uc:=I' hw';clear hw hw';have hr:=h;have hr':=h';obtain ⟨bG,bD,fQ,dn,bW,jg,hck,hF,bQ,dM,hnext,aV,aP,aW⟩:=aO hr;obtain ⟨bY,bZ,iq,eU,eX,jV,bg,bn,dK,jU,hG,jW,dA,kQ,lg,lG,iO,bK⟩:=dL hr';subst hck jU;clear hF hG hr hr';cases hR:zL x.weights.pack x.weights.spread x.weights.soft with
 | false =>
   have HF:=I' (show uH nm x p = 0 by unfold uH;rw [if_neg (by rw [hR];simp)]);have HR:=I' hR;clear hR;go_enter Tryz.func99,Tryz.ntmps99;go_wp2_with fail
   refine (pW _ _ _ _).mono ?_;rw [HR.out];rintro e w2 ⟨rfl,hb2⟩;exact Zaa0
 | true =>
   have hmk:uH nm x p = x.weights.pack * OT nm x p+x.weights.spread * EF nm x+x.weights.soft * Rt nm x p:=(by unfold uH;rw [if_pos hR]);obtain ⟨g1,g2,g3⟩:=XO hR;have HR:=I' hR;clear hR;obtain ⟨S1,hS1⟩:∃S,OT nm x p = S:=⟨_,rfl⟩;obtain ⟨S2,hS2⟩:∃S,EF nm x = S:=⟨_,rfl⟩;obtain ⟨S3,hS3⟩:∃S,Rt nm x p = S:=⟨_,rfl⟩;have r1:=adO nm x p;have r2:=ZO nm x;have r3:=adN nm x p;rw [hS1] at r1 hmk;rw [hS2] at r2 hmk;rw [hS3] at r3 hmk;have m1:=PX g1 r1;have m2:=PX g2 r2;have m3:=PX g3 r3;have e1:=vY (n:=x.weights.pack * S1) O';have e2:=vY (n:=x.weights.spread * S2) O';have e3:=vY (n:=x.weights.soft * S3) O';have e4:=vY (n:=x.weights.pack * S1+x.weights.spread * S2) O';have e5:=vY (n:=x.weights.pack * S1+x.weights.spread * S2+x.weights.soft * S3) O';have HF:=I' hmk;have H1:=I' hS1;have H2:=I' hS2;have H3:=I' hS3;clear hmk hS1 hS2 hS3 m1 m2 m3;go_enter Tryz.func99,Tryz.ntmps99;go_wp2_with fail
   refine (pW _ _ _ _).mono ?_;rw [HR.out];rintro e w2 ⟨rfl,hb2⟩;obtain ⟨hc2,hf2⟩:=ay hb2;have hz2:w.heap.size < w2.heap.size:=(sq hb2.size);have hy2:w.heap.size+1 < w2.heap.size:=(sq hb2.size);try (have hx2:w.heap.size+1+1 < w2.heap.size:=sq hb2.size)
   go_wp2_with fail
   refine aF _ U' U' (aj _) ?_
   repeat (first
    | (apply aG
       case hw=>rfl
       simp only [Act.put,pz])
    | (apply aH
       case hw=>rfl
       case h =>
        intro wq hq;have hcq:=(aB hq).1;have lJ:=(aB hq).2;go_simp
        first
         | exact ⟨hq,rfl⟩
         | exact ⟨aQ hq _,rfl⟩
         | (first | (refine (Zz x p _ _ _ _ nm _ (aJ h (ah atS hq)) (aJ h' (ah atS hq)) ZN.out Uc.out).mono ?_;rw [H1.out];rintro e wz ⟨rfl,nV⟩;exact ⟨rfl,aI hq nV⟩) | (refine (aey x p _ _ _ _ nm _ (aJ h (ah atS hq)) (aJ h' (ah atS hq)) ZN.out Uc.out).mono ?_;rw [H2.out];rintro e wz ⟨rfl,nV⟩;exact ⟨rfl,aI hq nV⟩) | (refine (ZI x p _ _ _ _ nm _ (aJ h (ah atS hq)) (aJ h' (ah atS hq)) ZN.out Uc.out).mono ?_;rw [H3.out];rintro e wz ⟨rfl,nV⟩;exact ⟨rfl,aI hq nV⟩))
         | (simp only [↓IntWalk.iteOmega];exact ⟨hq,rfl⟩)
       simp only [Act.put,pz]))
   refine aN ?_;intro wn hn;replace hn:=hn.out;exact Zacb
end Go.Proofs.YtkjeocdobidadaaGreat
