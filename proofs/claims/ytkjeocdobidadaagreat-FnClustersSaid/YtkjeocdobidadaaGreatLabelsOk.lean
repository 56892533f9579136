/- LabelsOk, of the program and of the reference. No condition. -/
import Derived.Test.YtkjeocdobidadaaGreatKeys
import Derived.Laws.Cover1
namespace Go.Proofs.YtkjeocdobidadaaGreat
open Go.ChangeShapes Go.WideShapes Go.ChangeAt Go.RowKit
set_option linter.unusedVariables false
set_option linter.unusedSimpArgs false
set_option maxHeartbeats 2000000
set_option maxRecDepth 100000
def zX (l:Label):Bool:=Cm l.key&&AQ l.value
def zi (a b:Label):Bool:=Op.bytesLess a.key.toList b.key.toList
def sD (xs:List Label):Bool:=adb zX zi 6 xs
theorem Jv (xs:List Label) (A:Option Addr) (n c:Nat) (F:List Nat) (w:World) (h:Sl w xs A c F) (hn:n = xs.length) (hl:(xs.length:Int)≤1048576) (hsm:∀l∈xs,(l.key.size:Int)≤1048576∧(l.value.size:Int)≤1048576) :
 Calls Tryz.prog 109 #[.slice A n c] w fun e w'=>e = .returned (.bool (sD xs))∧Below w.heap.size w w':=by
 subst hn;have Eo:=I' hsm;clear hsm;go_enter Tryz.func109,Tryz.ntmps109;go_wp2_with fail
 go_loopw [7] (fun i wr=>∃k:Nat,k≤xs.length∧i = .int .i64 k∧Hid (∀j,j < k→rowAt zX zi xs j = true)∧Below w.heap.size w wr) (fun i _=>xs.length - (intOf i).toNat)
 case atStart=>exact ⟨0,Nat.zero_le _,rfl,(fun j hj=>by omega),atS⟩
 case round =>
  obtain ⟨k,hk,rfl,hall,hbl⟩:=hrel;by_cases hlt:k < xs.length
  ·obtain rfl | ⟨j,rfl⟩:k = 0∨∃j,k = j+1:=by cases k with | zero=>exact .inl rfl | succ j=>exact .inr ⟨j,rfl⟩
   ·obtain ⟨b,o,ck,Fk,rfl,o9,hbs,hr,hsub,hc⟩:=(Sl.ext (w':=wr) (A:=A) (c:=c) h hbl).get hlt;obtain ⟨hck,su,hkey,kP⟩:=vO hr;subst hck;have q0:wr.cell? ⟨b,o+0 * 2,none⟩ = some (.string xs[0].key):=(by exact hc 0 _ rfl);have q1:wr.cell? ⟨b,o+0 * 2+1,none⟩ = some (.string xs[0].value):=(by rw [Nat.add_assoc];exact hc 1 _ rfl);clear hc;simp only [Nat.zero_mul,Nat.add_zero] at q0 q1;have hs1:=(Eo.out xs[0] (List.getElem_mem ..)).1;have hs2:=(Eo.out xs[0] (List.getElem_mem ..)).2;cases h1:Cm xs[0].key <;> cases h2:AQ xs[0].value
    all_goals
     have hp:=rowAt_zero (ok:=zX) (less:=zi) hlt;unfold zX at hp;rw [h1,h2] at hp;simp only [Bool.false_and,Bool.and_false,Bool.and_true,Bool.and_self] at hp;change rowAt zX zi xs _ = _ at hp;have H1:=I' h1;have H2:=I' h2
     first
      | have HN:=I' (gq hall.out hp)
      | have HF:=I' (wU (most:=6) hlt hp)
     clear h1 h2 hp;go_wp2_with fail
     refine aF _ U' U' (aj _) ?_
     repeat (first
      | (apply aG
         case hw=>rfl
         simp only [Act.put,pz])
      | (apply aH
         case hw=>rfl
         case h =>
          intro wq hq;have hcq:=(aB hq).1;have lJ:=(aB hq).2;go_simp
          first
           | exact ⟨hq,rfl⟩
           | exact ⟨aQ hq _,rfl⟩
           | (first | (refine (rX xs[0].key _ hs1).mono ?_;rw [H1.out];rintro e w2 ⟨rfl,hb2⟩;exact ⟨rfl,aI hq hb2⟩) | (refine (xQ xs[0].value _ hs2).mono ?_;rw [H2.out];rintro e w2 ⟨rfl,hb2⟩;exact ⟨rfl,aI hq hb2⟩))
           | (simp only [↓IntWalk.iteOmega];exact ⟨hq,rfl⟩)
         simp only [Act.put,pz]))
     refine aN ?_;intro wn hn;replace hn:=hn.out;go_wp2
     first
      | exact ⟨⟨0+1,O',N',HN.out,ah (ak hbl _) hn⟩,by simp [intOf];omega⟩
      | (go_ret;exact ⟨by unfold sD;rw [HF.out];rfl,ah (ak hbl _) hn⟩)
   ·obtain ⟨b,o,ck,Fk,rfl,o9,hbs,hr,hsub,hc⟩:=(Sl.ext (w':=wr) (A:=A) (c:=c) h hbl).get hlt;obtain ⟨hck,su,hkey,kP⟩:=vO hr;subst hck;have q0:wr.cell? ⟨b,o+(j+1) * 2,none⟩ = some (.string xs[j+1].key):=(by exact hc 0 _ rfl);have q1:wr.cell? ⟨b,o+(j+1) * 2+1,none⟩ = some (.string xs[j+1].value):=(by rw [Nat.add_assoc];exact hc 1 _ rfl);clear hc;obtain ⟨b',o',TY,Xw,e,Ht,hbs',hr',zQ,hc'⟩:=Sl.get (Sl.ext (w':=wr) (c:=c) h hbl) (show j < xs.length by omega);obtain ⟨jU,abT,vC,rP⟩:=vO hr';subst jU;obtain ⟨rfl,rfl⟩:b' = b∧o' = o:=by simpa using e.symm
    clear e;have p0:wr.cell? ⟨b',o'+j * 2,none⟩ = some (.string xs[j].key):=(by exact hc' 0 _ rfl);have p1:wr.cell? ⟨b',o'+j * 2+1,none⟩ = some (.string xs[j].value):=(by rw [Nat.add_assoc];exact hc' 1 _ rfl);clear hc';have hwj:IntKind.i64.wrap (j:Int) = j:=IntWalk.i64_in _ O';have hjl:j < xs.length:=O';have hs1:=(Eo.out xs[j+1] (List.getElem_mem ..)).1;have hs2:=(Eo.out xs[j+1] (List.getElem_mem ..)).2;cases h1:Cm xs[j+1].key <;> cases h2:AQ xs[j+1].value <;> cases h3:Op.bytesLess xs[j].key.toList xs[j+1].key.toList
    all_goals
     have hp:=yS (ok:=zX) (less:=zi) hlt;unfold zX zi at hp;rw [h1,h2,h3] at hp;simp only [Bool.false_and,Bool.and_false,Bool.and_true,Bool.and_self] at hp;change rowAt zX zi xs _ = _ at hp;have H1:=I' h1;have H2:=I' h2
     first
      | have HN:=I' (gq hall.out hp)
      | have HF:=I' (wU (most:=6) hlt hp)
     clear h1 h2 hp;go_wp2_with fail
     refine aF _ U' U' (aj _) ?_
     repeat (first
      | (apply aG
         case hw=>rfl
         simp only [Act.put,pz])
      | (apply aH
         case hw=>rfl
         case h =>
          intro wq hq;have hcq:=(aB hq).1;have lJ:=(aB hq).2;go_simp
          first
           | exact ⟨hq,rfl⟩
           | exact ⟨aQ hq _,rfl⟩
           | (first | (refine (rX xs[j+1].key _ hs1).mono ?_;rw [H1.out];rintro e w2 ⟨rfl,hb2⟩;exact ⟨rfl,aI hq hb2⟩) | (refine (xQ xs[j+1].value _ hs2).mono ?_;rw [H2.out];rintro e w2 ⟨rfl,hb2⟩;exact ⟨rfl,aI hq hb2⟩))
           | (simp only [↓IntWalk.iteOmega];exact ⟨hq,rfl⟩)
         simp only [Act.put,pz]))
     refine aN ?_;intro wn hn;replace hn:=hn.out;go_wp2
     first
      | exact ⟨⟨j+1+1,O',N',HN.out,ah (ak hbl _) hn⟩,by simp [intOf];omega⟩
      | (go_ret;exact ⟨by unfold sD;rw [HF.out];rfl,ah (ak hbl _) hn⟩)
  ·have hkl:k = xs.length:=O';subst hkl;by_cases hm:(xs.length:Int)≤6
   ·have HF:=I' (Jy hm hall.out);go_wp2;go_ret
    exact ⟨by unfold sD;rw [HF.out];first | rfl | simp [hm],hbl⟩
   ·have HF:=I' (Jz (ok:=zX) (less:=zi) hm);go_wp2;go_ret
    exact ⟨by unfold sD;rw [HF.out];first | rfl | simp [hm],hbl⟩
theorem Jw (xs:List Label) (A:Option Addr) (n c:Nat) (F:List Nat) (w:World) (h:Sl w xs A c F) (hn:n = xs.length) (hl:(xs.length:Int)≤1048576) (hsm:∀l∈xs,(l.key.size:Int)≤1048576∧(l.value.size:Int)≤1048576) :
 Calls Tryz.prog 123 #[.slice A n c] w fun e w'=>e = .returned (.bool (sD xs))∧Below w.heap.size w w':=by
 subst hn;have Eo:=I' hsm;clear hsm;by_cases hm:(xs.length:Int)≤6
 ·go_enter Tryz.func123,Tryz.ntmps123;go_wp2_with fail
  go_loopw [3] (fun i wr=>∃k:Nat,k≤xs.length∧i = .int .i64 k∧Hid (∀j,j < k→rowAt zX zi xs j = true)∧Below w.heap.size w wr) (fun i _=>xs.length - (intOf i).toNat)
  case atStart=>exact ⟨0,Nat.zero_le _,rfl,(fun j hj=>by omega),atS⟩
  case round =>
   obtain ⟨k,hk,rfl,hall,hbl⟩:=hrel;by_cases hlt:k < xs.length
   ·obtain rfl | ⟨j,rfl⟩:k = 0∨∃j,k = j+1:=by cases k with | zero=>exact .inl rfl | succ j=>exact .inr ⟨j,rfl⟩
    ·obtain ⟨b,o,ck,Fk,rfl,o9,hbs,hr,hsub,hc⟩:=(Sl.ext (w':=wr) (A:=A) (c:=c) h hbl).get hlt;obtain ⟨hck,su,hkey,kP⟩:=vO hr;subst hck;have q0:wr.cell? ⟨b,o+0 * 2,none⟩ = some (.string xs[0].key):=(by exact hc 0 _ rfl);have q1:wr.cell? ⟨b,o+0 * 2+1,none⟩ = some (.string xs[0].value):=(by rw [Nat.add_assoc];exact hc 1 _ rfl);clear hc;simp only [Nat.zero_mul,Nat.add_zero] at q0 q1;have hs1:=(Eo.out xs[0] (List.getElem_mem ..)).1;have hs2:=(Eo.out xs[0] (List.getElem_mem ..)).2;cases h1:Cm xs[0].key <;> cases h2:AQ xs[0].value
     all_goals
      have hp:=rowAt_zero (ok:=zX) (less:=zi) hlt;unfold zX at hp;rw [h1,h2] at hp;simp only [Bool.false_and,Bool.and_false,Bool.and_true,Bool.and_self] at hp;change rowAt zX zi xs _ = _ at hp;have H1:=I' h1;have H2:=I' h2
      first
       | have HN:=I' (gq hall.out hp)
       | have HF:=I' (wU (most:=6) hlt hp)
      clear h1 h2 hp;go_wp2_with fail
      refine aF _ U' U' (aj _) ?_
      repeat (first
       | (apply aG
          case hw=>rfl
          simp only [Act.put,pz])
       | (apply aH
          case hw=>rfl
          case h =>
           intro wq hq;have hcq:=(aB hq).1;have lJ:=(aB hq).2;go_simp
           first
            | exact ⟨hq,rfl⟩
            | exact ⟨aQ hq _,rfl⟩
            | (first | (refine (qK xs[0].key _ hs1).mono ?_;rw [H1.out];rintro e w2 ⟨rfl,hb2⟩;exact ⟨rfl,aI hq hb2⟩) | (refine (vH xs[0].value _ hs2).mono ?_;rw [H2.out];rintro e w2 ⟨rfl,hb2⟩;exact ⟨rfl,aI hq hb2⟩))
            | (simp only [↓IntWalk.iteOmega];exact ⟨hq,rfl⟩)
          simp only [Act.put,pz]))
      refine aN ?_;intro wn hn;replace hn:=hn.out;go_wp2
      first
       | exact ⟨⟨0+1,O',N',HN.out,ah hbl hn⟩,by simp [intOf];omega⟩
       | (go_ret;exact ⟨by unfold sD;rw [HF.out];rfl,ah hbl hn⟩)
    ·obtain ⟨b,o,ck,Fk,rfl,o9,hbs,hr,hsub,hc⟩:=(Sl.ext (w':=wr) (A:=A) (c:=c) h hbl).get hlt;obtain ⟨hck,su,hkey,kP⟩:=vO hr;subst hck;have q0:wr.cell? ⟨b,o+(j+1) * 2,none⟩ = some (.string xs[j+1].key):=(by exact hc 0 _ rfl);have q1:wr.cell? ⟨b,o+(j+1) * 2+1,none⟩ = some (.string xs[j+1].value):=(by rw [Nat.add_assoc];exact hc 1 _ rfl);clear hc;obtain ⟨b',o',TY,Xw,e,Ht,hbs',hr',zQ,hc'⟩:=Sl.get (Sl.ext (w':=wr) (c:=c) h hbl) (show j < xs.length by omega);obtain ⟨jU,abT,vC,rP⟩:=vO hr';subst jU;obtain ⟨rfl,rfl⟩:b' = b∧o' = o:=by simpa using e.symm
     clear e;have p0:wr.cell? ⟨b',o'+j * 2,none⟩ = some (.string xs[j].key):=(by exact hc' 0 _ rfl);have p1:wr.cell? ⟨b',o'+j * 2+1,none⟩ = some (.string xs[j].value):=(by rw [Nat.add_assoc];exact hc' 1 _ rfl);clear hc';have hwj:IntKind.i64.wrap (j:Int) = j:=IntWalk.i64_in _ O';have hjl:j < xs.length:=O';have hs1:=(Eo.out xs[j+1] (List.getElem_mem ..)).1;have hs2:=(Eo.out xs[j+1] (List.getElem_mem ..)).2;cases h1:Cm xs[j+1].key <;> cases h2:AQ xs[j+1].value <;> cases h3:Op.bytesLess xs[j].key.toList xs[j+1].key.toList
     all_goals
      have hp:=yS (ok:=zX) (less:=zi) hlt;unfold zX zi at hp;rw [h1,h2,h3] at hp;simp only [Bool.false_and,Bool.and_false,Bool.and_true,Bool.and_self] at hp;change rowAt zX zi xs _ = _ at hp;have H1:=I' h1;have H2:=I' h2
      first
       | have HN:=I' (gq hall.out hp)
       | have HF:=I' (wU (most:=6) hlt hp)
      clear h1 h2 hp;go_wp2_with fail
      refine aF _ U' U' (aj _) ?_
      repeat (first
       | (apply aG
          case hw=>rfl
          simp only [Act.put,pz])
       | (apply aH
          case hw=>rfl
          case h =>
           intro wq hq;have hcq:=(aB hq).1;have lJ:=(aB hq).2;go_simp
           first
            | exact ⟨hq,rfl⟩
            | exact ⟨aQ hq _,rfl⟩
            | (first | (refine (qK xs[j+1].key _ hs1).mono ?_;rw [H1.out];rintro e w2 ⟨rfl,hb2⟩;exact ⟨rfl,aI hq hb2⟩) | (refine (vH xs[j+1].value _ hs2).mono ?_;rw [H2.out];rintro e w2 ⟨rfl,hb2⟩;exact ⟨rfl,aI hq hb2⟩))
            | (simp only [↓IntWalk.iteOmega];exact ⟨hq,rfl⟩)
          simp only [Act.put,pz]))
      refine aN ?_;intro wn hn;replace hn:=hn.out;go_wp2
      first
       | exact ⟨⟨j+1+1,O',N',HN.out,ah hbl hn⟩,by simp [intOf];omega⟩
       | (go_ret;exact ⟨by unfold sD;rw [HF.out];rfl,ah hbl hn⟩)
   ·have hkl:k = xs.length:=O';subst hkl;have HF:=I' (Jy hm hall.out);go_wp2;go_ret
    exact ⟨by unfold sD;rw [HF.out];rfl,hbl⟩
 ·have HF:=I' (Jz (ok:=zX) (less:=zi) hm);go_enter Tryz.func123,Tryz.ntmps123;go_wp2;go_ret
  exact ⟨by unfold sD;rw [HF.out];rfl,atS⟩
theorem aaF (n a b:Int) (w:World):Calls Tryz.prog 62 #[.int .i64 n,.int .i64 a,.int .i64 b] w fun e w'=>e = .returned (.bool (decide (a≤n)&&decide (n≤b)))∧w' = w:=by
 by_cases h1:a≤n <;> by_cases h2:n≤b
 all_goals
  go_enter Tryz.func62,Tryz.ntmps62;go_wp2;go_ret
  exact ⟨by simp [h1,h2] <;> first | rfl | omega,rfl⟩
theorem Rw (x:Need) (cs:List Value) (F:List Nat) (w:World) (h:rd w x cs F) (hks:(x.key.size:Int)≤1048576) (hl:(x.values.length:Int)≤1048576) (hsm:∀v∈x.values,(v.size:Int)≤1048576) :
 Calls Tryz.prog 156 #[.agg cs.toArray] w fun e w'=>e = .returned (.bool (uh x))∧Below w.heap.size w w':=by
 have Eo:=I' hsm;clear hsm;obtain ⟨jy,ji,Bo,hck,qp,hkey,hop,kV⟩:=og h;subst hck;clear qp;cases hK:Cm x.key with
 | false =>have HF:=I' (aiY hK);have HK:=I' hK;clear hK;exact Zae9
 | true =>
   have HK:=I' hK;by_cases hop:1≤x.op∧x.op≤4
   ·by_cases h2:2 < x.op
    ·have hg:=aiZ hK hop h2;obtain ⟨hop1,hop2⟩:=hop;by_cases h0:x.values.length = 0
     ·rw [decide_eq_true h0] at hg;have HF:=I' hg;have H0:=I' h0;clear hK hg h0;go_enter Tryz.func156,Tryz.ntmps156;go_wp2_with fail
      refine (rX x.key _ hks).mono ?_;exact Zab6
     ·rw [decide_eq_false h0] at hg;have HF:=I' hg;have h0i:((x.values.length:Int) == 0) = false:=(by rw [beq_eq_false_iff_ne];omega);clear hK hg;exact Zae9
    ·have HI:=I' (amx hK hop h2);obtain ⟨hop1,hop2⟩:=hop;have h2':x.op≤2:=O';clear hK;go_enter Tryz.func156,Tryz.ntmps156;go_wp2_with fail
     refine (rX x.key _ hks).mono ?_;rw [HK.out];rintro e w2 ⟨rfl,hb2⟩;obtain ⟨hc2,hf2⟩:=ay hb2;have hz2:w.heap.size < w2.heap.size:=(by have:=hb2.size;simp at this;omega);have hq1:w2.cell? ⟨w.heap.size,1,none⟩ = some (.int .i64 x.op):=(by rw [hc2 _ _ S',cell_of_row _ _ _ _ _ _ (heap_alloc_new w _)];rfl);have hq2:w2.cell? ⟨w.heap.size,2,none⟩ = some (.slice jy x.values.length ji):=(by rw [hc2 _ _ S',cell_of_row _ _ _ _ _ _ (heap_alloc_new w _)];rfl);have hB2:Below w.heap.size w w2:=atS;clear hc2 hf2;go_wp2_with fail
     refine (aaF x.op 1 4 _).mono ?_;rw [show (decide ((1:Int)≤x.op)&&decide (x.op≤4)) = true by simp [hop1,hop2]];rintro e w3 ⟨rfl,hw⟩;simp only [hw];clear hw w3;go_wp2;go_loopw [25] (fun i wr=>∃k:Nat,k≤x.values.length∧i = .int .i64 k∧Hid (∀j,j < k→rowAt AQ bl x.values j = true)∧wr.cell? ⟨w.heap.size,2,none⟩ = some (.slice jy x.values.length ji)∧Below w.heap.size w wr) (fun i _=>x.values.length - (intOf i).toNat)
     case atStart=>exact ⟨0,Nat.zero_le _,rfl,(fun j hj=>by omega),hq2,hB2⟩
     case round =>
      obtain ⟨k,hk,rfl,hall,hbx,hbl⟩:=hrel;have hbz:w.heap.size < wr.heap.size:=World.block_lt_of_cell? wr _ hbx;by_cases hlt:k < x.values.length
      ·obtain rfl | ⟨j,rfl⟩:k = 0∨∃j,k = j+1:=by cases k with | zero=>exact .inl rfl | succ j=>exact .inr ⟨j,rfl⟩
       ·obtain ⟨b,o,ck,Fk,rfl,o9,hbs,hr,hsub,hc⟩:=(Sl.ext (w':=wr) (A:=jy) (c:=ji) kV hbl).get hlt;obtain ⟨hck,su,hsz⟩:=hr;subst hck su;have q0:wr.cell? ⟨b,o+0,none⟩ = some (.string x.values[0]):=(by have:=hc 0 _ rfl;rwa [show o+(0 * Dat.size ByteArray+0) = o+0 from by show o+(0 * 1+0) = _;omega] at this);clear hc;simp only [Nat.add_zero] at q0;have hs1:=Eo.out x.values[0] (List.getElem_mem ..);cases h1:AQ x.values[0]
        all_goals
         have hp:=rowAt_zero (ok:=AQ) (less:=bl) hlt;rw [h1] at hp;try simp only [Bool.false_and,Bool.and_false,Bool.and_true,Bool.and_self] at hp
         change rowAt AQ bl x.values _ = _ at hp;have H1:=I' h1
         first
          | have HN:=I' (gq hall.out hp)
          | have HF:=I' (show uh x = false by rw [HI.out,wU (most:=4) hlt hp];simp)
         clear h1 hp;go_wp2_with fail
         refine (xQ x.values[0] _ hs1).mono ?_;rw [H1.out];rintro e wn ⟨rfl,hn⟩;obtain ⟨hcn,hfn⟩:=ay hn;go_wp2
         first
          | exact ⟨⟨0+1,O',N',HN.out,((ay hn).1 _ _ hbz).trans hbx,ah hbl hn⟩,by simp [intOf];omega⟩
          | (go_ret;exact ⟨by rw [HF.out];rfl,ah hbl hn⟩)
          | (go_roundw
             case rel=>exact ⟨0+1,O',N',HN.out,((ay hn).1 _ _ hbz).trans hbx,ah hbl hn⟩
             case measure=>simp [intOf];omega)
       ·obtain ⟨b,o,ck,Fk,rfl,o9,hbs,hr,hsub,hc⟩:=(Sl.ext (w':=wr) (A:=jy) (c:=ji) kV hbl).get hlt;obtain ⟨hck,su,hsz⟩:=hr;subst hck su;have q0:wr.cell? ⟨b,o+(j+1),none⟩ = some (.string x.values[j+1]):=(by have:=hc 0 _ rfl;rwa [show o+((j+1) * Dat.size ByteArray+0) = o+(j+1) from by show o+((j+1) * 1+0) = _;omega] at this);clear hc;obtain ⟨b',o',TY,Xw,e,Ht,hbs',hr',zQ,hc'⟩:=Sl.get (Sl.ext (w':=wr) (c:=ji) kV hbl) (show j < x.values.length by omega);obtain ⟨jU,abT,hsz2⟩:=hr';subst jU;obtain ⟨rfl,rfl⟩:b' = b∧o' = o:=by simpa using e.symm
        clear e;have p0:wr.cell? ⟨b',o'+j,none⟩ = some (.string x.values[j]):=(by have:=hc' 0 _ rfl;rwa [show o'+(j * Dat.size ByteArray+0) = o'+j from by show o'+(j * 1+0) = _;omega] at this);clear hc';have hwj:IntKind.i64.wrap (j:Int) = j:=IntWalk.i64_in _ O';have hjl:j < x.values.length:=O';have hs1:=Eo.out x.values[j+1] (List.getElem_mem ..);cases h1:AQ x.values[j+1] <;> cases h3:Op.bytesLess x.values[j].toList x.values[j+1].toList
        all_goals
         have hp:=yS (ok:=AQ) (less:=bl) hlt;unfold bl at hp;rw [h1,h3] at hp;try simp only [Bool.false_and,Bool.and_false,Bool.and_true,Bool.and_self] at hp
         change rowAt AQ bl x.values _ = _ at hp;have H1:=I' h1
         first
          | have HN:=I' (gq hall.out hp)
          | have HF:=I' (show uh x = false by rw [HI.out,wU (most:=4) hlt hp];simp)
         clear h1 hp;go_wp2_with fail
         refine (xQ x.values[j+1] _ hs1).mono ?_;rw [H1.out];rintro e wn ⟨rfl,hn⟩;obtain ⟨hcn,hfn⟩:=ay hn;go_wp2
         first
          | exact ⟨⟨j+1+1,O',N',HN.out,((ay hn).1 _ _ hbz).trans hbx,ah hbl hn⟩,by simp [intOf];omega⟩
          | (go_ret;exact ⟨by rw [HF.out];rfl,ah hbl hn⟩)
          | (go_roundw
             case rel=>exact ⟨j+1+1,O',N',HN.out,((ay hn).1 _ _ hbz).trans hbx,ah hbl hn⟩
             case measure=>simp [intOf];omega)
      ·have hkl:k = x.values.length:=O';subst hkl;by_cases hm:(x.values.length:Int)≤4
       ·by_cases hm1:1≤x.values.length
        ·have HF:=I' (show uh x = true by rw [HI.out,Jy hm hall.out];simp [hm1]);exact Zac7
        ·have HF:=I' (show uh x = false by rw [HI.out];simp [hm1]);have hm2:(x.values.length:Int) < 1:=O';exact Zac7
       ·have HF:=I' (show uh x = false by rw [HI.out,Jz (ok:=AQ) (less:=bl) hm];simp);have hm2:(1:Int)≤x.values.length:=O';have hd5:decide ((x.values.length:Int)≤4) = false:=(by simp;omega);exact Zac7
   ·have HF:=I' (amy hop);clear hK;by_cases h1:x.op < 1
    ·exact Zae9
    ·have h1':1≤x.op:=O';have h4':4 < x.op:=O';have hd4:decide (x.op≤4) = false:=(by simp;omega);exact Zae9
theorem Rx (x:Need) (cs:List Value) (F:List Nat) (w:World) (h:rd w x cs F) (hks:(x.key.size:Int)≤1048576) (hl:(x.values.length:Int)≤1048576) (hsm:∀v∈x.values,(v.size:Int)≤1048576) :
 Calls Tryz.prog 177 #[.agg cs.toArray] w fun e w'=>e = .returned (.bool (uh x))∧Below w.heap.size w w':=by
 have Eo:=I' hsm;clear hsm;obtain ⟨jy,ji,Bo,hck,qp,hkey,hop,kV⟩:=og h;subst hck;clear qp;cases hK:Cm x.key with
 | false =>have HF:=I' (aiY hK);have HK:=I' hK;clear hK;exact Zafa
 | true =>
   have HK:=I' hK;by_cases hop:1≤x.op∧x.op≤4
   ·by_cases h2:2 < x.op
    ·have hg:=aiZ hK hop h2;obtain ⟨hop1,hop2⟩:=hop;by_cases h0:x.values.length = 0
     ·rw [decide_eq_true h0] at hg;have HF:=I' hg;have H0:=I' h0;clear hK hg h0;go_enter Tryz.func177,Tryz.ntmps177;go_wp2_with fail
      refine (qK x.key _ hks).mono ?_;exact Zab6
     ·rw [decide_eq_false h0] at hg;have HF:=I' hg;have h0i:((x.values.length:Int) == 0) = false:=(by rw [beq_eq_false_iff_ne];omega);clear hK hg;exact Zafa
    ·have HI:=I' (amx hK hop h2);obtain ⟨hop1,hop2⟩:=hop;have h2':x.op≤2:=O';clear hK;go_enter Tryz.func177,Tryz.ntmps177;go_wp2_with fail
     refine (qK x.key _ hks).mono ?_;rw [HK.out];rintro e w2 ⟨rfl,hb2⟩;obtain ⟨hc2,hf2⟩:=ay hb2;have hz2:w.heap.size < w2.heap.size:=(by have:=hb2.size;simp at this;omega);have hq1:w2.cell? ⟨w.heap.size,1,none⟩ = some (.int .i64 x.op):=(by rw [hc2 _ _ S',cell_of_row _ _ _ _ _ _ (heap_alloc_new w _)];rfl);have hq2:w2.cell? ⟨w.heap.size,2,none⟩ = some (.slice jy x.values.length ji):=(by rw [hc2 _ _ S',cell_of_row _ _ _ _ _ _ (heap_alloc_new w _)];rfl);have hB2:Below w.heap.size w w2:=atS;clear hc2 hf2;by_cases hm1:1≤x.values.length
     ·have hm1i:(1:Int)≤x.values.length:=O';by_cases hm:(x.values.length:Int)≤4
      ·go_wp2;go_loopw [3] (fun i wr=>∃k:Nat,k≤x.values.length∧i = .int .i64 k∧Hid (∀j,j < k→rowAt AQ bl x.values j = true)∧wr.cell? ⟨w.heap.size,2,none⟩ = some (.slice jy x.values.length ji)∧Below w.heap.size w wr) (fun i _=>x.values.length - (intOf i).toNat)
       case atStart=>exact ⟨0,Nat.zero_le _,rfl,(fun j hj=>by omega),hq2,hB2⟩
       case round =>
        obtain ⟨k,hk,rfl,hall,hbx,hbl⟩:=hrel;have hbz:w.heap.size < wr.heap.size:=World.block_lt_of_cell? wr _ hbx;by_cases hlt:k < x.values.length
        ·obtain rfl | ⟨j,rfl⟩:k = 0∨∃j,k = j+1:=by cases k with | zero=>exact .inl rfl | succ j=>exact .inr ⟨j,rfl⟩
         ·obtain ⟨b,o,ck,Fk,rfl,o9,hbs,hr,hsub,hc⟩:=(Sl.ext (w':=wr) (A:=jy) (c:=ji) kV hbl).get hlt;obtain ⟨hck,su,hsz⟩:=hr;subst hck su;have q0:wr.cell? ⟨b,o+0,none⟩ = some (.string x.values[0]):=(by have:=hc 0 _ rfl;rwa [show o+(0 * Dat.size ByteArray+0) = o+0 from by show o+(0 * 1+0) = _;omega] at this);clear hc;simp only [Nat.add_zero] at q0;have hs1:=Eo.out x.values[0] (List.getElem_mem ..);cases h1:AQ x.values[0]
          all_goals
           have hp:=rowAt_zero (ok:=AQ) (less:=bl) hlt;rw [h1] at hp;try simp only [Bool.false_and,Bool.and_false,Bool.and_true,Bool.and_self] at hp
           change rowAt AQ bl x.values _ = _ at hp;have H1:=I' h1
           first
            | have HN:=I' (gq hall.out hp)
            | have HF:=I' (show uh x = false by rw [HI.out,wU (most:=4) hlt hp];simp)
           clear h1 hp;go_wp2_with fail
           refine aF _ U' U' (aj _) ?_
           repeat (first
            | (apply aG
               case hw=>rfl
               simp only [Act.put,pz])
            | (apply aH
               case hw=>rfl
               case h =>
                intro wq hq;have hcq:=(aB hq).1;have lJ:=(aB hq).2;go_simp
                first
                 | exact ⟨hq,rfl⟩
                 | exact ⟨aQ hq _,rfl⟩
                 | ((refine (vH x.values[0] _ hs1).mono ?_;rw [H1.out];rintro e w2 ⟨rfl,hb2⟩;exact ⟨rfl,aI hq hb2⟩))
                 | (simp only [↓IntWalk.iteOmega];exact ⟨hq,rfl⟩)
               simp only [Act.put,pz]))
           refine aN ?_;intro wn hn;replace hn:=hn.out;go_wp2
           first
            | exact ⟨⟨0+1,O',N',HN.out,((ay hn).1 _ _ hbz).trans hbx,ah hbl hn⟩,by simp [intOf];omega⟩
            | (go_ret;exact ⟨by rw [HF.out];rfl,ah hbl hn⟩)
            | (go_roundw
               case rel=>exact ⟨0+1,O',N',HN.out,((ay hn).1 _ _ hbz).trans hbx,ah hbl hn⟩
               case measure=>simp [intOf];omega)
         ·obtain ⟨b,o,ck,Fk,rfl,o9,hbs,hr,hsub,hc⟩:=(Sl.ext (w':=wr) (A:=jy) (c:=ji) kV hbl).get hlt;obtain ⟨hck,su,hsz⟩:=hr;subst hck su;have q0:wr.cell? ⟨b,o+(j+1),none⟩ = some (.string x.values[j+1]):=(by have:=hc 0 _ rfl;rwa [show o+((j+1) * Dat.size ByteArray+0) = o+(j+1) from by show o+((j+1) * 1+0) = _;omega] at this);clear hc;obtain ⟨b',o',TY,Xw,e,Ht,hbs',hr',zQ,hc'⟩:=Sl.get (Sl.ext (w':=wr) (c:=ji) kV hbl) (show j < x.values.length by omega);obtain ⟨jU,abT,hsz2⟩:=hr';subst jU;obtain ⟨rfl,rfl⟩:b' = b∧o' = o:=by simpa using e.symm
          clear e;have p0:wr.cell? ⟨b',o'+j,none⟩ = some (.string x.values[j]):=(by have:=hc' 0 _ rfl;rwa [show o'+(j * Dat.size ByteArray+0) = o'+j from by show o'+(j * 1+0) = _;omega] at this);clear hc';have hwj:IntKind.i64.wrap (j:Int) = j:=IntWalk.i64_in _ O';have hjl:j < x.values.length:=O';have hs1:=Eo.out x.values[j+1] (List.getElem_mem ..);cases h1:AQ x.values[j+1] <;> cases h3:Op.bytesLess x.values[j].toList x.values[j+1].toList
          all_goals
           have hp:=yS (ok:=AQ) (less:=bl) hlt;unfold bl at hp;rw [h1,h3] at hp;try simp only [Bool.false_and,Bool.and_false,Bool.and_true,Bool.and_self] at hp
           change rowAt AQ bl x.values _ = _ at hp;have H1:=I' h1
           first
            | have HN:=I' (gq hall.out hp)
            | have HF:=I' (show uh x = false by rw [HI.out,wU (most:=4) hlt hp];simp)
           clear h1 hp;go_wp2_with fail
           refine aF _ U' U' (aj _) ?_
           repeat (first
            | (apply aG
               case hw=>rfl
               simp only [Act.put,pz])
            | (apply aH
               case hw=>rfl
               case h =>
                intro wq hq;have hcq:=(aB hq).1;have lJ:=(aB hq).2;go_simp
                first
                 | exact ⟨hq,rfl⟩
                 | exact ⟨aQ hq _,rfl⟩
                 | ((refine (vH x.values[j+1] _ hs1).mono ?_;rw [H1.out];rintro e w2 ⟨rfl,hb2⟩;exact ⟨rfl,aI hq hb2⟩))
                 | (simp only [↓IntWalk.iteOmega];exact ⟨hq,rfl⟩)
               simp only [Act.put,pz]))
           refine aN ?_;intro wn hn;replace hn:=hn.out;go_wp2
           first
            | exact ⟨⟨j+1+1,O',N',HN.out,((ay hn).1 _ _ hbz).trans hbx,ah hbl hn⟩,by simp [intOf];omega⟩
            | (go_ret;exact ⟨by rw [HF.out];rfl,ah hbl hn⟩)
            | (go_roundw
               case rel=>exact ⟨j+1+1,O',N',HN.out,((ay hn).1 _ _ hbz).trans hbx,ah hbl hn⟩
               case measure=>simp [intOf];omega)
        ·have hkl:k = x.values.length:=O';subst hkl;have HF:=I' (show uh x = true by rw [HI.out,Jy hm hall.out];simp [hm1]);exact Zac7
      ·have HF:=I' (show uh x = false by rw [HI.out,Jz (ok:=AQ) (less:=bl) hm];simp);have hd5:decide ((x.values.length:Int)≤4) = false:=(by simp;omega);go_wp2;go_ret
       exact ⟨by rw [HF.out];rfl,hB2⟩
     ·have HF:=I' (show uh x = false by rw [HI.out];simp [hm1]);have hm2:(x.values.length:Int) < 1:=O';go_wp2;go_ret
      exact ⟨by rw [HF.out];rfl,hB2⟩
   ·have HF:=I' (amy hop);clear hK;by_cases h1:x.op < 1
    ·exact Zafa
    ·have h1':1≤x.op:=O';have h4':4 < x.op:=O';have hd4:decide (x.op≤4) = false:=(by simp;omega);exact Zafa
end Go.Proofs.YtkjeocdobidadaaGreat
