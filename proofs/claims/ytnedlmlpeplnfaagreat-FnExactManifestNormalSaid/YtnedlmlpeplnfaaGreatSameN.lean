/- SameNeeds, SameLabels, of the program and of the reference. No condition. -/
import Derived.Test.YtnedlmlpeplnfaaGreatCpP
import Derived.Test.YtnedlmlpeplnfaaGreatNeedLess
import Derived.Test.YtnedlmlpeplnfaaGreatRows2
import Derived.Test.YtnedlmlpeplnfaaGreatInsP
namespace Go.Proofs.YtnedlmlpeplnfaaGreat
open Go.ChangeShapes Go.WideShapes Go.ChangeAt Go.RowKit
set_option linter.unusedVariables false
set_option linter.unusedSimpArgs false
set_option maxHeartbeats 4000000
set_option maxRecDepth 100000
theorem Z5 (x y:Need) (cs ds:List Value) (F G:List Nat) (w:World) (h:rd w x cs F) (h':rd w y ds G) (hl:(x.values.length:Int)≤1048576) (hl':(y.values.length:Int)≤1048576) :
 Calls Tryz.prog 114 #[.agg cs.toArray,.agg ds.toArray] w fun e w'=>e = .returned (.bool (yI x y))∧Below w.heap.size w w':=by
 have hC:=I' (fun wq hq=>UA x y cs ds F G wq (aJ h hq) (aJ h' hq) hl hl');have HE:=I' (ad4 x y);obtain ⟨pX,pY,KG,hck,rfl,xO,hop1,wO⟩:=og h;subst hck;obtain ⟨qO,qP,KL,hck,rfl,vC,hop2,zS⟩:=og h';subst hck;go_enter Tryz.func114,Tryz.ntmps114;go_wp2_with fail
 refine (hC.out _ atS).mono ?_;rintro e w2 ⟨rfl,hb2⟩;go_wp2;go_ret
 exact ⟨by rw [← HE.out];first | rfl | simp,atS⟩
theorem acp (xs ys:List Need) (A B:Option Addr) (c d:Nat) (F G:List Nat) (w:World) (h:Sl w xs A c F) (h':Sl w ys B d G) (hxs:∀l∈xs,(l.values.length:Int)≤1048576) (hys:∀l∈ys,(l.values.length:Int)≤1048576) :
 Calls Tryz.prog 113 #[.slice A xs.length c,.slice B ys.length d,.func (.func 114) #[] #[]] w fun e w'=>e = .returned (.bool (same yI xs ys))∧Below w.heap.size w w':=by
 have hc:=h.cap;unfold maxLen at hc;obtain ⟨hc1,hc2⟩:=hc;have hd:=h'.cap;unfold maxLen at hd;obtain ⟨hd1,hd2⟩:=hd;by_cases hl:xs.length = ys.length
 ·have HL:=I' hl;have hb1:((xs.length:Int) != (ys.length:Int)) = false:=by simp [hl]
  clear hl;go_enter Tryz.func113,Tryz.ntmps113;go_wp2;go_loopw [17] (fun i wr=>∃k:Nat,k≤xs.length∧i = .int .i64 k∧Hid (same yI (xs.take k) (ys.take k) = true)∧Below w.heap.size w wr) (fun i _=>xs.length - (intOf i).toNat)
  case atStart=>exact ⟨0,Nat.zero_le _,rfl,by show _ = true;simp [same],aj _⟩
  case round =>
   obtain ⟨k,hk,rfl,Heq,hbl⟩:=hrel;by_cases hlt:k < xs.length
   ·obtain ⟨b,o,ck,Fk,rfl,o9,hbs,hr,hsub,hc⟩:=(h.ext hbl).get hlt;have hlt':k < ys.length:=(by rw [← HL.out];exact hlt);obtain ⟨b',o',TY,Xw,rfl,Ht,hbs',hr',zQ,hc'⟩:=(h'.ext hbl).get hlt';obtain ⟨pX,pY,KG,hck,rfl,xO,hop1,wO⟩:=og hr;subst hck;obtain ⟨qO,qP,KL,hck,rfl,vC,hop2,zS⟩:=og hr';subst hck;have q0:wr.cell? ⟨b,o+k * 3,none⟩ = some (.string xs[k].key):=(by exact hc 0 _ rfl);have q1:wr.cell? ⟨b,o+k * 3+1,none⟩ = some (.int .i64 xs[k].op):=(by rw [Nat.add_assoc];exact hc 1 _ rfl);have q2:wr.cell? ⟨b,o+k * 3+2,none⟩ = some (.slice pX xs[k].values.length pY):=(by rw [Nat.add_assoc];exact hc 2 _ rfl);have p0:wr.cell? ⟨b',o'+k * 3,none⟩ = some (.string ys[k].key):=(by exact hc' 0 _ rfl);have p1:wr.cell? ⟨b',o'+k * 3+1,none⟩ = some (.int .i64 ys[k].op):=(by rw [Nat.add_assoc];exact hc' 1 _ rfl);have p2:wr.cell? ⟨b',o'+k * 3+2,none⟩ = some (.slice qO ys[k].values.length qP):=(by rw [Nat.add_assoc];exact hc' 2 _ rfl);clear hc hc';cases he:yI xs[k] ys[k] with
    | false =>
      have HE:=I' he;have HS:=I' (nP (k+1) au1 HL.out);clear he;go_wp2_with fail
      refine (Z5 xs[k] ys[k] _ _ _ _ _ (aJ hr atS) (aJ hr' atS) (hxs _ (List.getElem_mem ..)) (hys _ (List.getElem_mem ..))).mono ?_;rw [HE.out];rintro e w2 ⟨rfl,hb2⟩;go_wp2;go_ret
      exact ⟨by rw [HS.out];rfl,atS⟩
    | true =>
      have HE:=I' he;have HS:=I' (show same yI (xs.take (k+1)) (ys.take (k+1)) = true by rw [iC hlt hlt',Heq.out,he];rfl);clear he;go_wp2_with fail
      refine (Z5 xs[k] ys[k] _ _ _ _ _ (aJ hr atS) (aJ hr' atS) (hxs _ (List.getElem_mem ..)) (hys _ (List.getElem_mem ..))).mono ?_;rw [HE.out];rintro e w2 ⟨rfl,hb2⟩;go_wp2;exact ⟨⟨k+1,O',N',HS,atS⟩,by simp [intOf];omega⟩
   ·exact Zaap
 ·have hb1:((xs.length:Int) != (ys.length:Int)) = true:=by simp;omega
  have HL:=I' (qN (eq:=yI) hl);clear hl;go_enter Tryz.func113,Tryz.ntmps113;exact Zabz
theorem QD (xs ys:List Need) (A B:Option Addr) (c d:Nat) (F G:List Nat) (w:World) (h:Sl w xs A c F) (h':Sl w ys B d G) (hxs:∀l∈xs,(l.values.length:Int)≤1048576) (hys:∀l∈ys,(l.values.length:Int)≤1048576) :
 Calls Tryz.prog 54 #[.slice A xs.length c,.slice B ys.length d] w fun e w'=>e = .returned (.bool (same yI xs ys))∧Below w.heap.size w w':=by
 go_enter Tryz.func54,Tryz.ntmps54;go_wp2_with fail
 refine (acp xs ys _ _ _ _ _ _ _ (h.ext atS) (h'.ext atS) hxs hys).mono ?_;rintro e w2 ⟨rfl,hb2⟩;go_wp2;go_ret
 exact ⟨rfl,atS⟩
theorem pI (xs ys:List Label) (A B:Option Addr) (c d:Nat) (F G:List Nat) (w:World) (h:Sl w xs A c F) (h':Sl w ys B d G) :
 Calls Tryz.prog 48 #[.slice A xs.length c,.slice B ys.length d] w fun e w'=>e = .returned (.bool (same vZ xs ys))∧Below w.heap.size w w':=by
 go_enter Tryz.func48,Tryz.ntmps48;go_wp2_with fail
 refine (ahq xs ys _ _ _ _ _ _ _ (h.ext atS) (h'.ext atS)).mono ?_;rintro e w2 ⟨rfl,hb2⟩;go_wp2;go_ret
 exact ⟨rfl,atS⟩
theorem Z4 (a b:Host) (cs ds:List Value) (F G:List Nat) (w:World) (h:rd w a cs F) (h':rd w b ds G) (GY:(a.wt:Int)≤1048576) (hwb:(b.wt:Int)≤1048576) :
 Calls Tryz.prog 20 #[.agg cs.toArray,.agg ds.toArray] w fun e w'=>e = .returned (.bool (ou a b))∧Below w.heap.size w w':=by
 obtain ⟨dU,dV,Ba,kY,kZ,NR,hck,rfl,hname1,jr,IQ,IU,KD,yO⟩:=iy h;subst hck;obtain ⟨bY,bZ,iq,wP,wQ,Qe,hck,rfl,jW,dA,kQ,lg,Nh,Bd⟩:=iy h';subst hck;clear GY hwb;cases e0:(a.name.toList == b.name.toList) with
 | false =>
   have HF:=I' (show ou a b = false by simp only [ou,e0,Bool.and_false,Bool.false_and,Bool.true_and,Bool.and_true]);have n0:(a.name.toList != b.name.toList) = true:=(by rw [bne,e0];rfl);go_enter Tryz.func20,Tryz.ntmps20;go_wp2_with (fail)
   go_ret
   exact ⟨by rw [HF.out];rfl,atS⟩
 | true =>
   cases e1:same vZ a.labels b.labels with
   | false =>have HF:=I' (show ou a b = false by simp only [ou,e0,e1,Bool.and_false,Bool.false_and,Bool.true_and,Bool.and_true]);have n0:(a.name.toList != b.name.toList) = false:=(by rw [bne,e0];rfl);have LH:=I' e1;clear e1;go_enter Tryz.func20,Tryz.ntmps20;exact Zaal
   | true =>
     cases e2:(a.cpu == b.cpu) with
     | false =>have HF:=I' (show ou a b = false by simp only [ou,e0,e1,e2,Bool.and_false,Bool.false_and,Bool.true_and,Bool.and_true]);have n0:(a.name.toList != b.name.toList) = false:=(by rw [bne,e0];rfl);have LH:=I' e1;clear e1;have n2:(a.cpu != b.cpu) = true:=(by rw [bne,e2];rfl);go_enter Tryz.func20,Tryz.ntmps20;exact Zaal
     | true =>
       cases e3:(a.mem == b.mem) with
       | false =>have HF:=I' (show ou a b = false by simp only [ou,e0,e1,e2,e3,Bool.and_false,Bool.false_and,Bool.true_and,Bool.and_true]);have n0:(a.name.toList != b.name.toList) = false:=(by rw [bne,e0];rfl);have LH:=I' e1;clear e1;have n2:(a.cpu != b.cpu) = false:=(by rw [bne,e2];rfl);have n3:(a.mem != b.mem) = true:=(by rw [bne,e3];rfl);go_enter Tryz.func20,Tryz.ntmps20;exact Zaal
       | true =>
         cases e4:(a.slots == b.slots) with
         | false =>have HF:=I' (show ou a b = false by simp only [ou,e0,e1,e2,e3,e4,Bool.and_false,Bool.false_and,Bool.true_and,Bool.and_true]);have n0:(a.name.toList != b.name.toList) = false:=(by rw [bne,e0];rfl);have LH:=I' e1;clear e1;have n2:(a.cpu != b.cpu) = false:=(by rw [bne,e2];rfl);have n3:(a.mem != b.mem) = false:=(by rw [bne,e3];rfl);have n4:(a.slots != b.slots) = true:=(by rw [bne,e4];rfl);go_enter Tryz.func20,Tryz.ntmps20;exact Zaal
         | true =>
           cases e5:same Aq a.aT b.aT with
           | false =>have HF:=I' (show ou a b = false by simp only [ou,e0,e1,e2,e3,e4,e5,Bool.and_false,Bool.false_and,Bool.true_and,Bool.and_true]);exact Zaau
           | true =>have HF:=I' (show ou a b = true by simp only [ou,e0,e1,e2,e3,e4,e5,Bool.and_false,Bool.false_and,Bool.true_and,Bool.and_true]);exact Zaau
theorem aco (a b:nI) (cs ds:List Value) (F G:List Nat) (w:World) (h:rd w a cs F) (h':rd w b ds G) (GY:(a.wt:Int)≤1048576) (hwb:(b.wt:Int)≤1048576) :
 Calls Tryz.prog 22 #[.agg cs.toArray,.agg ds.toArray] w fun e w'=>e = .returned (.bool (vF a b))∧Below w.heap.size w w':=by
 have HVA:=I' (fun l hl=>((Aa (xs:=a.needs) (by have e:a.wt = a.name.size+kL Label.wt a.labels+kL Need.wt a.needs+kL bH.wt a.tolerances:=rfl;omega)).2 l hl).2.1);have HVB:=I' (fun l hl=>((Aa (xs:=b.needs) (by have e:b.wt = b.name.size+kL Label.wt b.labels+kL Need.wt b.needs+kL bH.wt b.tolerances:=rfl;omega)).2 l hl).2.1);obtain ⟨dU,dV,Ba,mJ,mM,Vb,fK,fM,Fz,hck,rfl,hname1,jr,IQ,IU,Sj,Bv,qc⟩:=dL h;subst hck;obtain ⟨bY,bZ,iq,eU,eX,jV,bg,bn,dK,hck,rfl,jW,dA,kQ,lg,lG,iO,bK⟩:=dL h';subst hck;clear GY hwb;cases e0:(a.name.toList == b.name.toList) with
 | false =>
   have HF:=I' (show vF a b = false by simp only [vF,e0,Bool.and_false,Bool.false_and,Bool.true_and,Bool.and_true]);have n0:(a.name.toList != b.name.toList) = true:=(by rw [bne,e0];rfl);go_enter Tryz.func22,Tryz.ntmps22;go_wp2_with (fail)
   go_ret
   exact ⟨by rw [HF.out];rfl,atS⟩
 | true =>
   cases e1:same vZ a.labels b.labels with
   | false =>have HF:=I' (show vF a b = false by simp only [vF,e0,e1,Bool.and_false,Bool.false_and,Bool.true_and,Bool.and_true]);have n0:(a.name.toList != b.name.toList) = false:=(by rw [bne,e0];rfl);have LH:=I' e1;clear e1;go_enter Tryz.func22,Tryz.ntmps22;exact Zaal
   | true =>
     cases e2:(a.cpu == b.cpu) with
     | false =>have HF:=I' (show vF a b = false by simp only [vF,e0,e1,e2,Bool.and_false,Bool.false_and,Bool.true_and,Bool.and_true]);have n0:(a.name.toList != b.name.toList) = false:=(by rw [bne,e0];rfl);have LH:=I' e1;clear e1;have n2:(a.cpu != b.cpu) = true:=(by rw [bne,e2];rfl);go_enter Tryz.func22,Tryz.ntmps22;exact Zaal
     | true =>
       cases e3:(a.mem == b.mem) with
       | false =>have HF:=I' (show vF a b = false by simp only [vF,e0,e1,e2,e3,Bool.and_false,Bool.false_and,Bool.true_and,Bool.and_true]);have n0:(a.name.toList != b.name.toList) = false:=(by rw [bne,e0];rfl);have LH:=I' e1;clear e1;have n2:(a.cpu != b.cpu) = false:=(by rw [bne,e2];rfl);have n3:(a.mem != b.mem) = true:=(by rw [bne,e3];rfl);go_enter Tryz.func22,Tryz.ntmps22;exact Zaal
       | true =>
         cases e4:(a.rank == b.rank) with
         | false =>have HF:=I' (show vF a b = false by simp only [vF,e0,e1,e2,e3,e4,Bool.and_false,Bool.false_and,Bool.true_and,Bool.and_true]);have n0:(a.name.toList != b.name.toList) = false:=(by rw [bne,e0];rfl);have LH:=I' e1;clear e1;have n2:(a.cpu != b.cpu) = false:=(by rw [bne,e2];rfl);have n3:(a.mem != b.mem) = false:=(by rw [bne,e3];rfl);have n4:(a.rank != b.rank) = true:=(by rw [bne,e4];rfl);go_enter Tryz.func22,Tryz.ntmps22;exact Zaal
         | true =>
           cases e5:same yI a.needs b.needs with
           | false =>
             have HF:=I' (show vF a b = false by simp only [vF,e0,e1,e2,e3,e4,e5,Bool.and_false,Bool.false_and,Bool.true_and,Bool.and_true]);have n0:(a.name.toList != b.name.toList) = false:=(by rw [bne,e0];rfl);have LH:=I' e1;clear e1;have n2:(a.cpu != b.cpu) = false:=(by rw [bne,e2];rfl);have n3:(a.mem != b.mem) = false:=(by rw [bne,e3];rfl);have n4:(a.rank != b.rank) = false:=(by rw [bne,e4];rfl);have HE5:=I' e5;clear e5;go_enter Tryz.func22,Tryz.ntmps22;go_wp2_with (first | (go_at_call 48;refine (pI a.labels b.labels _ _ _ _ _ _ _ (jr.ext atS) (dA.ext atS)).mono ?_;rw [LH.out];rintro e w1 ⟨rfl,hb1⟩;obtain ⟨hc1,hf1⟩:=ay hb1;have zO:w.heap.size < w1.heap.size:=(sq hb1.size);have CO:w.heap.size+1 < w1.heap.size:=(sq hb1.size)) | (go_at_call 54;refine (QD a.needs b.needs _ _ _ _ _ _ _ (Bv.ext atS) (iO.ext atS) HVA.out HVB.out).mono ?_;rw [HE5.out];rintro e w5 ⟨rfl,hb5⟩;obtain ⟨hc5,hf5⟩:=ay hb5;have Sm:w.heap.size < w5.heap.size:=(sq hb5.size);have WW:w.heap.size+1 < w5.heap.size:=(sq hb5.size)))
             go_ret
             exact ⟨by rw [HF.out];rfl,atS⟩
           | true =>
             cases e6:same oP a.tolerances b.tolerances with
             | false =>have HF:=I' (show vF a b = false by simp only [vF,e0,e1,e2,e3,e4,e5,e6,Bool.and_false,Bool.false_and,Bool.true_and,Bool.and_true]);exact Zaao
             | true =>have HF:=I' (show vF a b = true by simp only [vF,e0,e1,e2,e3,e4,e5,e6,Bool.and_false,Bool.false_and,Bool.true_and,Bool.and_true]);exact Zaao
end Go.Proofs.YtnedlmlpeplnfaaGreat
