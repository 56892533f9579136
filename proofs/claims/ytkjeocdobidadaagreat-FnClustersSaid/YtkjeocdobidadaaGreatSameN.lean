/- SameNeeds, SameLabels, of the program and of the reference. No condition. -/
import Derived.Test.YtkjeocdobidadaaGreatCpP
import Derived.Test.YtkjeocdobidadaaGreatUsed
import Derived.Test.YtkjeocdobidadaaGreatKeys
import Derived.Test.YtkjeocdobidadaaGreatLabAt
namespace Go.Proofs.YtkjeocdobidadaaGreat
open Go.ChangeShapes Go.WideShapes Go.ChangeAt Go.RowKit
set_option linter.unusedVariables false
set_option linter.unusedSimpArgs false
set_option maxHeartbeats 4000000
set_option maxRecDepth 100000
theorem Z5 (x y:Need) (cs ds:List Value) (F G:List Nat) (w:World) (h:rd w x cs F) (h':rd w y ds G) (hl:(x.values.length:Int)≤1048576) (hl':(y.values.length:Int)≤1048576) :
 Calls Tryz.prog 162 #[.agg cs.toArray,.agg ds.toArray] w fun e w'=>e = .returned (.bool (yI x y))∧Below w.heap.size w w':=by
 have hC:=I' (fun wq hq=>UA x y cs ds F G wq (aJ h hq) (aJ h' hq) hl hl');have HE:=I' (ad4 x y);obtain ⟨pX,pY,KG,hck,rfl,xO,hop1,wO⟩:=og h;subst hck;obtain ⟨qO,qP,KL,hck,rfl,vC,hop2,zS⟩:=og h';subst hck;go_enter Tryz.func162,Tryz.ntmps162;go_wp2_with fail
 refine (hC.out _ atS).mono ?_;rintro e w2 ⟨rfl,hb2⟩;go_wp2;go_ret
 exact ⟨by rw [← HE.out];first | rfl | simp,atS⟩
theorem acp (xs ys:List Need) (A B:Option Addr) (c d:Nat) (F G:List Nat) (w:World) (h:Sl w xs A c F) (h':Sl w ys B d G) (hxs:∀l∈xs,(l.values.length:Int)≤1048576) (hys:∀l∈ys,(l.values.length:Int)≤1048576) :
 Calls Tryz.prog 161 #[.slice A xs.length c,.slice B ys.length d,.func (.func 162) #[] #[]] w fun e w'=>e = .returned (.bool (same yI xs ys))∧Below w.heap.size w w':=by
 have hc:=h.cap;unfold maxLen at hc;obtain ⟨hc1,hc2⟩:=hc;have hd:=h'.cap;unfold maxLen at hd;obtain ⟨hd1,hd2⟩:=hd;by_cases hl:xs.length = ys.length
 ·have HL:=I' hl;have hb1:((xs.length:Int) != (ys.length:Int)) = false:=by simp [hl]
  clear hl;go_enter Tryz.func161,Tryz.ntmps161;go_wp2;go_loopw [17] (fun i wr=>∃k:Nat,k≤xs.length∧i = .int .i64 k∧Hid (same yI (xs.take k) (ys.take k) = true)∧Below w.heap.size w wr) (fun i _=>xs.length - (intOf i).toNat)
  case atStart=>exact ⟨0,Nat.zero_le _,rfl,by show _ = true;simp [same],aj _⟩
  case round =>
   obtain ⟨k,hk,rfl,Heq,hbl⟩:=hrel;by_cases hlt:k < xs.length
   ·obtain ⟨b,o,ck,Fk,rfl,o9,hbs,hr,hsub,hc⟩:=(h.ext hbl).get hlt;have hlt':k < ys.length:=(by rw [← HL.out];exact hlt);obtain ⟨b',o',TY,Xw,rfl,Ht,hbs',hr',zQ,hc'⟩:=(h'.ext hbl).get hlt';obtain ⟨pX,pY,KG,hck,rfl,xO,hop1,wO⟩:=og hr;subst hck;obtain ⟨qO,qP,KL,hck,rfl,vC,hop2,zS⟩:=og hr';subst hck;have q0:wr.cell? ⟨b,o+k * 3,none⟩ = some (.string xs[k].key):=(by exact hc 0 _ rfl);have q1:wr.cell? ⟨b,o+k * 3+1,none⟩ = some (.int .i64 xs[k].op):=(by rw [Nat.add_assoc];exact hc 1 _ rfl);have q2:wr.cell? ⟨b,o+k * 3+2,none⟩ = some (.slice pX xs[k].values.length pY):=(by rw [Nat.add_assoc];exact hc 2 _ rfl);have p0:wr.cell? ⟨b',o'+k * 3,none⟩ = some (.string ys[k].key):=(by exact hc' 0 _ rfl);have p1:wr.cell? ⟨b',o'+k * 3+1,none⟩ = some (.int .i64 ys[k].op):=(by rw [Nat.add_assoc];exact hc' 1 _ rfl);have p2:wr.cell? ⟨b',o'+k * 3+2,none⟩ = some (.slice qO ys[k].values.length qP):=(by rw [Nat.add_assoc];exact hc' 2 _ rfl);clear hc hc';cases he:yI xs[k] ys[k] with
    | false =>
      have HE:=I' he;have HS:=I' (nP (k+1) au1 HL.out);clear he;go_wp2_with fail
      refine (Z5 xs[k] ys[k] _ _ _ _ _ (aJ hr atS) (aJ hr' atS) (hxs _ (List.getElem_mem ..)) (hys _ (List.getElem_mem ..))).mono ?_;exact Zadc
    | true =>
      have HE:=I' he;have HS:=I' (show same yI (xs.take (k+1)) (ys.take (k+1)) = true by rw [iC hlt hlt',Heq.out,he];rfl);clear he;go_wp2_with fail
      refine (Z5 xs[k] ys[k] _ _ _ _ _ (aJ hr atS) (aJ hr' atS) (hxs _ (List.getElem_mem ..)) (hys _ (List.getElem_mem ..))).mono ?_;exact Zac8
   ·exact Zab0
 ·have hb1:((xs.length:Int) != (ys.length:Int)) = true:=by simp;omega
  have HL:=I' (qN (eq:=yI) hl);clear hl;go_enter Tryz.func161,Tryz.ntmps161;exact Zadk
theorem QD (xs ys:List Need) (A B:Option Addr) (c d:Nat) (F G:List Nat) (w:World) (h:Sl w xs A c F) (h':Sl w ys B d G) (hxs:∀l∈xs,(l.values.length:Int)≤1048576) (hys:∀l∈ys,(l.values.length:Int)≤1048576) :
 Calls Tryz.prog 114 #[.slice A xs.length c,.slice B ys.length d] w fun e w'=>e = .returned (.bool (same yI xs ys))∧Below w.heap.size w w':=by
 go_enter Tryz.func114,Tryz.ntmps114;go_wp2_with fail
 refine (acp xs ys _ _ _ _ _ _ _ (h.ext atS) (h'.ext atS) hxs hys).mono ?_;rintro e w2 ⟨rfl,hb2⟩;go_wp2;go_ret
 exact ⟨rfl,atS⟩
theorem pI (xs ys:List Label) (A B:Option Addr) (c d:Nat) (F G:List Nat) (w:World) (h:Sl w xs A c F) (h':Sl w ys B d G) :
 Calls Tryz.prog 113 #[.slice A xs.length c,.slice B ys.length d] w fun e w'=>e = .returned (.bool (same vZ xs ys))∧Below w.heap.size w w':=by
 go_enter Tryz.func113,Tryz.ntmps113;go_wp2_with fail
 refine (ahq xs ys _ _ _ _ _ _ _ (h.ext atS) (h'.ext atS)).mono ?_;rintro e w2 ⟨rfl,hb2⟩;go_wp2;go_ret
 exact ⟨rfl,atS⟩
theorem Z4 (a b:Host) (cs ds:List Value) (F G:List Nat) (w:World) (h:rd w a cs F) (h':rd w b ds G) (GY:(a.wt:Int)≤1048576) (hwb:(b.wt:Int)≤1048576) :
 Calls Tryz.prog 68 #[.agg cs.toArray,.agg ds.toArray] w fun e w'=>e = .returned (.bool (ou a b))∧Below w.heap.size w w':=by
 obtain ⟨dU,dV,Ba,kY,kZ,NR,hck,rfl,hname1,jr,IQ,IU,KD,yO⟩:=iy h;subst hck;obtain ⟨bY,bZ,iq,wP,wQ,Qe,hck,rfl,jW,dA,kQ,lg,Nh,Bd⟩:=iy h';subst hck;clear GY hwb;cases e0:(a.name.toList == b.name.toList) with
 | false =>have HF:=I' (show ou a b = false by simp only [ou,e0,Bool.and_false,Bool.false_and,Bool.true_and,Bool.and_true]);have n0:(a.name.toList != b.name.toList) = true:=(by rw [bne,e0];rfl);go_enter Tryz.func68,Tryz.ntmps68;exact Zadr
 | true =>
   cases e1:same vZ a.labels b.labels with
   | false =>have HF:=I' (show ou a b = false by simp only [ou,e0,e1,Bool.and_false,Bool.false_and,Bool.true_and,Bool.and_true]);have n0:(a.name.toList != b.name.toList) = false:=(by rw [bne,e0];rfl);have LH:=I' e1;clear e1;go_enter Tryz.func68,Tryz.ntmps68;exact Zaa9
   | true =>
     cases e2:(a.cpu == b.cpu) with
     | false =>have HF:=I' (show ou a b = false by simp only [ou,e0,e1,e2,Bool.and_false,Bool.false_and,Bool.true_and,Bool.and_true]);have n0:(a.name.toList != b.name.toList) = false:=(by rw [bne,e0];rfl);have LH:=I' e1;clear e1;have n2:(a.cpu != b.cpu) = true:=(by rw [bne,e2];rfl);go_enter Tryz.func68,Tryz.ntmps68;exact Zaa9
     | true =>
       cases e3:(a.mem == b.mem) with
       | false =>have HF:=I' (show ou a b = false by simp only [ou,e0,e1,e2,e3,Bool.and_false,Bool.false_and,Bool.true_and,Bool.and_true]);have n0:(a.name.toList != b.name.toList) = false:=(by rw [bne,e0];rfl);have LH:=I' e1;clear e1;have n2:(a.cpu != b.cpu) = false:=(by rw [bne,e2];rfl);have n3:(a.mem != b.mem) = true:=(by rw [bne,e3];rfl);go_enter Tryz.func68,Tryz.ntmps68;exact Zaa9
       | true =>
         cases e4:(a.slots == b.slots) with
         | false =>have HF:=I' (show ou a b = false by simp only [ou,e0,e1,e2,e3,e4,Bool.and_false,Bool.false_and,Bool.true_and,Bool.and_true]);have n0:(a.name.toList != b.name.toList) = false:=(by rw [bne,e0];rfl);have LH:=I' e1;clear e1;have n2:(a.cpu != b.cpu) = false:=(by rw [bne,e2];rfl);have n3:(a.mem != b.mem) = false:=(by rw [bne,e3];rfl);have n4:(a.slots != b.slots) = true:=(by rw [bne,e4];rfl);go_enter Tryz.func68,Tryz.ntmps68;exact Zaa9
         | true =>
           cases e5:same Aq a.aT b.aT with
           | false =>have HF:=I' (show ou a b = false by simp only [ou,e0,e1,e2,e3,e4,e5,Bool.and_false,Bool.false_and,Bool.true_and,Bool.and_true]);exact Zabw
           | true =>have HF:=I' (show ou a b = true by simp only [ou,e0,e1,e2,e3,e4,e5,Bool.and_false,Bool.false_and,Bool.true_and,Bool.and_true]);exact Zabw
theorem aco (a b:nI) (cs ds:List Value) (F G:List Nat) (w:World) (h:rd w a cs F) (h':rd w b ds G) (GY:(a.wt:Int)≤1048576) (hwb:(b.wt:Int)≤1048576) :
 Calls Tryz.prog 66 #[.agg cs.toArray,.agg ds.toArray] w fun e w'=>e = .returned (.bool (vF a b))∧Below w.heap.size w w':=by
 have HVA:=I' (fun l hl=>((Aa (xs:=a.needs) (by have e:a.wt = a.name.size+kL Label.wt a.labels+kL Need.wt a.needs+kL bH.wt a.tolerances:=rfl;omega)).2 l hl).2.1);have HVB:=I' (fun l hl=>((Aa (xs:=b.needs) (by have e:b.wt = b.name.size+kL Label.wt b.labels+kL Need.wt b.needs+kL bH.wt b.tolerances:=rfl;omega)).2 l hl).2.1);obtain ⟨dU,dV,Ba,mJ,mM,Vb,fK,fM,Fz,hck,rfl,hname1,jr,IQ,IU,Sj,Bv,qc⟩:=dL h;subst hck;obtain ⟨bY,bZ,iq,eU,eX,jV,bg,bn,dK,hck,rfl,jW,dA,kQ,lg,lG,iO,bK⟩:=dL h';subst hck;clear GY hwb;cases e0:(a.name.toList == b.name.toList) with
 | false =>have HF:=I' (show vF a b = false by simp only [vF,e0,Bool.and_false,Bool.false_and,Bool.true_and,Bool.and_true]);have n0:(a.name.toList != b.name.toList) = true:=(by rw [bne,e0];rfl);go_enter Tryz.func66,Tryz.ntmps66;exact Zadr
 | true =>
   cases e1:same vZ a.labels b.labels with
   | false =>have HF:=I' (show vF a b = false by simp only [vF,e0,e1,Bool.and_false,Bool.false_and,Bool.true_and,Bool.and_true]);have n0:(a.name.toList != b.name.toList) = false:=(by rw [bne,e0];rfl);have LH:=I' e1;clear e1;go_enter Tryz.func66,Tryz.ntmps66;exact Zaa9
   | true =>
     cases e2:(a.cpu == b.cpu) with
     | false =>have HF:=I' (show vF a b = false by simp only [vF,e0,e1,e2,Bool.and_false,Bool.false_and,Bool.true_and,Bool.and_true]);have n0:(a.name.toList != b.name.toList) = false:=(by rw [bne,e0];rfl);have LH:=I' e1;clear e1;have n2:(a.cpu != b.cpu) = true:=(by rw [bne,e2];rfl);go_enter Tryz.func66,Tryz.ntmps66;exact Zaa9
     | true =>
       cases e3:(a.mem == b.mem) with
       | false =>have HF:=I' (show vF a b = false by simp only [vF,e0,e1,e2,e3,Bool.and_false,Bool.false_and,Bool.true_and,Bool.and_true]);have n0:(a.name.toList != b.name.toList) = false:=(by rw [bne,e0];rfl);have LH:=I' e1;clear e1;have n2:(a.cpu != b.cpu) = false:=(by rw [bne,e2];rfl);have n3:(a.mem != b.mem) = true:=(by rw [bne,e3];rfl);go_enter Tryz.func66,Tryz.ntmps66;exact Zaa9
       | true =>
         cases e4:(a.rank == b.rank) with
         | false =>have HF:=I' (show vF a b = false by simp only [vF,e0,e1,e2,e3,e4,Bool.and_false,Bool.false_and,Bool.true_and,Bool.and_true]);have n0:(a.name.toList != b.name.toList) = false:=(by rw [bne,e0];rfl);have LH:=I' e1;clear e1;have n2:(a.cpu != b.cpu) = false:=(by rw [bne,e2];rfl);have n3:(a.mem != b.mem) = false:=(by rw [bne,e3];rfl);have n4:(a.rank != b.rank) = true:=(by rw [bne,e4];rfl);go_enter Tryz.func66,Tryz.ntmps66;exact Zaa9
         | true =>
           cases e5:same yI a.needs b.needs with
           | false =>
             have HF:=I' (show vF a b = false by simp only [vF,e0,e1,e2,e3,e4,e5,Bool.and_false,Bool.false_and,Bool.true_and,Bool.and_true]);have n0:(a.name.toList != b.name.toList) = false:=(by rw [bne,e0];rfl);have LH:=I' e1;clear e1;have n2:(a.cpu != b.cpu) = false:=(by rw [bne,e2];rfl);have n3:(a.mem != b.mem) = false:=(by rw [bne,e3];rfl);have n4:(a.rank != b.rank) = false:=(by rw [bne,e4];rfl);have HE5:=I' e5;clear e5;go_enter Tryz.func66,Tryz.ntmps66;go_wp2_with (first | (go_at_call 113;refine (pI a.labels b.labels _ _ _ _ _ _ _ (jr.ext atS) (dA.ext atS)).mono ?_;rw [LH.out];rintro e w1 ⟨rfl,hb1⟩;obtain ⟨hc1,hf1⟩:=ay hb1;have zO:w.heap.size < w1.heap.size:=(sq hb1.size);have CO:w.heap.size+1 < w1.heap.size:=(sq hb1.size)) | (go_at_call 114;refine (QD a.needs b.needs _ _ _ _ _ _ _ (Bv.ext atS) (iO.ext atS) HVA.out HVB.out).mono ?_;rw [HE5.out];rintro e w5 ⟨rfl,hb5⟩;obtain ⟨hc5,hf5⟩:=ay hb5;have Sm:w.heap.size < w5.heap.size:=(sq hb5.size);have WW:w.heap.size+1 < w5.heap.size:=(sq hb5.size)))
             go_ret
             exact ⟨by rw [HF.out];rfl,atS⟩
           | true =>
             cases e6:same oP a.tolerances b.tolerances with
             | false =>have HF:=I' (show vF a b = false by simp only [vF,e0,e1,e2,e3,e4,e5,e6,Bool.and_false,Bool.false_and,Bool.true_and,Bool.and_true]);exact Zabh
             | true =>have HF:=I' (show vF a b = true by simp only [vF,e0,e1,e2,e3,e4,e5,e6,Bool.and_false,Bool.false_and,Bool.true_and,Bool.and_true]);exact Zabh
theorem Yq (x y:Placed) (cs ds:List Value) (F G:List Nat) (w:World) (h:rd w x cs F) (h':rd w y ds G) (GY:(Placed.wt x:Int)≤1048576) (hwb:(Placed.wt y:Int)≤1048576) :
 Calls Tryz.prog 65 #[.agg cs.toArray,.agg ds.toArray] w fun e w'=>e = .returned (.bool (lX x y))∧Below w.heap.size w w':=by
 have HWA:=I' (show (nI.wt x.aS:Int)≤1048576 by have e:Placed.wt x = nI.wt x.aS+x.on.size:=rfl;omega);have HWB:=I' (show (nI.wt y.aS:Int)≤1048576 by have e:Placed.wt y = nI.wt y.aS+y.on.size:=rfl;omega);have hr4:=h;have hr5:=h';obtain ⟨pO,pR,EY,rH,rJ,He,kT,kU,yu,hck,rfl,Dq,yw,FW,FX,Dt,Az,qH,anH,afa⟩:=kE h;subst hck;obtain ⟨mZ,ng,DX,oL,oM,FC,jG,jH,wu,hck,rfl,Ci,wR,EM,EN,Cj,yU,pF,OW,Zt⟩:=kE h';subst hck;obtain ⟨yR,don,Gpod1,Gon,hdc,hdG,kG,_⟩:=hr4;have hpa:rd w x.aS [.string x.aS.name,.slice pO x.aS.labels.length pR,.int .i64 x.aS.cpu,.int .i64 x.aS.mem,.int .i64 x.aS.rank,.slice rH x.aS.needs.length rJ,.slice kT x.aS.tolerances.length kU] Gpod1:=by exact Zabu
 clear hdc hdG kG;obtain ⟨yR,don,Gpod2,Gon,hdc,hdG,kG,_⟩:=hr5;have hpb:rd w y.aS [.string y.aS.name,.slice mZ y.aS.labels.length ng,.int .i64 y.aS.cpu,.int .i64 y.aS.mem,.int .i64 y.aS.rank,.slice oL y.aS.needs.length oM,.slice jG y.aS.tolerances.length jH] Gpod2:=by
  exact Zabu
 clear hdc hdG kG;have HPA:=I' hpa;have HPB:=I' hpb;clear hpa hpb GY hwb;cases e0:(x.on.toList == y.on.toList) with
 | false =>have HF:=I' (show lX x y = false by simp only [lX,e0,Bool.and_false,Bool.false_and,Bool.true_and,Bool.and_true]);have n0:(x.on.toList != y.on.toList) = true:=(by rw [bne,e0];rfl);go_enter Tryz.func65,Tryz.ntmps65;exact Zadr
 | true =>
   cases e1:(x.seq == y.seq) with
   | false =>have HF:=I' (show lX x y = false by simp only [lX,e0,e1,Bool.and_false,Bool.false_and,Bool.true_and,Bool.and_true]);have n0:(x.on.toList != y.on.toList) = false:=(by rw [bne,e0];rfl);have n1:(x.seq != y.seq) = true:=(by rw [bne,e1];rfl);go_enter Tryz.func65,Tryz.ntmps65;exact Zadr
   | true =>
     cases e2:vF x.aS y.aS with
     | false =>have HF:=I' (show lX x y = false by simp only [lX,e0,e1,e2,Bool.and_false,Bool.false_and,Bool.true_and,Bool.and_true]);exact Zacp
     | true =>have HF:=I' (show lX x y = true by simp only [lX,e0,e1,e2,Bool.and_false,Bool.false_and,Bool.true_and,Bool.and_true]);exact Zacp
theorem Ea (xs ys:List Host) (A B:Option Addr) (c d:Nat) (F G:List Nat) (w:World) (h:Sl w xs A c F) (h':Sl w ys B d G) (hxs:∀l∈xs,(Host.wt l:Int)≤1048576) (hys:∀l∈ys,(Host.wt l:Int)≤1048576) :
 Calls Tryz.prog 67 #[.slice A xs.length c,.slice B ys.length d,.func (.func 68) #[] #[]] w fun e w'=>e = .returned (.bool (same ou xs ys))∧Below w.heap.size w w':=by
 have hc:=h.cap;unfold maxLen at hc;obtain ⟨hc1,hc2⟩:=hc;have hd:=h'.cap;unfold maxLen at hd;obtain ⟨hd1,hd2⟩:=hd;by_cases hl:xs.length = ys.length
 ·have HL:=I' hl;have hb1:((xs.length:Int) != (ys.length:Int)) = false:=by simp [hl]
  clear hl;go_enter Tryz.func67,Tryz.ntmps67;go_wp2;go_loopw [17] (fun i wr=>∃k:Nat,k≤xs.length∧i = .int .i64 k∧Hid (same ou (xs.take k) (ys.take k) = true)∧Below w.heap.size w wr) (fun i _=>xs.length - (intOf i).toNat)
  case atStart=>exact ⟨0,Nat.zero_le _,rfl,by show _ = true;simp [same],aj _⟩
  case round =>
   obtain ⟨k,hk,rfl,Heq,hbl⟩:=hrel;by_cases hlt:k < xs.length
   ·obtain ⟨b,o,ck,Fk,rfl,o9,hbs,hr,hsub,hc⟩:=(h.ext hbl).get hlt;have hlt':k < ys.length:=(by rw [← HL.out];exact hlt);obtain ⟨b',o',TY,Xw,rfl,Ht,hbs',hr',zQ,hc'⟩:=(h'.ext hbl).get hlt';obtain ⟨dU,dV,Ba,kY,kZ,NR,hck,rfl,hname1,jr,IQ,IU,KD,yO⟩:=iy hr;subst hck;obtain ⟨bY,bZ,iq,wP,wQ,Qe,hck,rfl,jW,dA,kQ,lg,Nh,Bd⟩:=iy hr';subst hck;have q0:wr.cell? ⟨b,o+k * 6,none⟩ = some (.string xs[k].name):=(by exact hc 0 _ rfl);have q1:wr.cell? ⟨b,o+k * 6+1,none⟩ = some (.slice dU xs[k].labels.length dV):=(by rw [Nat.add_assoc];exact hc 1 _ rfl);have q2:wr.cell? ⟨b,o+k * 6+2,none⟩ = some (.int .i64 xs[k].cpu):=(by rw [Nat.add_assoc];exact hc 2 _ rfl);have q3:wr.cell? ⟨b,o+k * 6+3,none⟩ = some (.int .i64 xs[k].mem):=(by rw [Nat.add_assoc];exact hc 3 _ rfl);have q4:wr.cell? ⟨b,o+k * 6+4,none⟩ = some (.int .i64 xs[k].slots):=(by rw [Nat.add_assoc];exact hc 4 _ rfl);have q5:wr.cell? ⟨b,o+k * 6+5,none⟩ = some (.slice kY xs[k].aT.length kZ):=(by rw [Nat.add_assoc];exact hc 5 _ rfl);have p0:wr.cell? ⟨b',o'+k * 6,none⟩ = some (.string ys[k].name):=(by exact hc' 0 _ rfl);have p1:wr.cell? ⟨b',o'+k * 6+1,none⟩ = some (.slice bY ys[k].labels.length bZ):=(by rw [Nat.add_assoc];exact hc' 1 _ rfl);have p2:wr.cell? ⟨b',o'+k * 6+2,none⟩ = some (.int .i64 ys[k].cpu):=(by rw [Nat.add_assoc];exact hc' 2 _ rfl);have p3:wr.cell? ⟨b',o'+k * 6+3,none⟩ = some (.int .i64 ys[k].mem):=(by rw [Nat.add_assoc];exact hc' 3 _ rfl);have p4:wr.cell? ⟨b',o'+k * 6+4,none⟩ = some (.int .i64 ys[k].slots):=(by rw [Nat.add_assoc];exact hc' 4 _ rfl);have p5:wr.cell? ⟨b',o'+k * 6+5,none⟩ = some (.slice wP ys[k].aT.length wQ):=(by rw [Nat.add_assoc];exact hc' 5 _ rfl);clear hc hc';cases he:ou xs[k] ys[k] with
    | false =>
      have HE:=I' he;have HS:=I' (nP (k+1) au1 HL.out);clear he;go_wp2_with fail
      refine (Z4 xs[k] ys[k] _ _ _ _ _ (aJ hr atS) (aJ hr' atS) (hxs _ (List.getElem_mem ..)) (hys _ (List.getElem_mem ..))).mono ?_;exact Zadc
    | true =>
      have HE:=I' he;have HS:=I' (show same ou (xs.take (k+1)) (ys.take (k+1)) = true by rw [iC hlt hlt',Heq.out,he];rfl);clear he;go_wp2_with fail
      refine (Z4 xs[k] ys[k] _ _ _ _ _ (aJ hr atS) (aJ hr' atS) (hxs _ (List.getElem_mem ..)) (hys _ (List.getElem_mem ..))).mono ?_;exact Zac8
   ·exact Zab0
 ·have hb1:((xs.length:Int) != (ys.length:Int)) = true:=by simp;omega
  have HL:=I' (qN (eq:=ou) hl);clear hl;go_enter Tryz.func67,Tryz.ntmps67;exact Zadk
theorem EH (xs ys:List Placed) (A B:Option Addr) (c d:Nat) (F G:List Nat) (w:World) (h:Sl w xs A c F) (h':Sl w ys B d G) (hxs:∀l∈xs,(Placed.wt l:Int)≤1048576) (hys:∀l∈ys,(Placed.wt l:Int)≤1048576) :
 Calls Tryz.prog 69 #[.slice A xs.length c,.slice B ys.length d,.func (.func 65) #[] #[]] w fun e w'=>e = .returned (.bool (same lX xs ys))∧Below w.heap.size w w':=by
 have hc:=h.cap;unfold maxLen at hc;obtain ⟨hc1,hc2⟩:=hc;have hd:=h'.cap;unfold maxLen at hd;obtain ⟨hd1,hd2⟩:=hd;by_cases hl:xs.length = ys.length
 ·have HL:=I' hl;have hb1:((xs.length:Int) != (ys.length:Int)) = false:=by simp [hl]
  clear hl;go_enter Tryz.func69,Tryz.ntmps69;go_wp2;go_loopw [17] (fun i wr=>∃k:Nat,k≤xs.length∧i = .int .i64 k∧Hid (same lX (xs.take k) (ys.take k) = true)∧Below w.heap.size w wr) (fun i _=>xs.length - (intOf i).toNat)
  case atStart=>exact ⟨0,Nat.zero_le _,rfl,by show _ = true;simp [same],aj _⟩
  case round =>
   obtain ⟨k,hk,rfl,Heq,hbl⟩:=hrel;by_cases hlt:k < xs.length
   ·obtain ⟨b,o,ck,Fk,rfl,o9,hbs,hr,hsub,hc⟩:=(h.ext hbl).get hlt;have hlt':k < ys.length:=(by rw [← HL.out];exact hlt);obtain ⟨b',o',TY,Xw,rfl,Ht,hbs',hr',zQ,hc'⟩:=(h'.ext hbl).get hlt';obtain ⟨pO,pR,EY,rH,rJ,He,kT,kU,yu,hck,rfl,Dq,yw,FW,FX,Dt,Az,qH,anH,afa⟩:=kE hr;subst hck;obtain ⟨mZ,ng,DX,oL,oM,FC,jG,jH,wu,hck,rfl,Ci,wR,EM,EN,Cj,yU,pF,OW,Zt⟩:=kE hr';subst hck;have q0:wr.cell? ⟨b,o+k * 9,none⟩ = some (.string xs[k].aS.name):=(by exact hc 0 _ rfl);have q1:wr.cell? ⟨b,o+k * 9+1,none⟩ = some (.slice pO xs[k].aS.labels.length pR):=(by rw [Nat.add_assoc];exact hc 1 _ rfl);have q2:wr.cell? ⟨b,o+k * 9+2,none⟩ = some (.int .i64 xs[k].aS.cpu):=(by rw [Nat.add_assoc];exact hc 2 _ rfl);have q3:wr.cell? ⟨b,o+k * 9+3,none⟩ = some (.int .i64 xs[k].aS.mem):=(by rw [Nat.add_assoc];exact hc 3 _ rfl);have q4:wr.cell? ⟨b,o+k * 9+4,none⟩ = some (.int .i64 xs[k].aS.rank):=(by rw [Nat.add_assoc];exact hc 4 _ rfl);have q5:wr.cell? ⟨b,o+k * 9+5,none⟩ = some (.slice rH xs[k].aS.needs.length rJ):=(by rw [Nat.add_assoc];exact hc 5 _ rfl);have q6:wr.cell? ⟨b,o+k * 9+6,none⟩ = some (.slice kT xs[k].aS.tolerances.length kU):=(by rw [Nat.add_assoc];exact hc 6 _ rfl);have q7:wr.cell? ⟨b,o+k * 9+7,none⟩ = some (.string xs[k].on):=(by rw [Nat.add_assoc];exact hc 7 _ rfl);have q8:wr.cell? ⟨b,o+k * 9+8,none⟩ = some (.int .i64 xs[k].seq):=(by rw [Nat.add_assoc];exact hc 8 _ rfl);have p0:wr.cell? ⟨b',o'+k * 9,none⟩ = some (.string ys[k].aS.name):=(by exact hc' 0 _ rfl);have p1:wr.cell? ⟨b',o'+k * 9+1,none⟩ = some (.slice mZ ys[k].aS.labels.length ng):=(by rw [Nat.add_assoc];exact hc' 1 _ rfl);have p2:wr.cell? ⟨b',o'+k * 9+2,none⟩ = some (.int .i64 ys[k].aS.cpu):=(by rw [Nat.add_assoc];exact hc' 2 _ rfl);have p3:wr.cell? ⟨b',o'+k * 9+3,none⟩ = some (.int .i64 ys[k].aS.mem):=(by rw [Nat.add_assoc];exact hc' 3 _ rfl);have p4:wr.cell? ⟨b',o'+k * 9+4,none⟩ = some (.int .i64 ys[k].aS.rank):=(by rw [Nat.add_assoc];exact hc' 4 _ rfl);have p5:wr.cell? ⟨b',o'+k * 9+5,none⟩ = some (.slice oL ys[k].aS.needs.length oM):=(by rw [Nat.add_assoc];exact hc' 5 _ rfl);have p6:wr.cell? ⟨b',o'+k * 9+6,none⟩ = some (.slice jG ys[k].aS.tolerances.length jH):=(by rw [Nat.add_assoc];exact hc' 6 _ rfl);have p7:wr.cell? ⟨b',o'+k * 9+7,none⟩ = some (.string ys[k].on):=(by rw [Nat.add_assoc];exact hc' 7 _ rfl);have p8:wr.cell? ⟨b',o'+k * 9+8,none⟩ = some (.int .i64 ys[k].seq):=(by rw [Nat.add_assoc];exact hc' 8 _ rfl);clear hc hc';cases he:lX xs[k] ys[k] with
    | false =>
      have HE:=I' he;have HS:=I' (nP (k+1) au1 HL.out);clear he;go_wp2_with fail
      refine (Yq xs[k] ys[k] _ _ _ _ _ (aJ hr atS) (aJ hr' atS) (hxs _ (List.getElem_mem ..)) (hys _ (List.getElem_mem ..))).mono ?_;exact Zadc
    | true =>
      have HE:=I' he;have HS:=I' (show same lX (xs.take (k+1)) (ys.take (k+1)) = true by rw [iC hlt hlt',Heq.out,he];rfl);clear he;go_wp2_with fail
      refine (Yq xs[k] ys[k] _ _ _ _ _ (aJ hr atS) (aJ hr' atS) (hxs _ (List.getElem_mem ..)) (hys _ (List.getElem_mem ..))).mono ?_;exact Zac8
   ·exact Zab0
 ·have hb1:((xs.length:Int) != (ys.length:Int)) = true:=by simp;omega
  have HL:=I' (qN (eq:=lX) hl);clear hl;go_enter Tryz.func69,Tryz.ntmps69;exact Zadk
theorem ac8 (a b:aU) (cs ds:List Value) (F G:List Nat) (w:World) (h:rd w a cs F) (h':rd w b ds G) (GY:(a.wt:Int)≤1048576) (hwb:(b.wt:Int)≤1048576) :
 Calls Tryz.prog 17 #[.agg cs.toArray,.agg ds.toArray] w fun e w'=>e = .returned (.bool (lT a b))∧Below w.heap.size w w':=by
 have HXH:=I' (show ∀l∈a.hosts,(Host.wt l:Int)≤1048576 by intro l hl;have:=Bq (f:=Host.wt) hl;have e:a.wt = kL Host.wt a.hosts+kL Placed.wt a.au:=rfl;omega);have HYH:=I' (show ∀l∈b.hosts,(Host.wt l:Int)≤1048576 by intro l hl;have:=Bq (f:=Host.wt) hl;have e:b.wt = kL Host.wt b.hosts+kL Placed.wt b.au:=rfl;omega);have HXP:=I' (show ∀l∈a.au,(Placed.wt l:Int)≤1048576 by intro l hl;have:=Bq (f:=Placed.wt) hl;have e:a.wt = kL Host.wt a.hosts+kL Placed.wt a.au:=rfl;omega);have HYP:=I' (show ∀l∈b.au,(Placed.wt l:Int)≤1048576 by intro l hl;have:=Bq (f:=Placed.wt) hl;have e:b.wt = kL Host.wt b.hosts+kL Placed.wt b.au:=rfl;omega);obtain ⟨dG,bV,xq,dS,dJ,Bz,hck,rfl,oO,tq,wI,iV,gI,iW⟩:=aO h;subst hck;obtain ⟨tK,tN,Eu,yJ,yK,I5,hck,rfl,tJ,yV,FD,mO,kW,mP⟩:=aO h';subst hck;clear GY hwb;cases e0:same ou a.hosts b.hosts with
 | false =>
   have HF:=I' (show lT a b = false by simp only [lT,e0,Bool.and_false,Bool.false_and,Bool.true_and,Bool.and_true]);have HE0:=I' e0;clear e0;go_enter Tryz.func17,Tryz.ntmps17;go_wp2_with (first | (go_at_call 67;refine (Ea a.hosts b.hosts _ _ _ _ _ _ _ (oO.ext atS) (tJ.ext atS) HXH.out HYH.out).mono ?_;rw [HE0.out];rintro e w0 ⟨rfl,hb0⟩;obtain ⟨hc0,hf0⟩:=ay hb0;have ahZ:w.heap.size < w0.heap.size:=(sq hb0.size);have al6:w.heap.size+1 < w0.heap.size:=(sq hb0.size)))
   all_goals go_ret
   all_goals refine ⟨?_,atS⟩
   all_goals rw [HF.out]
   all_goals rfl
 | true =>
   cases e1:same lX a.au b.au with
   | false =>have HF:=I' (show lT a b = false by simp only [lT,e0,e1,Bool.and_false,Bool.false_and,Bool.true_and,Bool.and_true]);exact Zab4
   | true =>
     cases e2:(a.next == b.next) with
     | false =>have HF:=I' (show lT a b = false by simp only [lT,e0,e1,e2,Bool.and_false,Bool.false_and,Bool.true_and,Bool.and_true]);have n2:(a.next != b.next) = true:=(by rw [bne,e2];rfl);exact Zab4
     | true =>
       cases e3:vN a.weights b.weights with
       | false =>have HF:=I' (show lT a b = false by simp only [lT,e0,e1,e2,e3,Bool.and_false,Bool.false_and,Bool.true_and,Bool.and_true]);have n2:(a.next != b.next) = false:=(by rw [bne,e2];rfl);have HE0:=I' e0;clear e0;have LH:=I' e1;clear e1;have HE3:=I' e3;clear e3;exact Zab3
       | true =>
         have HF:=I' (show lT a b = true by simp only [lT,e0,e1,e2,e3,Bool.and_false,Bool.false_and,Bool.true_and,Bool.and_true]);have n2:(a.next != b.next) = false:=(by rw [bne,e2];rfl);have HE0:=I' e0;clear e0;have LH:=I' e1;clear e1;have HE3:=I' e3;clear e3;obtain ⟨⟨g1,g2⟩,g3⟩:(a.weights.pack = b.weights.pack∧a.weights.spread = b.weights.spread)∧a.weights.soft = b.weights.soft:=by have:=HE3.out;simpa [vN] using this
         exact Zab3
end Go.Proofs.YtkjeocdobidadaaGreat
