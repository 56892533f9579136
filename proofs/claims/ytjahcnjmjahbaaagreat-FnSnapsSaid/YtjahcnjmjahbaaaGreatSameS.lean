/- SameHost, SamePod, of the reference. No condition. -/
import Derived.Test.YtjahcnjmjahbaaaGreatNeedLess
import Derived.Test.YtjahcnjmjahbaaaGreatLabelsOk
namespace Go.Proofs.YtjahcnjmjahbaaaGreat
open Go.ChangeShapes Go.WideShapes Go.ChangeAt Go.RowKit
set_option linter.unusedVariables false
set_option linter.unusedSimpArgs false
set_option maxHeartbeats 4000000
set_option maxRecDepth 100000
theorem ZY (a b:az) (cs ds:List Value) (F G:List Nat) (w:World) (h:rd w a cs F) (h':rd w b ds G) (GY:(a.wt:Int)≤1048576) (s9:(b.wt:Int)≤1048576) :
 Calls Tryz.prog 12 #[.agg cs.toArray,.agg ds.toArray] w fun e w'=>e = .returned (.bool (ou a b))∧Below w.heap.size w w':=by
 obtain ⟨dU,dV,Ba,kY,kZ,NR,aw,rfl,hname1,jr,IQ,IU,KD,yO⟩:=iy h;subst aw;obtain ⟨bY,bZ,iq,wP,wQ,Qe,aw,rfl,jW,dA,kQ,lg,Nh,Bd⟩:=iy h';subst aw;clear GY s9;cases e0:(a.name.toList == b.name.toList) with
 | false =>have HF:=I (show ou a b = false by simp only [ou,e0,Bool.and_false,Bool.false_and,Bool.true_and,Bool.and_true]);have n0:(a.name.toList != b.name.toList) = true:=(by rw [bne,e0];rfl);go_enter Tryz.func12,Tryz.ntmps12;exact qx
 | true =>
   cases e1:same vZ a.labels b.labels with
   | false =>have HF:=I (show ou a b = false by simp only [ou,e0,e1,Bool.and_false,Bool.false_and,Bool.true_and,Bool.and_true]);have n0:(a.name.toList != b.name.toList) = false:=(by rw [bne,e0];rfl);have LH:=I e1;clear e1;go_enter Tryz.func12,Tryz.ntmps12;exact lW
   | true =>
     cases e2:(a.ax == b.ax) with
     | false =>have HF:=I (show ou a b = false by simp only [ou,e0,e1,e2,Bool.and_false,Bool.false_and,Bool.true_and,Bool.and_true]);have n0:(a.name.toList != b.name.toList) = false:=(by rw [bne,e0];rfl);have LH:=I e1;clear e1;have n2:(a.ax != b.ax) = true:=(by rw [bne,e2];rfl);go_enter Tryz.func12,Tryz.ntmps12;exact lW
     | true =>
       cases e3:(a.mem == b.mem) with
       | false =>have HF:=I (show ou a b = false by simp only [ou,e0,e1,e2,e3,Bool.and_false,Bool.false_and,Bool.true_and,Bool.and_true]);have n0:(a.name.toList != b.name.toList) = false:=(by rw [bne,e0];rfl);have LH:=I e1;clear e1;have n2:(a.ax != b.ax) = false:=(by rw [bne,e2];rfl);have n3:(a.mem != b.mem) = true:=(by rw [bne,e3];rfl);go_enter Tryz.func12,Tryz.ntmps12;exact lW
       | true =>
         cases e4:(a.ar == b.ar) with
         | false =>have HF:=I (show ou a b = false by simp only [ou,e0,e1,e2,e3,e4,Bool.and_false,Bool.false_and,Bool.true_and,Bool.and_true]);have n0:(a.name.toList != b.name.toList) = false:=(by rw [bne,e0];rfl);have LH:=I e1;clear e1;have n2:(a.ax != b.ax) = false:=(by rw [bne,e2];rfl);have n3:(a.mem != b.mem) = false:=(by rw [bne,e3];rfl);have n4:(a.ar != b.ar) = true:=(by rw [bne,e4];rfl);go_enter Tryz.func12,Tryz.ntmps12;exact lW
         | true =>
           have HF:=I (show ou a b = same Aq a.aT b.aT by simp only [ou,e0,e1,e2,e3,e4,Bool.and_false,Bool.false_and,Bool.true_and,Bool.and_true]);have n0:(a.name.toList != b.name.toList) = false:=(by rw [bne,e0];rfl);have LH:=I e1;clear e1;have n2:(a.ax != b.ax) = false:=(by rw [bne,e2];rfl);have n3:(a.mem != b.mem) = false:=(by rw [bne,e3];rfl);have n4:(a.ar != b.ar) = false:=(by rw [bne,e4];rfl);by_cases hl:a.aT.length = b.aT.length
           ·have HL:=I hl;have rm:((a.aT.length:Int) != (b.aT.length:Int)) = false:=(by simp [hl]);have sb:=yO.aL;unfold maxLen at sb;clear hl;go_enter Tryz.func12,Tryz.ntmps12;go_wp2_with (first | (go_at_call 40;refine (pJ a.labels b.labels _ _ _ _ _ _ _ (jr.ext bs) (dA.ext bs)).mono ?_;rw [LH.out];rintro e w1 ⟨rfl,bk⟩;obtain ⟨da,eW⟩:=ay bk;have zO:w.heap.size < w1.heap.size:=(sq bk.size);have CO:w.heap.size+1 < w1.heap.size:=(sq bk.size)))
            have xH:=oG.new w [.string a.name,.slice dU a.labels.length dV,.int .i64 a.ax,.int .i64 a.mem,.int .i64 a.ar,.slice kY a.aT.length kZ] 38;have xL:=oG.new (w.alloc (.cells ([.string a.name,.slice dU a.labels.length dV,.int .i64 a.ax,.int .i64 a.mem,.int .i64 a.ar,.slice kY a.aT.length kZ]:List Value).toArray 38)) [.string b.name,.slice bY b.labels.length bZ,.int .i64 b.ax,.int .i64 b.mem,.int .i64 b.ar,.slice wP b.aT.length wQ] 38;have KA:=((xH.ext (ak (aj _) _)).ext bk);have KB:=(xL.ext bk);have kx:=KA.cell (i:=5) (u:=.slice kY a.aT.length kZ) rfl;have ky:w1.cell? ⟨w.heap.size+1,5,none⟩ = some (.slice wP b.aT.length wQ):=(by have:=KB.cell (i:=5) (u:=.slice wP b.aT.length wQ) rfl;simpa using this);clear xH xL KA KB;have ni:Below w.heap.size w w1:=bs;go_loopw [5] (fun i wr=>∃k:Nat,k≤a.aT.length∧i = .int .i64 k∧Hid (same Aq (a.aT.take k) (b.aT.take k) = true)∧Below w1.heap.size w1 wr) (fun i _=>a.aT.length - (intOf i).toNat)
            case atStart=>exact ⟨0,Nat.zero_le _,rfl,by show _ = true;simp [same],aj _⟩
            case round =>
             obtain ⟨k,hk,rfl,Heq,aE⟩:=hrel;have Xt:=r' aE kx zO;have Xu:=r' aE ky CO;have tX:w.heap.size < wr.heap.size:=World.block_lt_of_cell? wr _ Xt;have Me:w.heap.size+1 < wr.heap.size:=World.block_lt_of_cell? wr _ Xu;have zv:Below w.heap.size w wr:=ah ni aE;by_cases ap:k < a.aT.length
             ·obtain ⟨q,o,ck,Fk,rfl,o9,hbs,hr,bv,hc⟩:=(Sl.ext (w':=wr) (A:=kY) (c:=kZ) yO zv).get ap;have fq:k < b.aT.length:=(by rw [← HL.out];exact ap);obtain ⟨q',o',TY,Xw,rfl,Ht,hbs',cN,zQ,hc'⟩:=(Sl.ext (w':=wr) (A:=wP) (c:=wQ) Bd zv).get fq;obtain ⟨aw,rfl,adC,abS,KZ⟩:=oK hr;subst aw;obtain ⟨aw,rfl,hkey4,atA,asy⟩:=oK cN;subst aw;obtain ⟨q0,q1,q2⟩:=iX 3 hc;obtain ⟨p0,p1,p2⟩:=iX 3 hc';clear hc hc';go_wp2_with fail
              refine aF wr U' U' ut ?_
              repeat (first
               | (apply aG
                  case hw=>rfl
                  simp only [Act.put,pz])
               | (apply aH
                  case hw=>rfl
                  case h =>
                   intro wq hq;have dc:=(aB hq).1;have lJ:=(aB hq).2;go_simp
                   first
                    | exact ⟨hq,rfl⟩
                    | exact ⟨aQ hq _,rfl⟩
                    | ((refine Gj (v:=.bool (!(Aq a.aT[k] b.aT[k]))) ?_ hq;unfold Aq;repeat' split;all_goals simp [*]))
                    | (simp only [↓IntWalk.iteOmega];exact ⟨hq,rfl⟩)
                  simp only [Act.put,pz]))
              exact Hs
             ·have bx:k = a.aT.length:=J;exact Iq
           ·have rm:((a.aT.length:Int) != (b.aT.length:Int)) = true:=(by simp;omega);have HS:=I (qN (eq:=Aq) hl);clear hl;go_enter Tryz.func12,Tryz.ntmps12;go_wp2_with (first | (go_at_call 40;refine (pJ a.labels b.labels _ _ _ _ _ _ _ (jr.ext bs) (dA.ext bs)).mono ?_;rw [LH.out];rintro e w1 ⟨rfl,bk⟩;obtain ⟨da,eW⟩:=ay bk;have zO:w.heap.size < w1.heap.size:=(sq bk.size);have CO:w.heap.size+1 < w1.heap.size:=(sq bk.size)))
            go_ret
            exact ⟨by rw [HF.out,HS.out];rfl,bs⟩
theorem Xv (a b:nI) (cs ds:List Value) (F G:List Nat) (w:World) (h:rd w a cs F) (h':rd w b ds G) (GY:(a.wt:Int)≤1048576) (s9:(b.wt:Int)≤1048576) :
 Calls Tryz.prog 15 #[.agg cs.toArray,.agg ds.toArray] w fun e w'=>e = .returned (.bool (vF a b))∧Below w.heap.size w w':=by
 have Xy:=I (fun l hl=>((Aa (xs:=a.ag) (by have e:a.wt = a.name.size+kL ao.wt a.labels+kL ba.wt a.ag+kL bH.wt a.ae:=rfl;omega)).2 l hl).2.1);have Xz:=I (fun l hl=>((Aa (xs:=b.ag) (by have e:b.wt = b.name.size+kL ao.wt b.labels+kL ba.wt b.ag+kL bH.wt b.ae:=rfl;omega)).2 l hl).2.1);obtain ⟨dU,dV,Ba,mJ,mM,Vb,fK,fM,Fz,aw,rfl,hname1,jr,IQ,IU,Sj,Bv,qc⟩:=dL h;subst aw;obtain ⟨bY,bZ,iq,eU,eX,jV,bg,bn,dK,aw,rfl,jW,dA,kQ,lg,lG,iO,bK⟩:=dL h';subst aw;clear GY s9;cases e0:(a.name.toList == b.name.toList) with
 | false =>have HF:=I (show vF a b = false by simp only [vF,e0,Bool.and_false,Bool.false_and,Bool.true_and,Bool.and_true]);have n0:(a.name.toList != b.name.toList) = true:=(by rw [bne,e0];rfl);go_enter Tryz.func15,Tryz.ntmps15;exact qx
 | true =>
   cases e1:same vZ a.labels b.labels with
   | false =>have HF:=I (show vF a b = false by simp only [vF,e0,e1,Bool.and_false,Bool.false_and,Bool.true_and,Bool.and_true]);have n0:(a.name.toList != b.name.toList) = false:=(by rw [bne,e0];rfl);have LH:=I e1;clear e1;go_enter Tryz.func15,Tryz.ntmps15;exact lW
   | true =>
     cases e2:(a.ax == b.ax) with
     | false =>have HF:=I (show vF a b = false by simp only [vF,e0,e1,e2,Bool.and_false,Bool.false_and,Bool.true_and,Bool.and_true]);have n0:(a.name.toList != b.name.toList) = false:=(by rw [bne,e0];rfl);have LH:=I e1;clear e1;have n2:(a.ax != b.ax) = true:=(by rw [bne,e2];rfl);go_enter Tryz.func15,Tryz.ntmps15;exact lW
     | true =>
       cases e3:(a.mem == b.mem) with
       | false =>have HF:=I (show vF a b = false by simp only [vF,e0,e1,e2,e3,Bool.and_false,Bool.false_and,Bool.true_and,Bool.and_true]);have n0:(a.name.toList != b.name.toList) = false:=(by rw [bne,e0];rfl);have LH:=I e1;clear e1;have n2:(a.ax != b.ax) = false:=(by rw [bne,e2];rfl);have n3:(a.mem != b.mem) = true:=(by rw [bne,e3];rfl);go_enter Tryz.func15,Tryz.ntmps15;exact lW
       | true =>
         cases e4:(a.aD == b.aD) with
         | false =>have HF:=I (show vF a b = false by simp only [vF,e0,e1,e2,e3,e4,Bool.and_false,Bool.false_and,Bool.true_and,Bool.and_true]);have n0:(a.name.toList != b.name.toList) = false:=(by rw [bne,e0];rfl);have LH:=I e1;clear e1;have n2:(a.ax != b.ax) = false:=(by rw [bne,e2];rfl);have n3:(a.mem != b.mem) = false:=(by rw [bne,e3];rfl);have n4:(a.aD != b.aD) = true:=(by rw [bne,e4];rfl);go_enter Tryz.func15,Tryz.ntmps15;exact lW
         | true =>
           cases e5:same yI a.ag b.ag with
           | false =>
             have HF:=I (show vF a b = false by simp only [vF,e0,e1,e2,e3,e4,e5,Bool.and_false,Bool.false_and,Bool.true_and,Bool.and_true]);have n0:(a.name.toList != b.name.toList) = false:=(by rw [bne,e0];rfl);have LH:=I e1;clear e1;have n2:(a.ax != b.ax) = false:=(by rw [bne,e2];rfl);have n3:(a.mem != b.mem) = false:=(by rw [bne,e3];rfl);have n4:(a.aD != b.aD) = false:=(by rw [bne,e4];rfl);have Q4:=I e5;clear e5;go_enter Tryz.func15,Tryz.ntmps15;go_wp2_with (first | (go_at_call 40;refine (pJ a.labels b.labels _ _ _ _ _ _ _ (jr.ext bs) (dA.ext bs)).mono ?_;rw [LH.out];rintro e w1 ⟨rfl,bk⟩;obtain ⟨da,eW⟩:=ay bk;have zO:w.heap.size < w1.heap.size:=(sq bk.size);have CO:w.heap.size+1 < w1.heap.size:=(sq bk.size)) | (go_at_call 42;refine (QF a.ag b.ag _ _ _ _ _ _ _ (Bv.ext bs) (iO.ext bs) Xy.out Xz.out).mono ?_;rw [Q4.out];rintro e w5 ⟨rfl,bo⟩;obtain ⟨lp,ki⟩:=ay bo;have Sm:w.heap.size < w5.heap.size:=(sq bo.size);have WW:w.heap.size+1 < w5.heap.size:=(sq bo.size)))
             go_ret
             exact ⟨by rw [HF.out];rfl,bs⟩
           | true =>
             have HF:=I (show vF a b = same oP a.ae b.ae by simp only [vF,e0,e1,e2,e3,e4,e5,Bool.and_false,Bool.false_and,Bool.true_and,Bool.and_true]);have n0:(a.name.toList != b.name.toList) = false:=(by rw [bne,e0];rfl);have LH:=I e1;clear e1;have n2:(a.ax != b.ax) = false:=(by rw [bne,e2];rfl);have n3:(a.mem != b.mem) = false:=(by rw [bne,e3];rfl);have n4:(a.aD != b.aD) = false:=(by rw [bne,e4];rfl);have Q4:=I e5;clear e5;by_cases hl:a.ae.length = b.ae.length
             ·have HL:=I hl;have rm:((a.ae.length:Int) != (b.ae.length:Int)) = false:=(by simp [hl]);have sb:=qc.aL;unfold maxLen at sb;clear hl;go_enter Tryz.func15,Tryz.ntmps15;go_wp2_with (first | (go_at_call 40;refine (pJ a.labels b.labels _ _ _ _ _ _ _ (jr.ext bs) (dA.ext bs)).mono ?_;rw [LH.out];rintro e w1 ⟨rfl,bk⟩;obtain ⟨da,eW⟩:=ay bk;have zO:w.heap.size < w1.heap.size:=(sq bk.size);have CO:w.heap.size+1 < w1.heap.size:=(sq bk.size)) | (go_at_call 42;refine (QF a.ag b.ag _ _ _ _ _ _ _ (Bv.ext bs) (iO.ext bs) Xy.out Xz.out).mono ?_;rw [Q4.out];rintro e w5 ⟨rfl,bo⟩;obtain ⟨lp,ki⟩:=ay bo;have Sm:w.heap.size < w5.heap.size:=(sq bo.size);have WW:w.heap.size+1 < w5.heap.size:=(sq bo.size)))
              have xH:=oG.new w [.string a.name,.slice dU a.labels.length dV,.int .i64 a.ax,.int .i64 a.mem,.int .i64 a.aD,.slice mJ a.ag.length mM,.slice fK a.ae.length fM] 46;have xL:=oG.new (w.alloc (.cells ([.string a.name,.slice dU a.labels.length dV,.int .i64 a.ax,.int .i64 a.mem,.int .i64 a.aD,.slice mJ a.ag.length mM,.slice fK a.ae.length fM]:List Value).toArray 46)) [.string b.name,.slice bY b.labels.length bZ,.int .i64 b.ax,.int .i64 b.mem,.int .i64 b.aD,.slice eU b.ag.length eX,.slice bg b.ae.length bn] 46;have KA:=(((xH.ext (ak (aj _) _)).ext bk).ext bo);have KB:=((xL.ext bk).ext bo);have kx:=KA.cell (i:=6) (u:=.slice fK a.ae.length fM) rfl;have ky:w5.cell? ⟨w.heap.size+1,6,none⟩ = some (.slice bg b.ae.length bn):=(by have:=KB.cell (i:=6) (u:=.slice bg b.ae.length bn) rfl;simpa using this);clear xH xL KA KB;have ni:Below w.heap.size w w5:=bs;go_loopw [5] (fun i wr=>∃k:Nat,k≤a.ae.length∧i = .int .i64 k∧Hid (same oP (a.ae.take k) (b.ae.take k) = true)∧Below w5.heap.size w5 wr) (fun i _=>a.ae.length - (intOf i).toNat)
              case atStart=>exact ⟨0,Nat.zero_le _,rfl,by show _ = true;simp [same],aj _⟩
              case round =>
               obtain ⟨k,hk,rfl,Heq,aE⟩:=hrel;have Xt:=r' aE kx Sm;have Xu:=r' aE ky WW;have tX:w.heap.size < wr.heap.size:=World.block_lt_of_cell? wr _ Xt;have Me:w.heap.size+1 < wr.heap.size:=World.block_lt_of_cell? wr _ Xu;have zv:Below w.heap.size w wr:=ah ni aE;by_cases ap:k < a.ae.length
               ·obtain ⟨q,o,ck,Fk,rfl,o9,hbs,hr,bv,hc⟩:=(Sl.ext (w':=wr) (A:=fK) (c:=fM) qc zv).get ap;have fq:k < b.ae.length:=(by rw [← HL.out];exact ap);obtain ⟨q',o',TY,Xw,rfl,Ht,hbs',cN,zQ,hc'⟩:=(Sl.ext (w':=wr) (A:=bg) (c:=bn) bK zv).get fq;obtain ⟨aw,rfl,adC,abS,KZ⟩:=jv hr;subst aw;obtain ⟨aw,rfl,hkey4,atA,asy⟩:=jv cN;subst aw;obtain ⟨q0,q1,q2,q3⟩:=qT 4 hc;obtain ⟨p0,p1,p2,p3⟩:=qT 4 hc';clear hc hc';go_wp2_with fail
                refine aF wr U' U' ut ?_
                repeat (first
                 | (apply aG
                    case hw=>rfl
                    simp only [Act.put,pz])
                 | (apply aH
                    case hw=>rfl
                    case h =>
                     intro wq hq;have dc:=(aB hq).1;have lJ:=(aB hq).2;go_simp
                     first
                      | exact ⟨hq,rfl⟩
                      | exact ⟨aQ hq _,rfl⟩
                      | ((refine Gj (v:=.bool (!(oP a.ae[k] b.ae[k]))) ?_ hq;unfold oP;repeat' split;all_goals simp [*]))
                      | (simp only [↓IntWalk.iteOmega];exact ⟨hq,rfl⟩)
                    simp only [Act.put,pz]))
                exact Hs
               ·have bx:k = a.ae.length:=J;exact Iq
             ·have rm:((a.ae.length:Int) != (b.ae.length:Int)) = true:=(by simp;omega);have HS:=I (qN (eq:=oP) hl);clear hl;go_enter Tryz.func15,Tryz.ntmps15;go_wp2_with (first | (go_at_call 40;refine (pJ a.labels b.labels _ _ _ _ _ _ _ (jr.ext bs) (dA.ext bs)).mono ?_;rw [LH.out];rintro e w1 ⟨rfl,bk⟩;obtain ⟨da,eW⟩:=ay bk;have zO:w.heap.size < w1.heap.size:=(sq bk.size);have CO:w.heap.size+1 < w1.heap.size:=(sq bk.size)) | (go_at_call 42;refine (QF a.ag b.ag _ _ _ _ _ _ _ (Bv.ext bs) (iO.ext bs) Xy.out Xz.out).mono ?_;rw [Q4.out];rintro e w5 ⟨rfl,bo⟩;obtain ⟨lp,ki⟩:=ay bo;have Sm:w.heap.size < w5.heap.size:=(sq bo.size);have WW:w.heap.size+1 < w5.heap.size:=(sq bo.size)))
              go_ret
              exact ⟨by rw [HF.out,HS.out];rfl,bs⟩
theorem ac7 (a b:aU) (cs ds:List Value) (F G:List Nat) (w:World) (h:rd w a cs F) (h':rd w b ds G) (GY:(a.wt:Int)≤1048576) (s9:(b.wt:Int)≤1048576) :
 Calls Tryz.prog 16 #[.agg cs.toArray,.agg ds.toArray] w fun e w'=>e = .returned (.bool (lT a b))∧Below w.heap.size w w':=by
 have HXH:=I (show ∀l∈a.Z,(az.wt l:Int)≤1048576 by intro l hl;have:=Bq (f:=az.wt) hl;have e:a.wt = kL az.wt a.Z+kL ai.wt a.O:=rfl;omega);have HYH:=I (show ∀l∈b.Z,(az.wt l:Int)≤1048576 by intro l hl;have:=Bq (f:=az.wt) hl;have e:b.wt = kL az.wt b.Z+kL ai.wt b.O:=rfl;omega);have HXP:=I (show ∀l∈a.O,(ai.wt l:Int)≤1048576 by intro l hl;have:=Bq (f:=ai.wt) hl;have e:a.wt = kL az.wt a.Z+kL ai.wt a.O:=rfl;omega);have HYP:=I (show ∀l∈b.O,(ai.wt l:Int)≤1048576 by intro l hl;have:=Bq (f:=ai.wt) hl;have e:b.wt = kL az.wt b.Z+kL ai.wt b.O:=rfl;omega);obtain ⟨dG,bV,xq,dS,dJ,Bz,aw,rfl,oO,tq,wI,iV,gI,iW⟩:=aO h;subst aw;obtain ⟨tK,tN,Eu,yJ,yK,I5,aw,rfl,tJ,yV,FD,mO,kW,mP⟩:=aO h';subst aw;clear GY s9;have Q6:=I (fun (x:ai) (hx:(ai.wt x:Int)≤1048576)=>(show (nI.wt x.aS:Int)≤1048576 by have e:ai.wt x = nI.wt x.aS+x.on.size:=rfl;omega));cases e2:(a.next == b.next) with
 | false =>have HF:=I (show lT a b = false by simp only [lT,e2,Bool.and_false,Bool.false_and,Bool.true_and,Bool.and_true]);have n2:(a.next != b.next) = true:=(by rw [bne,e2];rfl);go_enter Tryz.func16,Tryz.ntmps16;exact qx
 | true =>
   cases e3:vN a.weights b.weights with
   | false =>
     have HF:=I (show lT a b = false by simp only [lT,e2,e3,Bool.and_false,Bool.false_and,Bool.true_and,Bool.and_true]);have n2:(a.next != b.next) = false:=(by rw [bne,e2];rfl);have Ds:=I e3;clear e3;go_enter Tryz.func16,Tryz.ntmps16;go_wp2_with (fail)
     all_goals first
      | (go_ret;exact ⟨by rw [HF.out];rfl,bs⟩)
      | (exfalso;have hx:=Ds.out;simp [vN, *] at hx;done)
   | true =>
     by_cases rx:a.Z.length = b.Z.length
     ·by_cases fl:a.O.length = b.O.length
      ·have HF:=I (show lT a b = (same ou a.Z b.Z&&same lX a.O b.O) by simp only [lT,e2,e3,Bool.and_false,Bool.false_and,Bool.true_and,Bool.and_true]);have n2:(a.next != b.next) = false:=(by rw [bne,e2];rfl);have Ds:=I e3;obtain ⟨⟨g1,g2⟩,g3⟩:(a.weights.pack = b.weights.pack∧a.weights.af = b.weights.af)∧a.weights.an = b.weights.an:=by have:=Ds.out;simpa [vN] using this
       have XC:=I rx;have OS:=I fl;have mh:((a.Z.length:Int) != (b.Z.length:Int)) = false:=(by simp [rx]);have mp:((a.O.length:Int) != (b.O.length:Int)) = false:=(by simp [fl]);have xN:=oO.aL;have xR:=tq.aL;unfold maxLen at xN xR;clear e3 rx fl;go_enter Tryz.func16,Tryz.ntmps16;go_wp2_with (fail)
       clear g1 g2 g3;have xH:=oG.new w [.slice dG a.Z.length bV,.slice dS a.O.length dJ,.int .i64 a.next,.int .i64 b.weights.pack,.int .i64 b.weights.af,.int .i64 b.weights.an] 29;have xL:=oG.new (w.alloc (.cells ([.slice dG a.Z.length bV,.slice dS a.O.length dJ,.int .i64 a.next,.int .i64 b.weights.pack,.int .i64 b.weights.af,.int .i64 b.weights.an]:List Value).toArray 29)) [.slice tK b.Z.length tN,.slice yJ b.O.length yK,.int .i64 b.next,.int .i64 b.weights.pack,.int .i64 b.weights.af,.int .i64 b.weights.an] 29;go_loopw [5] (fun i wr=>∃k:Nat,k≤a.Z.length∧i = .int .i64 k∧Hid (same ou (a.Z.take k) (b.Z.take k) = true)∧oG wr w.heap.size [.slice dG a.Z.length bV,.slice dS a.O.length dJ,.int .i64 a.next,.int .i64 b.weights.pack,.int .i64 b.weights.af,.int .i64 b.weights.an]∧oG wr (w.heap.size+1) [.slice tK b.Z.length tN,.slice yJ b.O.length yK,.int .i64 b.next,.int .i64 b.weights.pack,.int .i64 b.weights.af,.int .i64 b.weights.an]∧Below w.heap.size w wr) (fun i _=>a.Z.length - (intOf i).toNat)
       case atStart=>exact ⟨0,Nat.zero_le _,rfl,by show _ = true;simp [same],xH.ext (ak (aj _) _),by simpa using xL,bs⟩
       case round =>
        clear xH xL;obtain ⟨k,hk,rfl,Heq,hKA,QO,aE⟩:=hrel;have c0:wr.cell? ⟨w.heap.size,0,none⟩ = some (.slice dG a.Z.length bV):=hKA.cell (i:=0) rfl;have c1:wr.cell? ⟨w.heap.size,1,none⟩ = some (.slice dS a.O.length dJ):=hKA.cell (i:=1) rfl;have c2:wr.cell? ⟨w.heap.size,2,none⟩ = some (.int .i64 a.next):=hKA.cell (i:=2) rfl;have c3:wr.cell? ⟨w.heap.size,3,none⟩ = some (.int .i64 b.weights.pack):=hKA.cell (i:=3) rfl;have c4:wr.cell? ⟨w.heap.size,4,none⟩ = some (.int .i64 b.weights.af):=hKA.cell (i:=4) rfl;have c5:wr.cell? ⟨w.heap.size,5,none⟩ = some (.int .i64 b.weights.an):=hKA.cell (i:=5) rfl;have d0:wr.cell? ⟨w.heap.size+1,0,none⟩ = some (.slice tK b.Z.length tN):=QO.cell (i:=0) rfl;have d1:wr.cell? ⟨w.heap.size+1,1,none⟩ = some (.slice yJ b.O.length yK):=QO.cell (i:=1) rfl;have d2:wr.cell? ⟨w.heap.size+1,2,none⟩ = some (.int .i64 b.next):=QO.cell (i:=2) rfl;have d3:wr.cell? ⟨w.heap.size+1,3,none⟩ = some (.int .i64 b.weights.pack):=QO.cell (i:=3) rfl;have d4:wr.cell? ⟨w.heap.size+1,4,none⟩ = some (.int .i64 b.weights.af):=QO.cell (i:=4) rfl;have d5:wr.cell? ⟨w.heap.size+1,5,none⟩ = some (.int .i64 b.weights.an):=QO.cell (i:=5) rfl;have cf:w.heap.size < wr.heap.size:=hKA.lt;have cQ:w.heap.size+1 < wr.heap.size:=QO.lt;by_cases ap:k < a.Z.length
        ·obtain ⟨q,o,ck,Fk,hA1,o9,hbs,hr,bv,hc⟩:=(Sl.ext (w':=wr) (A:=dG) (c:=bV) oO aE).get ap;have fq:k < b.Z.length:=(by rw [← XC.out];exact ap);obtain ⟨q',o',TY,Xw,hA2,Ht,hbs',cN,zQ,hc'⟩:=(Sl.ext (w':=wr) (A:=tK) (c:=tN) tJ aE).get fq;subst hA1 hA2;obtain ⟨jM,jO,sN,jE,jF,sO,aw,rfl,zM,qY,Gt,Gw,xg,qA⟩:=iy hr;subst aw;obtain ⟨vS,vT,Bc,Jj,Jk,Xk,aw,rfl,IZ,wL,JY,JZ,OV,KE⟩:=iy cN;subst aw;obtain ⟨s0,s1,s2,s3,s4,s5⟩:=mE 6 hc;obtain ⟨t0,t1,t2,t3,t4,t5⟩:=mE 6 hc';clear hc hc';cases he:ou a.Z[k] b.Z[k] with
         | false =>
           have HE:=I he;have HS:=I (nP (k+1) IK XC.out);clear he;go_wp2_with fail
           refine aF wr U' U' ut ?_
           repeat ((first | refine aG X ?_ | refine aH _ X Hi ?_);simp only [Act.put,pz])
           refine aN ?_;intro wn hn;replace hn:=hn.out;go_wp2;go_ret
           exact ⟨by rw [HF.out,HS.out];rfl,ah aE hn⟩
         | true =>
           have HE:=I he;have HS:=I (show same ou (a.Z.take (k+1)) (b.Z.take (k+1)) = true by rw [iC ap fq,Heq.out,he];rfl);clear he;go_wp2_with fail
           refine aF wr U' U' ut ?_
           repeat ((first | refine aG X ?_ | refine aH _ X Hi ?_);simp only [Act.put,pz])
           refine aN ?_;intro wn hn;replace hn:=hn.out;go_wp2;exact ⟨⟨k+1,J,N',HS,hKA.ext hn,QO.ext hn,ah aE hn⟩,by simp [intOf];omega⟩
        ·have bx:k = a.Z.length:=J;subst bx;have h1:=Heq.out;rw [List.take_length,XC.out,List.take_length] at h1;clear Heq;have RS:=I (show lT a b = same lX a.O b.O by rw [HF.out,h1];rfl);clear h1;obtain ⟨wo,hwo⟩:∃wo,wo = wr:=⟨_,rfl⟩;subst hwo;go_wp2_with fail
         go_loopw [6] (fun i wr=>∃k:Nat,k≤a.O.length∧i = .int .i64 k∧Hid (same lX (a.O.take k) (b.O.take k) = true)∧oG wr w.heap.size [.slice dG a.Z.length bV,.slice dS a.O.length dJ,.int .i64 a.next,.int .i64 b.weights.pack,.int .i64 b.weights.af,.int .i64 b.weights.an]∧oG wr (w.heap.size+1) [.slice tK b.Z.length tN,.slice yJ b.O.length yK,.int .i64 b.next,.int .i64 b.weights.pack,.int .i64 b.weights.af,.int .i64 b.weights.an]∧Below w.heap.size w wr) (fun i _=>a.O.length - (intOf i).toNat)
         case atStart=>exact ⟨0,Nat.zero_le _,rfl,by show _ = true;simp [same],hKA,QO,aE⟩
         case round =>
          clear hKA QO aE cf cQ c0 d0 c1 d1 c2 d2 c3 d3 c4 d4 c5 d5;obtain ⟨k,hk,rfl,Heq,hKA,QO,aE⟩:=hrel;have c0:wr.cell? ⟨w.heap.size,0,none⟩ = some (.slice dG a.Z.length bV):=hKA.cell (i:=0) rfl;have c1:wr.cell? ⟨w.heap.size,1,none⟩ = some (.slice dS a.O.length dJ):=hKA.cell (i:=1) rfl;have c2:wr.cell? ⟨w.heap.size,2,none⟩ = some (.int .i64 a.next):=hKA.cell (i:=2) rfl;have c3:wr.cell? ⟨w.heap.size,3,none⟩ = some (.int .i64 b.weights.pack):=hKA.cell (i:=3) rfl;have c4:wr.cell? ⟨w.heap.size,4,none⟩ = some (.int .i64 b.weights.af):=hKA.cell (i:=4) rfl;have c5:wr.cell? ⟨w.heap.size,5,none⟩ = some (.int .i64 b.weights.an):=hKA.cell (i:=5) rfl;have d0:wr.cell? ⟨w.heap.size+1,0,none⟩ = some (.slice tK b.Z.length tN):=QO.cell (i:=0) rfl;have d1:wr.cell? ⟨w.heap.size+1,1,none⟩ = some (.slice yJ b.O.length yK):=QO.cell (i:=1) rfl;have d2:wr.cell? ⟨w.heap.size+1,2,none⟩ = some (.int .i64 b.next):=QO.cell (i:=2) rfl;have d3:wr.cell? ⟨w.heap.size+1,3,none⟩ = some (.int .i64 b.weights.pack):=QO.cell (i:=3) rfl;have d4:wr.cell? ⟨w.heap.size+1,4,none⟩ = some (.int .i64 b.weights.af):=QO.cell (i:=4) rfl;have d5:wr.cell? ⟨w.heap.size+1,5,none⟩ = some (.int .i64 b.weights.an):=QO.cell (i:=5) rfl;have cf:w.heap.size < wr.heap.size:=hKA.lt;have cQ:w.heap.size+1 < wr.heap.size:=QO.lt;by_cases ap:k < a.O.length
          ·obtain ⟨q,o,ck,Fk,hA1,o9,hbs,hr,bv,hc⟩:=(Sl.ext (w':=wr) (A:=dS) (c:=dJ) tq aE).get ap;have fq:k < b.O.length:=(by rw [← OS.out];exact ap);obtain ⟨q',o',TY,Xw,hA2,Ht,hbs',cN,zQ,hc'⟩:=(Sl.ext (w':=wr) (A:=yJ) (c:=yK) yV aE).get fq;subst hA1 hA2;have o8:=hr;have lP:=cN;obtain ⟨fC,fD,yD,gB,gG,AA,bT,bU,qI,aw,rfl,Dv,yE,FY,FZ,Dw,AB,qJ,aeg,Wv⟩:=kE hr;subst aw;obtain ⟨BK,BL,Q9,Ed,Ee,U5,uj,um,JD,aw,rfl,YE,Fa,NZ,N7,J4,Hl,yF,alK,adB⟩:=kE cN;subst aw;obtain ⟨yR,don,Gpod3,Gon,hdc,hdG,kG,_⟩:=o8;have hpa:rd wr a.O[k].aS [.string a.O[k].aS.name,.slice fC a.O[k].aS.labels.length fD,.int .i64 a.O[k].aS.ax,.int .i64 a.O[k].aS.mem,.int .i64 a.O[k].aS.aD,.slice gB a.O[k].aS.ag.length gG,.slice bT a.O[k].aS.ae.length bU] Gpod3:=by
            exact mU
           clear hdc hdG kG;obtain ⟨yR,don,Gpod4,Gon,hdc,hdG,kG,_⟩:=lP;have kR:rd wr b.O[k].aS [.string b.O[k].aS.name,.slice BK b.O[k].aS.labels.length BL,.int .i64 b.O[k].aS.ax,.int .i64 b.O[k].aS.mem,.int .i64 b.O[k].aS.aD,.slice Ed b.O[k].aS.ag.length Ee,.slice uj b.O[k].aS.ae.length um] Gpod4:=by
            exact mU
           clear hdc hdG kG;have HPA:=I hpa;have HPB:=I kR;clear hpa kR;obtain ⟨s0,s1,s2,s3,s4,s5,s6,s7,s8⟩:=oE 9 hc;obtain ⟨t0,t1,t2,t3,t4,t5,t6,t7,t8⟩:=oE 9 hc';clear hc hc';cases p0:(a.O[k].on.toList == b.O[k].on.toList) with
           | false =>have he:lX a.O[k] b.O[k] = false:=(by simp only [lX,p0,Bool.and_false,Bool.false_and,Bool.true_and,Bool.and_true]);have XD:(a.O[k].on.toList != b.O[k].on.toList) = true:=(by rw [bne,p0];rfl);exact IH
           | true =>
             cases p1:(a.O[k].seq == b.O[k].seq) with
             | false =>have he:lX a.O[k] b.O[k] = false:=(by simp only [lX,p0,p1,Bool.and_false,Bool.false_and,Bool.true_and,Bool.and_true]);have XD:(a.O[k].on.toList != b.O[k].on.toList) = false:=(by rw [bne,p0];rfl);have n1':(a.O[k].seq != b.O[k].seq) = true:=(by rw [bne,p1];rfl);exact IH
             | true =>
               cases p2:vF a.O[k].aS b.O[k].aS with
               | false =>
                 have he:lX a.O[k] b.O[k] = false:=(by simp only [lX,p0,p1,p2,Bool.and_false,Bool.false_and,Bool.true_and,Bool.and_true]);have XD:(a.O[k].on.toList != b.O[k].on.toList) = false:=(by rw [bne,p0];rfl);have n1':(a.O[k].seq != b.O[k].seq) = false:=(by rw [bne,p1];rfl);have HS:=I (nP (k+1) IK OS.out);clear he;have XE:=I p2;clear p2;go_wp2_with fail
                 refine (Xv a.O[k].aS b.O[k].aS _ _ _ _ _ (aJ HPA.out bs) (aJ HPB.out bs) (Q6.out _ (HXP.out _ (List.getElem_mem ..))) (Q6.out _ (HYP.out _ (List.getElem_mem ..)))).mono ?_;rw [XE.out];rintro e w2 ⟨rfl,av⟩;go_wp2;go_ret
                 exact ⟨by rw [RS.out,HS.out];rfl,bs⟩
               | true =>
                 have he:lX a.O[k] b.O[k] = true:=(by simp only [lX,p0,p1,p2,Bool.and_false,Bool.false_and,Bool.true_and,Bool.and_true]);have XD:(a.O[k].on.toList != b.O[k].on.toList) = false:=(by rw [bne,p0];rfl);have n1':(a.O[k].seq != b.O[k].seq) = false:=(by rw [bne,p1];rfl);have HS:=I (show same lX (a.O.take (k+1)) (b.O.take (k+1)) = true by rw [iC ap fq,Heq.out,he];rfl);clear he;have XE:=I p2;clear p2;go_wp2_with fail
                 refine (Xv a.O[k].aS b.O[k].aS _ _ _ _ _ (aJ HPA.out bs) (aJ HPB.out bs) (Q6.out _ (HXP.out _ (List.getElem_mem ..))) (Q6.out _ (HYP.out _ (List.getElem_mem ..)))).mono ?_;rw [XE.out];rintro e w2 ⟨rfl,av⟩;go_wp2
                 first
                  | exact ⟨⟨k+1,J,N',HS,hKA.ext bs,QO.ext bs,bs⟩,by simp [intOf];omega⟩
                  | (refine ⟨?_,by simp [intOf];omega⟩
                     repeat apply Exists.intro
                     exact ⟨⟨k+1,J,N',HS,hKA.ext bs,QO.ext bs,bs⟩,rfl⟩)
          ·have bx:k = a.O.length:=J;have HK:=I bx;clear bx;go_wp2;go_ret
           have h1:=Heq.out;rw [HK.out,List.take_length,OS.out,List.take_length] at h1;exact ⟨by rw [RS.out,h1];rfl,aE⟩
      ·have n2:(a.next != b.next) = false:=(by rw [bne,e2];rfl);have mh:((a.Z.length:Int) != (b.Z.length:Int)) = false:=(by simp [rx]);have Ds:=I e3;obtain ⟨⟨g1,g2⟩,g3⟩:(a.weights.pack = b.weights.pack∧a.weights.af = b.weights.af)∧a.weights.an = b.weights.an:=by have:=Ds.out;simpa [vN] using this
       clear e2 e3 rx;have hs:=qN (eq:=lX) fl;have HF:=I (show lT a b = false by simp only [lT,hs,Bool.and_false,Bool.false_and,Bool.true_and,Bool.and_true]);have mp:((a.O.length:Int) != (b.O.length:Int)) = true:=(by simp;omega);clear hs fl;go_enter Tryz.func16,Tryz.ntmps16;exact qx
     ·have n2:(a.next != b.next) = false:=(by rw [bne,e2];rfl);have Ds:=I e3;obtain ⟨⟨g1,g2⟩,g3⟩:(a.weights.pack = b.weights.pack∧a.weights.af = b.weights.af)∧a.weights.an = b.weights.an:=by have:=Ds.out;simpa [vN] using this
      clear e2 e3;have hs:=qN (eq:=ou) rx;have HF:=I (show lT a b = false by simp only [lT,hs,Bool.and_false,Bool.false_and,Bool.true_and,Bool.and_true]);have mh:((a.Z.length:Int) != (b.Z.length:Int)) = true:=(by simp;omega);clear hs rx;go_enter Tryz.func16,Tryz.ntmps16;exact qx
end Go.Proofs.YtjahcnjmjahbaaaGreat
