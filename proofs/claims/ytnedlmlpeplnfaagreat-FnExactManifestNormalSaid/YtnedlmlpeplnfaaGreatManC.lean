/- l21Copy, l21NoHost, l21NoPod of the reference. No condition. -/
import Derived.Test.YtnedlmlpeplnfaaGreatSortLabelsP
import Derived.Test.YtnedlmlpeplnfaaGreatCopyH
import Derived.Test.YtnedlmlpeplnfaaGreatMkTolerance
namespace Go.Proofs.YtnedlmlpeplnfaaGreat
open Go.ChangeShapes Go.WideShapes Go.ChangeAt Go.RowKit
set_option linter.unusedVariables false
set_option linter.unusedSimpArgs false
set_option maxHeartbeats 4000000
set_option maxRecDepth 100000
theorem ownNeM {α:Type} [Dat α] {w:World} {B c i:Nat} {u:Value} {x:α} {cs:List Value} {F:List Nat} (h:Own w B x cs F) (hF:∀y∈F,y≠c):Own (w.setCell ⟨c,i,none⟩ u) B x cs F :=
 h.keep (fun y hy=>Below.heap_setCell _ _ _ _ avg) aua
theorem l21NoHost_any (u:Host) (cs:List Value) (F:List Nat) (w:World) (h:rd w u cs F) :
 Calls Tryz.prog 14 #[.agg cs.toArray] w fun e w'=>e = .returned (.bool (ou u zHost))∧Below w.heap.size w w':=by
 obtain ⟨gu,gy,jw,kJ,kK,qU,hck,qp,hname,dO,vg,hmem,uI,jq⟩:=iy h;subst hck;clear qp h;cases c0:(u.name.toList.isEmpty) with
 | false =>
   have HF:=I' (show ou u zHost = false by
    cases hh:ou u zHost with
    | false=>rfl
    | true=>rw [(LW u zHost).1 hh] at c0;exact absurd c0 (by rw [show zHost.name.toList = [] by rw [ByteArray.toList_eq];rfl];decide))
   go_enter Tryz.func14,Tryz.ntmps14;exact Zaa1
 | true =>
   cases c1:((u.labels.length:Int) == 0) with
   | false =>
     have HF:=I' (show ou u zHost = false by
      cases hh:ou u zHost with
      | false=>rfl
      | true=>rw [(LW u zHost).1 hh] at c1;simp [zHost] at c1)
     go_enter Tryz.func14,Tryz.ntmps14;exact Zaa1
   | true =>
     cases c2:(u.cpu == 0) with
     | false =>
       have HF:=I' (show ou u zHost = false by
        cases hh:ou u zHost with
        | false=>rfl
        | true=>rw [(LW u zHost).1 hh] at c2;simp [zHost] at c2)
       go_enter Tryz.func14,Tryz.ntmps14;exact Zaa1
     | true =>
       cases c3:(u.mem == 0) with
       | false =>
         have HF:=I' (show ou u zHost = false by
          cases hh:ou u zHost with
          | false=>rfl
          | true=>rw [(LW u zHost).1 hh] at c3;simp [zHost] at c3)
         go_enter Tryz.func14,Tryz.ntmps14;exact Zaa1
       | true =>
         cases c4:(u.slots == 0) with
         | false =>
           have HF:=I' (show ou u zHost = false by
            cases hh:ou u zHost with
            | false=>rfl
            | true=>rw [(LW u zHost).1 hh] at c4;simp [zHost] at c4)
           go_enter Tryz.func14,Tryz.ntmps14;exact Zaa1
         | true =>
           cases c5:((u.aT.length:Int) == 0) with
           | false =>
             have HF:=I' (show ou u zHost = false by
              cases hh:ou u zHost with
              | false=>rfl
              | true=>rw [(LW u zHost).1 hh] at c5;simp [zHost] at c5)
             go_enter Tryz.func14,Tryz.ntmps14;exact Zaa1
           | true =>
             have HF:=I' (show ou u zHost = true by
              refine (LW u zHost).2 ?_;have e0:u.name = ⟨#[]⟩:=Ce (by rw [List.isEmpty_iff] at c0;rw [c0,ByteArray.toList_eq];rfl);have e1:u.labels = []:=List.eq_nil_of_length_eq_zero (by have:=beq_iff_eq.1 c1;omega);have e2:u.cpu = 0:=beq_iff_eq.1 c2;have e3:u.mem = 0:=beq_iff_eq.1 c3;have e4:u.slots = 0:=beq_iff_eq.1 c4;have e5:u.aT = []:=List.eq_nil_of_length_eq_zero (by have:=beq_iff_eq.1 c5;omega);obtain ⟨v0,v1,v2,v3,v4,v5⟩:=u;dsimp only at *;subst e0 e1 e2 e3 e4 e5
              rfl)
             go_enter Tryz.func14,Tryz.ntmps14;exact Zaa1
theorem l21NoPod_any (p:nI) (cs:List Value) (F:List Nat) (w:World) (h:rd w p cs F) :
 Calls Tryz.prog 16 #[.agg cs.toArray] w fun e w'=>e = .returned (.bool (vF p zPod))∧Below w.heap.size w w':=by
 obtain ⟨gu,gy,jw,oh,nT,wG,fA,fB,jY,hck,qp,hname,dO,vg,hmem,BJ,mX,eG⟩:=dL h;subst hck;clear qp h;cases c0:(p.name.toList.isEmpty) with
 | false =>
   have HF:=I' (show vF p zPod = false by
    cases hh:vF p zPod with
    | false=>rfl
    | true=>rw [(yh p zPod).1 hh] at c0;exact absurd c0 (by rw [show zPod.name.toList = [] by rw [ByteArray.toList_eq];rfl];decide))
   go_enter Tryz.func16,Tryz.ntmps16;exact Zaa1
 | true =>
   cases c1:((p.labels.length:Int) == 0) with
   | false =>
     have HF:=I' (show vF p zPod = false by
      cases hh:vF p zPod with
      | false=>rfl
      | true=>rw [(yh p zPod).1 hh] at c1;simp [zPod] at c1)
     go_enter Tryz.func16,Tryz.ntmps16;exact Zaa1
   | true =>
     cases c2:(p.cpu == 0) with
     | false =>
       have HF:=I' (show vF p zPod = false by
        cases hh:vF p zPod with
        | false=>rfl
        | true=>rw [(yh p zPod).1 hh] at c2;simp [zPod] at c2)
       go_enter Tryz.func16,Tryz.ntmps16;exact Zaa1
     | true =>
       cases c3:(p.mem == 0) with
       | false =>
         have HF:=I' (show vF p zPod = false by
          cases hh:vF p zPod with
          | false=>rfl
          | true=>rw [(yh p zPod).1 hh] at c3;simp [zPod] at c3)
         go_enter Tryz.func16,Tryz.ntmps16;exact Zaa1
       | true =>
         cases c4:(p.rank == 0) with
         | false =>
           have HF:=I' (show vF p zPod = false by
            cases hh:vF p zPod with
            | false=>rfl
            | true=>rw [(yh p zPod).1 hh] at c4;simp [zPod] at c4)
           go_enter Tryz.func16,Tryz.ntmps16;exact Zaa1
         | true =>
           cases c5:((p.needs.length:Int) == 0) with
           | false =>
             have HF:=I' (show vF p zPod = false by
              cases hh:vF p zPod with
              | false=>rfl
              | true=>rw [(yh p zPod).1 hh] at c5;simp [zPod] at c5)
             go_enter Tryz.func16,Tryz.ntmps16;exact Zaa1
           | true =>
             cases c6:((p.tolerances.length:Int) == 0) with
             | false =>
               have HF:=I' (show vF p zPod = false by
                cases hh:vF p zPod with
                | false=>rfl
                | true=>rw [(yh p zPod).1 hh] at c6;simp [zPod] at c6)
               go_enter Tryz.func16,Tryz.ntmps16;exact Zaa1
             | true =>
               have HF:=I' (show vF p zPod = true by
                refine (yh p zPod).2 ?_;have e0:p.name = ⟨#[]⟩:=Ce (by rw [List.isEmpty_iff] at c0;rw [c0,ByteArray.toList_eq];rfl);have e1:p.labels = []:=List.eq_nil_of_length_eq_zero (by have:=beq_iff_eq.1 c1;omega);have e2:p.cpu = 0:=beq_iff_eq.1 c2;have e3:p.mem = 0:=beq_iff_eq.1 c3;have e4:p.rank = 0:=beq_iff_eq.1 c4;have e5:p.needs = []:=List.eq_nil_of_length_eq_zero (by have:=beq_iff_eq.1 c5;omega);have e6:p.tolerances = []:=List.eq_nil_of_length_eq_zero (by have:=beq_iff_eq.1 c6;omega);obtain ⟨v0,v1,v2,v3,v4,v5,v6⟩:=p;dsimp only at *;subst e0 e1 e2 e3 e4 e5 e6
                rfl)
               go_enter Tryz.func16,Tryz.ntmps16;exact Zaa1
theorem l21Copy_any (x:Manifest) (cs:List Value) (F:List Nat) (w:World) (h:rd w x cs F) (hw:(x.wt:Int)≤1048576) :
 Calls Tryz.prog 13 #[.agg cs.toArray] w fun e w'=>∃ds G,e = .returned (.agg ds.toArray)∧Own w' w.heap.size x ds G∧Below w.heap.size w w':=by
 obtain ⟨kd,p,u⟩:=x;have hwp:(p.wt:Int)≤1048576:=by have e:Manifest.wt ⟨kd,p,u⟩ = p.wt+u.wt:=rfl;omega
 have hwu:(u.wt:Int)≤1048576:=by have e:Manifest.wt ⟨kd,p,u⟩ = p.wt+u.wt:=rfl;omega
 have Ji:=I' (show (p.labels.length:Int)≤1048576∧(p.needs.length:Int)≤1048576∧(p.tolerances.length:Int)≤1048576∧(∀y∈p.needs,(y.values.length:Int)≤1048576) from by
  have e:p.wt = p.name.size+kL Label.wt p.labels+kL Need.wt p.needs+kL bH.wt p.tolerances:=rfl;have g1:=gJ Label.wt p.labels;have g2:=gJ Need.wt p.needs;have g3:=gJ bH.wt p.tolerances;refine ⟨O',O',O',fun y hy=>?_⟩;have g4:=Bq (f:=Need.wt) hy;have g5:=gJ ByteArray.size y.values;have g6:Need.wt y = y.key.size+kL ByteArray.size y.values:=rfl
  omega)
 have NV:=I' (show (u.labels.length:Int)≤1048576∧(u.aT.length:Int)≤1048576 from by
  have e:u.wt = u.name.size+kL Label.wt u.labels+kL iU.wt u.aT:=rfl;have g1:=gJ Label.wt u.labels;have g2:=gJ iU.wt u.aT
  exact ⟨O',O'⟩)
 have hwzHost:(zHost.wt:Int)≤1048576:=by decide
 have hwzPod:(zPod.wt:Int)≤1048576:=by decide
 obtain ⟨cp,ch,Fp,Fh,rfl,rfl,hkd,hp,hh⟩:=rd.manParts h;dsimp only at hkd hp hh;have QS:=hp;obtain ⟨Alabelsp,clabelsp,Flabelsp,Aneedsp,cneedsp,Fneedsp,Atolerancesp,ctolerancesp,Ftolerancesp,hck,hFp,hnamep,hlabelsp,hcpup,hmemp,hrankp,hneedsp,htolerancesp⟩:=dL QS;subst hck;clear hFp QS;have hrh:=hh;obtain ⟨Alabelsq,clabelsq,Flabelsq,Ataintsq,ctaintsq,Ftaintsq,hck,hFq,hnameq,hlabelsq,hcpuq,hmemq,hslotsq,htaintsq⟩:=iy hrh;subst hck;clear hFq hrh;have HP:=I' hp;have HH:=I' hh;have HM:=I' h;clear hp hh h;simp only [List.cons_append,List.nil_append] at HM ⊢;have HKD:=I' hkd;have KT:oG ((w.alloc (.cells ([.int .i64 kd,.string p.name,.slice Alabelsp p.labels.length clabelsp,.int .i64 p.cpu,.int .i64 p.mem,.int .i64 p.rank,.slice Aneedsp p.needs.length cneedsp,.slice Atolerancesp p.tolerances.length ctolerancesp,.string u.name,.slice Alabelsq u.labels.length clabelsq,.int .i64 u.cpu,.int .i64 u.mem,.int .i64 u.slots,.slice Ataintsq u.aT.length ctaintsq]:List Value).toArray 42)).alloc (.cells ([.int .i64 0,.string ⟨#[]⟩,.slice none 0 0,.int .i64 0,.int .i64 0,.int .i64 0,.slice none 0 0,.slice none 0 0,.string ⟨#[]⟩,.slice none 0 0,.int .i64 0,.int .i64 0,.int .i64 0,.slice none 0 0]:List Value).toArray 42)) w.heap.size [.int .i64 kd,.string p.name,.slice Alabelsp p.labels.length clabelsp,.int .i64 p.cpu,.int .i64 p.mem,.int .i64 p.rank,.slice Aneedsp p.needs.length cneedsp,.slice Atolerancesp p.tolerances.length ctolerancesp,.string u.name,.slice Alabelsq u.labels.length clabelsq,.int .i64 u.cpu,.int .i64 u.mem,.int .i64 u.slots,.slice Ataintsq u.aT.length ctaintsq]:=(oG.new w [.int .i64 kd,.string p.name,.slice Alabelsp p.labels.length clabelsp,.int .i64 p.cpu,.int .i64 p.mem,.int .i64 p.rank,.slice Aneedsp p.needs.length cneedsp,.slice Atolerancesp p.tolerances.length ctolerancesp,.string u.name,.slice Alabelsq u.labels.length clabelsq,.int .i64 u.cpu,.int .i64 u.mem,.int .i64 u.slots,.slice Ataintsq u.aT.length ctaintsq] 42).ext (ak (aj _) _);have KR:oG ((w.alloc (.cells ([.int .i64 kd,.string p.name,.slice Alabelsp p.labels.length clabelsp,.int .i64 p.cpu,.int .i64 p.mem,.int .i64 p.rank,.slice Aneedsp p.needs.length cneedsp,.slice Atolerancesp p.tolerances.length ctolerancesp,.string u.name,.slice Alabelsq u.labels.length clabelsq,.int .i64 u.cpu,.int .i64 u.mem,.int .i64 u.slots,.slice Ataintsq u.aT.length ctaintsq]:List Value).toArray 42)).alloc (.cells ([.int .i64 0,.string ⟨#[]⟩,.slice none 0 0,.int .i64 0,.int .i64 0,.int .i64 0,.slice none 0 0,.slice none 0 0,.string ⟨#[]⟩,.slice none 0 0,.int .i64 0,.int .i64 0,.int .i64 0,.slice none 0 0]:List Value).toArray 42)) (w.heap.size+1) [.int .i64 0,.string ⟨#[]⟩,.slice none 0 0,.int .i64 0,.int .i64 0,.int .i64 0,.slice none 0 0,.slice none 0 0,.string ⟨#[]⟩,.slice none 0 0,.int .i64 0,.int .i64 0,.int .i64 0,.slice none 0 0]:=by have:=oG.new (w.alloc (.cells ([.int .i64 kd,.string p.name,.slice Alabelsp p.labels.length clabelsp,.int .i64 p.cpu,.int .i64 p.mem,.int .i64 p.rank,.slice Aneedsp p.needs.length cneedsp,.slice Atolerancesp p.tolerances.length ctolerancesp,.string u.name,.slice Alabelsq u.labels.length clabelsq,.int .i64 u.cpu,.int .i64 u.mem,.int .i64 u.slots,.slice Ataintsq u.aT.length ctaintsq]:List Value).toArray 42)) [.int .i64 0,.string ⟨#[]⟩,.slice none 0 0,.int .i64 0,.int .i64 0,.int .i64 0,.slice none 0 0,.slice none 0 0,.string ⟨#[]⟩,.slice none 0 0,.int .i64 0,.int .i64 0,.int .i64 0,.slice none 0 0] 42;rw [World.size_alloc] at this;exact this
 have hB:Below w.heap.size w ((w.alloc (.cells ([.int .i64 kd,.string p.name,.slice Alabelsp p.labels.length clabelsp,.int .i64 p.cpu,.int .i64 p.mem,.int .i64 p.rank,.slice Aneedsp p.needs.length cneedsp,.slice Atolerancesp p.tolerances.length ctolerancesp,.string u.name,.slice Alabelsq u.labels.length clabelsq,.int .i64 u.cpu,.int .i64 u.mem,.int .i64 u.slots,.slice Ataintsq u.aT.length ctaintsq]:List Value).toArray 42)).alloc (.cells ([.int .i64 0,.string ⟨#[]⟩,.slice none 0 0,.int .i64 0,.int .i64 0,.int .i64 0,.slice none 0 0,.slice none 0 0,.string ⟨#[]⟩,.slice none 0 0,.int .i64 0,.int .i64 0,.int .i64 0,.slice none 0 0]:List Value).toArray 42)):=ak (ak (aj _) _) _;go_enter Tryz.func13,Tryz.ntmps13;go_wp2_with fail
 generalize ((w.alloc (.cells ([.int .i64 kd,.string p.name,.slice Alabelsp p.labels.length clabelsp,.int .i64 p.cpu,.int .i64 p.mem,.int .i64 p.rank,.slice Aneedsp p.needs.length cneedsp,.slice Atolerancesp p.tolerances.length ctolerancesp,.string u.name,.slice Alabelsq u.labels.length clabelsq,.int .i64 u.cpu,.int .i64 u.mem,.int .i64 u.slots,.slice Ataintsq u.aT.length ctaintsq]:List Value).toArray 42)).alloc (.cells ([.int .i64 0,.string ⟨#[]⟩,.slice none 0 0,.int .i64 0,.int .i64 0,.int .i64 0,.slice none 0 0,.slice none 0 0,.string ⟨#[]⟩,.slice none 0 0,.int .i64 0,.int .i64 0,.int .i64 0,.slice none 0 0]:List Value).toArray 42)) = v0 at *;have hz0:w.heap.size+1+1≤v0.heap.size:=by have:=KR.lt;omega
 refine (anU p _ _ _ (rd_extN HP.out hB) Ji.out.1 Ji.out.2.1 Ji.out.2.2.1 Ji.out.2.2.2).mono ?_;rintro e w1 ⟨cs1,G1,rfl,jX,hb1⟩;have hR1:=jX.rd;obtain ⟨dU,dV,Ba,mJ,mM,Vb,fK,fM,Fz,hck,hG1,hname1,jr,IQ,IU,Sj,Bv,qc⟩:=dL hR1;subst hck;clear hG1 hR1;replace KT:=KT.ext hb1;replace KR:=KR.ext hb1;replace hB:=ah hB hb1;replace jX:=jX.mono hz0;clear hb1;have hz1:w.heap.size+1+1≤w1.heap.size:=by have:=KR.lt;omega
 have t0:=KT.cell (i:=0) (u:=.int .i64 kd) rfl;have t1:=KT.cell (i:=1) (u:=.string p.name) rfl;have t2:=KT.cell (i:=2) (u:=.slice Alabelsp p.labels.length clabelsp) rfl;have t3:=KT.cell (i:=3) (u:=.int .i64 p.cpu) rfl;have t4:=KT.cell (i:=4) (u:=.int .i64 p.mem) rfl;have t5:=KT.cell (i:=5) (u:=.int .i64 p.rank) rfl;have t6:=KT.cell (i:=6) (u:=.slice Aneedsp p.needs.length cneedsp) rfl;have t7:=KT.cell (i:=7) (u:=.slice Atolerancesp p.tolerances.length ctolerancesp) rfl;have t8:=KT.cell (i:=8) (u:=.string u.name) rfl;have t9:=KT.cell (i:=9) (u:=.slice Alabelsq u.labels.length clabelsq) rfl;have t10:=KT.cell (i:=10) (u:=.int .i64 u.cpu) rfl;have t11:=KT.cell (i:=11) (u:=.int .i64 u.mem) rfl;have t12:=KT.cell (i:=12) (u:=.int .i64 u.slots) rfl;have t13:=KT.cell (i:=13) (u:=.slice Ataintsq u.aT.length ctaintsq) rfl;have tl:=KT.lt;have tf:=KT.fz;have KT1:=(((((((KT.put 1 (.string p.name)).put 2 (.slice dU p.labels.length dV)).put 3 (.int .i64 p.cpu)).put 4 (.int .i64 p.mem)).put 5 (.int .i64 p.rank)).put 6 (.slice mJ p.needs.length mM)).put 7 (.slice fK p.tolerances.length fM));have KR1:=(((((((KR.far (c:=w.heap.size) O' 1 (.string p.name)).far (c:=w.heap.size) O' 2 (.slice dU p.labels.length dV)).far (c:=w.heap.size) O' 3 (.int .i64 p.cpu)).far (c:=w.heap.size) O' 4 (.int .i64 p.mem)).far (c:=w.heap.size) O' 5 (.int .i64 p.rank)).far (c:=w.heap.size) O' 6 (.slice mJ p.needs.length mM)).far (c:=w.heap.size) O' 7 (.slice fK p.tolerances.length fM));have hB1:=(aC (aC (aC (aC (aC (aC (aC hB (p:=⟨w.heap.size,1,none⟩) atX (.string p.name)) (p:=⟨w.heap.size,2,none⟩) atX (.slice dU p.labels.length dV)) (p:=⟨w.heap.size,3,none⟩) atX (.int .i64 p.cpu)) (p:=⟨w.heap.size,4,none⟩) atX (.int .i64 p.mem)) (p:=⟨w.heap.size,5,none⟩) atX (.int .i64 p.rank)) (p:=⟨w.heap.size,6,none⟩) atX (.slice mJ p.needs.length mM)) (p:=⟨w.heap.size,7,none⟩) atX (.slice fK p.tolerances.length fM));have hO2:=(((((((jX.setCell (p:=⟨w.heap.size,1,none⟩) atX (.string p.name)).setCell (p:=⟨w.heap.size,2,none⟩) atX (.slice dU p.labels.length dV)).setCell (p:=⟨w.heap.size,3,none⟩) atX (.int .i64 p.cpu)).setCell (p:=⟨w.heap.size,4,none⟩) atX (.int .i64 p.mem)).setCell (p:=⟨w.heap.size,5,none⟩) atX (.int .i64 p.rank)).setCell (p:=⟨w.heap.size,6,none⟩) atX (.slice mJ p.needs.length mM)).setCell (p:=⟨w.heap.size,7,none⟩) atX (.slice fK p.tolerances.length fM));go_wp2_with fail
 obtain ⟨w2,hw2⟩:∃w2,(((((((w1.setCell ⟨w.heap.size,1,none⟩ (.string p.name)).setCell ⟨w.heap.size,2,none⟩ (.slice dU p.labels.length dV)).setCell ⟨w.heap.size,3,none⟩ (.int .i64 p.cpu)).setCell ⟨w.heap.size,4,none⟩ (.int .i64 p.mem)).setCell ⟨w.heap.size,5,none⟩ (.int .i64 p.rank)).setCell ⟨w.heap.size,6,none⟩ (.slice mJ p.needs.length mM)).setCell ⟨w.heap.size,7,none⟩ (.slice fK p.tolerances.length fM)) = w2:=⟨_,rfl⟩;have hs2:w2.heap.size = w1.heap.size:=by rw [← hw2];simp [World.setCell]
 rw [hw2] at KT1 KR1 hB1 hO2;try rw [hw2]
 clear hw2 KT KR hB jX t0 t1 t2 t3 t4 t5 t6 t7 t8 t9 t10 t11 t12 t13 tl tf;refine (alT u _ _ _ (rd_extN HH.out hB1) NV.out.1 NV.out.2).mono ?_;rintro e w3 ⟨cs3,G3,rfl,hO3,hb3⟩;have Xz:=hO3.rd;obtain ⟨bY,bZ,iq,wP,wQ,Qe,hck,hG3,jW,dA,kQ,lg,Nh,Bd⟩:=iy Xz;subst hck;clear hG3 Xz;have hdd:∀y∈G1,y∉G3:=fun y hy hy'=>by have:=hO2.lt y hy;have:=hO3.base y hy';omega
 replace hO3:=hO3.mono (B':=w.heap.size+1+1) O';replace hO2:=hO2.ext hb3;replace KT1:=KT1.ext hb3;replace KR1:=KR1.ext hb3;replace hB1:=ah hB1 hb3;clear hb3;have t0:=KT1.cell (i:=0) (u:=.int .i64 kd) rfl;have t1:=KT1.cell (i:=1) (u:=.string p.name) rfl;have t2:=KT1.cell (i:=2) (u:=.slice dU p.labels.length dV) rfl;have t3:=KT1.cell (i:=3) (u:=.int .i64 p.cpu) rfl;have t4:=KT1.cell (i:=4) (u:=.int .i64 p.mem) rfl;have t5:=KT1.cell (i:=5) (u:=.int .i64 p.rank) rfl;have t6:=KT1.cell (i:=6) (u:=.slice mJ p.needs.length mM) rfl;have t7:=KT1.cell (i:=7) (u:=.slice fK p.tolerances.length fM) rfl;have t8:=KT1.cell (i:=8) (u:=.string u.name) rfl;have t9:=KT1.cell (i:=9) (u:=.slice Alabelsq u.labels.length clabelsq) rfl;have t10:=KT1.cell (i:=10) (u:=.int .i64 u.cpu) rfl;have t11:=KT1.cell (i:=11) (u:=.int .i64 u.mem) rfl;have t12:=KT1.cell (i:=12) (u:=.int .i64 u.slots) rfl;have t13:=KT1.cell (i:=13) (u:=.slice Ataintsq u.aT.length ctaintsq) rfl;have tl:=KT1.lt;have tf:=KT1.fz;have r0:=KR1.cell (i:=0) (u:=.int .i64 0) rfl;have r1:=KR1.cell (i:=1) (u:=.string ⟨#[]⟩) rfl;have r2:=KR1.cell (i:=2) (u:=.slice none 0 0) rfl;have r3:=KR1.cell (i:=3) (u:=.int .i64 0) rfl;have r4:=KR1.cell (i:=4) (u:=.int .i64 0) rfl;have r5:=KR1.cell (i:=5) (u:=.int .i64 0) rfl;have r6:=KR1.cell (i:=6) (u:=.slice none 0 0) rfl;have r7:=KR1.cell (i:=7) (u:=.slice none 0 0) rfl;have r8:=KR1.cell (i:=8) (u:=.string ⟨#[]⟩) rfl;have r9:=KR1.cell (i:=9) (u:=.slice none 0 0) rfl;have r10:=KR1.cell (i:=10) (u:=.int .i64 0) rfl;have r11:=KR1.cell (i:=11) (u:=.int .i64 0) rfl;have r12:=KR1.cell (i:=12) (u:=.int .i64 0) rfl;have r13:=KR1.cell (i:=13) (u:=.slice none 0 0) rfl;have rl:=KR1.lt;have rf:=KR1.fz;have HOz:=I' (show Own w3 (w.heap.size+1+1) (⟨kd,p,u⟩:Manifest) [.int .i64 kd,.string p.name,.slice dU p.labels.length dV,.int .i64 p.cpu,.int .i64 p.mem,.int .i64 p.rank,.slice mJ p.needs.length mM,.slice fK p.tolerances.length fM,.string u.name,.slice bY u.labels.length bZ,.int .i64 u.cpu,.int .i64 u.mem,.int .i64 u.slots,.slice wP u.aT.length wQ] (G1++G3) from Own.manWhole HKD.out hO2 hO3 hdd);have HBz:=I' hB1;clear hO2 hO3 KT1 KR1 hB1;try dsimp only
 iterate 60 (first | go_step | skip)
 refine bodyPost_ret (v:=.agg #[.int .i64 kd,.string p.name,.slice dU p.labels.length dV,.int .i64 p.cpu,.int .i64 p.mem,.int .i64 p.rank,.slice mJ p.needs.length mM,.slice fK p.tolerances.length fM,.string u.name,.slice bY u.labels.length bZ,.int .i64 u.cpu,.int .i64 u.mem,.int .i64 u.slots,.slice wP u.aT.length wQ]) (by simp [results,Tryz.results13,go_sem, *]) rfl ?_;refine ⟨[.int .i64 kd,.string p.name,.slice dU p.labels.length dV,.int .i64 p.cpu,.int .i64 p.mem,.int .i64 p.rank,.slice mJ p.needs.length mM,.slice fK p.tolerances.length fM,.string u.name,.slice bY u.labels.length bZ,.int .i64 u.cpu,.int .i64 u.mem,.int .i64 u.slots,.slice wP u.aT.length wQ],G1++G3,rfl,?_,?_⟩
 ·exact Zadb
 ·have hB:=HBz.out;exact Zaa4
end Go.Proofs.YtnedlmlpeplnfaaGreat
