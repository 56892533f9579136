/- PodNormal of the reference. No condition. -/
import Derived.Test.YtajbbmembionpaaGreatHostNormP
import Derived.Test.YtajbbmembionpaaGreatSortNeedsS
import Derived.Test.YtajbbmembionpaaGreatSortTolerancesS
namespace Go.Proofs.YtajbbmembionpaaGreat
open Go.ChangeShapes Go.WideShapes Go.ChangeAt Go.RowKit
set_option linter.unusedVariables false
set_option linter.unusedSimpArgs false
set_option maxHeartbeats 8000000
set_option maxRecDepth 100000
theorem II (x:nI) (cs:List Value) (F:List Nat) (w:World) (h:rd w x cs F) (hw:(x.wt:Int)≤1048576) :
 Calls Tryz.prog 9 #[.agg cs.toArray] w fun e w'=>∃ds G,e = .returned (.tuple #[.agg ds.toArray,.bool (jf x).2])∧am w' w.heap.size (jf x).1 ds G∧Below w.heap.size w w':=by
 have h0:=h;obtain ⟨gu,gy,jw,oh,nT,wG,fA,fB,jY,aE,qp,hname,dO,vg,cB,BJ,mX,eG⟩:=dL h;subst aE;clear qp h;have HX:=I h0;have Du:=I hw;clear h0;have im:x.wt = x.name.size+kL ap.wt x.labels+kL aM.wt x.ai+kL bH.wt x.ae:=rfl;have mP:(x.labels.length:Int)≤1048576:=by have:=gJ ap.wt x.labels;omega
 have dp:(x.ai.length:Int)≤1048576:=by have:=gJ aM.wt x.ai;omega
 have xd:(x.ae.length:Int)≤1048576:=by have:=gJ bH.wt x.ae;omega
 have lI:∀l∈x.labels,(l.key.size:Int)≤1048576∧(l.value.size:Int)≤1048576:=fun l hl=>by have h9:=Bq (f:=ap.wt) hl;have h8:ap.wt l = l.key.size+l.value.size:=rfl;omega
 have lz:∀l∈x.ai,(l.wt:Int)≤1048576:=fun l hl=>by have:=Bq (f:=aM.wt) hl;omega
 have Bf:∀l∈x.ae,(l.key.size:Int)≤1048576∧(l.value.size:Int)≤1048576:=fun l hl=>by have h9:=Bq (f:=bH.wt) hl;have h8:bH.wt l = l.key.size+l.value.size:=rfl;omega
 have hv:∀y∈x.ai,(y.values.length:Int)≤1048576:=fun l hl=>by have h9:=Bq (f:=aM.wt) hl;have:=gJ ByteArray.size l.values;have h8:aM.wt l = l.key.size+kL ByteArray.size l.values:=rfl;omega
 have S0:pA w (((w.alloc (.cells #[.string x.name,.slice gu x.labels.length gy,.int .i64 x.az,.int .i64 x.mem,.int .i64 x.aw,.slice oh x.ai.length nT,.slice fA x.ae.length fB] 35)).alloc (.cells #[.string ⟨#[]⟩,.slice none 0 0,.int .i64 0,.int .i64 0,.int .i64 0,.slice none 0 0,.slice none 0 0] 35)).alloc (.cells #[.string x.name,.slice gu x.labels.length gy,.int .i64 x.az,.int .i64 x.mem,.int .i64 x.aw,.slice oh x.ai.length nT,.slice fA x.ae.length fB] 35)) [.string x.name,.slice gu x.labels.length gy,.int .i64 x.az,.int .i64 x.mem,.int .i64 x.aw,.slice oh x.ai.length nT,.slice fA x.ae.length fB] [.string ⟨#[]⟩,.slice none 0 0,.int .i64 0,.int .i64 0,.int .i64 0,.slice none 0 0,.slice none 0 0] [.string x.name,.slice gu x.labels.length gy,.int .i64 x.az,.int .i64 x.mem,.int .i64 x.aw,.slice oh x.ai.length nT,.slice fA x.ae.length fB]:=pA.new w _ _ _ 35 35 35;obtain ⟨v0,p'⟩:∃v0,(((w.alloc (.cells #[.string x.name,.slice gu x.labels.length gy,.int .i64 x.az,.int .i64 x.mem,.int .i64 x.aw,.slice oh x.ai.length nT,.slice fA x.ae.length fB] 35)).alloc (.cells #[.string ⟨#[]⟩,.slice none 0 0,.int .i64 0,.int .i64 0,.int .i64 0,.slice none 0 0,.slice none 0 0] 35)).alloc (.cells #[.string x.name,.slice gu x.labels.length gy,.int .i64 x.az,.int .i64 x.mem,.int .i64 x.aw,.slice oh x.ai.length nT,.slice fA x.ae.length fB] 35)) = v0:=⟨_,rfl⟩;rw [p'] at S0;have pJ:=I p';have i1:=S0.cM.cell (i:=1) (u:=.slice gu x.labels.length gy) rfl;have j1:=S0.ob.lt;clear p' hw im;go_enter Tryz.func9,Tryz.ntmps9;go_wp2_with fail
 rw [pJ.out];clear pJ;refine (Ri x.labels _ _ _ v0 (dO.ext S0.aD) mP lI).mono ?_;obtain ⟨L1,b1,e1⟩:∃L b,BG x.labels = (L,b):=⟨_,_,rfl⟩;rw [e1];have E1:=I e1;clear e1 i1;rintro e w1 ⟨A1,c1,G1,rfl,jX,bo⟩;have T1:=S0.ext bo;replace jX:=jX.mono (B':=w.heap.size+1+1+1) J;obtain ⟨z1,cE⟩:∃z,z = w1.heap.size:=⟨_,rfl⟩;have yr:=I (show ∀b∈G1,b < z1 from fun b X=>by rw [cE];exact jX.lt b X);have Mp:w.heap.size+1+1+1≤z1:=by have:=bo.size;omega
 clear bo;have i2:=T1.cM.cell (i:=5) (u:=.slice oh x.ai.length nT) rfl;have j2:=T1.ob.lt;go_wp2_with fail
 clear S0;refine (Y0 x.ai _ _ _ w1 (mX.ext T1.aD) dp lz).mono ?_;obtain ⟨L2,b2,e2⟩:∃L b,jD x.ai = (L,b):=⟨_,_,rfl⟩;rw [e2];have E2:=I e2;clear e2 i2;rintro e w2 ⟨A2,c2,G2,rfl,bI,ar⟩;have T2:=T1.ext ar;replace bI:=bI.mono (B':=z1) (by have:=cE;omega);replace jX:=jX.ext ar;obtain ⟨z2,cw⟩:∃z,z = w2.heap.size:=⟨_,rfl⟩;have tF:=I (show ∀b∈G2,b < z2 from fun b X=>by rw [cw];exact bI.lt b X);have Mq:z1≤z2:=by have:=ar.size;omega
 clear ar;have i3:=T2.cM.cell (i:=6) (u:=.slice fA x.ae.length fB) rfl;have j3:=T2.ob.lt;go_wp2_with fail
 clear T1;refine (Y9 x.ae _ _ _ w2 (eG.ext T2.aD) xd Bf).mono ?_;obtain ⟨L3,b3,e3⟩:∃L b,j6 x.ae = (L,b):=⟨_,_,rfl⟩;rw [e3];have E3:=I e3;clear e3 i3;rintro e w3 ⟨A3,c3,G3,rfl,hO3,bb⟩;have T3:=T2.ext bb;replace hO3:=hO3.mono (B':=z2) (by have:=cw;omega);replace jX:=jX.ext bb;replace bI:=bI.ext bb;obtain ⟨z3,cU⟩:∃z,z = w3.heap.size:=⟨_,rfl⟩;have Za:=I (show ∀b∈G3,b < z3 from fun b X=>by rw [cU];exact hO3.lt b X);have Zc:z2≤z3:=by have:=bb.size;omega
 clear bb;have k1:=T3.ob.cell (i:=1) (u:=.slice gu x.labels.length gy) rfl;have f1:=T3.ob.fz 1;have S1:=T3.put 1 (.slice A1 L1.length c1);replace jX:=jX.setCell (p:=⟨w.heap.size+1+1,1,none⟩) bA (.slice A1 L1.length c1);replace bI:=bI.setCell (p:=⟨w.heap.size+1+1,1,none⟩) bA (.slice A1 L1.length c1);replace hO3:=hO3.setCell (p:=⟨w.heap.size+1+1,1,none⟩) bA (.slice A1 L1.length c1);have k2:=T3.ob.cell (i:=5) (u:=.slice oh x.ai.length nT) rfl;have f2:=T3.ob.fz 5;have S2:=S1.put 5 (.slice A2 L2.length c2);replace jX:=jX.setCell (p:=⟨w.heap.size+1+1,5,none⟩) bA (.slice A2 L2.length c2);replace bI:=bI.setCell (p:=⟨w.heap.size+1+1,5,none⟩) bA (.slice A2 L2.length c2);replace hO3:=hO3.setCell (p:=⟨w.heap.size+1+1,5,none⟩) bA (.slice A2 L2.length c2);have k3:=T3.ob.cell (i:=6) (u:=.slice fA x.ae.length fB) rfl;have f3:=T3.ob.fz 6;have S3:=S2.put 6 (.slice A3 L3.length c3);replace jX:=jX.setCell (p:=⟨w.heap.size+1+1,6,none⟩) bA (.slice A3 L3.length c3);replace bI:=bI.setCell (p:=⟨w.heap.size+1+1,6,none⟩) bA (.slice A3 L3.length c3);replace hO3:=hO3.setCell (p:=⟨w.heap.size+1+1,6,none⟩) bA (.slice A3 L3.length c3);have l9:=T3.ob.lt;go_upto_region 8 with fail
 obtain ⟨v3,hv⟩:∃v,(((w3.setCell ⟨w.heap.size+1+1,1,none⟩ (.slice A1 L1.length c1)).setCell ⟨w.heap.size+1+1,5,none⟩ (.slice A2 L2.length c2)).setCell ⟨w.heap.size+1+1,6,none⟩ (.slice A3 L3.length c3)) = v:=⟨_,rfl⟩;have hs:v3.heap.size = z3:=by rw [← hv,cU];simp [World.setCell]
 rw [hv] at S3 jX bI hO3;try rw [hv]
 clear hv T3 k1 f1 k2 f2 k3 f3 l9 cU;have cU:=hs;clear hs
 have fY:=I (show am v3 (w.heap.size+1+1+1) (⟨x.name,L1,x.az,x.mem,x.aw,L2,L3⟩:nI) [.string x.name,.slice A1 L1.length c1,.int .i64 x.az,.int .i64 x.mem,.int .i64 x.aw,.slice A2 L2.length c2,.slice A3 L3.length c3] (G1++(G2++G3)) from by
  refine am.up (B':=w.heap.size+1+1+1) (fun x:nI=>(x.name,x.labels,x.az,x.mem,x.aw,x.ai,x.ae)) ?_ (Nat.le_refl _);refine am.cons (c1:=[.string x.name]) (dE _ x.name (rV hname)) ?_;refine am.ez (B2:=z1) (c1:=[.slice A1 L1.length c1]) (F1:=G1) jX ?_ J yr.out;refine am.cons (c1:=[.int .i64 x.az]) (jL _ x.az vg) ?_;refine am.cons (c1:=[.int .i64 x.mem]) (jL _ x.mem cB) ?_;refine am.cons (c1:=[.int .i64 x.aw]) (jL _ x.aw BJ) ?_;refine am.ez (B2:=z2) (c1:=[.slice A2 L2.length c2]) (F1:=G2) bI ?_ J tF.out
  exact hO3)
 have HN:=I (show qR x = ⟨x.name,L1,x.az,x.mem,x.aw,L2,L3⟩ by unfold qR;rw [E1.out,E2.out,E3.out]);have HR:=I (show jf x = if b1 = true∧b2 = true∧b3 = true∧GU (qR x) = true then (qR x,true) else (x,false) by unfold jf;rw [E1.out,E2.out,E3.out]);have HS:=I S3;have Qo:=I (show ((qR x).wt:Int)≤1048576 by have:=YN x;have:=Du.out;omega);clear jX bI hO3 S3;have q_:=HS.out.ob.lt;obtain ⟨p0,p1,p2,p3,p4,p5,p6⟩:=pH HS.out.cM;cases b1 with
 | false =>have nG:=I (show jf x = (x,false) by rw [HR.out];exact if_neg (by rintro ⟨hh,_⟩;cases hh));exact xc
 | true =>
   cases b2 with
   | false =>have nG:=I (show jf x = (x,false) by rw [HR.out];exact if_neg (by rintro ⟨_,hh,_⟩;cases hh));exact xc
   | true =>
     cases b3 with
     | false =>have nG:=I (show jf x = (x,false) by rw [HR.out];exact if_neg (by rintro ⟨_,_,hh,_⟩;cases hh));exact xc
     | true =>
       have XQ:=HN;cases hr:GU (qR x) with
       | false =>
         have jS:=I hr;obtain ⟨q0,q1,q2,q3,q4,q5,q6⟩:=pH HS.out.ob;go_wp2_with fail
         refine (yT (⟨x.name,L1,x.az,x.mem,x.aw,L2,L3⟩:nI) _ _ v3 fY.out.rd Ju).mono ?_;rw [← HN.out,jS.out];rintro e w7 ⟨rfl,bC⟩;have iu:=I (HS.out.ext bC);have I1:=I (fY.out.ext bC);clear p0 p1 p2 p3 p4 p5 p6 q0 q1 q2 q3 q4 q5 q6 q_ bC;have nG:=I (show jf x = (x,false) by rw [HR.out];exact if_neg (by rintro ⟨_,_,_,hh⟩;rw [jS.out] at hh;cases hh));have rr:=iu.out.cM.lt;obtain ⟨p0,p1,p2,p3,p4,p5,p6⟩:=pH iu.out.cM;go_wp2_with fail
         refine (Ld x _ _ w7 (IJ HX.out iu.out.aD) mP dp xd hv).mono ?_;rintro e w8 ⟨Lf,G8,rfl,sV,ki⟩;have T8:=iu.out.ext ki;have SY:=sV;obtain ⟨pG,aHA,aJp,aIC,aID,aBA,aHF,aHG,aJF,ayd,hF9,aye,aJq,aAR,aAS,aDs,aBB,aJG⟩:=dL sV.rd;subst ayd;clear hF9 sV;obtain ⟨r0,r1,r2,r3,r4,r5,r6⟩:=pH T8.rb;have rf:=T8.rb.fz;have rl:=T8.rb.lt;have po:=I SY;have Ai:=I T8;have Lg:w.heap.size+1 < w7.heap.size:=iu.out.rb.lt;clear SY T8 ki;go_wp2_with fail
         try dsimp only
         iterate 60 (first | go_step | skip)
         refine bodyPost_ret (v:=.tuple #[.agg #[.string x.name,.slice pG x.labels.length aHA,.int .i64 x.az,.int .i64 x.mem,.int .i64 x.aw,.slice aIC x.ai.length aID,.slice aHF x.ae.length aHG],.bool false]) (by simp [results,Tryz.results9,go_sem, *]) rfl ⟨[.string x.name,.slice pG x.labels.length aHA,.int .i64 x.az,.int .i64 x.mem,.int .i64 x.aw,.slice aIC x.ai.length aID,.slice aHF x.ae.length aHG],G8,by rw [nG.out];try rfl,?_,?_⟩
         ·rw [nG.out];refine am.mono (B:=w7.heap.size) ?_ J;exact Ak
         ·exact IK
       | true =>
         have jS:=I hr;obtain ⟨q0,q1,q2,q3,q4,q5,q6⟩:=pH HS.out.ob;go_wp2_with fail
         refine (yT (⟨x.name,L1,x.az,x.mem,x.aw,L2,L3⟩:nI) _ _ v3 fY.out.rd Ju).mono ?_;rw [← HN.out,jS.out];rintro e w7 ⟨rfl,bC⟩;have iu:=I (HS.out.ext bC);have I1:=I (fY.out.ext bC);clear p0 p1 p2 p3 p4 p5 p6 q0 q1 q2 q3 q4 q5 q6 q_ bC;have xt:=I (show jf x = (qR x,true) by rw [HR.out];exact if_pos (by simp [jS.out]));obtain ⟨q0,q1,q2,q3,q4,q5,q6⟩:=pH iu.out.ob;obtain ⟨r0,r1,r2,r3,r4,r5,r6⟩:=pH iu.out.rb;have rf:=iu.out.rb.fz;have rl:=iu.out.rb.lt;have ql:=iu.out.ob.lt;go_wp2_with fail
         try dsimp only
         iterate 60 (first | go_step | skip)
         refine bodyPost_ret (v:=.tuple #[.agg #[.string x.name,.slice A1 L1.length c1,.int .i64 x.az,.int .i64 x.mem,.int .i64 x.aw,.slice A2 L2.length c2,.slice A3 L3.length c3],.bool true]) (by simp [results,Tryz.results9,go_sem, *]) rfl ⟨[.string x.name,.slice A1 L1.length c1,.int .i64 x.az,.int .i64 x.mem,.int .i64 x.aw,.slice A2 L2.length c2,.slice A3 L3.length c3],G1++(G2++G3),by rw [xt.out];try rfl,?_,?_⟩
         ·exact DA
         ·exact (by repeat (first | with_reducible exact iu.out.aD | with_reducible refine aC ?_ bA _))
end Go.Proofs.YtajbbmembionpaaGreat
