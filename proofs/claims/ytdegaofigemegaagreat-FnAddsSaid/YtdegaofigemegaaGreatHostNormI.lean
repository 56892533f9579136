/- HostNormal of the program. No condition. -/
import Derived.Test.YtdegaofigemegaaGreatPodNormS
import Derived.Test.YtdegaofigemegaaGreatBest
namespace Go.Proofs.YtdegaofigemegaaGreat
open Go.ChangeShapes Go.WideShapes Go.ChangeAt Go.RowKit
set_option linter.unusedVariables false
set_option linter.unusedSimpArgs false
set_option maxHeartbeats 8000000
set_option maxRecDepth 100000
theorem cX (x:ba) (cs:List Value) (F:List Nat) (w:World) (h:rd w x cs F) (hw:(x.wt:Int)<=1048576) :
 Calls Tryz.prog 40 #[.agg cs.toArray] w λe w'=>∃ds G,e = .returned (.tuple #[.agg ds.toArray,.bool (bf x).2])/\ai w' w.heap.size (bf x).1 ds G/\Below w.heap.size w w':=by
 have h0:=h;obtain ⟨gu,gy,jw,kJ,kK,qU,ar,qp,hname,dO,vg,b8,uI,jq⟩:=iy h;subst ar;clear qp h;have HX:=I h0;have Du:=I hw;clear h0;have i':x.wt = x.name.size+kL ao.wt x.labels+kL iU.wt x.aT:=rfl;have fu:(x.labels.length:Int)<=1048576:=by have:=gJ ao.wt x.labels;omega
 have cA:(x.aT.length:Int)<=1048576:=by have:=gJ iU.wt x.aT;omega
 have pn:∀l∈x.labels,(l.key.size:Int)<=1048576/\(l.value.size:Int)<=1048576:=λl hl=>by have h9:=Bq (f:=ao.wt) hl;have h8:ao.wt l = l.key.size+l.value.size:=rfl;omega
 have pm:∀l∈x.aT,(l.key.size:Int)<=1048576/\(l.value.size:Int)<=1048576:=λl hl=>by have h9:=Bq (f:=iU.wt) hl;have h8:iU.wt l = l.key.size+l.value.size:=rfl;omega
 have S0:pu w (((w.alloc (.cells #[.string x.name,.slice gu x.labels.length gy,.int .i64 x.aq,.int .i64 x.mem,.int .i64 x.slots,.slice kJ x.aT.length kK] 38)).alloc (.cells #[.string ⟨#[]⟩,.slice none 0 0,.int .i64 0,.int .i64 0,.int .i64 0,.slice none 0 0] 38)).alloc (.cells #[.string x.name,.slice gu x.labels.length gy,.int .i64 x.aq,.int .i64 x.mem,.int .i64 x.slots,.slice kJ x.aT.length kK] 38)) [.string x.name,.slice gu x.labels.length gy,.int .i64 x.aq,.int .i64 x.mem,.int .i64 x.slots,.slice kJ x.aT.length kK] [.string ⟨#[]⟩,.slice none 0 0,.int .i64 0,.int .i64 0,.int .i64 0,.slice none 0 0] [.string x.name,.slice gu x.labels.length gy,.int .i64 x.aq,.int .i64 x.mem,.int .i64 x.slots,.slice kJ x.aT.length kK]:=pu.new w _ _ _ 38 38 38;obtain ⟨v0,nk⟩:∃v0,(((w.alloc (.cells #[.string x.name,.slice gu x.labels.length gy,.int .i64 x.aq,.int .i64 x.mem,.int .i64 x.slots,.slice kJ x.aT.length kK] 38)).alloc (.cells #[.string ⟨#[]⟩,.slice none 0 0,.int .i64 0,.int .i64 0,.int .i64 0,.slice none 0 0] 38)).alloc (.cells #[.string x.name,.slice gu x.labels.length gy,.int .i64 x.aq,.int .i64 x.mem,.int .i64 x.slots,.slice kJ x.aT.length kK] 38)) = v0:=⟨_,rfl⟩;rw [nk] at S0;have oF:=I nk;have i1:=S0.box.cell (i:=1) (u:=.slice gu x.labels.length gy) rfl;have j1:=S0.ob.lt;clear nk hw i';go_enter Tryz.func40,Tryz.ntmps40;go_wp2_with fail
 rw [oF.out];clear oF;refine (fX x.labels _ _ _ v0 (dO.ext S0.below) fu pn).mono ?_;obtain ⟨L1,b1,e1⟩:∃L b,BG x.labels = (L,b):=⟨_,_,rfl⟩;rw [e1];have E1:=I e1;clear e1 i1;rintro e w1 ⟨A1,c1,G1,rfl,jX,aR⟩;have T1:=S0.ext aR;replace jX:=jX.mono (B':=w.heap.size+1+1+1) J;obtain ⟨z1,cI⟩:∃z,z = w1.heap.size:=⟨_,rfl⟩;have p':=I (show ∀b∈G1,b < z1 from λb hb=>by rw [cI];exact jX.lt b hb);have Fw:w.heap.size+1+1+1<=z1:=by have:=aR.size;omega
 clear aR;have k9:=T1.ob.cell (i:=1) (u:=.slice gu x.labels.length gy) rfl;have f9:=T1.ob.fz 1;have l9:=T1.ob.lt;have S1:=T1.put 1 (.slice A1 L1.length c1);replace jX:=jX.setCell (p:=⟨w.heap.size+1+1,1,none⟩) bx (.slice A1 L1.length c1);have i2:=S1.box.cell (i:=5) (u:=.slice kJ x.aT.length kK) rfl;go_wp2_with fail
 obtain ⟨v1,hv⟩:∃v,w1.setCell ⟨w.heap.size+1+1,1,none⟩ (.slice A1 L1.length c1) = v:=⟨_,rfl⟩;have hs:v1.heap.size = z1:=by rw [<- hv,cI];simp [World.setCell]
 rw [hv] at S1 jX i2;try rw [hv]
 have j2:=S1.ob.lt;clear hv T1 k9 f9 l9 cI S0;have cI:=hs;clear hs;refine (lh x.aT _ _ _ v1 (jq.ext S1.below) cA pm).mono ?_;obtain ⟨L2,b2,e2⟩:∃L b,Fq x.aT = (L,b):=⟨_,_,rfl⟩;rw [e2];have E2:=I e2;clear e2 i2;rintro e w2 ⟨A2,c2,G2,rfl,bj,am⟩;have T2:=S1.ext am;replace bj:=bj.mono (B':=z1) (by have:=cI;omega);replace jX:=jX.ext am;obtain ⟨z2,ca⟩:∃z,z = w2.heap.size:=⟨_,rfl⟩;have nz:=I (show ∀b∈G2,b < z2 from λb hb=>by rw [ca];exact bj.lt b hb);have Fy:z1<=z2:=by have:=am.size;omega
 clear am;have k9:=T2.ob.cell (i:=5) (u:=.slice kJ x.aT.length kK) rfl;have f9:=T2.ob.fz 5;have l9:=T2.ob.lt;have S2:=T2.put 5 (.slice A2 L2.length c2);replace jX:=jX.setCell (p:=⟨w.heap.size+1+1,5,none⟩) bx (.slice A2 L2.length c2);replace bj:=bj.setCell (p:=⟨w.heap.size+1+1,5,none⟩) bx (.slice A2 L2.length c2);go_upto_region 5 with fail
 obtain ⟨v2,hv⟩:∃v,w2.setCell ⟨w.heap.size+1+1,5,none⟩ (.slice A2 L2.length c2) = v:=⟨_,rfl⟩;have hs:v2.heap.size = z2:=by rw [<- hv,ca];simp [World.setCell]
 rw [hv] at S2 jX bj;try rw [hv]
 have j3:=S2.ob.lt;clear hv T2 k9 f9 l9 ca S1;have ca:=hs;clear hs
 have di:=I (show ai v2 (w.heap.size+1+1+1) (⟨x.name,L1,x.aq,x.mem,x.slots,L2⟩:ba) [.string x.name,.slice A1 L1.length c1,.int .i64 x.aq,.int .i64 x.mem,.int .i64 x.slots,.slice A2 L2.length c2] (G1++G2) from by
  refine ai.up (B':=w.heap.size+1+1+1) (λx:ba=>(x.name,x.labels,x.aq,x.mem,x.slots,x.aT)) ?_ (Nat.le_refl _);refine ai.cons (c1:=[.string x.name]) (rdStr _ x.name (rV hname)) ?_;refine ai.pair (B2:=z1) (c1:=[.slice A1 L1.length c1]) (F1:=G1) jX ?_ J p'.out;refine ai.cons (c1:=[.int .i64 x.aq]) (jL _ x.aq vg) ?_;refine ai.cons (c1:=[.int .i64 x.mem]) (jL _ x.mem b8) ?_;refine ai.cons (c1:=[.int .i64 x.slots]) (jL _ x.slots uI) ?_
  exact bj)
 have HN:=I (show mO x = ⟨x.name,L1,x.aq,x.mem,x.slots,L2⟩ by unfold mO;rw [E1.out,E2.out]);have HR:=I (show bf x = if b1 = true/\b2 = true/\Aj (mO x) = true then (mO x,true) else (x,false) by unfold bf;rw [E1.out,E2.out]);have HS:=I S2;have RG:=I (show ((mO x).wt:Int)<=1048576 by have:=aCl x;have:=Du.out;omega);clear jX bj S2;have q_:=HS.out.ob.lt;obtain ⟨p0,p1,p2,p3,p4,p5⟩:=cK HS.out.box;cases b1 with
 | false =>have j7:=I (show bf x = (x,false) by rw [HR.out];exact if_neg (by rintro ⟨hh,_⟩;cases hh));exact K6
 | true =>
   cases b2 with
   | false =>have j7:=I (show bf x = (x,false) by rw [HR.out];exact if_neg (by rintro ⟨_,hh,_⟩;cases hh));exact K6
   | true =>
     have VJ:=HN;cases hr:Aj (mO x) with
     | false =>
       have en:=I hr;obtain ⟨q0,q1,q2,q3,q4,q5⟩:=cK HS.out.ob;go_wp2_with fail
       refine (tY (⟨x.name,L1,x.aq,x.mem,x.slots,L2⟩:ba) _ _ v2 di.out.rd AZ).mono ?_;rw [<- HN.out,en.out];rintro e w7 ⟨rfl,bw⟩;have eu:=I (HS.out.ext bw);have AM:=I (di.out.ext bw);clear p0 p1 p2 p3 p4 p5 q0 q1 q2 q3 q4 q5 q_ bw;have j7:=I (show bf x = (x,false) by rw [HR.out];exact if_neg (by rintro ⟨_,_,hh⟩;rw [en.out] at hh;cases hh));have rr:=eu.out.box.lt;obtain ⟨p0,p1,p2,p3,p4,p5⟩:=cK eu.out.box;go_wp2_with fail
       refine (Tr x _ _ w7 (AF HX.out eu.out.below) fu cA).mono ?_;rintro e w8 ⟨C3,G8,rfl,sV,d8⟩;have T8:=eu.out.ext d8;have SY:=sV;obtain ⟨lA,aHA,aJp,aIQ,aIR,aCm,ayd,hF9,aye,aJq,aAR,aAS,aDQ,aCn⟩:=iy sV.rd;subst ayd;clear hF9 sV;obtain ⟨r0,r1,r2,r3,r4,r5⟩:=cK T8.rb;have rf:=T8.rb.fz;have rl:=T8.rb.lt;have lj:=I SY;have xe:=I T8;have C4:w.heap.size+1 < w7.heap.size:=eu.out.rb.lt;clear SY T8 d8;go_wp2_with fail
       try dsimp only
       iterate 60 (first | go_step | skip)
       refine bodyPost_ret (v:=.tuple #[.agg #[.string x.name,.slice lA x.labels.length aHA,.int .i64 x.aq,.int .i64 x.mem,.int .i64 x.slots,.slice aIQ x.aT.length aIR],.bool false]) (by simp [results,Tryz.results40,go_sem, *]) rfl ⟨[.string x.name,.slice lA x.labels.length aHA,.int .i64 x.aq,.int .i64 x.mem,.int .i64 x.slots,.slice aIQ x.aT.length aIR],G8,by rw [j7.out];try rfl,?_,?_⟩
       ·exact yr
       ·exact AG
     | true =>
       have en:=I hr;obtain ⟨q0,q1,q2,q3,q4,q5⟩:=cK HS.out.ob;go_wp2_with fail
       refine (tY (⟨x.name,L1,x.aq,x.mem,x.slots,L2⟩:ba) _ _ v2 di.out.rd AZ).mono ?_;rw [<- HN.out,en.out];rintro e w7 ⟨rfl,bw⟩;have eu:=I (HS.out.ext bw);have AM:=I (di.out.ext bw);clear p0 p1 p2 p3 p4 p5 q0 q1 q2 q3 q4 q5 q_ bw;have t7:=I (show bf x = (mO x,true) by rw [HR.out];exact if_pos (by simp [en.out]));obtain ⟨q0,q1,q2,q3,q4,q5⟩:=cK eu.out.ob;obtain ⟨r0,r1,r2,r3,r4,r5⟩:=cK eu.out.rb;have rf:=eu.out.rb.fz;have rl:=eu.out.rb.lt;have ql:=eu.out.ob.lt;go_wp2_with fail
       try dsimp only
       iterate 60 (first | go_step | skip)
       refine bodyPost_ret (v:=.tuple #[.agg #[.string x.name,.slice A1 L1.length c1,.int .i64 x.aq,.int .i64 x.mem,.int .i64 x.slots,.slice A2 L2.length c2],.bool true]) (by simp [results,Tryz.results40,go_sem, *]) rfl ⟨[.string x.name,.slice A1 L1.length c1,.int .i64 x.aq,.int .i64 x.mem,.int .i64 x.slots,.slice A2 L2.length c2],G1++G2,by rw [t7.out];try rfl,?_,?_⟩
       ·exact yh
       ·exact yn
theorem cQ (x:nI) (cs:List Value) (F:List Nat) (w:World) (h:rd w x cs F) (hw:(x.wt:Int)<=1048576) :
 Calls Tryz.prog 38 #[.agg cs.toArray] w λe w'=>∃ds G,e = .returned (.tuple #[.agg ds.toArray,.bool (jf x).2])/\ai w' w.heap.size (jf x).1 ds G/\Below w.heap.size w w':=by
 have h0:=h;obtain ⟨gu,gy,jw,oh,nT,wG,fA,fB,jY,ar,qp,hname,dO,vg,b8,BJ,mX,eG⟩:=dL h;subst ar;clear qp h;have HX:=I h0;have Du:=I hw;clear h0;have i':x.wt = x.name.size+kL ao.wt x.labels+kL aL.wt x.af+kL bH.wt x.ae:=rfl;have fu:(x.labels.length:Int)<=1048576:=by have:=gJ ao.wt x.labels;omega
 have cA:(x.af.length:Int)<=1048576:=by have:=gJ aL.wt x.af;omega
 have nU:(x.ae.length:Int)<=1048576:=by have:=gJ bH.wt x.ae;omega
 have pn:∀l∈x.labels,(l.key.size:Int)<=1048576/\(l.value.size:Int)<=1048576:=λl hl=>by have h9:=Bq (f:=ao.wt) hl;have h8:ao.wt l = l.key.size+l.value.size:=rfl;omega
 have pm:∀l∈x.af,(l.wt:Int)<=1048576:=λl hl=>by have:=Bq (f:=aL.wt) hl;omega
 have Wo:∀l∈x.ae,(l.key.size:Int)<=1048576/\(l.value.size:Int)<=1048576:=λl hl=>by have h9:=Bq (f:=bH.wt) hl;have h8:bH.wt l = l.key.size+l.value.size:=rfl;omega
 have hv:∀y∈x.af,(y.values.length:Int)<=1048576:=λl hl=>by have h9:=Bq (f:=aL.wt) hl;have:=gJ ByteArray.size l.values;have h8:aL.wt l = l.key.size+kL ByteArray.size l.values:=rfl;omega
 have S0:pu w (((w.alloc (.cells #[.string x.name,.slice gu x.labels.length gy,.int .i64 x.aq,.int .i64 x.mem,.int .i64 x.av,.slice oh x.af.length nT,.slice fA x.ae.length fB] 35)).alloc (.cells #[.string ⟨#[]⟩,.slice none 0 0,.int .i64 0,.int .i64 0,.int .i64 0,.slice none 0 0,.slice none 0 0] 35)).alloc (.cells #[.string x.name,.slice gu x.labels.length gy,.int .i64 x.aq,.int .i64 x.mem,.int .i64 x.av,.slice oh x.af.length nT,.slice fA x.ae.length fB] 35)) [.string x.name,.slice gu x.labels.length gy,.int .i64 x.aq,.int .i64 x.mem,.int .i64 x.av,.slice oh x.af.length nT,.slice fA x.ae.length fB] [.string ⟨#[]⟩,.slice none 0 0,.int .i64 0,.int .i64 0,.int .i64 0,.slice none 0 0,.slice none 0 0] [.string x.name,.slice gu x.labels.length gy,.int .i64 x.aq,.int .i64 x.mem,.int .i64 x.av,.slice oh x.af.length nT,.slice fA x.ae.length fB]:=pu.new w _ _ _ 35 35 35;obtain ⟨v0,nk⟩:∃v0,(((w.alloc (.cells #[.string x.name,.slice gu x.labels.length gy,.int .i64 x.aq,.int .i64 x.mem,.int .i64 x.av,.slice oh x.af.length nT,.slice fA x.ae.length fB] 35)).alloc (.cells #[.string ⟨#[]⟩,.slice none 0 0,.int .i64 0,.int .i64 0,.int .i64 0,.slice none 0 0,.slice none 0 0] 35)).alloc (.cells #[.string x.name,.slice gu x.labels.length gy,.int .i64 x.aq,.int .i64 x.mem,.int .i64 x.av,.slice oh x.af.length nT,.slice fA x.ae.length fB] 35)) = v0:=⟨_,rfl⟩;rw [nk] at S0;have oF:=I nk;have i1:=S0.box.cell (i:=1) (u:=.slice gu x.labels.length gy) rfl;have j1:=S0.ob.lt;clear nk hw i';go_enter Tryz.func38,Tryz.ntmps38;go_wp2_with fail
 rw [oF.out];clear oF;refine (fX x.labels _ _ _ v0 (dO.ext S0.below) fu pn).mono ?_;obtain ⟨L1,b1,e1⟩:∃L b,BG x.labels = (L,b):=⟨_,_,rfl⟩;rw [e1];have E1:=I e1;clear e1 i1;rintro e w1 ⟨A1,c1,G1,rfl,jX,aR⟩;have T1:=S0.ext aR;replace jX:=jX.mono (B':=w.heap.size+1+1+1) J;obtain ⟨z1,cI⟩:∃z,z = w1.heap.size:=⟨_,rfl⟩;have p':=I (show ∀b∈G1,b < z1 from λb hb=>by rw [cI];exact jX.lt b hb);have Fw:w.heap.size+1+1+1<=z1:=by have:=aR.size;omega
 clear aR;have k9:=T1.ob.cell (i:=1) (u:=.slice gu x.labels.length gy) rfl;have f9:=T1.ob.fz 1;have l9:=T1.ob.lt;have S1:=T1.put 1 (.slice A1 L1.length c1);replace jX:=jX.setCell (p:=⟨w.heap.size+1+1,1,none⟩) bx (.slice A1 L1.length c1);have i2:=S1.box.cell (i:=5) (u:=.slice oh x.af.length nT) rfl;go_wp2_with fail
 obtain ⟨v1,hv⟩:∃v,w1.setCell ⟨w.heap.size+1+1,1,none⟩ (.slice A1 L1.length c1) = v:=⟨_,rfl⟩;have hs:v1.heap.size = z1:=by rw [<- hv,cI];simp [World.setCell]
 rw [hv] at S1 jX i2;try rw [hv]
 have j2:=S1.ob.lt;clear hv T1 k9 f9 l9 cI S0;have cI:=hs;clear hs;refine (l' x.af _ _ _ v1 (mX.ext S1.below) cA pm).mono ?_;obtain ⟨L2,b2,e2⟩:∃L b,jA x.af = (L,b):=⟨_,_,rfl⟩;rw [e2];have E2:=I e2;clear e2 i2;rintro e w2 ⟨A2,c2,G2,rfl,bj,am⟩;have T2:=S1.ext am;replace bj:=bj.mono (B':=z1) (by have:=cI;omega);replace jX:=jX.ext am;obtain ⟨z2,ca⟩:∃z,z = w2.heap.size:=⟨_,rfl⟩;have nz:=I (show ∀b∈G2,b < z2 from λb hb=>by rw [ca];exact bj.lt b hb);have Fy:z1<=z2:=by have:=am.size;omega
 clear am;have k9:=T2.ob.cell (i:=5) (u:=.slice oh x.af.length nT) rfl;have f9:=T2.ob.fz 5;have l9:=T2.ob.lt;have S2:=T2.put 5 (.slice A2 L2.length c2);replace jX:=jX.setCell (p:=⟨w.heap.size+1+1,5,none⟩) bx (.slice A2 L2.length c2);replace bj:=bj.setCell (p:=⟨w.heap.size+1+1,5,none⟩) bx (.slice A2 L2.length c2);have i3:=S2.box.cell (i:=6) (u:=.slice fA x.ae.length fB) rfl;go_wp2_with fail
 obtain ⟨v2,hv⟩:∃v,w2.setCell ⟨w.heap.size+1+1,5,none⟩ (.slice A2 L2.length c2) = v:=⟨_,rfl⟩;have hs:v2.heap.size = z2:=by rw [<- hv,ca];simp [World.setCell]
 rw [hv] at S2 jX bj i3;try rw [hv]
 have j3:=S2.ob.lt;clear hv T2 k9 f9 l9 ca S1;have ca:=hs;clear hs;refine (gS x.ae _ _ _ v2 (eG.ext S2.below) nU Wo).mono ?_;obtain ⟨L3,b3,e3⟩:∃L b,jK x.ae = (L,b):=⟨_,_,rfl⟩;rw [e3];have E3:=I e3;clear e3 i3;rintro e w3 ⟨A3,c3,G3,rfl,hO3,az⟩;have T3:=S2.ext az;replace hO3:=hO3.mono (B':=z2) (by have:=ca;omega);replace jX:=jX.ext az;replace bj:=bj.ext az;obtain ⟨z3,eB⟩:∃z,z = w3.heap.size:=⟨_,rfl⟩;have Wq:=I (show ∀b∈G3,b < z3 from λb hb=>by rw [eB];exact hO3.lt b hb);have Wr:z2<=z3:=by have:=az.size;omega
 clear az;have k9:=T3.ob.cell (i:=6) (u:=.slice fA x.ae.length fB) rfl;have f9:=T3.ob.fz 6;have l9:=T3.ob.lt;have S3:=T3.put 6 (.slice A3 L3.length c3);replace jX:=jX.setCell (p:=⟨w.heap.size+1+1,6,none⟩) bx (.slice A3 L3.length c3);replace bj:=bj.setCell (p:=⟨w.heap.size+1+1,6,none⟩) bx (.slice A3 L3.length c3);replace hO3:=hO3.setCell (p:=⟨w.heap.size+1+1,6,none⟩) bx (.slice A3 L3.length c3);go_upto_region 6 with fail
 obtain ⟨v3,hv⟩:∃v,w3.setCell ⟨w.heap.size+1+1,6,none⟩ (.slice A3 L3.length c3) = v:=⟨_,rfl⟩;have hs:v3.heap.size = z3:=by rw [<- hv,eB];simp [World.setCell]
 rw [hv] at S3 jX bj hO3;try rw [hv]
 have j4:=S3.ob.lt;clear hv T3 k9 f9 l9 eB S2;have eB:=hs;clear hs
 have di:=I (show ai v3 (w.heap.size+1+1+1) (⟨x.name,L1,x.aq,x.mem,x.av,L2,L3⟩:nI) [.string x.name,.slice A1 L1.length c1,.int .i64 x.aq,.int .i64 x.mem,.int .i64 x.av,.slice A2 L2.length c2,.slice A3 L3.length c3] (G1++(G2++G3)) from by
  refine ai.up (B':=w.heap.size+1+1+1) (λx:nI=>(x.name,x.labels,x.aq,x.mem,x.av,x.af,x.ae)) ?_ (Nat.le_refl _);refine ai.cons (c1:=[.string x.name]) (rdStr _ x.name (rV hname)) ?_;refine ai.pair (B2:=z1) (c1:=[.slice A1 L1.length c1]) (F1:=G1) jX ?_ J p'.out;refine ai.cons (c1:=[.int .i64 x.aq]) (jL _ x.aq vg) ?_;refine ai.cons (c1:=[.int .i64 x.mem]) (jL _ x.mem b8) ?_;refine ai.cons (c1:=[.int .i64 x.av]) (jL _ x.av BJ) ?_;refine ai.pair (B2:=z2) (c1:=[.slice A2 L2.length c2]) (F1:=G2) bj ?_ J nz.out
  exact hO3)
 have HN:=I (show mR x = ⟨x.name,L1,x.aq,x.mem,x.av,L2,L3⟩ by unfold mR;rw [E1.out,E2.out,E3.out]);have HR:=I (show jf x = if b1 = true/\b2 = true/\b3 = true/\GU (mR x) = true then (mR x,true) else (x,false) by unfold jf;rw [E1.out,E2.out,E3.out]);have HS:=I S3;have RG:=I (show ((mR x).wt:Int)<=1048576 by have:=aDX x;have:=Du.out;omega);clear jX bj hO3 S3;have q_:=HS.out.ob.lt;obtain ⟨p0,p1,p2,p3,p4,p5,p6⟩:=lB HS.out.box;cases b1 with
 | false =>have j7:=I (show jf x = (x,false) by rw [HR.out];exact if_neg (by rintro ⟨hh,_⟩;cases hh));exact C5
 | true =>
   cases b2 with
   | false =>have j7:=I (show jf x = (x,false) by rw [HR.out];exact if_neg (by rintro ⟨_,hh,_⟩;cases hh));exact C5
   | true =>
     cases b3 with
     | false =>have j7:=I (show jf x = (x,false) by rw [HR.out];exact if_neg (by rintro ⟨_,_,hh,_⟩;cases hh));exact C5
     | true =>
       have VJ:=HN;cases hr:GU (mR x) with
       | false =>
         have en:=I hr;obtain ⟨q0,q1,q2,q3,q4,q5,q6⟩:=lB HS.out.ob;go_wp2_with fail
         refine (wH (⟨x.name,L1,x.aq,x.mem,x.av,L2,L3⟩:nI) _ _ v3 di.out.rd AZ).mono ?_;rw [<- HN.out,en.out];rintro e w7 ⟨rfl,bw⟩;have eu:=I (HS.out.ext bw);have AM:=I (di.out.ext bw);clear p0 p1 p2 p3 p4 p5 p6 q0 q1 q2 q3 q4 q5 q6 q_ bw;have j7:=I (show jf x = (x,false) by rw [HR.out];exact if_neg (by rintro ⟨_,_,_,hh⟩;rw [en.out] at hh;cases hh));have rr:=eu.out.box.lt;obtain ⟨p0,p1,p2,p3,p4,p5,p6⟩:=lB eu.out.box;go_wp2_with fail
         refine (Tl x _ _ w7 (AF HX.out eu.out.below) fu cA nU hv).mono ?_;rintro e w8 ⟨C3,G8,rfl,sV,d8⟩;have T8:=eu.out.ext d8;have SY:=sV;obtain ⟨lA,aHA,aJp,aIC,aID,aBA,aHF,aHG,aJF,ayd,hF9,aye,aJq,aAR,aAS,aDs,aBB,aJG⟩:=dL sV.rd;subst ayd;clear hF9 sV;obtain ⟨r0,r1,r2,r3,r4,r5,r6⟩:=lB T8.rb;have rf:=T8.rb.fz;have rl:=T8.rb.lt;have lj:=I SY;have xe:=I T8;have C4:w.heap.size+1 < w7.heap.size:=eu.out.rb.lt;clear SY T8 d8;go_wp2_with fail
         try dsimp only
         iterate 60 (first | go_step | skip)
         refine bodyPost_ret (v:=.tuple #[.agg #[.string x.name,.slice lA x.labels.length aHA,.int .i64 x.aq,.int .i64 x.mem,.int .i64 x.av,.slice aIC x.af.length aID,.slice aHF x.ae.length aHG],.bool false]) (by simp [results,Tryz.results38,go_sem, *]) rfl ⟨[.string x.name,.slice lA x.labels.length aHA,.int .i64 x.aq,.int .i64 x.mem,.int .i64 x.av,.slice aIC x.af.length aID,.slice aHF x.ae.length aHG],G8,by rw [j7.out];try rfl,?_,?_⟩
         ·exact yr
         ·exact AG
       | true =>
         have en:=I hr;obtain ⟨q0,q1,q2,q3,q4,q5,q6⟩:=lB HS.out.ob;go_wp2_with fail
         refine (wH (⟨x.name,L1,x.aq,x.mem,x.av,L2,L3⟩:nI) _ _ v3 di.out.rd AZ).mono ?_;rw [<- HN.out,en.out];rintro e w7 ⟨rfl,bw⟩;have eu:=I (HS.out.ext bw);have AM:=I (di.out.ext bw);clear p0 p1 p2 p3 p4 p5 p6 q0 q1 q2 q3 q4 q5 q6 q_ bw;have t7:=I (show jf x = (mR x,true) by rw [HR.out];exact if_pos (by simp [en.out]));obtain ⟨q0,q1,q2,q3,q4,q5,q6⟩:=lB eu.out.ob;obtain ⟨r0,r1,r2,r3,r4,r5,r6⟩:=lB eu.out.rb;have rf:=eu.out.rb.fz;have rl:=eu.out.rb.lt;have ql:=eu.out.ob.lt;go_wp2_with fail
         try dsimp only
         iterate 60 (first | go_step | skip)
         refine bodyPost_ret (v:=.tuple #[.agg #[.string x.name,.slice A1 L1.length c1,.int .i64 x.aq,.int .i64 x.mem,.int .i64 x.av,.slice A2 L2.length c2,.slice A3 L3.length c3],.bool true]) (by simp [results,Tryz.results38,go_sem, *]) rfl ⟨[.string x.name,.slice A1 L1.length c1,.int .i64 x.aq,.int .i64 x.mem,.int .i64 x.av,.slice A2 L2.length c2,.slice A3 L3.length c3],G1++(G2++G3),by rw [t7.out];try rfl,?_,?_⟩
         ·exact yh
         ·exact yn
theorem Xf {x:aU} (G:Good x) (nm:ByteArray):Good (Ut x nm).1:=by
 unfold Ut;split
 ·split
  ·exact G
  ·exact aFN G _
 ·exact G
theorem aDT {nm IM:ByteArray} (h:IM≠nm):∀xs:List ag,F7 IM (xs.map (QW nm)) = F7 IM xs
 | []=>rfl
 | p :: xs=>by
   have ih:=aDT h xs;rw [List.map_cons];by_cases hp:p.on = nm
   ·have h1:mr IM (QW nm p) = false:=IF (.inl (by unfold QW;rw [if_pos (by rw [hp];simp)]));have h2:mr IM p = false:=IF (.inr (λe=>h (e.symm.trans hp)));rw [By h1,By h2,ih]
   ·have h1:QW nm p = p:=(by unfold QW;rw [if_neg (λe=>hp (ey (by simpa using e)))]);rw [h1];cases h2:mr IM p with
    | false=>rw [By h2,By h2,ih]
    | true=>rw [WH h2,WH h2,ih]
theorem Xg (nm:ByteArray) (p:ag):(QW nm p).aS = p.aS:=by unfold QW;split <;> rfl
theorem Xi (nm:ByteArray) (p:ag):(QW nm p).seq = p.seq:=by unfold QW;split <;> rfl
theorem aEl {x:aU} (G:Good x) {nm:ByteArray} {k:Nat} (hk:pK (iM nm) x.O = k):Good ⟨x.O.eraseIdx k,x.M.map (QW nm),x.next,x.weights⟩:=by
 obtain ⟨bz,hkn,_⟩:=D8 hk;rw [BA] at hkn;have hs:(x.O.eraseIdx k).Sublist x.O:=List.eraseIdx_sublist ..;have hm:∀h∈x.O.eraseIdx k,h.name≠nm:=by intro h hh;obtain ⟨i,hi,bI,rfl⟩:=List.mem_eraseIdx_iff_getElem.1 hh;rw [<- hkn];exact WO G.hs _ _ J
 have mv:∀h∈x.O,h.name≠nm->h∈x.O.eraseIdx k:=by intro h hh hn;obtain ⟨i,hi,rfl⟩:=List.getElem_of_mem hh;refine List.mem_eraseIdx_iff_getElem.2 ⟨i,hi,λe=>?_,rfl⟩;subst e;exact hn hkn
 refine ⟨Nat.le_trans hs.length_le G.h8,by rw [List.length_map];exact G.xy,G.n1,G.n2,G.wt,λh hh=>G.eN h (hs.subset hh),λh hh=>(G.mv h (hs.subset hh)).same (aDT (hm h hh) _),G.hs.sublist hs,λp hp=>?_,λp hp=>?_,λp hp=>?_,?_,?_⟩
 ·obtain ⟨q,hq,rfl⟩:=List.mem_map.1 hp;rw [Xg];exact G.vu q hq
 ·obtain ⟨q,hq,rfl⟩:=List.mem_map.1 hp;rw [Xi];exact G.zy q hq
 ·obtain ⟨q,hq,rfl⟩:=List.mem_map.1 hp;by_cases he:q.on = nm
  ·exact .inl (by unfold QW;rw [if_pos (by rw [he];simp)])
  ·have h1:QW nm q = q:=(by unfold QW;rw [if_neg (λe=>he (ey (by simpa using e)))]);rw [h1];rcases G.xz q hq with h2 | ⟨g,hg,h2⟩
   ·exact .inl h2
   ·exact .inr ⟨g,mv g hg (λe=>he (h2.symm.trans e)),h2⟩
 ·show (x.M.map (QW nm)).Pairwise λa b=>dw a b = true;rw [List.pairwise_map];exact G.ps.imp (λ{a b} h=>by unfold dw at *;rw [Xg,Xg];exact h)
 ·show (x.M.map (QW nm)).Pairwise λa b=>a.seq≠b.seq;rw [List.pairwise_map];exact G.pf.imp (λ{a b} h=>by rw [Xi,Xi];exact h)
theorem Xs {x:aU} (G:Good x) (nm:ByteArray):Good (Ko x nm).1:=by
 unfold Ko;split
 ·split
  ·exact G
  ·rename_i h;exact aEl G (Ig J)
 ·exact G
theorem aD6 {x:aU} (G:Good x) (u:rZ):Good (setW x u).1:=by
 unfold setW;split
 ·rename_i h;exact ⟨G.h8,G.xy,G.n1,G.n2,h.2,G.eN,G.mv,G.hs,G.vu,G.zy,G.xz,G.ps,G.pf⟩
 ·exact G
theorem aCu {β:Type} {lt:β->β->Bool} {y z:β} : ∀{l:List β},z∈OM lt y l->z = y∨z∈l
 | [],h=>by simp only [OM,List.mem_singleton] at h;exact .inl h
 | x :: l,h=>by
   unfold OM at h;split at h
   ·simpa using h
   ·rcases List.mem_cons.1 h with rfl | h
    ·exact .inr (List.mem_cons_self ..)
    ·rcases aCu h with h | h
     ·exact .inl h
     ·exact .inr (List.mem_cons_of_mem _ h)
theorem aDU {β:Type} {lt:β->β->Bool} {z:β} : ∀{ys acc:List β},z∈bd lt acc ys->z∈acc∨z∈ys
 | [],acc,h=>.inl h
 | y :: ys,acc,h=>by
   rcases aDU (ys:=ys) (acc:=OM lt y acc) h with h | h
   ·rcases aCu h with rfl | h
    ·exact .inr (List.mem_cons_self ..)
    ·exact .inl h
   ·exact .inr (List.mem_cons_of_mem _ h)
theorem aFQ {x:aU} {p:nI} {nm:ByteArray} (h:nm∈Jh x p):∃g∈x.O,g.name = nm/\oH nm x p = 0:=by
 unfold Jh at h;rcases aDU h with h | h
 ·cases h
 ·unfold Ar at h;obtain ⟨g,hg,rfl⟩:=List.mem_map.1 h;obtain ⟨h1,h2⟩:=List.mem_filter.1 hg;unfold Pw at h2;exact ⟨g,h1,rfl,by simpa using h2⟩
theorem azR {x:aU} {p:nI} (h:BR x p = true):∃g∈x.O,g.name = qg x p/\oH (qg x p) x p = 0:=by
 refine aFQ ?_;unfold BR qg at *;cases e:Jh x p with
 | nil=>rw [e] at h;cases h
 | cons a l=>simp
theorem aCv {a b c:Int} (h:Jo a b c = true):a+b<=c/\a+b<=9223372036854775807:=by
 unfold Jo at h;split at h
 ·rename_i s e;rw [decide_eq_true_eq] at h;unfold GX at e;split at e
  ·cases e
  ·cases e;omega
 ·cases h
theorem aCw {x:aU} {nm:ByteArray} {p:nI} (h:oH nm x p = 0):∃g∈x.O,g.name = nm/\mi nI.aq nm x.M+p.aq<=g.aq/\mi nI.aq nm x.M+p.aq<=9223372036854775807/\mi nI.mem nm x.M+p.mem<=g.mem/\mi nI.mem nm x.M+p.mem<=9223372036854775807/\((F7 nm x.M).length:Int) < g.slots:=by
 by_cases h1:pK (iM nm) x.O < 0
 ·unfold oH at h;rw [if_pos h1] at h;omega
 ·obtain ⟨k,hk⟩:∃k:Nat,pK (iM nm) x.O = k:=⟨_,Ig J⟩;obtain ⟨bz,hkn,_⟩:=D8 hk;cases e:vU (F7 nm x.M) with
  | none=>rw [abG e] at h;omega
  | some ab =>
    obtain ⟨a,b⟩:=ab;rw [afI bz hk e] at h;obtain ⟨rfl,rfl,_,_⟩:=aCt e;refine ⟨_,List.getElem_mem bz,BA.1 hkn,?_⟩;unfold Vm at h;split at h
    ·omega
    ·split at h
     ·omega
     ·split at h
      ·omega
      ·rename_i h3;split at h
       ·omega
       ·rename_i h4;split at h
        ·omega
        ·rename_i h5;have h3:=aCv (by simpa using h3);have h4:=aCv (by simpa using h4);omega
theorem Xt {α:Type} {xs:List α} {k:Nat} (hk:k < xs.length) (v:α):xs.set k v = xs.take k++v :: xs.drop (k+1):=by
 rw [List.set_eq_take_append_cons_drop,if_pos hk]
theorem azS {α:Type} {xs:List α} {k:Nat} (hk:k < xs.length):xs = xs.take k++xs[k] :: xs.drop (k+1):=by
 rw [<- Xt hk xs[k],List.set_getElem_self]
theorem axY {α β:Type} (f:α->β) {xs:List α} {k:Nat} (hk:k < xs.length) {v:α} (h:f v = f xs[k]):(xs.set k v).map f = xs.map f:=by
 have e:f xs[k] = (xs.map f)[k]'(by rw [List.length_map];exact hk):=by simp
 rw [List.map_set,h,e,List.set_getElem_self]
theorem aCx {xs:List ag} {k:Nat} (hk:k < xs.length) {v:ag} {nm:ByteArray} (h0:xs[k].on = ⟨#[]⟩) (h1:mr nm v = true) (hp:v.aS = xs[k].aS) (f:nI->Int):mi f nm (xs.set k v) = mi f nm xs+f v.aS/\(F7 nm (xs.set k v)).length = (F7 nm xs).length+1:=by
 have e1:F7 nm xs = F7 nm (xs.take k)++F7 nm (xs.drop (k+1)):=by
  conv=>lhs;rw [azS hk]
  rw [ID,By (IF (.inl h0))]
 have e2:F7 nm (xs.set k v) = F7 nm (xs.take k)++v.aS :: F7 nm (xs.drop (k+1)):=by rw [Xt hk,ID,WH h1]
 unfold mi;rw [e1,e2];simp only [List.map_append,List.map_cons,List.sum_append,List.sum_cons,List.length_append,List.length_cons];omega
theorem aFR {xs:List ag} {k:Nat} (hk:k < xs.length) {v:ag} {nm:ByteArray} (h0:xs[k].on = ⟨#[]⟩) (h1:mr nm v = false):F7 nm (xs.set k v) = F7 nm xs:=by
 conv=>rhs;rw [azS hk]
 rw [Xt hk,ID,ID,By h1,By (IF (.inl h0))]
theorem azT {x:aU} (G:Good x) {k:Nat} (hk:k < x.M.length) {nm:ByteArray} (ho:x.M[k].on = ⟨#[]⟩) (hr:oH nm x x.M[k].aS = 0):Good ⟨x.O,x.M.set k ⟨x.M[k].aS,nm,x.M[k].seq⟩,x.next,x.weights⟩:=by
 obtain ⟨g,hg,fy,r1,r2,r3,r4,r5⟩:=aCw hr;have bI:=aJ2 (aIK (G.eN g hg));have hm:∀p∈x.M.set k ⟨x.M[k].aS,nm,x.M[k].seq⟩,p = ⟨x.M[k].aS,nm,x.M[k].seq⟩∨p∈x.M:=λp hp=>by
  rcases List.mem_or_eq_of_mem_set hp with h | h
  ·exact .inr h
  ·exact .inl h
 refine ⟨G.h8,by rw [List.length_set];exact G.xy,G.n1,G.n2,G.wt,G.eN,λh hh=>?_,G.hs,λp hp=>?_,λp hp=>?_,λp hp=>?_,?_,?_⟩
 ·by_cases he:h.name = nm
  ·obtain rfl:h = g:=by
    obtain ⟨i,hi,rfl⟩:=List.getElem_of_mem hh;obtain ⟨j,hj,rfl⟩:=List.getElem_of_mem hg;by_cases mW:i = j
    ·subst mW;rfl
    ·exact absurd (he.trans fy.symm) (WO G.hs hi hj mW)
   have eC:mr h.name (⟨x.M[k].aS,nm,x.M[k].seq⟩:ag) = true:=WK.2 ⟨bI,he.symm⟩;obtain ⟨e1,e3⟩:=aCx (nm:=h.name) hk (v:=⟨x.M[k].aS,nm,x.M[k].seq⟩) ho eC rfl nI.aq;obtain ⟨e2,_⟩:=aCx (nm:=h.name) hk (v:=⟨x.M[k].aS,nm,x.M[k].seq⟩) ho eC rfl nI.mem;subst he;unfold kD;dsimp only at e1 e2 e3 |-;rw [e1,e2,e3];omega
  ·refine (G.mv h hh).same (aFR hk ho (IF (.inr ?_)));exact λe=>he e.symm
 ·rcases hm p hp with rfl | hp
  ·exact G.vu x.M[k] (List.getElem_mem hk)
  ·exact G.vu p hp
 ·rcases hm p hp with rfl | hp
  ·exact G.zy x.M[k] (List.getElem_mem hk)
  ·exact G.zy p hp
 ·rcases hm p hp with rfl | hp
  ·exact .inr ⟨g,hg,fy⟩
  ·exact G.xz p hp
 ·have h1:∀ys:List ag,ys.Pairwise (λa b=>dw a b = true)↔(ys.map λp=>p.aS.name).Pairwise λa b=>Op.bytesLess a.toList b.toList = true:=λys=>by rw [List.pairwise_map];rfl
  show (x.M.set k _).Pairwise λa b=>dw a b = true;rw [h1,axY (λp:ag=>p.aS.name) hk (v:=⟨x.M[k].aS,nm,x.M[k].seq⟩) rfl,<- h1];exact G.ps
 ·have h1:∀ys:List ag,ys.Pairwise (λa b=>a.seq≠b.seq)↔(ys.map λp=>p.seq).Pairwise λa b=>a≠b:=λys=>by rw [List.pairwise_map]
  show (x.M.set k _).Pairwise λa b=>a.seq≠b.seq;rw [h1,axY (λp:ag=>p.seq) hk (v:=⟨x.M[k].aS,nm,x.M[k].seq⟩) rfl,<- h1];exact G.pf
theorem ayo {x:aU} (G:Good x) (nm:ByteArray):Good (lW x nm).1:=by
 have hc:=(yJ x).2 G;by_cases h1:pK (CG nm) x.M < 0
 ·rw [aJ3 hc h1];exact G
 ·obtain ⟨k,hk⟩:∃k:Nat,pK (CG nm) x.M = k:=⟨_,Ig J⟩;obtain ⟨bz,hkn,_⟩:=D8 hk;rw [aw9 hc hk bz];unfold BV;split
  ·rename_i h2;have ho:x.M[k].on = ⟨#[]⟩:=by
    refine ey ?_;have h3:x.M[k].on.toList = []:=by rw [ByteArray.toList_eq];exact List.eq_nil_of_length_eq_zero QN
    rw [h3,ByteArray.toList_eq]
   split
   ·rename_i h3;obtain ⟨g,hg,fy,hr⟩:=azR h3;exact azT G bz ho hr
   ·exact G
  ·exact G
theorem ayD {x:aU} (G:Good x):Good (BX x).1:=by
 unfold BX;split
 ·split
  ·exact ayo G _
  ·exact G
 ·exact G
theorem FP {α:Type} [ax α] {w:World} {B c i:Nat} {u:Value} {x:α} {cs:List Value} {F:List Nat} (h:ai w B x cs F) (hF:∀y∈F,y≠c):ai (w.setCell ⟨c,i,none⟩ u) B x cs F :=
 h.keep (λy hy=>Below.heap_setCell _ _ _ _ EG) fw
theorem SF (x:aU) (cs:List Value) (F:List Nat) (nm:ByteArray) (w:World) (h:rd w x cs F) (hw:(x.wt:Int)<=1048576) :
 Calls Tryz.prog 51 #[.agg cs.toArray,.string nm] w λe w'=>∃ds G,e = .returned (.tuple #[.agg ds.toArray,.string (lW x nm).2.1,.int .i64 (lW x nm).2.2])/\ai w' w.heap.size (lW x nm).1 ds G/\Below w.heap.size w w':=by
 have i':x.wt = kL ba.wt x.O+kL ag.wt x.M:=rfl;have eH:(x.M.length:Int)<=1048576:=by have h1:=gJ ag.wt x.M;omega
 have FA:=I (λk (hk:k < x.M.length)=>(show (nI.wt x.M[k].aS:Int)<=1048576 by have:=rM (f:=ag.wt) hk;have e:ag.wt x.M[k] = nI.wt x.M[k].aS+x.M[k].on.size:=rfl;omega));have HW:=I hw;have Ji:=I eH;clear hw i';have hr:=h;obtain ⟨bG,bD,fQ,dn,bW,jg,ar,qp,bQ,dM,hnext,aV,aP,aW⟩:=aO hr;subst ar;clear qp hr;have BE:=Nc (p:=CG nm) x.M;obtain ⟨r,cc⟩:∃r,pK (CG nm) x.M = r:=⟨_,rfl⟩;have HR:=I cc;rw [cc] at BE;clear cc;have KT:=(oG.new w [.slice bG x.O.length bD,.slice dn x.M.length bW,.int .i64 x.next,.int .i64 x.weights.pack,.int .i64 x.weights.spread,.int .i64 x.weights.soft] 29).ext (ak (aj _) (.cells ([.slice none 0 0,.slice none 0 0,.int .i64 0,.int .i64 0,.int .i64 0,.int .i64 0]:List Value).toArray 29));have KR:oG ((w.alloc (.cells ([.slice bG x.O.length bD,.slice dn x.M.length bW,.int .i64 x.next,.int .i64 x.weights.pack,.int .i64 x.weights.spread,.int .i64 x.weights.soft]:List Value).toArray 29)).alloc (.cells ([.slice none 0 0,.slice none 0 0,.int .i64 0,.int .i64 0,.int .i64 0,.int .i64 0]:List Value).toArray 29)) (w.heap.size+1) [.slice none 0 0,.slice none 0 0,.int .i64 0,.int .i64 0,.int .i64 0,.int .i64 0]:=by have:=oG.new (w.alloc (.cells ([.slice bG x.O.length bD,.slice dn x.M.length bW,.int .i64 x.next,.int .i64 x.weights.pack,.int .i64 x.weights.spread,.int .i64 x.weights.soft]:List Value).toArray 29)) [.slice none 0 0,.slice none 0 0,.int .i64 0,.int .i64 0,.int .i64 0,.int .i64 0] 29;rw [World.size_alloc] at this;exact this
 go_enter Tryz.func51,Tryz.ntmps51;go_wp2_with fail
 refine (BO x _ _ _ (aZ h (ak (ak (aj _) _) _)) HW.out).mono ?_;rintro e w1 ⟨gM,G1,rfl,hO,aR⟩;have bO:=hO.rd;obtain ⟨dG,bV,xq,dS,dJ,Bz,ar,hG1,oO,tq,wI,iV,gI,iW⟩:=aO bO;subst ar;clear hG1 bO;have ym:=I (show ∀y∈G1,y < w1.heap.size from hO.lt);replace hO:=hO.mono (B':=w.heap.size+1+1) S';have hB:Below w.heap.size w w1:=ah (ak (ak (aj _) _) _) aR;have cI:w.heap.size+1 < w1.heap.size:=by have:=aR.size;simp at this;omega
 replace KT:=KT.ext aR;replace KR:=KR.ext aR;have KB:=oG.new w1 [.slice dG x.O.length bV,.slice dS x.M.length dJ,.int .i64 x.next,.int .i64 x.weights.pack,.int .i64 x.weights.spread,.int .i64 x.weights.soft] 29;have hA:Below w1.heap.size w1 (w1.alloc (.cells ([.slice dG x.O.length bV,.slice dS x.M.length dJ,.int .i64 x.next,.int .i64 x.weights.pack,.int .i64 x.weights.spread,.int .i64 x.weights.soft]:List Value).toArray 29)):=ak (aj _) _;have o3:w1.heap.size < (w1.alloc (.cells ([.slice dG x.O.length bV,.slice dS x.M.length dJ,.int .i64 x.next,.int .i64 x.weights.pack,.int .i64 x.weights.spread,.int .i64 x.weights.soft]:List Value).toArray 29)).heap.size:=by rw [World.size_alloc];omega
 replace KT:=KT.ext hA;replace KR:=KR.ext hA;replace hO:=hO.ext hA;replace hB:=ah hB hA;clear hA aR;obtain ⟨t0,t1,t2,t3,t4,t5⟩:=cK KT;have tl:=KT.lt;go_wp2_with fail
 clear t0 t1 t2 t3 t4 t5 tl;have KO:=qM x _ _ _ (aZ h hB) HW.out;cases hc:iI x
 case' false =>
  rw [hc] at KO;have HF:=I (azY (nm:=nm) hc);clear hc;refine KO.mono ?_;rintro e w3 ⟨rfl,az⟩;replace KT:=KT.ext az;replace KB:=KB.ext az;replace KR:=KR.ext az;replace hO:=hO.ext az;replace hB:=ah hB az;replace o3:=Nat.lt_of_lt_of_le o3 (Below.size az);clear KO az;obtain ⟨m0,m1,m2,m3,m4,m5⟩:=cK KB;have ml:=KB.lt;obtain ⟨r0,r1,r2,r3,r4,r5⟩:=cK KR;have rf:=KR.fz;have rl:=KR.lt;have HO:=I hO;have HB:=I hB;clear hO hB KB KR KT;go_wp2_with fail
  try dsimp only
  iterate 60 (first | go_step | skip)
  refine bodyPost_ret (v:=.tuple #[.agg #[.slice dG x.O.length bV,.slice dS x.M.length dJ,.int .i64 x.next,.int .i64 x.weights.pack,.int .i64 x.weights.spread,.int .i64 x.weights.soft],.string ⟨#[]⟩,.int .i64 1]) (by simp [results,Tryz.results51,go_sem, *]) rfl ?_;exact x8
 rw [hc] at KO;have HC:=I hc;clear hc;refine KO.mono ?_;rintro e w3 ⟨rfl,az⟩;replace KT:=KT.ext az;replace KB:=KB.ext az;replace KR:=KR.ext az;replace hO:=hO.ext az;replace hB:=ah hB az;replace o3:=Nat.lt_of_lt_of_le o3 (Below.size az);clear KO az;obtain ⟨t0,t1,t2,t3,t4,t5⟩:=cK KT;have tl:=KT.lt;go_wp2_with fail
 clear t0 t1 t2 t3 t4 t5 tl;have KP:=AE x _ _ nm _ (aZ h hB) Ji.out;rw [HR.out] at KP;refine KP.mono ?_;clear KP;rintro e w2 ⟨rfl,am⟩;replace KT:=KT.ext am;replace KB:=KB.ext am;replace KR:=KR.ext am;replace hO:=hO.ext am;replace hB:=ah hB am;replace o3:=Nat.lt_of_lt_of_le o3 (Below.size am);by_cases hng:r < 0
 case' pos =>
  have HF:=I (aJ3 (nm:=nm) HC.out (by rw [HR.out];exact hng));obtain ⟨m0,m1,m2,m3,m4,m5⟩:=cK KB;have ml:=KB.lt;obtain ⟨r0,r1,r2,r3,r4,r5⟩:=cK KR;have rf:=KR.fz;have rl:=KR.lt;have HO:=I hO;have HB:=I hB;clear hO hB KB KR KT;go_wp2_with fail
  try dsimp only
  iterate 60 (first | go_step | skip)
  refine bodyPost_ret (v:=.tuple #[.agg #[.slice dG x.O.length bV,.slice dS x.M.length dJ,.int .i64 x.next,.int .i64 x.weights.pack,.int .i64 x.weights.spread,.int .i64 x.weights.soft],.string ⟨#[]⟩,.int .i64 3]) (by simp [results,Tryz.results51,go_sem, *]) rfl ?_;exact x8
 obtain ⟨k,cJ⟩:∃k:Nat,r = k:=⟨r.toNat,J⟩;have hk:k < x.M.length:=by omega
 have HP:=I (aw9 (nm:=nm) HC.out (HR.out.trans cJ) hk);subst cJ;have hWK:=FA.out k hk;obtain ⟨b,o,ck,Fk,hA,o9,hbs,hr,bi,hcc⟩:=Sl.get (α:=ag) dM hk;subst hA;have eT:=hr;obtain ⟨c1,c2,F1,F2,hce,_,QS,_,_,_,_,hce2,_,⟨hon0,_,eC⟩,⟨hsq0,_,Ue⟩⟩:=eT;have sB:=QS;obtain ⟨jM,jO,sN,aBv,aBw,aGy,aJD,aJE,aBx,hckp,hFp,zM,qY,Gt,Gw,hrank3,aGz,aBy⟩:=dL sB;subst hon0 hsq0 hce2 hckp hce;clear hFp sB bi;have q0:w2.cell? ⟨b,o+k * 9,none⟩ = some (.string x.M[k].aS.name):=r' hB (by exact hcc 0 _ rfl) hbs;have q1:w2.cell? ⟨b,o+k * 9+1,none⟩ = some (.slice jM x.M[k].aS.labels.length jO):=r' hB (by rw [Nat.add_assoc];exact hcc 1 _ rfl) hbs;have q2:w2.cell? ⟨b,o+k * 9+2,none⟩ = some (.int .i64 x.M[k].aS.aq):=r' hB (by rw [Nat.add_assoc];exact hcc 2 _ rfl) hbs;have q3:w2.cell? ⟨b,o+k * 9+3,none⟩ = some (.int .i64 x.M[k].aS.mem):=r' hB (by rw [Nat.add_assoc];exact hcc 3 _ rfl) hbs;have q4:w2.cell? ⟨b,o+k * 9+4,none⟩ = some (.int .i64 x.M[k].aS.av):=r' hB (by rw [Nat.add_assoc];exact hcc 4 _ rfl) hbs;have q5:w2.cell? ⟨b,o+k * 9+5,none⟩ = some (.slice aBv x.M[k].aS.af.length aBw):=r' hB (by rw [Nat.add_assoc];exact hcc 5 _ rfl) hbs;have q6:w2.cell? ⟨b,o+k * 9+6,none⟩ = some (.slice aJD x.M[k].aS.ae.length aJE):=r' hB (by rw [Nat.add_assoc];exact hcc 6 _ rfl) hbs;have q7:w2.cell? ⟨b,o+k * 9+7,none⟩ = some (.string x.M[k].on):=r' hB (by rw [Nat.add_assoc];exact hcc 7 _ rfl) hbs;have q8:w2.cell? ⟨b,o+k * 9+8,none⟩ = some (.int .i64 x.M[k].seq):=r' hB (by rw [Nat.add_assoc];exact hcc 8 _ rfl) hbs;have qb:=Nat.lt_of_lt_of_le hbs hB.size;obtain ⟨t0,t1,t2,t3,t4,t5⟩:=cK KT;have tl:=KT.lt;by_cases anH:0 < x.M[k].on.size
 case' pos =>
  have bI:=Y3 anH;have ua:(x.M[k].on.toList != []) = true:=by rw [bne,bI];rfl
  have HF:=I (HP.out.trans (show BV x k x.M[k] = (x,⟨#[]⟩,5) by unfold BV;exact if_neg J));clear anH;obtain ⟨m0,m1,m2,m3,m4,m5⟩:=cK KB;have ml:=KB.lt;obtain ⟨r0,r1,r2,r3,r4,r5⟩:=cK KR;have rf:=KR.fz;have rl:=KR.lt;have HO:=I hO;have HB:=I hB;clear hO hB KB KR KT;go_wp2_with fail
  try dsimp only
  iterate 60 (first | go_step | skip)
  refine bodyPost_ret (v:=.tuple #[.agg #[.slice dG x.O.length bV,.slice dS x.M.length dJ,.int .i64 x.next,.int .i64 x.weights.pack,.int .i64 x.weights.spread,.int .i64 x.weights.soft],.string ⟨#[]⟩,.int .i64 5]) (by simp [results,Tryz.results51,go_sem, *]) rfl ?_;exact x8
 have Xu:x.M[k].on = ⟨#[]⟩:=Y4 J;have Am:=I (HP.out.trans (show BV x k x.M[k] = (if BR x x.M[k].aS = true then (⟨x.O,x.M.set k ⟨x.M[k].aS,qg x x.M[k].aS,x.M[k].seq⟩,x.next,x.weights⟩,qg x x.M[k].aS,0) else (x,⟨#[]⟩,6)) by unfold BV;exact if_pos (by rw [Xu];rfl)));rw [Xu] at q7;clear Xu anH;have hBS:=aCF x x.M[k].aS HW.out;go_wp2_with fail
 have Xv:=I (λwq (hq:Below w.heap.size w wq)=>ahX x x.M[k].aS _ _ _ _ wq (aZ h hq) (aZ QS hq) HW.out hWK);cases pL:BR x x.M[k].aS
 all_goals
  rw [pL] at Xv Am;clear pL;refine aF _ U' U' (aj _) ?_
  repeat (first
   | (apply aG
      case hw=>rfl
      simp only [Act.put,pz])
   | (apply aH
      case hw=>rfl
      case h =>
       intro wq hq;have et:=(aB hq).1;have lJ:=(aB hq).2;go_simp
       first
        | exact ⟨hq,rfl⟩
        | exact ⟨aQ hq _,rfl⟩
        | (refine (Xv.out _ (ah hB hq.out)).mono ?_;rintro e w8 ⟨rfl,d8⟩;exact ⟨rfl,aI hq d8⟩)
        | (simp only [↓IntWalk.iteOmega];exact ⟨hq,rfl⟩)
      simp only [Act.put,pz]))
  refine aN ?_;intro wn hn;replace hn:=hn.out;replace KT:=KT.ext hn;replace KB:=KB.ext hn;replace KR:=KR.ext hn;replace hO:=hO.ext hn;replace hB:=ah hB hn;replace o3:=Nat.lt_of_lt_of_le o3 (Below.size hn);clear q0 q1 q2 q3 q4 q5 q6 q7 q8 qb t0 t1 t2 t3 t4 t5 tl
 ·have HF:=I (show lW x nm = (x,⟨#[]⟩,6) from Am.out.trans (if_neg S'));obtain ⟨m0,m1,m2,m3,m4,m5⟩:=cK KB;have ml:=KB.lt;obtain ⟨r0,r1,r2,r3,r4,r5⟩:=cK KR;have rf:=KR.fz;have rl:=KR.lt;have HO:=I hO;have HB:=I hB;clear hO hB KB KR KT;go_wp2_with fail
  try dsimp only
  iterate 60 (first | go_step | skip)
  refine bodyPost_ret (v:=.tuple #[.agg #[.slice dG x.O.length bV,.slice dS x.M.length dJ,.int .i64 x.next,.int .i64 x.weights.pack,.int .i64 x.weights.spread,.int .i64 x.weights.soft],.string ⟨#[]⟩,.int .i64 6]) (by simp [results,Tryz.results51,go_sem, *]) rfl ?_;exact x8
 ·have HF:=I (show lW x nm = (⟨x.O,x.M.set k ⟨x.M[k].aS,qg x x.M[k].aS,x.M[k].seq⟩,x.next,x.weights⟩,qg x x.M[k].aS,0) from Am.out.trans (if_pos rfl));clear Am Xv;obtain ⟨s,hs⟩:∃s,qg x x.M[k].aS = s:=⟨_,rfl⟩;rw [hs] at HF hBS;try rw [hs]
  clear hs;have dy:∀y∈G1,y < w1.heap.size:=ym.out;have df:=hO.base;obtain ⟨Gh,Gp,Xp,OL,hdis,my,iC⟩:=hO.aFY;obtain ⟨b2,o2,ck2,Fk2,hA2,ayO,abT,rR,ri,hE,hback⟩:=ai.EP OL hk;subst hA2;have pj:w.heap.size+1 < b2/\b2 < w1.heap.size:=⟨by have:=OL.base b2 ayO;omega,dy b2 (iC b2 ayO)⟩;obtain ⟨aaE,hgb2⟩:=pj;have Pz:=ri.rd;have M8:ck2.length = 9:=ax.len Pz;obtain ⟨d1,d2,J1,J2,hde,_,hdp,_,_,_,_,hde2,_,⟨hdo0,_,_⟩,⟨hds0,_,_⟩⟩:=Pz;have hd7:ck2[7]? = some (.string x.M[k].on):=by
   subst hde hde2 hdo0 hds0;have:d1.length = 7:=ax.len hdp;rw [List.getElem?_append_right J,this];rfl
  have e7:=hE.at_ (j:=7) (q:=o2+k * 9+7) rfl (u:=.string x.M[k].on) hd7;have ef:=hE.plain.frozen;have el:=hE.plain.lt;have IN:=hE.set (j:=7) (q:=o2+k * 9+7) J rfl (.string s);have bj:=(ri.mr s pE).keep (w':=World.setCell _ ⟨b2,o2+k * 9+7,none⟩ (.string s)) (λy hy=>Below.heap_setCell _ _ _ _ (by dsimp only;rintro rfl;exact rR hy)) fw;have PA:=hback _ _ _ bj IN;have PB:=FP (c:=b2) (i:=o2+k * 9+7) (u:=.string s) Xp (λy hy e=>hdis y hy (by rw [e];exact ayO));have hOW:=ai.aFZ PB PA hdis hnext aV aP aW;have KB2:=KB.bL (c:=b2) J (o2+k * 9+7) (.string s);have KR2:=KR.bL (c:=b2) J (o2+k * 9+7) (.string s);have gL:=aC hB (p:=⟨b2,o2+k * 9+7,none⟩) bx (.string s);have b1:=KB.cell (i:=1) (u:=.slice (some ⟨b2,o2,none⟩) x.M.length dJ) rfl;have bl:=KB.lt;clear KB KR hB hO Xp OL hE ri hback bj IN PA PB hdp KT;have KB:=KB2;have KR:=KR2;have hB:=gL;have hO:=hOW;have KT:=True.intro;obtain ⟨m0,m1,m2,m3,m4,m5⟩:=cK KB;have ml:=KB.lt;obtain ⟨r0,r1,r2,r3,r4,r5⟩:=cK KR;have rf:=KR.fz;have rl:=KR.lt;have HO:=I hO;have HB:=I hB;clear hO hB KB KR KT KB2 KR2 gL hOW;go_wp2_with fail
  try dsimp only
  iterate 60 (first | go_step | skip)
  refine bodyPost_ret (v:=.tuple #[.agg #[.slice dG x.O.length bV,.slice (some ⟨b2,o2,none⟩) x.M.length dJ,.int .i64 x.next,.int .i64 x.weights.pack,.int .i64 x.weights.spread,.int .i64 x.weights.soft],.string s,.int .i64 0]) (by simp [results,Tryz.results51,go_sem, *]) rfl ?_;rw [HF.out]
  first
   | refine ⟨[.slice dG x.O.length bV,.slice (some ⟨b2,o2,none⟩) x.M.length dJ,.int .i64 x.next,.int .i64 x.weights.pack,.int .i64 x.weights.spread,.int .i64 x.weights.soft],Gh++Gp,rfl,?_,?_⟩
   | refine ⟨[.slice dG x.O.length bV,.slice (some ⟨b2,o2,none⟩) x.M.length dJ,.int .i64 x.next,.int .i64 x.weights.pack,.int .i64 x.weights.spread,.int .i64 x.weights.soft],rfl,⟨Gh++Gp,?_⟩,?_⟩
  ·try dsimp only
   refine ai.mono (B:=w.heap.size+1+1) ?_ J;have hO:=HO.out;exact ZJ
  ·have hB:=HB.out;exact ZP
end Go.Proofs.YtdegaofigemegaaGreat
