/- PodNormal of the reference. No condition. -/
import Derived.Test.YtajbbmembionpaaGreatSortNeedsS
import Derived.Test.YtajbbmembionpaaGreatDrawL
namespace Go.Proofs.YtajbbmembionpaaGreat
open Go.ChangeShapes Go.WideShapes Go.ChangeAt Go.RowKit
set_option linter.unusedVariables false
set_option linter.unusedSimpArgs false
set_option maxHeartbeats 8000000
set_option maxRecDepth 100000
theorem CA (x:nI) (cs:List Value) (F:List Nat) (w:World) (h:rd w x cs F) (hw:(x.wt:Int)≤1048576) :
 Calls Tryz.prog 9 #[.agg cs.toArray] w fun e w'=>∃ds G,e = .returned (.tuple #[.agg ds.toArray,.bool (jf x).2])∧am w' w.heap.size (jf x).1 ds G∧Below w.heap.size w w':=by
 have h0:=h;obtain ⟨gu,gy,jw,oh,nT,wG,fA,fB,jY,aD,qp,hname,dO,vg,cG,BJ,mX,eG⟩:=dL h;subst aD;clear qp h;have HX:=I h0;have Du:=I hw;clear h0;have gv:x.wt = x.name.size+kL ao.wt x.labels+kL aL.wt x.ai+kL bH.wt x.ae:=rfl;have mE:(x.labels.length:Int)≤1048576:=by have:=gJ ao.wt x.labels;omega
 have dv:(x.ai.length:Int)≤1048576:=by have:=gJ aL.wt x.ai;omega
 have xd:(x.ae.length:Int)≤1048576:=by have:=gJ bH.wt x.ae;omega
 have oT:∀l∈x.labels,(l.key.size:Int)≤1048576∧(l.value.size:Int)≤1048576:=fun l hl=>by have h9:=Bq (f:=ao.wt) hl;have h8:ao.wt l = l.key.size+l.value.size:=rfl;omega
 have nE:∀l∈x.ai,(l.wt:Int)≤1048576:=fun l hl=>by have:=Bq (f:=aL.wt) hl;omega
 have hm3:∀l∈x.ae,(l.key.size:Int)≤1048576∧(l.value.size:Int)≤1048576:=fun l hl=>by have h9:=Bq (f:=bH.wt) hl;have h8:bH.wt l = l.key.size+l.value.size:=rfl;omega
 have hv:∀y∈x.ai,(y.values.length:Int)≤1048576:=fun l hl=>by have h9:=Bq (f:=aL.wt) hl;have:=gJ ByteArray.size l.values;have h8:aL.wt l = l.key.size+kL ByteArray.size l.values:=rfl;omega
 have S0:pt w (((w.alloc (.cells #[.string x.name,.slice gu x.labels.length gy,.int .i64 x.az,.int .i64 x.mem,.int .i64 x.aw,.slice oh x.ai.length nT,.slice fA x.ae.length fB] 35)).alloc (.cells #[.string ⟨#[]⟩,.slice none 0 0,.int .i64 0,.int .i64 0,.int .i64 0,.slice none 0 0,.slice none 0 0] 35)).alloc (.cells #[.string x.name,.slice gu x.labels.length gy,.int .i64 x.az,.int .i64 x.mem,.int .i64 x.aw,.slice oh x.ai.length nT,.slice fA x.ae.length fB] 35)) [.string x.name,.slice gu x.labels.length gy,.int .i64 x.az,.int .i64 x.mem,.int .i64 x.aw,.slice oh x.ai.length nT,.slice fA x.ae.length fB] [.string ⟨#[]⟩,.slice none 0 0,.int .i64 0,.int .i64 0,.int .i64 0,.slice none 0 0,.slice none 0 0] [.string x.name,.slice gu x.labels.length gy,.int .i64 x.az,.int .i64 x.mem,.int .i64 x.aw,.slice oh x.ai.length nT,.slice fA x.ae.length fB]:=pt.new w _ _ _ 35 35 35;obtain ⟨v0,pP⟩:∃v0,(((w.alloc (.cells #[.string x.name,.slice gu x.labels.length gy,.int .i64 x.az,.int .i64 x.mem,.int .i64 x.aw,.slice oh x.ai.length nT,.slice fA x.ae.length fB] 35)).alloc (.cells #[.string ⟨#[]⟩,.slice none 0 0,.int .i64 0,.int .i64 0,.int .i64 0,.slice none 0 0,.slice none 0 0] 35)).alloc (.cells #[.string x.name,.slice gu x.labels.length gy,.int .i64 x.az,.int .i64 x.mem,.int .i64 x.aw,.slice oh x.ai.length nT,.slice fA x.ae.length fB] 35)) = v0:=⟨_,rfl⟩;rw [pP] at S0;have oC:=I pP;have i1:=S0.cS.cell (i:=1) (u:=.slice gu x.labels.length gy) rfl;have j1:=S0.ob.lt;clear pP hw gv;go_enter Tryz.func9,Tryz.ntmps9;go_wp2_with fail
 rw [oC.out];clear oC;refine (Ta x.labels _ _ _ v0 (dO.ext S0.aE) mE oT).mono ?_;obtain ⟨L1,b1,e1⟩:∃L b,BG x.labels = (L,b):=⟨_,_,rfl⟩;rw [e1];have E1:=I e1;clear e1 i1;rintro e w1 ⟨A1,c1,G1,rfl,jX,bp⟩;have T1:=S0.ext bp;replace jX:=jX.mono (B':=w.heap.size+1+1+1) J;obtain ⟨z1,cq⟩:∃z,z = w1.heap.size:=⟨_,rfl⟩;have yv:=I (show ∀b∈G1,b < z1 from fun b U=>by rw [cq];exact jX.lt b U);have NJ:w.heap.size+1+1+1≤z1:=by have:=bp.size;omega
 clear bp;have i2:=T1.cS.cell (i:=5) (u:=.slice oh x.ai.length nT) rfl;have j2:=T1.ob.lt;go_wp2_with fail
 clear S0;refine (az1 x.ai _ _ _ w1 (mX.ext T1.aE) dv nE).mono ?_;obtain ⟨L2,b2,e2⟩:∃L b,jh x.ai = (L,b):=⟨_,_,rfl⟩;rw [e2];have E2:=I e2;clear e2 i2;rintro e w2 ⟨A2,c2,G2,rfl,bM,aq⟩;have T2:=T1.ext aq;replace bM:=bM.mono (B':=z1) (by have:=cq;omega);replace jX:=jX.ext aq;obtain ⟨z2,cC⟩:∃z,z = w2.heap.size:=⟨_,rfl⟩;have tk:=I (show ∀b∈G2,b < z2 from fun b U=>by rw [cC];exact bM.lt b U);have NL:z1≤z2:=by have:=aq.size;omega
 clear aq;have i3:=T2.cS.cell (i:=6) (u:=.slice fA x.ae.length fB) rfl;have j3:=T2.ob.lt;go_wp2_with fail
 clear T1;refine (axf x.ae _ _ _ w2 (eG.ext T2.aE) xd hm3).mono ?_;obtain ⟨L3,b3,e3⟩:∃L b,jC x.ae = (L,b):=⟨_,_,rfl⟩;rw [e3];have E3:=I e3;clear e3 i3;rintro e w3 ⟨A3,c3,G3,rfl,hO3,bd⟩;have T3:=T2.ext bd;replace hO3:=hO3.mono (B':=z2) (by have:=cC;omega);replace jX:=jX.ext bd;replace bM:=bM.ext bd;obtain ⟨z3,dm⟩:∃z,z = w3.heap.size:=⟨_,rfl⟩;have HLT3:=I (show ∀b∈G3,b < z3 from fun b U=>by rw [dm];exact hO3.lt b U);have hzz3:z2≤z3:=by have:=bd.size;omega
 clear bd;have k1:=T3.ob.cell (i:=1) (u:=.slice gu x.labels.length gy) rfl;have f1:=T3.ob.fz 1;have S1:=T3.put 1 (.slice A1 L1.length c1);replace jX:=jX.setCell (p:=⟨w.heap.size+1+1,1,none⟩) bC (.slice A1 L1.length c1);replace bM:=bM.setCell (p:=⟨w.heap.size+1+1,1,none⟩) bC (.slice A1 L1.length c1);replace hO3:=hO3.setCell (p:=⟨w.heap.size+1+1,1,none⟩) bC (.slice A1 L1.length c1);have k2:=T3.ob.cell (i:=5) (u:=.slice oh x.ai.length nT) rfl;have f2:=T3.ob.fz 5;have S2:=S1.put 5 (.slice A2 L2.length c2);replace jX:=jX.setCell (p:=⟨w.heap.size+1+1,5,none⟩) bC (.slice A2 L2.length c2);replace bM:=bM.setCell (p:=⟨w.heap.size+1+1,5,none⟩) bC (.slice A2 L2.length c2);replace hO3:=hO3.setCell (p:=⟨w.heap.size+1+1,5,none⟩) bC (.slice A2 L2.length c2);have k3:=T3.ob.cell (i:=6) (u:=.slice fA x.ae.length fB) rfl;have f3:=T3.ob.fz 6;have S3:=S2.put 6 (.slice A3 L3.length c3);replace jX:=jX.setCell (p:=⟨w.heap.size+1+1,6,none⟩) bC (.slice A3 L3.length c3);replace bM:=bM.setCell (p:=⟨w.heap.size+1+1,6,none⟩) bC (.slice A3 L3.length c3);replace hO3:=hO3.setCell (p:=⟨w.heap.size+1+1,6,none⟩) bC (.slice A3 L3.length c3);have l9:=T3.ob.lt;go_upto_region 8 with fail
 obtain ⟨v3,hv⟩:∃v,(((w3.setCell ⟨w.heap.size+1+1,1,none⟩ (.slice A1 L1.length c1)).setCell ⟨w.heap.size+1+1,5,none⟩ (.slice A2 L2.length c2)).setCell ⟨w.heap.size+1+1,6,none⟩ (.slice A3 L3.length c3)) = v:=⟨_,rfl⟩;have hs:v3.heap.size = z3:=by rw [← hv,dm];simp [World.setCell]
 rw [hv] at S3 jX bM hO3;try rw [hv]
 clear hv T3 k1 f1 k2 f2 k3 f3 l9 dm;have dm:=hs;clear hs
 have f9:=I (show am v3 (w.heap.size+1+1+1) (⟨x.name,L1,x.az,x.mem,x.aw,L2,L3⟩:nI) [.string x.name,.slice A1 L1.length c1,.int .i64 x.az,.int .i64 x.mem,.int .i64 x.aw,.slice A2 L2.length c2,.slice A3 L3.length c3] (G1++(G2++G3)) from by
  refine am.up (B':=w.heap.size+1+1+1) (fun x:nI=>(x.name,x.labels,x.az,x.mem,x.aw,x.ai,x.ae)) ?_ (Nat.le_refl _);refine am.cons (c1:=[.string x.name]) (ed _ x.name (rV hname)) ?_;refine am.eD (B2:=z1) (c1:=[.slice A1 L1.length c1]) (F1:=G1) jX ?_ J yv.out;refine am.cons (c1:=[.int .i64 x.az]) (jL _ x.az vg) ?_;refine am.cons (c1:=[.int .i64 x.mem]) (jL _ x.mem cG) ?_;refine am.cons (c1:=[.int .i64 x.aw]) (jL _ x.aw BJ) ?_;refine am.eD (B2:=z2) (c1:=[.slice A2 L2.length c2]) (F1:=G2) bM ?_ J tk.out
  exact hO3)
 have HN:=I (show mR x = ⟨x.name,L1,x.az,x.mem,x.aw,L2,L3⟩ by unfold mR;rw [E1.out,E2.out,E3.out]);have HR:=I (show jf x = if b1 = true∧b2 = true∧b3 = true∧GU (mR x) = true then (mR x,true) else (x,false) by unfold jf;rw [E1.out,E2.out,E3.out]);have HS:=I S3;have Fh:=I (show ((mR x).wt:Int)≤1048576 by have:=Tx x;have:=Du.out;omega);clear jX bM hO3 S3;have q_:=HS.out.ob.lt;obtain ⟨p0,p1,p2,p3,p4,p5,p6⟩:=pC HS.out.cS;cases b1 with
 | false =>have nx:=I (show jf x = (x,false) by rw [HR.out];exact if_neg (by rintro ⟨hh,_⟩;cases hh));exact xc
 | true =>
   cases b2 with
   | false =>have nx:=I (show jf x = (x,false) by rw [HR.out];exact if_neg (by rintro ⟨_,hh,_⟩;cases hh));exact xc
   | true =>
     cases b3 with
     | false =>have nx:=I (show jf x = (x,false) by rw [HR.out];exact if_neg (by rintro ⟨_,_,hh,_⟩;cases hh));exact xc
     | true =>
       have HYN:=HN;cases hr:GU (mR x) with
       | false =>
         have il:=I hr;obtain ⟨q0,q1,q2,q3,q4,q5,q6⟩:=pC HS.out.ob;go_wp2_with fail
         refine (yT (⟨x.name,L1,x.az,x.mem,x.aw,L2,L3⟩:nI) _ _ v3 f9.out.rd K0).mono ?_;rw [← HN.out,il.out];rintro e w7 ⟨rfl,bF⟩;have iu:=I (HS.out.ext bF);have Ku:=I (f9.out.ext bF);clear p0 p1 p2 p3 p4 p5 p6 q0 q1 q2 q3 q4 q5 q6 q_ bF;have nx:=I (show jf x = (x,false) by rw [HR.out];exact if_neg (by rintro ⟨_,_,_,hh⟩;rw [il.out] at hh;cases hh));have rr:=iu.out.cS.lt;obtain ⟨p0,p1,p2,p3,p4,p5,p6⟩:=pC iu.out.cS;go_wp2_with fail
         refine (Mj x _ _ w7 (Kj HX.out iu.out.aE) mE dv xd hv).mono ?_;rintro e w8 ⟨Mk,G8,rfl,sV,gH⟩;have T8:=iu.out.ext gH;have SY:=sV;obtain ⟨pB,aHA,aJp,aIC,aID,aBA,aHF,aHG,aJF,ayd,hF9,aye,aJq,aAR,aAS,aDs,aBB,aJG⟩:=dL sV.rd;subst ayd;clear hF9 sV;obtain ⟨r0,r1,r2,r3,r4,r5,r6⟩:=pC T8.rb;have rf:=T8.rb.fz;have rl:=T8.rb.lt;have mm:=I SY;have AN:=I T8;have Ml:w.heap.size+1 < w7.heap.size:=iu.out.rb.lt;clear SY T8 gH;go_wp2_with fail
         try dsimp only
         iterate 60 (first | go_step | skip)
         refine bodyPost_ret (v:=.tuple #[.agg #[.string x.name,.slice pB x.labels.length aHA,.int .i64 x.az,.int .i64 x.mem,.int .i64 x.aw,.slice aIC x.ai.length aID,.slice aHF x.ae.length aHG],.bool false]) (by simp [results,Tryz.results9,go_sem, *]) rfl ⟨[.string x.name,.slice pB x.labels.length aHA,.int .i64 x.az,.int .i64 x.mem,.int .i64 x.aw,.slice aIC x.ai.length aID,.slice aHF x.ae.length aHG],G8,by rw [nx.out];try rfl,?_,?_⟩
         ·rw [nx.out];refine am.mono (B:=w7.heap.size) ?_ J;exact AP
         ·exact Kk
       | true =>
         have il:=I hr;obtain ⟨q0,q1,q2,q3,q4,q5,q6⟩:=pC HS.out.ob;go_wp2_with fail
         refine (yT (⟨x.name,L1,x.az,x.mem,x.aw,L2,L3⟩:nI) _ _ v3 f9.out.rd K0).mono ?_;rw [← HN.out,il.out];rintro e w7 ⟨rfl,bF⟩;have iu:=I (HS.out.ext bF);have Ku:=I (f9.out.ext bF);clear p0 p1 p2 p3 p4 p5 p6 q0 q1 q2 q3 q4 q5 q6 q_ bF;have xu:=I (show jf x = (mR x,true) by rw [HR.out];exact if_pos (by simp [il.out]));obtain ⟨q0,q1,q2,q3,q4,q5,q6⟩:=pC iu.out.ob;obtain ⟨r0,r1,r2,r3,r4,r5,r6⟩:=pC iu.out.rb;have rf:=iu.out.rb.fz;have rl:=iu.out.rb.lt;have ql:=iu.out.ob.lt;go_wp2_with fail
         try dsimp only
         iterate 60 (first | go_step | skip)
         refine bodyPost_ret (v:=.tuple #[.agg #[.string x.name,.slice A1 L1.length c1,.int .i64 x.az,.int .i64 x.mem,.int .i64 x.aw,.slice A2 L2.length c2,.slice A3 L3.length c3],.bool true]) (by simp [results,Tryz.results9,go_sem, *]) rfl ⟨[.string x.name,.slice A1 L1.length c1,.int .i64 x.az,.int .i64 x.mem,.int .i64 x.aw,.slice A2 L2.length c2,.slice A3 L3.length c3],G1++(G2++G3),by rw [xu.out];try rfl,?_,?_⟩
         ·exact D3
         ·exact (by repeat (first | with_reducible exact iu.out.aE | with_reducible refine aC ?_ bC _))
theorem am.pb {w:World} {B:Nat} {k:ByteArray} {op:Int} {vs:List ByteArray} {A:Option Addr} {c:Nat} {G:List Nat} (h:am w B vs [.slice A vs.length c] G) (hk:k.size≤maxLen) (ho:bt op):am w B (⟨k,op,vs⟩:aL) [.string k,.int .i64 op,.slice A vs.length c] G:=by
 refine am.up (B':=B) (fun x:aL=>(x.key,x.op,x.values)) ?_ (Nat.le_refl _);exact am.cons (c1:=[.string k]) (ed w k (rV hk)) (am.cons (c1:=[.int .i64 op]) (jL w op ho) h)
theorem VW (w:World) (c:Nat) (A:Option Addr) (n ar:Nat) (h:bR w c A n ar) :
 Calls Tryz.prog 149 #[.pointer (some ⟨c,0,none⟩)] w fun e w'=>∃(x:aL) (A':Option Addr) (c':Nat) (G:List Nat),e = .returned (.agg #[.string x.key,.int .i64 x.op,.slice A' x.values.length c'])∧am w' w.heap.size x [.string x.key,.int .i64 x.op,.slice A' x.values.length c'] G∧x.wt≤35∧bR w' c A n ar∧nN [c] w w'∧eE w' w.heap.size 9 1 A' c':=by
 have av:=h.lt;have HC:=I h;clear h;go_enter Tryz.func149,Tryz.ntmps149;go_wp2_with fail
 refine (Hd _ c A n ar (HC.out.ext (ak (aj _) _))).mono ?_;rintro e w1 ⟨s1,rfl,dq,H1,hu1⟩;replace H1:=I H1;go_wp2_with fail
 refine (gS 4 J _ c A n ar H1.out).mono ?_;rintro e w2 ⟨r,rfl,hr,H2,b8⟩;replace H2:=I H2;have X0:=oG.new w [.string ⟨#[]⟩,.int .i64 0,.slice none 0 0] 70;have X2:=(X0.bS hu1 J).bS b8 J;have cq:=hu1.size;have cC:=b8.size;simp at cq;have cj:=H2.out.lt;have U2:=I (((nN.lq [c] (ak (aj w) _)).trans hu1).trans b8);have Y2:=oG.new w2 [.string s1,.int .i64 (1+r),.slice none 0 0] 70;replace X2:=X2.ext (ak (aj _) (.cells [.string s1,.int .i64 (1+r),.slice none 0 0].toArray 70));replace U2:=I (U2.out.alloc (.cells #[.string s1,.int .i64 (1+r),.slice none 0 0] 70));have cO:=I (H2.out.ext (ak (aj _) (.cells #[.string s1,.int .i64 (1+r),.slice none 0 0] 70)));clear X0 hu1 b8 H1 H2 HC;have hI:bt (1+(r:Int)):=by unfold bt;omega
 by_cases h3:(1+(r:Int)) < 3
 ·go_wp2_with fail
  go_loopw [4,5] (fun v i wr=>∃(xs:List ByteArray) (ds:List Value) (A':Option Addr) (c' k:Nat),v = .slice A' xs.length c'∧i = .int .i64 k∧(k:Int)≤3∧Hid (xs.length = k∧(∀s∈xs,s.size≤8)∧wr.ownsRow (w2.heap.size+1) 9 1 (.slice A' xs.length c') xs.length ds∧jo wr xs ds []∧oG wr w.heap.size [.string ⟨#[]⟩,.int .i64 0,.slice none 0 0]∧oG wr w2.heap.size [.string s1,.int .i64 (1+r),.slice none 0 0]∧bR wr c A n ar∧nN [c] w wr∧w2.heap.size+1≤wr.heap.size)) (fun _ i _=>3 - (intOf i).toNat)
  case atStart =>exact ⟨[],[],_,_,0,rfl,rfl,J,I ⟨rfl,(fun s hs=>by cases hs),D9 _ 9 1 _ S',⟨rfl,rfl⟩,X2.ext (ak (aj _) _),Y2.ext (ak (aj _) _),cO.out.ext (ak (aj _) _),U2.out.alloc _,S'⟩⟩
  case round =>
   obtain ⟨xs,ds,A',c',k,rfl,rfl,hk,HX⟩:=hrel;obtain ⟨By,cW,bk,dz,hX,hY,hC,hU,hz⟩:=HX.out;have gY:=I bk;have l6:=I dz;have Ip:=I hX;have V0:=I hY;have oe:=I hC;have HU:=I hU;have Eo:=I cW;have xd:(xs.length:Int)≤3:=J;have HLK:=I By;clear bk dz hX hY hC hU cW By HX X2 Y2 U2 cO;go_wp2_with fail
   refine (gS 3 J _ c A n ar oe.out).mono ?_;rintro e w4 ⟨q,rfl,hq,H4,Td⟩;have fd:=I H4;have LN:=I (rQ gY.out Td J);have zD:=I (Ip.out.bS Td J);have tO:=I (V0.out.bS Td J);have hZ:=I (HU.out.trans Td);have Wy:=Td.size;have Iq:=I (show jo w4 xs ds [] from l6.out.frame (fun b U=>by cases U) Wy);clear H4 Td gY Ip V0 HU oe l6;by_cases hkq:(k:Int) < 1+q
   ·go_wp2_with fail
    refine (Hh _ c A n ar fd.out).mono ?_;rintro e w5 ⟨s2,rfl,cR,H5,hu5⟩;have fp:=I H5;have aM:=rQ LN.out hu5 (show c < w2.heap.size+1 by omega);have tP:=I (zD.out.bS hu5 J);have Pv:=I (tO.out.bS hu5 J);have iF:=I (hZ.out.trans hu5);have Es:=hu5.size;have V1:w2.heap.size+1≤w5.heap.size:=J;clear H5 hu5 LN zD tO hZ fd
    go_wp2_with (
     at_builtin
     go_must (refine lC qw M _ _ M _ _ _ _ _ aM M [.string s2] iN M et J J V1 ?_)
     intro v6 w6 du fb lL;go_must (obtain ⟨A6,c6,hv6⟩:=mY du)
     go_must (subst hv6)
     go_must (have cD:Below (w2.heap.size+1) w5 w6:=lS aM fb (Below.refl _ _) V1))
    have dp:(xs++[s2]).length = xs.length+1:=S';have tQ:jo w6 (xs++[s2]) (ds++[.string s2]) []:=(aY.push (B:=w2.heap.size+1) (B':=w2.heap.size+1) ⟨Iq.out.frame (fun b U=>by cases U) J,List.nodup_nil,(fun b U=>by cases U),(fun b U=>by cases U)⟩ (am.cQ (ed w6 s2 (rV (len8 cR)))) (Nat.le_refl _) (fun b U=>by cases U)).rd;refine ⟨⟨xs++[s2],ds++[.string s2],A6,c6,k+1,(by rw [dp]),N',J,I ⟨by have:=HLK.out;omega,fun s hs=>?_,(by rw [dp];exact du),tQ,tP.out.bm (cD.block _ J),Pv.out.bm (cD.block _ J),fp.out.aE cD J,iF.out.iJ cD J,by have:=cD.size;omega⟩⟩,by simp only [intOf];omega⟩;rcases List.mem_append.1 hs with hs | hs
    ·exact Eo.out s hs
    ·rw [List.mem_singleton] at hs;subst hs;exact cR
   ·obtain ⟨A5,c5,G5,eg,fH⟩:=am.oJ (α:=ByteArray) LN.out ⟨Iq.out,List.nodup_nil,(fun b U=>by cases U),(fun b U=>by cases U)⟩ (fun g _ hm=>by cases hm);simp only [Value.slice.injEq,true_and] at eg;obtain ⟨rfl,rfl⟩:=eg;have mH:=I fH;clear fH LN;go_wp2_with fail
    refine (Ty xs A' c' G5 w4 mH.out.rd J).mono ?_;rintro e w5 ⟨A6,c6,G6,rfl,iD,cD,Jg⟩;have tQ:=I (Jg.mono (B':=w2.heap.size+1) J);have Es:=cD.size;have fp:=I (fd.out.ext cD);have iF:=I (hZ.out.iJ cD J);have BC:=I iD;have V2:=zD.out.ext cD;have BE:=tO.out.ext cD;obtain ⟨Pw,fhX5_0,khX5_1,fhX5_1,khX5_2,fhX5_2⟩:=qe V2;obtain ⟨Px,fhY5_0,khY5_1,fhY5_1,khY5_2,fhY5_2⟩:=qe BE;clear V2 BE cD iD zD tO fd hZ
    have Ir:=I (show (⟨s1,1+r,ga xs⟩:aL).wt≤35 from by
     have Z:=Ts xs;have h2:kL ByteArray.size xs≤3 * (8+1):=vd (n:=3) (b:=8) J Eo.out;show s1.size+kL ByteArray.size (ga xs)≤35
     omega)
    have V5:(ga xs).length≤xs.length:=Tq xs;generalize ga xs = vs at *;go_wp2;refine bodyPost_ret (v:=.agg #[.string s1,.int .i64 (1+r),.slice A6 vs.length c6]) (by simp [results,Tryz.results149,go_sem, *]) rfl ?_;have gh:w.heap.size < w4.heap.size:=J;have bp:w2.heap.size < w4.heap.size:=J;exact ⟨⟨s1,1+r,vs⟩,A6,c6,G6,rfl,am.pb ((((((BC.out.setCell (p:=⟨w2.heap.size,2,none⟩) bp _).setCell (p:=⟨w.heap.size,0,none⟩) gh _).setCell (p:=⟨w.heap.size,1,none⟩) gh _).setCell (p:=⟨w.heap.size,2,none⟩) gh _)).mono J) (len8 dq) hI,Ir.out,(((fp.out.bj J 2 _).bj av 0 _).bj av 1 _).bj av 2 _,(((iF.out.new J 2 _).new (Nat.le_refl _) 0 _).new (Nat.le_refl _) 1 _).new (Nat.le_refl _) 2 _,((((tQ.out.bj J 2 _).bj J 0 _).bj J 1 _).bj J 2 _).mono J⟩
 ·have fl:=X2;have e9:=Y2;obtain ⟨Pz,fHX2_0,kHX2_1,fHX2_1,kHX2_2,fHX2_2⟩:=qe fl;clear fl e9 X2 Y2;go_wp2;refine bodyPost_ret (v:=.agg #[.string s1,.int .i64 (1+r),.slice none 0 0]) (by simp [results,Tryz.results149,go_sem, *]) rfl ?_;exact ⟨⟨s1,1+r,[]⟩,none,0,[],rfl,am.pb (am.cQ (Sl.nil _ none 0 (Nat.zero_le _))) (len8 dq) hI,(by show s1.size+0≤35;omega),(((cO.out.bj av 0 _).bj av 1 _).bj av 2 _),((U2.out.new (Nat.le_refl _) 0 _).new (Nat.le_refl _) 1 _).new (Nat.le_refl _) 2 _,.inl ⟨rfl,rfl⟩⟩
theorem aEe (w:World) (c:Nat) (A:Option Addr) (n ar:Nat) (h:bR w c A n ar) :
 Calls Tryz.prog 149 #[.pointer (some ⟨c,0,none⟩)] w fun e w'=>∃(x:aL) (A':Option Addr) (c':Nat) (G:List Nat),e = .returned (.agg #[.string x.key,.int .i64 x.op,.slice A' x.values.length c'])∧am w' w.heap.size x [.string x.key,.int .i64 x.op,.slice A' x.values.length c'] G∧x.wt≤35∧bR w' c A n ar∧nN [c] w w' :=
 (VW w c A n ar h).mono fun _ _ ⟨xs,A',c',G,a,b,d,e,f,_⟩=>⟨xs,A',c',G,a,b,d,e,f⟩
theorem aAj {xs:List aL} (h:(jh xs).2 = true):nU (jh xs).1 = true:=by
 unfold jh at h ⊢;split
 ·rename_i h2;exact h2.2.2
 ·rename_i h2;rw [if_neg h2] at h;cases h
theorem V7 (w:World) (c:Nat) (A:Option Addr) (n ar:Nat) (h:bR w c A n ar) :
 Calls Tryz.prog 114 #[.pointer (some ⟨c,0,none⟩)] w fun e w'=>∃(xs:List aL) (A':Option Addr) (c':Nat) (G:List Nat),e = .returned (.slice A' xs.length c')∧am w' w.heap.size xs [.slice A' xs.length c'] G∧kL aL.wt xs≤460∧bR w' c A n ar∧nN [c] w w'∧eE w' w.heap.size 70 3 A' c':=by
 have av:=h.lt;have HC:=I h;clear h;go_enter Tryz.func114,Tryz.ntmps114;go_wp2_with fail
 go_loopw [3,4] (fun v i wr=>∃(xs:List aL) (A':Option Addr) (c':Nat) (G:List Nat) (k:Nat),v = .slice A' xs.length c'∧i = .int .i64 k∧(k:Int)≤2∧am wr w.heap.size xs [.slice A' xs.length c'] G∧Hid (kL aL.wt xs≤460)∧bR wr c A n ar∧nN [c] w wr∧Hid (eE wr w.heap.size 70 3 A' c')) (fun _ i _=>2 - (intOf i).toNat)
 case atStart =>obtain ⟨A',c',G,hv,hO⟩:=am.oJ (α:=aL) (D9 w 70 3 w.heap.size rfl) (aY.nil _ _) (fun g _ hm=>by cases hm);simp only [Value.slice.injEq,List.length_nil] at hv;obtain ⟨rfl,_,rfl⟩:=hv;exact ⟨[],_,_,G,0,rfl,rfl,J,hO,I (Nat.zero_le _),HC.out.ext (ak (aj _) _),nN.lq _ (ak (aj _) _),I (eE.oJ (D9 w 70 3 w.heap.size rfl) (Nat.le_refl _))⟩
 case round =>
  obtain ⟨xs,A',c',G,k,rfl,rfl,hk,hO,Du,hcur,hur,lr⟩:=hrel;have HO:=I hO;have pa:=I hcur;have qT:=I hur;have lz:=hur.size;have Pu:(xs.length:Int)≤460:=by have Z:=gJ aL.wt xs;have:=Du.out;omega
  clear hO hcur hur;go_wp2_with fail
  refine (gS 3 J _ c A n ar pa.out).mono ?_;rintro e w1 ⟨r,rfl,hr,H1,hu1⟩;have fT:=I (HO.out.drawn hu1 av);have gd:=I (qT.out.trans hu1);have pn:=I (lr.out.drawn hu1 av);have cq:=hu1.size;have dX:=I H1;clear H1 hu1 HO pa qT lr;by_cases hkr:(k:Int) < r
  ·have qV:=I fT.out.lt;have tG:=I pn.out.lt;have dP:=dX.out.lt;have Ir:=I (show ∀l∈xs,l.wt≤460 from fun l hl=>by have Z:=Bq (f:=aL.wt) hl;have:=Du.out;omega);go_wp2_with fail
   refine (Lb xs A' c' G w1 fT.out.rd J (fun l hl=>by have Z:=Ir.out l hl;have h2:l.wt = l.key.size+kL ByteArray.size l.values:=rfl;have h3:=gJ ByteArray.size l.values;omega)).mono ?_;rintro e w2 ⟨v2,ds,F2,rfl,hrow2,hcs2,tg,aq⟩;obtain ⟨A2,c2,gj⟩:=mY hrow2;subst gj;have zE:=I (fun g hg=>(hrow2.lt g hg).2);have fN:=I hcs2.lt;have qX:=I hrow2;have zF:=I hcs2;have Is:=I tg;have cO:=I (dX.out.ext aq);have RZ:=I (fT.out.ext aq);have zB:=I (pn.out.ext aq);have cY:=I (gd.out.iJ aq J);have cC:=aq.size;clear hrow2 hcs2 tg aq;go_wp2_with fail
   refine (aEe w2 c A n ar cO.out).mono ?_;rintro e w3 ⟨y,Ay,cy,Gy,rfl,tw,vp,H3,bv⟩;have cV:=I H3;have jl:=rQ qX.out bv (show c < w1.heap.size by omega);have q':=I (zF.out.bm (w':=w3) (fun b U=>bv.block b (fN.out b U) (fun hm=>by have:=zF.out.base b U;rw [List.mem_singleton] at hm;omega)) bv.size);have qz:=I tw;have gc:=I (RZ.out.drawn bv av);have zC:=I (zB.out.drawn bv av);have eh:=I (cY.out.trans bv);have dm:=bv.size;have lB:w1.heap.size≤w3.heap.size:=J;clear H3 tw cO qX zF RZ cY bv
   go_wp2_with (
    at_builtin
    go_must (refine uf oy M _ _ M _ _ _ _ _ jl M [.string y.key,.int .i64 y.op,.slice Ay y.values.length cy] iN M et J J lB ?_)
    intro v4 w4 da gF Wy j8;go_must (obtain ⟨A4,c4,hv4⟩:=mY da)
    go_must (subst hv4)
    go_must (have bw:Below w1.heap.size w3 w4:=lS jl gF (Below.refl _ _) lB))
   have dp:(xs++[y]).length = xs.length+1:=S';obtain ⟨l5,hne4⟩:=aY.pr jl q'.out Is.out qz.out J zE.out fN.out gF j8;obtain ⟨A5,c5,G5,eg,fH⟩:=am.oJ (α:=aL) (xs:=xs++[y]) KZ l5 hne4;rw [dp] at eg;simp only [Value.slice.injEq,true_and] at eg;obtain ⟨rfl,rfl⟩:=eg
   have HS:=TB (xs++[y]) A4 c4 G5 w4 fH.rd J (fun l hl=>by
    rcases List.mem_append.1 hl with hl | hl
    ·have:=Ir.out l hl;omega
    ·rw [List.mem_singleton] at hl;subst hl;omega)
   rw [dp] at HS;have fd:=I (cV.out.aE bw J);have kz:=I (gc.out.Io bw qV.out);have C1:=I (zC.out.bm fun g hg=>bw.block g (tG.out g hg));have hZ:=I (eh.out.iJ bw J);have il:=I (fun h=>T4 (aAj (xs:=xs++[y]) h));have Ld:=bw.size;clear fH l5 hne4 da gF bw jl fT gd dX cV gc eh qV qz q' Is zE fN Ir j8;refine HS.mono ?_;clear HS;generalize jh (xs++[y]) = R at *;exact xi
  ·exact sQ
theorem aDf (w:World) (c:Nat) (A:Option Addr) (n ar:Nat) (h:bR w c A n ar) :
 Calls Tryz.prog 114 #[.pointer (some ⟨c,0,none⟩)] w fun e w'=>∃(xs:List aL) (A':Option Addr) (c':Nat) (G:List Nat),e = .returned (.slice A' xs.length c')∧am w' w.heap.size xs [.slice A' xs.length c'] G∧kL aL.wt xs≤460∧bR w' c A n ar∧nN [c] w w' :=
 (V7 w c A n ar h).mono fun _ _ ⟨xs,A',c',G,a,b,d,e,f,_⟩=>⟨xs,A',c',G,a,b,d,e,f⟩
end Go.Proofs.YtajbbmembionpaaGreat
