/- HostNormal of the reference. No condition. -/
import Derived.Test.YtjahcnjmjahbaaaGreatClusterI
import Derived.Test.YtjahcnjmjahbaaaGreatRankI
import Derived.Deep.CutRange
import Derived.Test.YtjahcnjmjahbaaaGreatSortNeedsS
namespace Go.Proofs.YtjahcnjmjahbaaaGreat
open Go.ChangeShapes Go.WideShapes Go.ChangeAt Go.RowKit
set_option linter.unusedVariables false
set_option linter.unusedSimpArgs false
set_option maxHeartbeats 8000000
set_option maxRecDepth 100000
theorem OI (x:ba) (cs:List Value) (F:List Nat) (w:World) (h:rd w x cs F) (hw:(x.wt:Int)≤1048576) :
 Calls Tryz.prog 188 #[.agg cs.toArray] w fun e w'=>∃ds G,e = .returned (.tuple #[.agg ds.toArray,.bool (bf x).2])∧am w' w.heap.size (bf x).1 ds G∧Below w.heap.size w w':=by
 have h0:=h;obtain ⟨gu,gy,jw,kJ,kK,qU,ax,qp,hname,dO,vg,cE,uI,jq⟩:=iy h;subst ax;clear qp h;have HX:=I h0;have Du:=I hw;clear h0;have ga:x.wt = x.name.size+kL aD.wt x.labels+kL iU.wt x.aT:=rfl;have fg:(x.labels.length:Int)≤1048576:=by have:=gJ aD.wt x.labels;omega
 have cC:(x.aT.length:Int)≤1048576:=by have:=gJ iU.wt x.aT;omega
 have oL:∀l∈x.labels,(l.key.size:Int)≤1048576∧(l.value.size:Int)≤1048576:=fun l hl=>by have h9:=Bq (f:=aD.wt) hl;have h8:aD.wt l = l.key.size+l.value.size:=rfl;omega
 have pk:∀l∈x.aT,(l.key.size:Int)≤1048576∧(l.value.size:Int)≤1048576:=fun l hl=>by have h9:=Bq (f:=iU.wt) hl;have h8:iU.wt l = l.key.size+l.value.size:=rfl;omega
 have S0:qz w (((w.alloc (.cells #[.string x.name,.slice gu x.labels.length gy,.int .i64 x.aw,.int .i64 x.mem,.int .i64 x.aq,.slice kJ x.aT.length kK] 38)).alloc (.cells #[.string ⟨#[]⟩,.slice none 0 0,.int .i64 0,.int .i64 0,.int .i64 0,.slice none 0 0] 38)).alloc (.cells #[.string x.name,.slice gu x.labels.length gy,.int .i64 x.aw,.int .i64 x.mem,.int .i64 x.aq,.slice kJ x.aT.length kK] 38)) [.string x.name,.slice gu x.labels.length gy,.int .i64 x.aw,.int .i64 x.mem,.int .i64 x.aq,.slice kJ x.aT.length kK] [.string ⟨#[]⟩,.slice none 0 0,.int .i64 0,.int .i64 0,.int .i64 0,.slice none 0 0] [.string x.name,.slice gu x.labels.length gy,.int .i64 x.aw,.int .i64 x.mem,.int .i64 x.aq,.slice kJ x.aT.length kK]:=qz.new w _ _ _ 38 38 38;obtain ⟨v0,sa⟩:∃v0,(((w.alloc (.cells #[.string x.name,.slice gu x.labels.length gy,.int .i64 x.aw,.int .i64 x.mem,.int .i64 x.aq,.slice kJ x.aT.length kK] 38)).alloc (.cells #[.string ⟨#[]⟩,.slice none 0 0,.int .i64 0,.int .i64 0,.int .i64 0,.slice none 0 0] 38)).alloc (.cells #[.string x.name,.slice gu x.labels.length gy,.int .i64 x.aw,.int .i64 x.mem,.int .i64 x.aq,.slice kJ x.aT.length kK] 38)) = v0:=⟨_,rfl⟩;rw [sa] at S0;have ry:=I sa;have i1:=S0.cw.cell (i:=1) (u:=.slice gu x.labels.length gy) rfl;have j1:=S0.ob.lt;clear sa hw ga;go_enter Tryz.func188,Tryz.ntmps188;go_wp2_with fail
 rw [ry.out];clear ry;refine (Z6 x.labels _ _ _ v0 (dO.ext S0.aL) fg oL).mono ?_;obtain ⟨L1,b1,e1⟩:∃L b,BG x.labels = (L,b):=⟨_,_,rfl⟩;rw [e1];have E1:=I e1;clear e1 i1;rintro e w1 ⟨A1,c1,G1,rfl,jX,bm⟩;have T1:=S0.ext bm;replace jX:=jX.mono (B':=w.heap.size+1+1+1) O;obtain ⟨z1,cM⟩:∃z,z = w1.heap.size:=⟨_,rfl⟩;have sn:=I (show ∀b∈G1,b < z1 from fun b hb=>by rw [cM];exact jX.lt b hb);have S4:w.heap.size+1+1+1≤z1:=by have:=bm.size;omega
 clear bm;have i2:=T1.cw.cell (i:=5) (u:=.slice kJ x.aT.length kK) rfl;have j2:=T1.ob.lt;go_wp2_with fail
 clear S0;refine (ayM x.aT _ _ _ w1 (jq.ext T1.aL) cC pk).mono ?_;obtain ⟨L2,b2,e2⟩:∃L b,Fq x.aT = (L,b):=⟨_,_,rfl⟩;rw [e2];have E2:=I e2;clear e2 i2;rintro e w2 ⟨A2,c2,G2,rfl,bC,ao⟩;have T2:=T1.ext ao;replace bC:=bC.mono (B':=z1) (by have:=cM;omega);replace jX:=jX.ext ao;obtain ⟨z2,cI⟩:∃z,z = w2.heap.size:=⟨_,rfl⟩;have pw:=I (show ∀b∈G2,b < z2 from fun b hb=>by rw [cI];exact bC.lt b hb);have S5:z1≤z2:=by have:=ao.size;omega
 clear ao;have k1:=T2.ob.cell (i:=1) (u:=.slice gu x.labels.length gy) rfl;have f1:=T2.ob.fz 1;have S1:=T2.put 1 (.slice A1 L1.length c1);replace jX:=jX.setCell (p:=⟨w.heap.size+1+1,1,none⟩) bM (.slice A1 L1.length c1);replace bC:=bC.setCell (p:=⟨w.heap.size+1+1,1,none⟩) bM (.slice A1 L1.length c1);have k2:=T2.ob.cell (i:=5) (u:=.slice kJ x.aT.length kK) rfl;have f2:=T2.ob.fz 5;have S2:=S1.put 5 (.slice A2 L2.length c2);replace jX:=jX.setCell (p:=⟨w.heap.size+1+1,5,none⟩) bM (.slice A2 L2.length c2);replace bC:=bC.setCell (p:=⟨w.heap.size+1+1,5,none⟩) bM (.slice A2 L2.length c2);have l9:=T2.ob.lt;go_upto_region 6 with fail
 obtain ⟨v2,hv⟩:∃v,((w2.setCell ⟨w.heap.size+1+1,1,none⟩ (.slice A1 L1.length c1)).setCell ⟨w.heap.size+1+1,5,none⟩ (.slice A2 L2.length c2)) = v:=⟨_,rfl⟩;have hs:v2.heap.size = z2:=by rw [← hv,cI];simp [World.setCell]
 rw [hv] at S2 jX bC;try rw [hv]
 clear hv T2 k1 f1 k2 f2 l9 cI;have cI:=hs;clear hs
 have gz:=I (show am v2 (w.heap.size+1+1+1) (⟨x.name,L1,x.aw,x.mem,x.aq,L2⟩:ba) [.string x.name,.slice A1 L1.length c1,.int .i64 x.aw,.int .i64 x.mem,.int .i64 x.aq,.slice A2 L2.length c2] (G1++G2) from by
  refine am.up (B':=w.heap.size+1+1+1) (fun x:ba=>(x.name,x.labels,x.aw,x.mem,x.aq,x.aT)) ?_ (Nat.le_refl _);refine am.cons (c1:=[.string x.name]) (d7 _ x.name (rV hname)) ?_;refine am.fa (B2:=z1) (c1:=[.slice A1 L1.length c1]) (F1:=G1) jX ?_ O sn.out;refine am.cons (c1:=[.int .i64 x.aw]) (jL _ x.aw vg) ?_;refine am.cons (c1:=[.int .i64 x.mem]) (jL _ x.mem cE) ?_;refine am.cons (c1:=[.int .i64 x.aq]) (jL _ x.aq uI) ?_
  exact bC)
 have HN:=I (show sk x = ⟨x.name,L1,x.aw,x.mem,x.aq,L2⟩ by unfold sk;rw [E1.out,E2.out]);have HR:=I (show bf x = if b1 = true∧b2 = true∧Aj (sk x) = true then (sk x,true) else (x,false) by unfold bf;rw [E1.out,E2.out]);have HS:=I S2;have XS:=I (show ((sk x).wt:Int)≤1048576 by have:=aCl x;have:=Du.out;omega);clear jX bC S2;have q_:=HS.out.ob.lt;obtain ⟨p0,p1,p2,p3,p4,p5⟩:=cH HS.out.cw;cases b1 with
 | false =>have oo:=I (show bf x = (x,false) by rw [HR.out];exact if_neg (by rintro ⟨hh,_⟩;cases hh));exact Hm
 | true =>
   cases b2 with
   | false =>have oo:=I (show bf x = (x,false) by rw [HR.out];exact if_neg (by rintro ⟨_,hh,_⟩;cases hh));exact Hm
   | true =>
     have HYN:=HN;cases hr:Aj (sk x) with
     | false =>
       have kq:=I hr;obtain ⟨q0,q1,q2,q3,q4,q5⟩:=cH HS.out.ob;go_wp2_with fail
       refine (tZ (⟨x.name,L1,x.aw,x.mem,x.aq,L2⟩:ba) _ _ v2 gz.out.rd PF).mono ?_;rw [← HN.out,kq.out];rintro e w7 ⟨rfl,bN⟩;have i':=I (HS.out.ext bN);have Pf:=I (gz.out.ext bN);clear p0 p1 p2 p3 p4 p5 q0 q1 q2 q3 q4 q5 q_ bN;have oo:=I (show bf x = (x,false) by rw [HR.out];exact if_neg (by rintro ⟨_,_,hh⟩;rw [kq.out] at hh;cases hh));have rr:=i'.out.cw.lt;obtain ⟨p0,p1,p2,p3,p4,p5⟩:=cH i'.out.cw;go_wp2_with fail
       refine (Re x _ _ w7 (OF HX.out i'.out.aL) fg cC).mono ?_;rintro e w8 ⟨Q6,G8,rfl,sV,kn⟩;have T8:=i'.out.ext kn;have SY:=sV;obtain ⟨rv,aHA,aJp,aIQ,aIR,aCm,ayd,hF9,aye,aJq,aAR,aAS,aDQ,aCn⟩:=iy sV.rd;subst ayd;clear hF9 sV;obtain ⟨r0,r1,r2,r3,r4,r5⟩:=cH T8.rb;have rf:=T8.rb.fz;have rl:=T8.rb.lt;have mH:=I SY;have DS:=I T8;have OG:w.heap.size+1 < w7.heap.size:=i'.out.rb.lt;clear SY T8 kn;go_wp2_with fail
       try dsimp only
       iterate 60 (first | go_step | skip)
       refine bodyPost_ret (v:=.tuple #[.agg #[.string x.name,.slice rv x.labels.length aHA,.int .i64 x.aw,.int .i64 x.mem,.int .i64 x.aq,.slice aIQ x.aT.length aIR],.bool false]) (by simp [results,Tryz.results188,go_sem, *]) rfl ⟨[.string x.name,.slice rv x.labels.length aHA,.int .i64 x.aw,.int .i64 x.mem,.int .i64 x.aq,.slice aIQ x.aT.length aIR],G8,by rw [oo.out];try rfl,?_,?_⟩
       ·rw [oo.out];refine am.mono (B:=w7.heap.size) ?_ O;exact DW
       ·exact OH
     | true =>
       have kq:=I hr;obtain ⟨q0,q1,q2,q3,q4,q5⟩:=cH HS.out.ob;go_wp2_with fail
       refine (tZ (⟨x.name,L1,x.aw,x.mem,x.aq,L2⟩:ba) _ _ v2 gz.out.rd PF).mono ?_;rw [← HN.out,kq.out];rintro e w7 ⟨rfl,bN⟩;have i':=I (HS.out.ext bN);have Pf:=I (gz.out.ext bN);clear p0 p1 p2 p3 p4 p5 q0 q1 q2 q3 q4 q5 q_ bN;have AU:=I (show bf x = (sk x,true) by rw [HR.out];exact if_pos (by simp [kq.out]));obtain ⟨q0,q1,q2,q3,q4,q5⟩:=cH i'.out.ob;obtain ⟨r0,r1,r2,r3,r4,r5⟩:=cH i'.out.rb;have rf:=i'.out.rb.fz;have rl:=i'.out.rb.lt;have ql:=i'.out.ob.lt;go_wp2_with fail
       try dsimp only
       iterate 60 (first | go_step | skip)
       refine bodyPost_ret (v:=.tuple #[.agg #[.string x.name,.slice A1 L1.length c1,.int .i64 x.aw,.int .i64 x.mem,.int .i64 x.aq,.slice A2 L2.length c2],.bool true]) (by simp [results,Tryz.results188,go_sem, *]) rfl ⟨[.string x.name,.slice A1 L1.length c1,.int .i64 x.aw,.int .i64 x.mem,.int .i64 x.aq,.slice A2 L2.length c2],G1++G2,by rw [AU.out];try rfl,?_,?_⟩
       ·exact Kb
       ·exact (by repeat (first | with_reducible exact i'.out.aL | with_reducible refine aC ?_ bM _))
theorem OE (x:nI) (cs:List Value) (F:List Nat) (w:World) (h:rd w x cs F) (hw:(x.wt:Int)≤1048576) :
 Calls Tryz.prog 187 #[.agg cs.toArray] w fun e w'=>∃ds G,e = .returned (.tuple #[.agg ds.toArray,.bool (jf x).2])∧am w' w.heap.size (jf x).1 ds G∧Below w.heap.size w w':=by
 have h0:=h;obtain ⟨gu,gy,jw,oh,nT,wG,fA,fB,jY,ax,qp,hname,dO,vg,cE,BJ,mX,eG⟩:=dL h;subst ax;clear qp h;have HX:=I h0;have Du:=I hw;clear h0;have ga:x.wt = x.name.size+kL aD.wt x.labels+kL bj.wt x.ai+kL bH.wt x.ae:=rfl;have fg:(x.labels.length:Int)≤1048576:=by have:=gJ aD.wt x.labels;omega
 have cC:(x.ai.length:Int)≤1048576:=by have:=gJ bj.wt x.ai;omega
 have mI:(x.ae.length:Int)≤1048576:=by have:=gJ bH.wt x.ae;omega
 have oL:∀l∈x.labels,(l.key.size:Int)≤1048576∧(l.value.size:Int)≤1048576:=fun l hl=>by have h9:=Bq (f:=aD.wt) hl;have h8:aD.wt l = l.key.size+l.value.size:=rfl;omega
 have pk:∀l∈x.ai,(l.wt:Int)≤1048576:=fun l hl=>by have:=Bq (f:=bj.wt) hl;omega
 have hm3:∀l∈x.ae,(l.key.size:Int)≤1048576∧(l.value.size:Int)≤1048576:=fun l hl=>by have h9:=Bq (f:=bH.wt) hl;have h8:bH.wt l = l.key.size+l.value.size:=rfl;omega
 have hv:∀y∈x.ai,(y.values.length:Int)≤1048576:=fun l hl=>by have h9:=Bq (f:=bj.wt) hl;have:=gJ ByteArray.size l.values;have h8:bj.wt l = l.key.size+kL ByteArray.size l.values:=rfl;omega
 have S0:qz w (((w.alloc (.cells #[.string x.name,.slice gu x.labels.length gy,.int .i64 x.aw,.int .i64 x.mem,.int .i64 x.av,.slice oh x.ai.length nT,.slice fA x.ae.length fB] 46)).alloc (.cells #[.string ⟨#[]⟩,.slice none 0 0,.int .i64 0,.int .i64 0,.int .i64 0,.slice none 0 0,.slice none 0 0] 46)).alloc (.cells #[.string x.name,.slice gu x.labels.length gy,.int .i64 x.aw,.int .i64 x.mem,.int .i64 x.av,.slice oh x.ai.length nT,.slice fA x.ae.length fB] 46)) [.string x.name,.slice gu x.labels.length gy,.int .i64 x.aw,.int .i64 x.mem,.int .i64 x.av,.slice oh x.ai.length nT,.slice fA x.ae.length fB] [.string ⟨#[]⟩,.slice none 0 0,.int .i64 0,.int .i64 0,.int .i64 0,.slice none 0 0,.slice none 0 0] [.string x.name,.slice gu x.labels.length gy,.int .i64 x.aw,.int .i64 x.mem,.int .i64 x.av,.slice oh x.ai.length nT,.slice fA x.ae.length fB]:=qz.new w _ _ _ 46 46 46;obtain ⟨v0,sa⟩:∃v0,(((w.alloc (.cells #[.string x.name,.slice gu x.labels.length gy,.int .i64 x.aw,.int .i64 x.mem,.int .i64 x.av,.slice oh x.ai.length nT,.slice fA x.ae.length fB] 46)).alloc (.cells #[.string ⟨#[]⟩,.slice none 0 0,.int .i64 0,.int .i64 0,.int .i64 0,.slice none 0 0,.slice none 0 0] 46)).alloc (.cells #[.string x.name,.slice gu x.labels.length gy,.int .i64 x.aw,.int .i64 x.mem,.int .i64 x.av,.slice oh x.ai.length nT,.slice fA x.ae.length fB] 46)) = v0:=⟨_,rfl⟩;rw [sa] at S0;have ry:=I sa;have i1:=S0.cw.cell (i:=1) (u:=.slice gu x.labels.length gy) rfl;have j1:=S0.ob.lt;clear sa hw ga;go_enter Tryz.func187,Tryz.ntmps187;go_wp2_with fail
 rw [ry.out];clear ry;refine (Z6 x.labels _ _ _ v0 (dO.ext S0.aL) fg oL).mono ?_;obtain ⟨L1,b1,e1⟩:∃L b,BG x.labels = (L,b):=⟨_,_,rfl⟩;rw [e1];have E1:=I e1;clear e1 i1;rintro e w1 ⟨A1,c1,G1,rfl,jX,bm⟩;have T1:=S0.ext bm;replace jX:=jX.mono (B':=w.heap.size+1+1+1) O;obtain ⟨z1,cM⟩:∃z,z = w1.heap.size:=⟨_,rfl⟩;have sn:=I (show ∀b∈G1,b < z1 from fun b hb=>by rw [cM];exact jX.lt b hb);have S4:w.heap.size+1+1+1≤z1:=by have:=bm.size;omega
 clear bm;have i2:=T1.cw.cell (i:=5) (u:=.slice oh x.ai.length nT) rfl;have j2:=T1.ob.lt;go_wp2_with fail
 clear S0;refine (az1 x.ai _ _ _ w1 (mX.ext T1.aL) cC pk).mono ?_;obtain ⟨L2,b2,e2⟩:∃L b,kg x.ai = (L,b):=⟨_,_,rfl⟩;rw [e2];have E2:=I e2;clear e2 i2;rintro e w2 ⟨A2,c2,G2,rfl,bC,ao⟩;have T2:=T1.ext ao;replace bC:=bC.mono (B':=z1) (by have:=cM;omega);replace jX:=jX.ext ao;obtain ⟨z2,cI⟩:∃z,z = w2.heap.size:=⟨_,rfl⟩;have pw:=I (show ∀b∈G2,b < z2 from fun b hb=>by rw [cI];exact bC.lt b hb);have S5:z1≤z2:=by have:=ao.size;omega
 clear ao;have i3:=T2.cw.cell (i:=6) (u:=.slice fA x.ae.length fB) rfl;have j3:=T2.ob.lt;go_wp2_with fail
 clear T1;refine (axf x.ae _ _ _ w2 (eG.ext T2.aL) mI hm3).mono ?_;obtain ⟨L3,b3,e3⟩:∃L b,kw x.ae = (L,b):=⟨_,_,rfl⟩;rw [e3];have E3:=I e3;clear e3 i3;rintro e w3 ⟨A3,c3,G3,rfl,hO3,bd⟩;have T3:=T2.ext bd;replace hO3:=hO3.mono (B':=z2) (by have:=cI;omega);replace jX:=jX.ext bd;replace bC:=bC.ext bd;obtain ⟨z3,ez⟩:∃z,z = w3.heap.size:=⟨_,rfl⟩;have HLT3:=I (show ∀b∈G3,b < z3 from fun b hb=>by rw [ez];exact hO3.lt b hb);have hzz3:z2≤z3:=by have:=bd.size;omega
 clear bd;have k1:=T3.ob.cell (i:=1) (u:=.slice gu x.labels.length gy) rfl;have f1:=T3.ob.fz 1;have S1:=T3.put 1 (.slice A1 L1.length c1);replace jX:=jX.setCell (p:=⟨w.heap.size+1+1,1,none⟩) bM (.slice A1 L1.length c1);replace bC:=bC.setCell (p:=⟨w.heap.size+1+1,1,none⟩) bM (.slice A1 L1.length c1);replace hO3:=hO3.setCell (p:=⟨w.heap.size+1+1,1,none⟩) bM (.slice A1 L1.length c1);have k2:=T3.ob.cell (i:=5) (u:=.slice oh x.ai.length nT) rfl;have f2:=T3.ob.fz 5;have S2:=S1.put 5 (.slice A2 L2.length c2);replace jX:=jX.setCell (p:=⟨w.heap.size+1+1,5,none⟩) bM (.slice A2 L2.length c2);replace bC:=bC.setCell (p:=⟨w.heap.size+1+1,5,none⟩) bM (.slice A2 L2.length c2);replace hO3:=hO3.setCell (p:=⟨w.heap.size+1+1,5,none⟩) bM (.slice A2 L2.length c2);have k3:=T3.ob.cell (i:=6) (u:=.slice fA x.ae.length fB) rfl;have f3:=T3.ob.fz 6;have S3:=S2.put 6 (.slice A3 L3.length c3);replace jX:=jX.setCell (p:=⟨w.heap.size+1+1,6,none⟩) bM (.slice A3 L3.length c3);replace bC:=bC.setCell (p:=⟨w.heap.size+1+1,6,none⟩) bM (.slice A3 L3.length c3);replace hO3:=hO3.setCell (p:=⟨w.heap.size+1+1,6,none⟩) bM (.slice A3 L3.length c3);have l9:=T3.ob.lt;go_upto_region 8 with fail
 obtain ⟨v3,hv⟩:∃v,(((w3.setCell ⟨w.heap.size+1+1,1,none⟩ (.slice A1 L1.length c1)).setCell ⟨w.heap.size+1+1,5,none⟩ (.slice A2 L2.length c2)).setCell ⟨w.heap.size+1+1,6,none⟩ (.slice A3 L3.length c3)) = v:=⟨_,rfl⟩;have hs:v3.heap.size = z3:=by rw [← hv,ez];simp [World.setCell]
 rw [hv] at S3 jX bC hO3;try rw [hv]
 clear hv T3 k1 f1 k2 f2 k3 f3 l9 ez;have ez:=hs;clear hs
 have gz:=I (show am v3 (w.heap.size+1+1+1) (⟨x.name,L1,x.aw,x.mem,x.av,L2,L3⟩:nI) [.string x.name,.slice A1 L1.length c1,.int .i64 x.aw,.int .i64 x.mem,.int .i64 x.av,.slice A2 L2.length c2,.slice A3 L3.length c3] (G1++(G2++G3)) from by
  refine am.up (B':=w.heap.size+1+1+1) (fun x:nI=>(x.name,x.labels,x.aw,x.mem,x.av,x.ai,x.ae)) ?_ (Nat.le_refl _);refine am.cons (c1:=[.string x.name]) (d7 _ x.name (rV hname)) ?_;refine am.fa (B2:=z1) (c1:=[.slice A1 L1.length c1]) (F1:=G1) jX ?_ O sn.out;refine am.cons (c1:=[.int .i64 x.aw]) (jL _ x.aw vg) ?_;refine am.cons (c1:=[.int .i64 x.mem]) (jL _ x.mem cE) ?_;refine am.cons (c1:=[.int .i64 x.av]) (jL _ x.av BJ) ?_;refine am.fa (B2:=z2) (c1:=[.slice A2 L2.length c2]) (F1:=G2) bC ?_ O pw.out
  exact hO3)
 have HN:=I (show sB x = ⟨x.name,L1,x.aw,x.mem,x.av,L2,L3⟩ by unfold sB;rw [E1.out,E2.out,E3.out]);have HR:=I (show jf x = if b1 = true∧b2 = true∧b3 = true∧GU (sB x) = true then (sB x,true) else (x,false) by unfold jf;rw [E1.out,E2.out,E3.out]);have HS:=I S3;have XS:=I (show ((sB x).wt:Int)≤1048576 by have:=aDX x;have:=Du.out;omega);clear jX bC hO3 S3;have q_:=HS.out.ob.lt;obtain ⟨p0,p1,p2,p3,p4,p5,p6⟩:=o4 HS.out.cw;cases b1 with
 | false =>have oo:=I (show jf x = (x,false) by rw [HR.out];exact if_neg (by rintro ⟨hh,_⟩;cases hh));exact As
 | true =>
   cases b2 with
   | false =>have oo:=I (show jf x = (x,false) by rw [HR.out];exact if_neg (by rintro ⟨_,hh,_⟩;cases hh));exact As
   | true =>
     cases b3 with
     | false =>have oo:=I (show jf x = (x,false) by rw [HR.out];exact if_neg (by rintro ⟨_,_,hh,_⟩;cases hh));exact As
     | true =>
       have HYN:=HN;cases hr:GU (sB x) with
       | false =>
         have kq:=I hr;obtain ⟨q0,q1,q2,q3,q4,q5,q6⟩:=o4 HS.out.ob;go_wp2_with fail
         refine (yT (⟨x.name,L1,x.aw,x.mem,x.av,L2,L3⟩:nI) _ _ v3 gz.out.rd PF).mono ?_;rw [← HN.out,kq.out];rintro e w7 ⟨rfl,bN⟩;have i':=I (HS.out.ext bN);have Pf:=I (gz.out.ext bN);clear p0 p1 p2 p3 p4 p5 p6 q0 q1 q2 q3 q4 q5 q6 q_ bN;have oo:=I (show jf x = (x,false) by rw [HR.out];exact if_neg (by rintro ⟨_,_,_,hh⟩;rw [kq.out] at hh;cases hh));have rr:=i'.out.cw.lt;obtain ⟨p0,p1,p2,p3,p4,p5,p6⟩:=o4 i'.out.cw;go_wp2_with fail
         refine (Q4 x _ _ w7 (OF HX.out i'.out.aL) fg cC mI hv).mono ?_;rintro e w8 ⟨Q6,G8,rfl,sV,kn⟩;have T8:=i'.out.ext kn;have SY:=sV;obtain ⟨rv,aHA,aJp,aIC,aID,aBA,aHF,aHG,aJF,ayd,hF9,aye,aJq,aAR,aAS,aDs,aBB,aJG⟩:=dL sV.rd;subst ayd;clear hF9 sV;obtain ⟨r0,r1,r2,r3,r4,r5,r6⟩:=o4 T8.rb;have rf:=T8.rb.fz;have rl:=T8.rb.lt;have mH:=I SY;have DS:=I T8;have OG:w.heap.size+1 < w7.heap.size:=i'.out.rb.lt;clear SY T8 kn;go_wp2_with fail
         try dsimp only
         iterate 60 (first | go_step | skip)
         refine bodyPost_ret (v:=.tuple #[.agg #[.string x.name,.slice rv x.labels.length aHA,.int .i64 x.aw,.int .i64 x.mem,.int .i64 x.av,.slice aIC x.ai.length aID,.slice aHF x.ae.length aHG],.bool false]) (by simp [results,Tryz.results187,go_sem, *]) rfl ⟨[.string x.name,.slice rv x.labels.length aHA,.int .i64 x.aw,.int .i64 x.mem,.int .i64 x.av,.slice aIC x.ai.length aID,.slice aHF x.ae.length aHG],G8,by rw [oo.out];try rfl,?_,?_⟩
         ·rw [oo.out];refine am.mono (B:=w7.heap.size) ?_ O;exact DW
         ·exact OH
       | true =>
         have kq:=I hr;obtain ⟨q0,q1,q2,q3,q4,q5,q6⟩:=o4 HS.out.ob;go_wp2_with fail
         refine (yT (⟨x.name,L1,x.aw,x.mem,x.av,L2,L3⟩:nI) _ _ v3 gz.out.rd PF).mono ?_;rw [← HN.out,kq.out];rintro e w7 ⟨rfl,bN⟩;have i':=I (HS.out.ext bN);have Pf:=I (gz.out.ext bN);clear p0 p1 p2 p3 p4 p5 p6 q0 q1 q2 q3 q4 q5 q6 q_ bN;have AU:=I (show jf x = (sB x,true) by rw [HR.out];exact if_pos (by simp [kq.out]));obtain ⟨q0,q1,q2,q3,q4,q5,q6⟩:=o4 i'.out.ob;obtain ⟨r0,r1,r2,r3,r4,r5,r6⟩:=o4 i'.out.rb;have rf:=i'.out.rb.fz;have rl:=i'.out.rb.lt;have ql:=i'.out.ob.lt;go_wp2_with fail
         try dsimp only
         iterate 60 (first | go_step | skip)
         refine bodyPost_ret (v:=.tuple #[.agg #[.string x.name,.slice A1 L1.length c1,.int .i64 x.aw,.int .i64 x.mem,.int .i64 x.av,.slice A2 L2.length c2,.slice A3 L3.length c3],.bool true]) (by simp [results,Tryz.results187,go_sem, *]) rfl ⟨[.string x.name,.slice A1 L1.length c1,.int .i64 x.aw,.int .i64 x.mem,.int .i64 x.av,.slice A2 L2.length c2,.slice A3 L3.length c3],G1++(G2++G3),by rw [AU.out];try rfl,?_,?_⟩
         ·exact Kb
         ·exact (by repeat (first | with_reducible exact i'.out.aL | with_reducible refine aC ?_ bM _))
end Go.Proofs.YtjahcnjmjahbaaaGreat
