/- PodNormal of the reference. No condition. -/
import Derived.Test.YtdegaofigemegaaGreatAddP0
import Derived.Test.YtdegaofigemegaaGreatSortNeedsI
import Derived.Deep.CutRange
import Derived.Test.YtdegaofigemegaaGreatInsPlaced
namespace Go.Proofs.YtdegaofigemegaaGreat
open Go.ChangeShapes Go.WideShapes Go.ChangeAt Go.RowKit
set_option linter.unusedVariables false
set_option linter.unusedSimpArgs false
set_option maxHeartbeats 8000000
set_option maxRecDepth 100000
theorem Re (x:nI) (cs:List Value) (F:List Nat) (w:World) (h:rd w x cs F) (hw:(x.wt:Int)<=1048576) :
 Calls Tryz.prog 132 #[.agg cs.toArray] w λe w'=>∃ds G,e = .returned (.tuple #[.agg ds.toArray,.bool (jf x).2])/\ai w' w.heap.size (jf x).1 ds G/\Below w.heap.size w w':=by
 have h0:=h;obtain ⟨gu,gy,jw,oh,nT,wG,fA,fB,jY,ar,qp,hname,dO,vg,b8,BJ,mX,eG⟩:=dL h;subst ar;clear qp h;have HX:=I h0;have Du:=I hw;clear h0;have i':x.wt = x.name.size+kL ao.wt x.labels+kL aL.wt x.af+kL bH.wt x.ae:=rfl;have fu:(x.labels.length:Int)<=1048576:=by have:=gJ ao.wt x.labels;omega
 have cA:(x.af.length:Int)<=1048576:=by have:=gJ aL.wt x.af;omega
 have nU:(x.ae.length:Int)<=1048576:=by have:=gJ bH.wt x.ae;omega
 have pn:∀l∈x.labels,(l.key.size:Int)<=1048576/\(l.value.size:Int)<=1048576:=λl hl=>by have h9:=Bq (f:=ao.wt) hl;have h8:ao.wt l = l.key.size+l.value.size:=rfl;omega
 have pm:∀l∈x.af,(l.wt:Int)<=1048576:=λl hl=>by have:=Bq (f:=aL.wt) hl;omega
 have Wo:∀l∈x.ae,(l.key.size:Int)<=1048576/\(l.value.size:Int)<=1048576:=λl hl=>by have h9:=Bq (f:=bH.wt) hl;have h8:bH.wt l = l.key.size+l.value.size:=rfl;omega
 have hv:∀y∈x.af,(y.values.length:Int)<=1048576:=λl hl=>by have h9:=Bq (f:=aL.wt) hl;have:=gJ ByteArray.size l.values;have h8:aL.wt l = l.key.size+kL ByteArray.size l.values:=rfl;omega
 have S0:pu w (((w.alloc (.cells #[.string x.name,.slice gu x.labels.length gy,.int .i64 x.aq,.int .i64 x.mem,.int .i64 x.av,.slice oh x.af.length nT,.slice fA x.ae.length fB] 35)).alloc (.cells #[.string ⟨#[]⟩,.slice none 0 0,.int .i64 0,.int .i64 0,.int .i64 0,.slice none 0 0,.slice none 0 0] 35)).alloc (.cells #[.string x.name,.slice gu x.labels.length gy,.int .i64 x.aq,.int .i64 x.mem,.int .i64 x.av,.slice oh x.af.length nT,.slice fA x.ae.length fB] 35)) [.string x.name,.slice gu x.labels.length gy,.int .i64 x.aq,.int .i64 x.mem,.int .i64 x.av,.slice oh x.af.length nT,.slice fA x.ae.length fB] [.string ⟨#[]⟩,.slice none 0 0,.int .i64 0,.int .i64 0,.int .i64 0,.slice none 0 0,.slice none 0 0] [.string x.name,.slice gu x.labels.length gy,.int .i64 x.aq,.int .i64 x.mem,.int .i64 x.av,.slice oh x.af.length nT,.slice fA x.ae.length fB]:=pu.new w _ _ _ 35 35 35;obtain ⟨v0,nk⟩:∃v0,(((w.alloc (.cells #[.string x.name,.slice gu x.labels.length gy,.int .i64 x.aq,.int .i64 x.mem,.int .i64 x.av,.slice oh x.af.length nT,.slice fA x.ae.length fB] 35)).alloc (.cells #[.string ⟨#[]⟩,.slice none 0 0,.int .i64 0,.int .i64 0,.int .i64 0,.slice none 0 0,.slice none 0 0] 35)).alloc (.cells #[.string x.name,.slice gu x.labels.length gy,.int .i64 x.aq,.int .i64 x.mem,.int .i64 x.av,.slice oh x.af.length nT,.slice fA x.ae.length fB] 35)) = v0:=⟨_,rfl⟩;rw [nk] at S0;have oF:=I nk;have i1:=S0.box.cell (i:=1) (u:=.slice gu x.labels.length gy) rfl;have j1:=S0.ob.lt;clear nk hw i';go_enter Tryz.func132,Tryz.ntmps132;go_wp2_with fail
 rw [oF.out];clear oF;refine (aJR x.labels _ _ _ v0 (dO.ext S0.below) fu pn).mono ?_;obtain ⟨L1,b1,e1⟩:∃L b,BG x.labels = (L,b):=⟨_,_,rfl⟩;rw [e1];have E1:=I e1;clear e1 i1;rintro e w1 ⟨A1,c1,G1,rfl,jX,aR⟩;have T1:=S0.ext aR;replace jX:=jX.mono (B':=w.heap.size+1+1+1) J;obtain ⟨z1,cI⟩:∃z,z = w1.heap.size:=⟨_,rfl⟩;have p':=I (show ∀b∈G1,b < z1 from λb hb=>by rw [cI];exact jX.lt b hb);have Fw:w.heap.size+1+1+1<=z1:=by have:=aR.size;omega
 clear aR;have i2:=T1.box.cell (i:=5) (u:=.slice oh x.af.length nT) rfl;have j2:=T1.ob.lt;go_wp2_with fail
 clear S0;refine (az1 x.af _ _ _ w1 (mX.ext T1.below) cA pm).mono ?_;obtain ⟨L2,b2,e2⟩:∃L b,jA x.af = (L,b):=⟨_,_,rfl⟩;rw [e2];have E2:=I e2;clear e2 i2;rintro e w2 ⟨A2,c2,G2,rfl,bj,am⟩;have T2:=T1.ext am;replace bj:=bj.mono (B':=z1) (by have:=cI;omega);replace jX:=jX.ext am;obtain ⟨z2,ca⟩:∃z,z = w2.heap.size:=⟨_,rfl⟩;have nz:=I (show ∀b∈G2,b < z2 from λb hb=>by rw [ca];exact bj.lt b hb);have Fy:z1<=z2:=by have:=am.size;omega
 clear am;have i3:=T2.box.cell (i:=6) (u:=.slice fA x.ae.length fB) rfl;have j3:=T2.ob.lt;go_wp2_with fail
 clear T1;refine (axf x.ae _ _ _ w2 (eG.ext T2.below) nU Wo).mono ?_;obtain ⟨L3,b3,e3⟩:∃L b,jK x.ae = (L,b):=⟨_,_,rfl⟩;rw [e3];have E3:=I e3;clear e3 i3;rintro e w3 ⟨A3,c3,G3,rfl,hO3,az⟩;have T3:=T2.ext az;replace hO3:=hO3.mono (B':=z2) (by have:=ca;omega);replace jX:=jX.ext az;replace bj:=bj.ext az;obtain ⟨z3,eB⟩:∃z,z = w3.heap.size:=⟨_,rfl⟩;have Wq:=I (show ∀b∈G3,b < z3 from λb hb=>by rw [eB];exact hO3.lt b hb);have Wr:z2<=z3:=by have:=az.size;omega
 clear az;have k1:=T3.ob.cell (i:=1) (u:=.slice gu x.labels.length gy) rfl;have f1:=T3.ob.fz 1;have S1:=T3.put 1 (.slice A1 L1.length c1);replace jX:=jX.setCell (p:=⟨w.heap.size+1+1,1,none⟩) bx (.slice A1 L1.length c1);replace bj:=bj.setCell (p:=⟨w.heap.size+1+1,1,none⟩) bx (.slice A1 L1.length c1);replace hO3:=hO3.setCell (p:=⟨w.heap.size+1+1,1,none⟩) bx (.slice A1 L1.length c1);have k2:=T3.ob.cell (i:=5) (u:=.slice oh x.af.length nT) rfl;have f2:=T3.ob.fz 5;have S2:=S1.put 5 (.slice A2 L2.length c2);replace jX:=jX.setCell (p:=⟨w.heap.size+1+1,5,none⟩) bx (.slice A2 L2.length c2);replace bj:=bj.setCell (p:=⟨w.heap.size+1+1,5,none⟩) bx (.slice A2 L2.length c2);replace hO3:=hO3.setCell (p:=⟨w.heap.size+1+1,5,none⟩) bx (.slice A2 L2.length c2);have k3:=T3.ob.cell (i:=6) (u:=.slice fA x.ae.length fB) rfl;have f3:=T3.ob.fz 6;have S3:=S2.put 6 (.slice A3 L3.length c3);replace jX:=jX.setCell (p:=⟨w.heap.size+1+1,6,none⟩) bx (.slice A3 L3.length c3);replace bj:=bj.setCell (p:=⟨w.heap.size+1+1,6,none⟩) bx (.slice A3 L3.length c3);replace hO3:=hO3.setCell (p:=⟨w.heap.size+1+1,6,none⟩) bx (.slice A3 L3.length c3);have l9:=T3.ob.lt;go_upto_region 8 with fail
 obtain ⟨v3,hv⟩:∃v,(((w3.setCell ⟨w.heap.size+1+1,1,none⟩ (.slice A1 L1.length c1)).setCell ⟨w.heap.size+1+1,5,none⟩ (.slice A2 L2.length c2)).setCell ⟨w.heap.size+1+1,6,none⟩ (.slice A3 L3.length c3)) = v:=⟨_,rfl⟩;have hs:v3.heap.size = z3:=by rw [<- hv,eB];simp [World.setCell]
 rw [hv] at S3 jX bj hO3;try rw [hv]
 clear hv T3 k1 f1 k2 f2 k3 f3 l9 eB;have eB:=hs;clear hs
 have di:=I (show ai v3 (w.heap.size+1+1+1) (⟨x.name,L1,x.aq,x.mem,x.av,L2,L3⟩:nI) [.string x.name,.slice A1 L1.length c1,.int .i64 x.aq,.int .i64 x.mem,.int .i64 x.av,.slice A2 L2.length c2,.slice A3 L3.length c3] (G1++(G2++G3)) from by
  refine ai.up (B':=w.heap.size+1+1+1) (λx:nI=>(x.name,x.labels,x.aq,x.mem,x.av,x.af,x.ae)) ?_ (Nat.le_refl _);refine ai.cons (c1:=[.string x.name]) (rdStr _ x.name (rV hname)) ?_;refine ai.pair (B2:=z1) (c1:=[.slice A1 L1.length c1]) (F1:=G1) jX ?_ J p'.out;refine ai.cons (c1:=[.int .i64 x.aq]) (jL _ x.aq vg) ?_;refine ai.cons (c1:=[.int .i64 x.mem]) (jL _ x.mem b8) ?_;refine ai.cons (c1:=[.int .i64 x.av]) (jL _ x.av BJ) ?_;refine ai.pair (B2:=z2) (c1:=[.slice A2 L2.length c2]) (F1:=G2) bj ?_ J nz.out
  exact hO3)
 have HN:=I (show mR x = ⟨x.name,L1,x.aq,x.mem,x.av,L2,L3⟩ by unfold mR;rw [E1.out,E2.out,E3.out]);have HR:=I (show jf x = if b1 = true/\b2 = true/\b3 = true/\GU (mR x) = true then (mR x,true) else (x,false) by unfold jf;rw [E1.out,E2.out,E3.out]);have HS:=I S3;have RG:=I (show ((mR x).wt:Int)<=1048576 by have:=aDX x;have:=Du.out;omega);clear jX bj hO3 S3;have q_:=HS.out.ob.lt;obtain ⟨p0,p1,p2,p3,p4,p5,p6⟩:=lB HS.out.box;cases b1 with
 | false =>have j7:=I (show jf x = (x,false) by rw [HR.out];exact if_neg (by rintro ⟨hh,_⟩;cases hh));exact C1
 | true =>
   cases b2 with
   | false =>have j7:=I (show jf x = (x,false) by rw [HR.out];exact if_neg (by rintro ⟨_,hh,_⟩;cases hh));exact C1
   | true =>
     cases b3 with
     | false =>have j7:=I (show jf x = (x,false) by rw [HR.out];exact if_neg (by rintro ⟨_,_,hh,_⟩;cases hh));exact C1
     | true =>
       have VJ:=HN;cases hr:GU (mR x) with
       | false =>
         have en:=I hr;obtain ⟨q0,q1,q2,q3,q4,q5,q6⟩:=lB HS.out.ob;go_wp2_with fail
         refine (yT (⟨x.name,L1,x.aq,x.mem,x.av,L2,L3⟩:nI) _ _ v3 di.out.rd AZ).mono ?_;rw [<- HN.out,en.out];rintro e w7 ⟨rfl,bw⟩;have eu:=I (HS.out.ext bw);have AM:=I (di.out.ext bw);clear p0 p1 p2 p3 p4 p5 p6 q0 q1 q2 q3 q4 q5 q6 q_ bw;have j7:=I (show jf x = (x,false) by rw [HR.out];exact if_neg (by rintro ⟨_,_,_,hh⟩;rw [en.out] at hh;cases hh));have rr:=eu.out.box.lt;obtain ⟨p0,p1,p2,p3,p4,p5,p6⟩:=lB eu.out.box;go_wp2_with fail
         refine (Tk x _ _ w7 (AF HX.out eu.out.below) fu cA nU hv).mono ?_;rintro e w8 ⟨C3,G8,rfl,sV,d8⟩;have T8:=eu.out.ext d8;have SY:=sV;obtain ⟨lA,aHA,aJp,aIC,aID,aBA,aHF,aHG,aJF,ayd,hF9,aye,aJq,aAR,aAS,aDs,aBB,aJG⟩:=dL sV.rd;subst ayd;clear hF9 sV;obtain ⟨r0,r1,r2,r3,r4,r5,r6⟩:=lB T8.rb;have rf:=T8.rb.fz;have rl:=T8.rb.lt;have lj:=I SY;have xe:=I T8;have C4:w.heap.size+1 < w7.heap.size:=eu.out.rb.lt;clear SY T8 d8;go_wp2_with fail
         try dsimp only
         iterate 60 (first | go_step | skip)
         refine bodyPost_ret (v:=.tuple #[.agg #[.string x.name,.slice lA x.labels.length aHA,.int .i64 x.aq,.int .i64 x.mem,.int .i64 x.av,.slice aIC x.af.length aID,.slice aHF x.ae.length aHG],.bool false]) (by simp [results,Tryz.results132,go_sem, *]) rfl ⟨[.string x.name,.slice lA x.labels.length aHA,.int .i64 x.aq,.int .i64 x.mem,.int .i64 x.av,.slice aIC x.af.length aID,.slice aHF x.ae.length aHG],G8,by rw [j7.out];try rfl,?_,?_⟩
         ·exact yr
         ·exact AG
       | true =>
         have en:=I hr;obtain ⟨q0,q1,q2,q3,q4,q5,q6⟩:=lB HS.out.ob;go_wp2_with fail
         refine (yT (⟨x.name,L1,x.aq,x.mem,x.av,L2,L3⟩:nI) _ _ v3 di.out.rd AZ).mono ?_;rw [<- HN.out,en.out];rintro e w7 ⟨rfl,bw⟩;have eu:=I (HS.out.ext bw);have AM:=I (di.out.ext bw);clear p0 p1 p2 p3 p4 p5 p6 q0 q1 q2 q3 q4 q5 q6 q_ bw;have t7:=I (show jf x = (mR x,true) by rw [HR.out];exact if_pos (by simp [en.out]));obtain ⟨q0,q1,q2,q3,q4,q5,q6⟩:=lB eu.out.ob;obtain ⟨r0,r1,r2,r3,r4,r5,r6⟩:=lB eu.out.rb;have rf:=eu.out.rb.fz;have rl:=eu.out.rb.lt;have ql:=eu.out.ob.lt;go_wp2_with fail
         try dsimp only
         iterate 60 (first | go_step | skip)
         refine bodyPost_ret (v:=.tuple #[.agg #[.string x.name,.slice A1 L1.length c1,.int .i64 x.aq,.int .i64 x.mem,.int .i64 x.av,.slice A2 L2.length c2,.slice A3 L3.length c3],.bool true]) (by simp [results,Tryz.results132,go_sem, *]) rfl ⟨[.string x.name,.slice A1 L1.length c1,.int .i64 x.aq,.int .i64 x.mem,.int .i64 x.av,.slice A2 L2.length c2,.slice A3 L3.length c3],G1++(G2++G3),by rw [t7.out];try rfl,?_,?_⟩
         ·exact yh
         ·exact yn
theorem GH (x y:ao) (w:World):Calls Tryz.prog 116 #[.agg #[.string x.key,.string x.value],.agg #[.string y.key,.string y.value]] w λe w'=>e = .returned (.int .i64 (eE x y))/\Below w.heap.size w w':=by
 go_enter Tryz.func116,Tryz.ntmps116;go_wp2_with fail
 refine (N8 x.key y.key _).mono ?_;rintro e w2 ⟨rfl,rfl⟩;go_wp2;go_ret
 exact ⟨rfl,ak (ak (aj _) _) _⟩
theorem GJ {w:World} {x:ao} {cs:List Value} {F:List Nat} (h:rd w x cs F):cs = cE x:=(vO h).1
theorem wy {w:World} {B g o:Nat} {D:List (El ao)} (R:mB w B g o D):jJ cE 2 w w g o (D.map El.x):=by
 refine ⟨λk x hk j u hj=>?_,R.plain g (List.mem_cons_self ..),.refl _ _⟩;rw [List.getElem?_map] at hk;cases he:D[k]? with
 | none=>rw [he] at hk;cases hk
 | some e =>rw [he] at hk;simp only [Option.map_some,Option.some.injEq] at hk;subst hk;exact R.tab k e he j u (by rw [GJ (R.rd e (List.mem_of_getElem? he))];exact hj)
theorem zZ {w w':World} {B g o c:Nat} {D:List (El ao)} {ys:List ao} (R:mB w B g o D) (h:jJ cE 2 w w' g o ys) (hm:∀y∈ys,y∈D.map El.x) (hc:ys.length<=c) (hx:c<=maxLen):ai w' B ys [.slice (some ⟨g,o,none⟩) ys.length c] [g]:=by
 have hF:∀l:List ao,(l.map λy=>(⟨y,cE y,[]⟩:El ao)).flatMap El.F = []:=λl=>by
  induction l with
  | nil=>rfl
  | cons a l ih=>rw [List.map_cons,List.flatMap_cons,ih];rfl
 have hX:∀l:List ao,(l.map λy=>(⟨y,cE y,[]⟩:El ao)).map El.x = l:=λl=>by rw [List.map_map];exact List.map_id l
 have R':mB w' B g o (ys.map λy=>(⟨y,cE y,[]⟩:El ao)):=by
  refine ⟨λe he=>?_,by rw [hF];simp,λb hb=>?_,λb hb=>?_,λk e hk j u hj=>?_⟩
  ·obtain ⟨y,hy,rfl⟩:=List.mem_map.1 he;obtain ⟨e',Yl,rfl⟩:=List.mem_map.1 (hm y hy);obtain ⟨h1,h2,h3,h4⟩:=vO (R.rd e' Yl);exact Ul w' e'.x h3 h4
  ·rw [hF] at hb;rw [List.mem_singleton.1 hb];exact R.base g (List.mem_cons_self ..)
  ·rw [hF] at hb;rw [List.mem_singleton.1 hb];exact h.plain
  ·rw [List.getElem?_map] at hk;cases hy:ys[k]? with
   | none=>rw [hy] at hk;cases hk
   | some y =>rw [hy] at hk;simp only [Option.map_some,Option.some.injEq] at hk;subst hk;exact h.tab k y hy j u hj
 have:=R'.own (c:=c) (by rw [List.length_map];exact hc) hx;rw [hX,hF] at this;exact this
theorem z6 (xs:List ao) (A:Option Addr) (c:Nat) (F:List Nat) (w:World) (B:Nat) (h:ai w B xs [.slice A xs.length c] F) (hB:B<=w.heap.size) (hl:(xs.length:Int)<=1048576) :
 Calls Tryz.prog 115 #[.slice A xs.length c,.func (.func 116) #[] #[]] w λe w'=>e = .returned (.tuple #[])/\∃F',ai w' B (bd (kS eE) [] xs) [.slice A xs.length c] F'/\Below B w w':=by
 by_cases bI:xs = []
 ·subst bI;refine (kX w A c _).mono ?_;rintro e w' ⟨rfl,rfl⟩;exact ⟨rfl,F,h,.refl _ _⟩
 ·have eS:=Sl.cap (α:=ao) h.rd;obtain ⟨g,o,D,rfl,rfl,rfl,R⟩:=h.wv bI;refine (kW w w g o c _ (D.map El.x) eE (wy R) rfl J rK (λx y w2 _=>GH x y w2)).mono ?_;rintro e w' ⟨rfl,hS⟩;have:=zZ (c:=c) R hS (λy hy=>RS hy) (by rw [za];exact eS.1) eS.2;rw [za] at this;exact ⟨rfl,[g],this,hS.ce.below (λb hb=>by rw [List.mem_singleton.1 hb];exact R.base g (List.mem_cons_self ..)) hB⟩
theorem fX (xs:List ao) (A:Option Addr) (c:Nat) (F:List Nat) (w:World) (h:Sl w xs A c F) (hl:(xs.length:Int)<=1048576) (cN:∀l∈xs,(l.key.size:Int)<=1048576/\(l.value.size:Int)<=1048576) :
 Calls Tryz.prog 73 #[.slice A xs.length c] w λe w'=>∃A' c' G,e = .returned (.tuple #[.slice A' (BG xs).1.length c',.bool (BG xs).2])/\ai w' w.heap.size (BG xs).1 [.slice A' (BG xs).1.length c'] G/\Below w.heap.size w w':=by
 have Eo:=I cN;clear cN;go_enter Tryz.func73,Tryz.ntmps73;go_wp2_with fail
 refine (Xo xs A c F w h hl).mono ?_;rintro e w1 ⟨A1,c1,F1,rfl,jX,aR⟩;go_wp2_with fail
 refine (z6 xs A1 c1 F1 w1 w.heap.size jX aR.size hl).mono ?_;rintro e w2 ⟨rfl,F2,bj,am⟩;have fp:=I (show Below w.heap.size w w2 from aR.trans am);have RZ:=I bj;have en:=I (Jv (bd (kS eE) [] xs) A1 xs.length c1 F2 w2 (by unfold Sl;rw [za];exact bj.rd) (za xs).symm (by rw [za];exact hl) (λl hl=>Eo.out l (RS hl)));clear aR am jX bj;cases hr:sD (bd (kS eE) [] xs) with
 | true =>
   have HR:=I (UH hr);have ik:=I hr;clear hr;go_wp2_with fail
   refine en.out.mono ?_;rw [ik.out];rintro e w4 ⟨rfl,bm⟩;have gY:=I bm;clear bm;go_wp2;go_ret2
   exact ⟨A1,c1,F2,by rw [HR.out,za];try rfl,by rw [HR.out,za];exact RZ.out.ext gY.out,fp.out.trans (gY.out.mono fp.out.size)⟩
 | false =>
   have HR:=I (UI hr);have ik:=I hr;clear hr;go_wp2_with fail
   refine en.out.mono ?_;rw [ik.out];rintro e w4 ⟨rfl,bm⟩;have gY:=I (show Below w.heap.size w w4 from fp.out.trans (bm.mono fp.out.size));clear bm;go_wp2_with fail
   refine (Xo xs A c F w4 (h.ext gY.out) hl).mono ?_;exact yj
theorem Rf (x:ba) (cs:List Value) (F:List Nat) (w:World) (h:rd w x cs F) (hw:(x.wt:Int)<=1048576) :
 Calls Tryz.prog 133 #[.agg cs.toArray] w λe w'=>∃ds G,e = .returned (.tuple #[.agg ds.toArray,.bool (bf x).2])/\ai w' w.heap.size (bf x).1 ds G/\Below w.heap.size w w':=by
 have h0:=h;obtain ⟨gu,gy,jw,kJ,kK,qU,ar,qp,hname,dO,vg,b8,uI,jq⟩:=iy h;subst ar;clear qp h;have HX:=I h0;have Du:=I hw;clear h0;have i':x.wt = x.name.size+kL ao.wt x.labels+kL iU.wt x.aT:=rfl;have fu:(x.labels.length:Int)<=1048576:=by have:=gJ ao.wt x.labels;omega
 have cA:(x.aT.length:Int)<=1048576:=by have:=gJ iU.wt x.aT;omega
 have pn:∀l∈x.labels,(l.key.size:Int)<=1048576/\(l.value.size:Int)<=1048576:=λl hl=>by have h9:=Bq (f:=ao.wt) hl;have h8:ao.wt l = l.key.size+l.value.size:=rfl;omega
 have pm:∀l∈x.aT,(l.key.size:Int)<=1048576/\(l.value.size:Int)<=1048576:=λl hl=>by have h9:=Bq (f:=iU.wt) hl;have h8:iU.wt l = l.key.size+l.value.size:=rfl;omega
 have S0:pu w (((w.alloc (.cells #[.string x.name,.slice gu x.labels.length gy,.int .i64 x.aq,.int .i64 x.mem,.int .i64 x.slots,.slice kJ x.aT.length kK] 38)).alloc (.cells #[.string ⟨#[]⟩,.slice none 0 0,.int .i64 0,.int .i64 0,.int .i64 0,.slice none 0 0] 38)).alloc (.cells #[.string x.name,.slice gu x.labels.length gy,.int .i64 x.aq,.int .i64 x.mem,.int .i64 x.slots,.slice kJ x.aT.length kK] 38)) [.string x.name,.slice gu x.labels.length gy,.int .i64 x.aq,.int .i64 x.mem,.int .i64 x.slots,.slice kJ x.aT.length kK] [.string ⟨#[]⟩,.slice none 0 0,.int .i64 0,.int .i64 0,.int .i64 0,.slice none 0 0] [.string x.name,.slice gu x.labels.length gy,.int .i64 x.aq,.int .i64 x.mem,.int .i64 x.slots,.slice kJ x.aT.length kK]:=pu.new w _ _ _ 38 38 38;obtain ⟨v0,nk⟩:∃v0,(((w.alloc (.cells #[.string x.name,.slice gu x.labels.length gy,.int .i64 x.aq,.int .i64 x.mem,.int .i64 x.slots,.slice kJ x.aT.length kK] 38)).alloc (.cells #[.string ⟨#[]⟩,.slice none 0 0,.int .i64 0,.int .i64 0,.int .i64 0,.slice none 0 0] 38)).alloc (.cells #[.string x.name,.slice gu x.labels.length gy,.int .i64 x.aq,.int .i64 x.mem,.int .i64 x.slots,.slice kJ x.aT.length kK] 38)) = v0:=⟨_,rfl⟩;rw [nk] at S0;have oF:=I nk;have i1:=S0.box.cell (i:=1) (u:=.slice gu x.labels.length gy) rfl;have j1:=S0.ob.lt;clear nk hw i';go_enter Tryz.func133,Tryz.ntmps133;go_wp2_with fail
 rw [oF.out];clear oF;refine (aJR x.labels _ _ _ v0 (dO.ext S0.below) fu pn).mono ?_;obtain ⟨L1,b1,e1⟩:∃L b,BG x.labels = (L,b):=⟨_,_,rfl⟩;rw [e1];have E1:=I e1;clear e1 i1;rintro e w1 ⟨A1,c1,G1,rfl,jX,aR⟩;have T1:=S0.ext aR;replace jX:=jX.mono (B':=w.heap.size+1+1+1) J;obtain ⟨z1,cI⟩:∃z,z = w1.heap.size:=⟨_,rfl⟩;have p':=I (show ∀b∈G1,b < z1 from λb hb=>by rw [cI];exact jX.lt b hb);have Fw:w.heap.size+1+1+1<=z1:=by have:=aR.size;omega
 clear aR;have i2:=T1.box.cell (i:=5) (u:=.slice kJ x.aT.length kK) rfl;have j2:=T1.ob.lt;go_wp2_with fail
 clear S0;refine (ayM x.aT _ _ _ w1 (jq.ext T1.below) cA pm).mono ?_;obtain ⟨L2,b2,e2⟩:∃L b,Fq x.aT = (L,b):=⟨_,_,rfl⟩;rw [e2];have E2:=I e2;clear e2 i2;rintro e w2 ⟨A2,c2,G2,rfl,bj,am⟩;have T2:=T1.ext am;replace bj:=bj.mono (B':=z1) (by have:=cI;omega);replace jX:=jX.ext am;obtain ⟨z2,ca⟩:∃z,z = w2.heap.size:=⟨_,rfl⟩;have nz:=I (show ∀b∈G2,b < z2 from λb hb=>by rw [ca];exact bj.lt b hb);have Fy:z1<=z2:=by have:=am.size;omega
 clear am;have k1:=T2.ob.cell (i:=1) (u:=.slice gu x.labels.length gy) rfl;have f1:=T2.ob.fz 1;have S1:=T2.put 1 (.slice A1 L1.length c1);replace jX:=jX.setCell (p:=⟨w.heap.size+1+1,1,none⟩) bx (.slice A1 L1.length c1);replace bj:=bj.setCell (p:=⟨w.heap.size+1+1,1,none⟩) bx (.slice A1 L1.length c1);have k2:=T2.ob.cell (i:=5) (u:=.slice kJ x.aT.length kK) rfl;have f2:=T2.ob.fz 5;have S2:=S1.put 5 (.slice A2 L2.length c2);replace jX:=jX.setCell (p:=⟨w.heap.size+1+1,5,none⟩) bx (.slice A2 L2.length c2);replace bj:=bj.setCell (p:=⟨w.heap.size+1+1,5,none⟩) bx (.slice A2 L2.length c2);have l9:=T2.ob.lt;go_upto_region 6 with fail
 obtain ⟨v2,hv⟩:∃v,((w2.setCell ⟨w.heap.size+1+1,1,none⟩ (.slice A1 L1.length c1)).setCell ⟨w.heap.size+1+1,5,none⟩ (.slice A2 L2.length c2)) = v:=⟨_,rfl⟩;have hs:v2.heap.size = z2:=by rw [<- hv,ca];simp [World.setCell]
 rw [hv] at S2 jX bj;try rw [hv]
 clear hv T2 k1 f1 k2 f2 l9 ca;have ca:=hs;clear hs
 have di:=I (show ai v2 (w.heap.size+1+1+1) (⟨x.name,L1,x.aq,x.mem,x.slots,L2⟩:ba) [.string x.name,.slice A1 L1.length c1,.int .i64 x.aq,.int .i64 x.mem,.int .i64 x.slots,.slice A2 L2.length c2] (G1++G2) from by
  refine ai.up (B':=w.heap.size+1+1+1) (λx:ba=>(x.name,x.labels,x.aq,x.mem,x.slots,x.aT)) ?_ (Nat.le_refl _);refine ai.cons (c1:=[.string x.name]) (rdStr _ x.name (rV hname)) ?_;refine ai.pair (B2:=z1) (c1:=[.slice A1 L1.length c1]) (F1:=G1) jX ?_ J p'.out;refine ai.cons (c1:=[.int .i64 x.aq]) (jL _ x.aq vg) ?_;refine ai.cons (c1:=[.int .i64 x.mem]) (jL _ x.mem b8) ?_;refine ai.cons (c1:=[.int .i64 x.slots]) (jL _ x.slots uI) ?_
  exact bj)
 have HN:=I (show mO x = ⟨x.name,L1,x.aq,x.mem,x.slots,L2⟩ by unfold mO;rw [E1.out,E2.out]);have HR:=I (show bf x = if b1 = true/\b2 = true/\Aj (mO x) = true then (mO x,true) else (x,false) by unfold bf;rw [E1.out,E2.out]);have HS:=I S2;have RG:=I (show ((mO x).wt:Int)<=1048576 by have:=aCl x;have:=Du.out;omega);clear jX bj S2;have q_:=HS.out.ob.lt;obtain ⟨p0,p1,p2,p3,p4,p5⟩:=cK HS.out.box;cases b1 with
 | false =>have j7:=I (show bf x = (x,false) by rw [HR.out];exact if_neg (by rintro ⟨hh,_⟩;cases hh));exact K5
 | true =>
   cases b2 with
   | false =>have j7:=I (show bf x = (x,false) by rw [HR.out];exact if_neg (by rintro ⟨_,hh,_⟩;cases hh));exact K5
   | true =>
     have VJ:=HN;cases hr:Aj (mO x) with
     | false =>
       have en:=I hr;obtain ⟨q0,q1,q2,q3,q4,q5⟩:=cK HS.out.ob;go_wp2_with fail
       refine (tZ (⟨x.name,L1,x.aq,x.mem,x.slots,L2⟩:ba) _ _ v2 di.out.rd AZ).mono ?_;rw [<- HN.out,en.out];rintro e w7 ⟨rfl,bw⟩;have eu:=I (HS.out.ext bw);have AM:=I (di.out.ext bw);clear p0 p1 p2 p3 p4 p5 q0 q1 q2 q3 q4 q5 q_ bw;have j7:=I (show bf x = (x,false) by rw [HR.out];exact if_neg (by rintro ⟨_,_,hh⟩;rw [en.out] at hh;cases hh));have rr:=eu.out.box.lt;obtain ⟨p0,p1,p2,p3,p4,p5⟩:=cK eu.out.box;go_wp2_with fail
       refine (Tq x _ _ w7 (AF HX.out eu.out.below) fu cA).mono ?_;rintro e w8 ⟨C3,G8,rfl,sV,d8⟩;have T8:=eu.out.ext d8;have SY:=sV;obtain ⟨lA,aHA,aJp,aIQ,aIR,aCm,ayd,hF9,aye,aJq,aAR,aAS,aDQ,aCn⟩:=iy sV.rd;subst ayd;clear hF9 sV;obtain ⟨r0,r1,r2,r3,r4,r5⟩:=cK T8.rb;have rf:=T8.rb.fz;have rl:=T8.rb.lt;have lj:=I SY;have xe:=I T8;have C4:w.heap.size+1 < w7.heap.size:=eu.out.rb.lt;clear SY T8 d8;go_wp2_with fail
       try dsimp only
       iterate 60 (first | go_step | skip)
       refine bodyPost_ret (v:=.tuple #[.agg #[.string x.name,.slice lA x.labels.length aHA,.int .i64 x.aq,.int .i64 x.mem,.int .i64 x.slots,.slice aIQ x.aT.length aIR],.bool false]) (by simp [results,Tryz.results133,go_sem, *]) rfl ⟨[.string x.name,.slice lA x.labels.length aHA,.int .i64 x.aq,.int .i64 x.mem,.int .i64 x.slots,.slice aIQ x.aT.length aIR],G8,by rw [j7.out];try rfl,?_,?_⟩
       ·exact yr
       ·exact AG
     | true =>
       have en:=I hr;obtain ⟨q0,q1,q2,q3,q4,q5⟩:=cK HS.out.ob;go_wp2_with fail
       refine (tZ (⟨x.name,L1,x.aq,x.mem,x.slots,L2⟩:ba) _ _ v2 di.out.rd AZ).mono ?_;rw [<- HN.out,en.out];rintro e w7 ⟨rfl,bw⟩;have eu:=I (HS.out.ext bw);have AM:=I (di.out.ext bw);clear p0 p1 p2 p3 p4 p5 q0 q1 q2 q3 q4 q5 q_ bw;have t7:=I (show bf x = (mO x,true) by rw [HR.out];exact if_pos (by simp [en.out]));obtain ⟨q0,q1,q2,q3,q4,q5⟩:=cK eu.out.ob;obtain ⟨r0,r1,r2,r3,r4,r5⟩:=cK eu.out.rb;have rf:=eu.out.rb.fz;have rl:=eu.out.rb.lt;have ql:=eu.out.ob.lt;go_wp2_with fail
       try dsimp only
       iterate 60 (first | go_step | skip)
       refine bodyPost_ret (v:=.tuple #[.agg #[.string x.name,.slice A1 L1.length c1,.int .i64 x.aq,.int .i64 x.mem,.int .i64 x.slots,.slice A2 L2.length c2],.bool true]) (by simp [results,Tryz.results133,go_sem, *]) rfl ⟨[.string x.name,.slice A1 L1.length c1,.int .i64 x.aq,.int .i64 x.mem,.int .i64 x.slots,.slice A2 L2.length c2],G1++G2,by rw [t7.out];try rfl,?_,?_⟩
       ·exact yh
       ·exact yn
end Go.Proofs.YtdegaofigemegaaGreat
