/- HostNormal of the reference. No condition. -/
import Derived.Test.YtajbbmembionpaaGreatBest
import Derived.Test.YtajbbmembionpaaGreatSortTaintsS
import Derived.Deep.CutRange
namespace Go.Proofs.YtajbbmembionpaaGreat
open Go.ChangeShapes Go.WideShapes Go.ChangeAt Go.RowKit
set_option linter.unusedVariables false
set_option linter.unusedSimpArgs false
set_option maxHeartbeats 8000000
set_option maxRecDepth 100000
theorem Kl (x:aR) (cs:List Value) (F:List Nat) (w:World) (h:rd w x cs F) (hw:(x.wt:Int)≤1048576) :
 Calls Tryz.prog 159 #[.agg cs.toArray] w fun e w'=>∃ds G,e = .returned (.tuple #[.agg ds.toArray,.bool (bf x).2])∧am w' w.heap.size (bf x).1 ds G∧Below w.heap.size w w':=by
 have h0:=h;obtain ⟨gu,gy,jw,kJ,kK,qU,aD,qp,hname,dO,vg,cG,uI,jq⟩:=iy h;subst aD;clear qp h;have HX:=I h0;have Du:=I hw;clear h0;have gv:x.wt = x.name.size+kL ao.wt x.labels+kL iU.wt x.aT:=rfl;have mE:(x.labels.length:Int)≤1048576:=by have:=gJ ao.wt x.labels;omega
 have dv:(x.aT.length:Int)≤1048576:=by have:=gJ iU.wt x.aT;omega
 have oT:∀l∈x.labels,(l.key.size:Int)≤1048576∧(l.value.size:Int)≤1048576:=fun l hl=>by have h9:=Bq (f:=ao.wt) hl;have h8:ao.wt l = l.key.size+l.value.size:=rfl;omega
 have nE:∀l∈x.aT,(l.key.size:Int)≤1048576∧(l.value.size:Int)≤1048576:=fun l hl=>by have h9:=Bq (f:=iU.wt) hl;have h8:iU.wt l = l.key.size+l.value.size:=rfl;omega
 have S0:pt w (((w.alloc (.cells #[.string x.name,.slice gu x.labels.length gy,.int .i64 x.az,.int .i64 x.mem,.int .i64 x.ax,.slice kJ x.aT.length kK] 47)).alloc (.cells #[.string ⟨#[]⟩,.slice none 0 0,.int .i64 0,.int .i64 0,.int .i64 0,.slice none 0 0] 47)).alloc (.cells #[.string x.name,.slice gu x.labels.length gy,.int .i64 x.az,.int .i64 x.mem,.int .i64 x.ax,.slice kJ x.aT.length kK] 47)) [.string x.name,.slice gu x.labels.length gy,.int .i64 x.az,.int .i64 x.mem,.int .i64 x.ax,.slice kJ x.aT.length kK] [.string ⟨#[]⟩,.slice none 0 0,.int .i64 0,.int .i64 0,.int .i64 0,.slice none 0 0] [.string x.name,.slice gu x.labels.length gy,.int .i64 x.az,.int .i64 x.mem,.int .i64 x.ax,.slice kJ x.aT.length kK]:=pt.new w _ _ _ 47 47 47;obtain ⟨v0,pP⟩:∃v0,(((w.alloc (.cells #[.string x.name,.slice gu x.labels.length gy,.int .i64 x.az,.int .i64 x.mem,.int .i64 x.ax,.slice kJ x.aT.length kK] 47)).alloc (.cells #[.string ⟨#[]⟩,.slice none 0 0,.int .i64 0,.int .i64 0,.int .i64 0,.slice none 0 0] 47)).alloc (.cells #[.string x.name,.slice gu x.labels.length gy,.int .i64 x.az,.int .i64 x.mem,.int .i64 x.ax,.slice kJ x.aT.length kK] 47)) = v0:=⟨_,rfl⟩;rw [pP] at S0;have oC:=I pP;have i1:=S0.cS.cell (i:=1) (u:=.slice gu x.labels.length gy) rfl;have j1:=S0.ob.lt;clear pP hw gv;go_enter Tryz.func159,Tryz.ntmps159;go_wp2_with fail
 rw [oC.out];clear oC;refine (Ta x.labels _ _ _ v0 (dO.ext S0.aE) mE oT).mono ?_;obtain ⟨L1,b1,e1⟩:∃L b,BG x.labels = (L,b):=⟨_,_,rfl⟩;rw [e1];have E1:=I e1;clear e1 i1;rintro e w1 ⟨A1,c1,G1,rfl,jX,bp⟩;have T1:=S0.ext bp;replace jX:=jX.mono (B':=w.heap.size+1+1+1) J;obtain ⟨z1,cq⟩:∃z,z = w1.heap.size:=⟨_,rfl⟩;have yv:=I (show ∀b∈G1,b < z1 from fun b U=>by rw [cq];exact jX.lt b U);have NJ:w.heap.size+1+1+1≤z1:=by have:=bp.size;omega
 clear bp;have i2:=T1.cS.cell (i:=5) (u:=.slice kJ x.aT.length kK) rfl;have j2:=T1.ob.lt;go_wp2_with fail
 clear S0;refine (ayM x.aT _ _ _ w1 (jq.ext T1.aE) dv nE).mono ?_;obtain ⟨L2,b2,e2⟩:∃L b,Fq x.aT = (L,b):=⟨_,_,rfl⟩;rw [e2];have E2:=I e2;clear e2 i2;rintro e w2 ⟨A2,c2,G2,rfl,bM,aq⟩;have T2:=T1.ext aq;replace bM:=bM.mono (B':=z1) (by have:=cq;omega);replace jX:=jX.ext aq;obtain ⟨z2,cC⟩:∃z,z = w2.heap.size:=⟨_,rfl⟩;have tk:=I (show ∀b∈G2,b < z2 from fun b U=>by rw [cC];exact bM.lt b U);have NL:z1≤z2:=by have:=aq.size;omega
 clear aq;have k1:=T2.ob.cell (i:=1) (u:=.slice gu x.labels.length gy) rfl;have f1:=T2.ob.fz 1;have S1:=T2.put 1 (.slice A1 L1.length c1);replace jX:=jX.setCell (p:=⟨w.heap.size+1+1,1,none⟩) bC (.slice A1 L1.length c1);replace bM:=bM.setCell (p:=⟨w.heap.size+1+1,1,none⟩) bC (.slice A1 L1.length c1);have k2:=T2.ob.cell (i:=5) (u:=.slice kJ x.aT.length kK) rfl;have f2:=T2.ob.fz 5;have S2:=S1.put 5 (.slice A2 L2.length c2);replace jX:=jX.setCell (p:=⟨w.heap.size+1+1,5,none⟩) bC (.slice A2 L2.length c2);replace bM:=bM.setCell (p:=⟨w.heap.size+1+1,5,none⟩) bC (.slice A2 L2.length c2);have l9:=T2.ob.lt;go_upto_region 6 with fail
 obtain ⟨v2,hv⟩:∃v,((w2.setCell ⟨w.heap.size+1+1,1,none⟩ (.slice A1 L1.length c1)).setCell ⟨w.heap.size+1+1,5,none⟩ (.slice A2 L2.length c2)) = v:=⟨_,rfl⟩;have hs:v2.heap.size = z2:=by rw [← hv,cC];simp [World.setCell]
 rw [hv] at S2 jX bM;try rw [hv]
 clear hv T2 k1 f1 k2 f2 l9 cC;have cC:=hs;clear hs
 have f9:=I (show am v2 (w.heap.size+1+1+1) (⟨x.name,L1,x.az,x.mem,x.ax,L2⟩:aR) [.string x.name,.slice A1 L1.length c1,.int .i64 x.az,.int .i64 x.mem,.int .i64 x.ax,.slice A2 L2.length c2] (G1++G2) from by
  refine am.up (B':=w.heap.size+1+1+1) (fun x:aR=>(x.name,x.labels,x.az,x.mem,x.ax,x.aT)) ?_ (Nat.le_refl _);refine am.cons (c1:=[.string x.name]) (ed _ x.name (rV hname)) ?_;refine am.eD (B2:=z1) (c1:=[.slice A1 L1.length c1]) (F1:=G1) jX ?_ J yv.out;refine am.cons (c1:=[.int .i64 x.az]) (jL _ x.az vg) ?_;refine am.cons (c1:=[.int .i64 x.mem]) (jL _ x.mem cG) ?_;refine am.cons (c1:=[.int .i64 x.ax]) (jL _ x.ax uI) ?_
  exact bM)
 have HN:=I (show qd x = ⟨x.name,L1,x.az,x.mem,x.ax,L2⟩ by unfold qd;rw [E1.out,E2.out]);have HR:=I (show bf x = if b1 = true∧b2 = true∧Aj (qd x) = true then (qd x,true) else (x,false) by unfold bf;rw [E1.out,E2.out]);have HS:=I S2;have Fh:=I (show ((qd x).wt:Int)≤1048576 by have:=ZP x;have:=Du.out;omega);clear jX bM S2;have q_:=HS.out.ob.lt;obtain ⟨p0,p1,p2,p3,p4,p5⟩:=dy HS.out.cS;cases b1 with
 | false =>have nx:=I (show bf x = (x,false) by rw [HR.out];exact if_neg (by rintro ⟨hh,_⟩;cases hh));exact C'
 | true =>
   cases b2 with
   | false =>have nx:=I (show bf x = (x,false) by rw [HR.out];exact if_neg (by rintro ⟨_,hh,_⟩;cases hh));exact C'
   | true =>
     have HYN:=HN;cases hr:Aj (qd x) with
     | false =>
       have il:=I hr;obtain ⟨q0,q1,q2,q3,q4,q5⟩:=dy HS.out.ob;go_wp2_with fail
       refine (tZ (⟨x.name,L1,x.az,x.mem,x.ax,L2⟩:aR) _ _ v2 f9.out.rd K0).mono ?_;rw [← HN.out,il.out];rintro e w7 ⟨rfl,bF⟩;have iu:=I (HS.out.ext bF);have Ku:=I (f9.out.ext bF);clear p0 p1 p2 p3 p4 p5 q0 q1 q2 q3 q4 q5 q_ bF;have nx:=I (show bf x = (x,false) by rw [HR.out];exact if_neg (by rintro ⟨_,_,hh⟩;rw [il.out] at hh;cases hh));have rr:=iu.out.cS.lt;obtain ⟨p0,p1,p2,p3,p4,p5⟩:=dy iu.out.cS;go_wp2_with fail
       refine (Mo x _ _ w7 (Kj HX.out iu.out.aE) mE dv).mono ?_;rintro e w8 ⟨Mk,G8,rfl,sV,gH⟩;have T8:=iu.out.ext gH;have SY:=sV;obtain ⟨pB,aHA,aJp,aIQ,aIR,aCm,ayd,hF9,aye,aJq,aAR,aAS,aDQ,aCn⟩:=iy sV.rd;subst ayd;clear hF9 sV;obtain ⟨r0,r1,r2,r3,r4,r5⟩:=dy T8.rb;have rf:=T8.rb.fz;have rl:=T8.rb.lt;have mm:=I SY;have AN:=I T8;have Ml:w.heap.size+1 < w7.heap.size:=iu.out.rb.lt;clear SY T8 gH;go_wp2_with fail
       try dsimp only
       iterate 60 (first | go_step | skip)
       refine bodyPost_ret (v:=.tuple #[.agg #[.string x.name,.slice pB x.labels.length aHA,.int .i64 x.az,.int .i64 x.mem,.int .i64 x.ax,.slice aIQ x.aT.length aIR],.bool false]) (by simp [results,Tryz.results159,go_sem, *]) rfl ⟨[.string x.name,.slice pB x.labels.length aHA,.int .i64 x.az,.int .i64 x.mem,.int .i64 x.ax,.slice aIQ x.aT.length aIR],G8,by rw [nx.out];try rfl,?_,?_⟩
       ·rw [nx.out];refine am.mono (B:=w7.heap.size) ?_ J;exact AP
       ·exact Kk
     | true =>
       have il:=I hr;obtain ⟨q0,q1,q2,q3,q4,q5⟩:=dy HS.out.ob;go_wp2_with fail
       refine (tZ (⟨x.name,L1,x.az,x.mem,x.ax,L2⟩:aR) _ _ v2 f9.out.rd K0).mono ?_;rw [← HN.out,il.out];rintro e w7 ⟨rfl,bF⟩;have iu:=I (HS.out.ext bF);have Ku:=I (f9.out.ext bF);clear p0 p1 p2 p3 p4 p5 q0 q1 q2 q3 q4 q5 q_ bF;have xu:=I (show bf x = (qd x,true) by rw [HR.out];exact if_pos (by simp [il.out]));obtain ⟨q0,q1,q2,q3,q4,q5⟩:=dy iu.out.ob;obtain ⟨r0,r1,r2,r3,r4,r5⟩:=dy iu.out.rb;have rf:=iu.out.rb.fz;have rl:=iu.out.rb.lt;have ql:=iu.out.ob.lt;go_wp2_with fail
       try dsimp only
       iterate 60 (first | go_step | skip)
       refine bodyPost_ret (v:=.tuple #[.agg #[.string x.name,.slice A1 L1.length c1,.int .i64 x.az,.int .i64 x.mem,.int .i64 x.ax,.slice A2 L2.length c2],.bool true]) (by simp [results,Tryz.results159,go_sem, *]) rfl ⟨[.string x.name,.slice A1 L1.length c1,.int .i64 x.az,.int .i64 x.mem,.int .i64 x.ax,.slice A2 L2.length c2],G1++G2,by rw [xu.out];try rfl,?_,?_⟩
       ·exact D3
       ·exact (by repeat (first | with_reducible exact iu.out.aE | with_reducible refine aC ?_ bC _))
theorem vd {α:Type} {f:α→Nat} {xs:List α} {n b:Nat} (hl:xs.length≤n) (h:∀x∈xs,f x≤b):kL f xs≤n * (b+1):=by
 have key:∀ys:List α,(∀x∈ys,f x≤b)→kL f ys≤ys.length * (b+1):=by
  intro ys;induction ys with
  | nil=>intro _;simp [kL]
  | cons a l ih =>intro hh;have Z:=ih (fun x hx=>hh x (List.mem_cons_of_mem _ hx));have h2:=hh a (List.mem_cons_self ..);unfold kL at *;simp only [List.length_cons,List.map_cons,List.sum_cons,Nat.add_mul,Nat.one_mul] at *;omega
 exact Nat.le_trans (key xs h) (Nat.mul_le_mul_right _ hl)
theorem Hc {α:Type} {ok:α→Bool} {less:α→α→Bool} {most:Int} {xs:List α} (h:l0 ok less most xs = true):(xs.length:Int)≤most∧∀x∈xs,ok x = true:=by
 unfold l0 at h;rw [Bool.and_eq_true,decide_eq_true_eq] at h;refine ⟨h.1,fun x hx=>?_⟩;obtain ⟨j,hj,rfl⟩:=List.getElem_of_mem hx;have:=List.all_eq_true.1 h.2 j (List.mem_range.2 hj);exact EB
theorem Lw {s:ByteArray} (h:Cm s = true):s.size≤30:=by
 unfold Cm at h;rw [Bool.and_eq_true,decide_eq_true_eq] at h;omega
theorem Lx {s:ByteArray} (h:AQ s = true):s.size≤20:=by
 unfold AQ at h;simp only [Bool.or_eq_true,Bool.and_eq_true,decide_eq_true_eq] at h;omega
theorem Ow {s:ByteArray} (h:Qs s = true):s.size≤20:=by
 unfold Qs at h;exact sT
theorem Ox {xs:List ao} (h:sD xs = true):kL ao.wt xs≤306:=by
 obtain ⟨Z,h2⟩:=Hc h;refine vd (n:=6) (b:=50) J fun l hl=>?_;have h3:=h2 l hl;unfold zX at h3;rw [Bool.and_eq_true] at h3;have:=Lw h3.1;have:=Lx h3.2;have e:ao.wt l = l.key.size+l.value.size:=rfl;omega
theorem TZ {xs:List iU} (h:La xs = true):kL iU.wt xs≤204:=by
 obtain ⟨Z,h2⟩:=Hc h;refine vd (n:=4) (b:=50) J fun l hl=>?_;have h3:=h2 l hl;unfold Dp at h3;rw [Bool.and_eq_true,Bool.and_eq_true] at h3;have:=Lw h3.1.1;have:=Lx h3.1.2;have e:iU.wt l = l.key.size+l.value.size:=rfl;omega
theorem T0 {xs:List bH} (h:Ya xs = true):kL bH.wt xs≤204:=by
 obtain ⟨Z,h2⟩:=Hc h;refine vd (n:=4) (b:=50) J fun l hl=>?_;have h3:=h2 l hl;unfold Q5 at h3;simp only [Bool.and_eq_true] at h3;have h4:l.key.size≤30:=by
  have h5:=h3.1.1.1;rw [Bool.or_eq_true,Bool.and_eq_true] at h5;rcases h5 with h5 | h5
  ·exact Lw h5
  ·rw [toList_nil.1 h5.1];decide
 have:=Lx h3.1.1.2;have e:bH.wt l = l.key.size+l.value.size:=rfl;omega
theorem T4 {xs:List aL} (h:nU xs = true):kL aL.wt xs≤460:=by
 obtain ⟨Z,h2⟩:=Hc h;refine vd (n:=4) (b:=114) J fun l hl=>?_;have h3:=h2 l hl;unfold uh at h3;rw [Bool.and_eq_true,Bool.and_eq_true] at h3;have h4:=Lw h3.1.1;have e:aL.wt l = l.key.size+Bi l.values:=rfl;have h5:Bi l.values≤84:=by
  have h6:=h3.2;split at h6
  ·rw [decide_eq_true_eq] at h6;rw [List.eq_nil_of_length_eq_zero h6];decide
  ·rw [Bool.and_eq_true] at h6;obtain ⟨h7,h8⟩:=Hc h6.2;exact vd (n:=4) (b:=20) J fun v hv=>Lx (h8 v hv)
 omega
theorem aFM {h:aR} (hr:Aj h = true):h.wt≤530:=by
 unfold Aj at hr;simp only [Bool.and_eq_true] at hr;have Z:=Ow hr.1.1.1.1;have h2:=Ox hr.1.1.1.2;have h3:=TZ hr.1.1.2;have e:h.wt = h.name.size+kL ao.wt h.labels+kL iU.wt h.aT:=rfl;omega
theorem aGv {p:nI} (hr:GU p = true):p.wt≤990:=by
 unfold GU at hr;simp only [Bool.and_eq_true] at hr;have Z:=Ow hr.1.1.1.1.1;have h2:=Ox hr.1.1.1.1.2;have h3:=T4 hr.1.1.1.2;have h4:=T0 hr.1.1.2;have e:p.wt = p.name.size+kL ao.wt p.labels+kL aL.wt p.ai+kL bH.wt p.ae:=rfl;omega
theorem Ly {x:aU} (G:cM x):x.wt≤20000:=by
 have e:x.wt = kL aR.wt x.V+kL ag.wt x.O:=rfl;have Z:=vd (f:=aR.wt) G.h8 (b:=530) fun h hh=>aFM (G.g6 h hh);have h2:=vd (f:=ag.wt) G.tC (b:=1010) fun p hp=>by
  have h3:=aGv (G.qC p hp);have e2:p.wt = p.aS.wt+p.on.size:=rfl;have h4:p.on.size≤20:=by
   rcases G.tF p hp with h5 | ⟨h,hh,h5⟩
   ·rw [h5];decide
   ·rw [← h5];exact Ow (TX (G.g6 h hh))
  omega
 omega
theorem aFN {x:aU} (G:cM x) (i:Nat):cM ⟨x.V,x.O.eraseIdx i,x.next,x.weights⟩ :=
 have hs:(x.O.eraseIdx i).Sublist x.O:=List.eraseIdx_sublist ..
 ⟨G.h8,Nat.le_trans hs.length_le G.tC,G.n1,G.n2,G.wt,G.g6,fun h hh=>(G.tD h hh).sub hs G.qC,G.hs,fun p hp=>G.qC p (hs.subset hp),fun p hp=>G.tE p (hs.subset hp),fun p hp=>G.tF p (hs.subset hp),G.ps.sublist hs,G.pf.sublist hs⟩
theorem T5 {xs:List aR} (h:xs.Pairwise fun a b=>dQ a b = true) {i j:Nat} (hi:i < xs.length) (hj:j < xs.length) (lR:i≠j):xs[i].name≠xs[j].name:=by
 exact D'
theorem o5 {xs:List ag} (h:xs.Pairwise fun a b=>dw a b = true) {i j:Nat} (hi:i < xs.length) (hj:j < xs.length) (lR:i≠j):xs[i].aS.name≠xs[j].aS.name:=by
 exact D'
theorem aFO {x:aU} (G:cM x) {n:aR} (X:Aj n = true) (pU:∀h∈x.V,h.name≠n.name) (hl:x.V.length < 8):cM ⟨eH (fL n.name x.V) n x.V,x.O,x.next,x.weights⟩:=by
 have hm:∀h,h∈eH (fL n.name x.V) n x.V↔h = n∨h∈x.V:=by
  intro h;unfold eH;rw [List.mem_append,List.mem_cons];have e:h∈x.V↔h∈x.V.take (fL n.name x.V)∨h∈x.V.drop (fL n.name x.V):=by
   rw [← List.mem_append,List.take_append_drop]
  rw [e];constructor
  ·exact sL
  ·exact sL
 refine ⟨by dsimp only;rw [xe];omega,G.tC,G.n1,G.n2,G.wt,fun h hh=>?_,fun h hh=>?_,?_,G.qC,G.tE,fun p hp=>?_,G.ps,G.pf⟩
 ·rcases (hm h).1 hh with rfl | hh
  ·exact X
  ·exact G.g6 h hh
 ·rcases (hm h).1 hh with rfl | hh
  ·have e:F7 h.name x.O = []:=by
    unfold F7;rw [List.map_eq_nil_iff,List.filter_eq_nil_iff];intro p hp gO;obtain ⟨Z,h2⟩:=On.1 gO;rcases G.tF p hp with h3 | ⟨g,hg,h3⟩
    ·exact Z (h2.symm.trans h3)
    ·exact pU g hg (h3.trans h2)
   have:=aFP X;unfold iw jD;rw [e];simp only [List.map_nil,List.sum_nil,List.length_nil];omega
  ·exact G.tD h hh
 ·show (eH (fL n.name x.V) n x.V).Pairwise fun a b=>dQ a b = true;unfold eH;have h0:=G.hs;rw [← List.take_append_drop (fL n.name x.V) x.V,List.pairwise_append] at h0;have ha:∀a∈x.V.take (fL n.name x.V),dQ a n = true:=by
   intro a ha;obtain ⟨i,hi,rfl⟩:=List.mem_take_iff_getElem.1 ha;exact Nv J J
  have U:∀b∈x.V.drop (fL n.name x.V),dQ n b = true:=by
   intro b U;obtain ⟨i,hi,rfl⟩:=List.mem_drop_iff_getElem.1 U;have Z:dQ n (x.V[fL n.name x.V]'J) = true:=by
    have h2:=Nw (nm:=n.name) (xs:=x.V) J;have h3:=pU _ (List.getElem_mem (l:=x.V) (n:=fL n.name x.V) J);unfold yq at h2;unfold dQ;cases h4:Op.bytesLess n.name.toList (x.V[fL n.name x.V]'J).name.toList with
    | true=>rfl
    | false=>exact absurd (er (GJ _ _ h2 h4)) h3
   cases i with
   | zero=>simpa using Z
   | succ i=>exact TU _ _ _ Z (List.pairwise_iff_getElem.1 G.hs _ _ J J J)
  exact D4
 ·rcases G.tF p hp with h3 | ⟨g,hg,h3⟩
  ·exact .inl h3
  ·exact .inr ⟨g,(hm g).2 (.inr hg),h3⟩
theorem aD4 {x:aU} (G:cM x) (u:aR):cM (mu x u).1:=by
 unfold mu;split
 ·rename_i hc;split
  ·exact G
  ·rename_i hx;split
   ·exact G
   ·rename_i hl;refine aFO G ?_ (fun h hh e=>hx (G9.2 ⟨h,hh,Lu.2 e⟩)) J;have h2:=hc.2;unfold bf at h2 ⊢;split
    ·rename_i h3;exact h3.2.2
    ·rename_i h3;rw [if_neg h3] at h2;cases h2
 ·exact G
theorem aCr {x:aU} (G:cM x) {n:nI} (X:GU n = true) (pU:∀p∈x.O,p.aS.name≠n.name) (hl:x.O.length < 12) (hx:x.next < 1000000000):cM ⟨x.V,eH (eJ n.name x.O) (cT x n) x.O,x.next+1,x.weights⟩:=by
 have hm:∀h,h∈eH (eJ n.name x.O) (cT x n) x.O↔h = cT x n∨h∈x.O:=by
  intro h;unfold eH;rw [List.mem_append,List.mem_cons];have e:h∈x.O↔h∈x.O.take (eJ n.name x.O)∨h∈x.O.drop (eJ n.name x.O):=by
   rw [← List.mem_append,List.take_append_drop]
  rw [e];constructor
  ·exact sL
  ·exact sL
 have av:∀{i:Nat} (hi:i < x.O.length),i < eJ n.name x.O→dw x.O[i] (cT x n) = true:=fun hi h=>N6 h hi;have n1:=G.n1;refine ⟨G.h8,by dsimp only;rw [xe];omega,by dsimp only;omega,by dsimp only;omega,G.wt,G.g6,fun h hh=>?_,G.hs,fun p hp=>?_,fun p hp=>?_,fun p hp=>?_,?_,?_⟩
 ·refine (G.tD h hh).same ?_;show F7 h.name (eH _ _ _) = _;unfold eH;rw [vc,tB (y9 (.inl rfl)),← vc,List.take_append_drop]
 ·rcases (hm p).1 hp with rfl | hp
  ·exact X
  ·exact G.qC p hp
 ·rcases (hm p).1 hp with rfl | hp
  ·show 1≤x.next∧x.next≤x.next+1 - 1;omega
  ·have:=G.tE p hp;show 1≤p.seq∧p.seq≤x.next+1 - 1;omega
 ·rcases (hm p).1 hp with rfl | hp
  ·exact .inl rfl
  ·exact G.tF p hp
 ·show (eH (eJ n.name x.O) (cT x n) x.O).Pairwise fun a b=>dw a b = true;unfold eH;have h0:=G.ps;rw [← List.take_append_drop (eJ n.name x.O) x.O,List.pairwise_append] at h0;have ha:∀a∈x.O.take (eJ n.name x.O),dw a (cT x n) = true:=by
   intro a ha;obtain ⟨i,hi,rfl⟩:=List.mem_take_iff_getElem.1 ha;exact av J J
  have U:∀b∈x.O.drop (eJ n.name x.O),dw (cT x n) b = true:=by
   intro b U;obtain ⟨i,hi,rfl⟩:=List.mem_drop_iff_getElem.1 U;have Z:dw (cT x n) (x.O[eJ n.name x.O]'J) = true:=by
    have h2:=N8 (nm:=n.name) (xs:=x.O) J;have h3:=pU _ (List.getElem_mem (l:=x.O) (n:=eJ n.name x.O) J);unfold yZ at h2;unfold dw cT;dsimp only;cases h4:Op.bytesLess n.name.toList (x.O[eJ n.name x.O]'J).aS.name.toList with
    | true=>rfl
    | false=>exact absurd (er (GJ _ _ h2 h4)) h3
   cases i with
   | zero=>simpa using Z
   | succ i=>exact TV _ _ _ Z (List.pairwise_iff_getElem.1 G.ps _ _ J J J)
  exact D4
 ·show (eH (eJ n.name x.O) (cT x n) x.O).Pairwise fun a b=>a.seq≠b.seq;unfold eH;have h0:=G.pf;rw [← List.take_append_drop (eJ n.name x.O) x.O,List.pairwise_append] at h0;have hq:∀p∈x.O,p.seq≠x.next:=fun p hp=>by have:=G.tE p hp;omega
  rw [List.pairwise_append,List.pairwise_cons];refine ⟨h0.1,⟨fun b U=>(hq b (List.mem_of_mem_drop U)).symm,h0.2.1⟩,fun a D5 b eo=>?_⟩;rcases List.mem_cons.1 eo with rfl | eo
  ·exact hq a (List.mem_of_mem_take D5)
  ·exact h0.2.2 a D5 b eo
theorem Oy {x:aU} (G:cM x) (u:nI):cM (gl x u).1:=by
 unfold gl;split
 ·rename_i hc;split
  ·exact G
  ·rename_i hx;split
   ·exact G
   ·rename_i hl;refine aCr G ?_ (fun h hh e=>hx (G9.2 ⟨h,hh,Oq.2 e⟩)) J J;have h2:=hc.2;unfold jf at h2 ⊢;split
    ·rename_i h3;exact h3.2.2.2
    ·rename_i h3;rw [if_neg h3] at h2;cases h2
 ·exact G
end Go.Proofs.YtajbbmembionpaaGreat
