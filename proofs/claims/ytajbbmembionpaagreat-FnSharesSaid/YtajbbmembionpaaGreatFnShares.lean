/- FnShares: for all bytes: shares are rounded percentages, marks lie in their bounds. No condition. -/
import Derived.Test.YtajbbmembionpaaGreatDrawC
import Derived.Test.YtajbbmembionpaaGreatDrawS
import Derived.StillTailTactics
namespace Go.Proofs.YtajbbmembionpaaGreat.fnShares
open Go.ChangeShapes Go.WideShapes Go.ChangeAt Go.RowKit
set_option linter.unusedVariables false
set_option linter.unusedSimpArgs false
set_option maxHeartbeats 8000000
set_option maxRecDepth 100000
theorem ua {w:World} {xs:List Int} {A:Option Addr} {c:Nat} {F:List Nat} (h:Sl w xs A c F) (Z:0 < xs.length):∃b o,A = some ⟨b,o,none⟩∧b < w.heap.size∧∀j n,xs[j]? = some n→w.cell? ⟨b,o+j,none⟩ = some (.int .i64 n):=by
 obtain ⟨b,o,ck,Fk,hA,_,X,_,_,_⟩:=h.get Z;refine ⟨b,o,hA,X,fun j n hj=>?_⟩;obtain ⟨JF,xX⟩:=List.getElem?_eq_some_iff.1 hj;obtain ⟨b',o',ck,Fk,hA',_,_,hr,_,hc⟩:=h.get JF;rw [hA] at hA';simp only [Option.some.injEq,Addr.mk.injEq,and_true] at hA';obtain ⟨rfl,rfl⟩:=hA';have:=hc 0 (.int .i64 xs[j]) (by rw [hr.1];rfl);rw [show o+(j * bc.size Int+0) = o+j by show o+(j * 1+0) = o+j;omega,xX] at this;exact this
theorem nE {p q:Int} (h0:0≤p) (h:p < q):CQ p q = 100 * p / q:=by
 unfold CQ;rw [if_neg J,if_neg J]
theorem g7 {a b:Int} (ha:0≤a∧a≤10) (X:0≤b∧b≤100):0≤a * b∧a * b≤1000:=⟨Int.mul_nonneg ha.1 X.1,Int.le_trans (Int.mul_le_mul ha.2 X.2 X.1 J) (by decide)⟩
theorem wR {p s f:Int} (h:zL p s f = true):(0≤p∧p≤10)∧(0≤s∧s≤10)∧(0≤f∧f≤10):=by
 unfold zL at h;simp only [Bool.and_eq_true,decide_eq_true_eq] at h;exact ⟨h.1.1,h.1.2,h.2⟩
theorem walk (xs:List UInt8) (A:Option Addr) (aq:Nat) (F:List Nat) (w:World) (h:Sl w xs A aq F) :
 Calls Tryz.prog 4 #[.slice A xs.length aq] w fun e w'=>e = .returned (.bool true)∧Below w.heap.size w w':=by
 have ce:=I (aAQ h);clear h;by_cases hbig:(1048576:Int) < xs.length
 ·have hd:decide ((1048576:Int) < xs.length) = true:=by simpa using hbig
  have HD:=I hd;clear hd hbig;go_enter Tryz.func4,Tryz.ntmps4;go_wp2_with fail
  refine (Uk _ _ _ _).mono ?_;rw [HD.out];rintro e w1 ⟨rfl,bo⟩;go_wp2;go_ret
  exact ⟨rfl,bo⟩
 ·have hd:decide ((1048576:Int) < xs.length) = false:=by simpa using hbig
  have HD:=I hd;have HN:=I (show (xs.length:Int)≤1048576 by omega);clear hd hbig;go_enter Tryz.func4,Tryz.ntmps4;go_wp2_with fail
  refine (Uk _ _ _ _).mono ?_;rw [HD.out];rintro e w1 ⟨rfl,bo⟩;have hZ:=I bo;clear bo;go_wp2_with fail
  refine (mr _ A xs.length aq HN.out (fun k hk=>?_)).mono ?_
  ·exact DE
  rintro e wA ⟨ps,Ap,cp,Gp,rfl,hps,gp,hpr,Qz⟩;obtain ⟨bp,oop,rfl,axV,hcc⟩:=ua hps J;have If:=hps.aq;rw [gp] at If;obtain ⟨a0,h0⟩:∃a0,ps[0]? = some a0:=⟨_,List.getElem?_eq_getElem J⟩;obtain ⟨a1,h1⟩:∃a1,ps[1]? = some a1:=⟨_,List.getElem?_eq_getElem J⟩;obtain ⟨a2,h2⟩:∃a2,ps[2]? = some a2:=⟨_,List.getElem?_eq_getElem J⟩;have k0:wA.cell? ⟨bp,oop,none⟩ = some (.int .i64 a0):=hcc 0 _ h0;have k1:wA.cell? ⟨bp,oop+1,none⟩ = some (.int .i64 a1):=hcc 1 _ h1;have k2:wA.cell? ⟨bp,oop+2,none⟩ = some (.int .i64 a2):=hcc 2 _ h2;have r0:=hpr a0 (List.mem_of_getElem? h0);have r1:=hpr a1 (List.mem_of_getElem? h1);have r2:=hpr a2 (List.mem_of_getElem? h2);clear h0 h1 h2 hcc hpr hps;obtain ⟨m1,lI⟩:∃m1:Int,a0 * 10000 = m1:=⟨_,rfl⟩;obtain ⟨pt,hpt⟩:∃pt:Int,m1+a1 = pt:=⟨_,rfl⟩;obtain ⟨wh,K5⟩:∃wh:Int,pt+1+a2 = wh:=⟨_,rfl⟩;have AW:0≤pt∧pt≤100000000:=by omega
  have qB:pt < wh∧wh≤100100000:=by omega
  have e1:IntKind.i64.wrap m1 = m1:=IntWalk.i64_in _ J;have e2:IntKind.i64.wrap pt = pt:=IntWalk.i64_in _ J;have Ka:=I K5;have HPT:=I hpt;have hZ:=I (ah hZ.out Qz);clear Qz K5;go_wp2_with fail
  refine zU wA 9 U' U' (aj _) ?_;have aK:Below wA.heap.size wA wA.drew:=aA (aj _);refine aX 0 _ O U' H' aK W' ?_;try simp only [Act.put,pz]
  refine aX 1 _ O U' H' aK W' ?_;try simp only [Act.put,pz]
  refine aX 2 _ O U' H' aK W' ?_;try simp only [Act.put,pz]
  refine aX 3 _ O U' H' aK W' ?_;try simp only [Act.put,pz]
  refine aX 4 _ O U' H' aK W' ?_;try simp only [Act.put,pz]
  refine aX 5 _ O U' H' aK W' ?_;try simp only [Act.put,pz]
  refine aX 6 _ O U' H' aK W' ?_;try simp only [Act.put,pz]
  refine aX 7 _ O U' H' aK W' ?_;try simp only [Act.put,pz]
  refine aX 8 _ O U' H' aK W' ?_;try simp only [Act.put,pz]
  refine nR U' ?_;have k2:wA.drew.cell? ⟨bp,oop+2,none⟩ = some (.int .i64 a2):=k2;have hZ:=I (ah hZ.out aK);generalize wA.drew = wB at *;have K5:pt+1+a2 = wh:=Ka.out;have e3:wrap64 wh = wh:=by unfold wrap64;omega
  clear aK k0 k1 lI hpt e1 e2;try simp only [HPT.out]
  have lb:CQ pt wh = 100 * pt / wh:=nE AW.1 qB.1;obtain ⟨O1,hp0b⟩:=AW;obtain ⟨O4,hwpb⟩:=qB;obtain ⟨qq,hqq⟩:∃qq:Int,100 * pt / wh = qq:=⟨_,rfl⟩;have sx:0≤qq∧qq≤100:=by rw [← hqq,← lb];exact zJ pt wh
  have htd:Int.tdiv (100 * pt) wh = qq:=by rw [Int.tdiv_eq_ediv_of_nonneg J];exact hqq
  rw [hqq] at lb;have HSH:=I lb;have Bt:¬wh = 0:=by omega
  have O8:(wh == 0) = false:=by rw [beq_eq_false_iff_ne];exact Bt
  have hqw:wrap64 qq = qq:=by unfold wrap64;omega
  clear lb hqq;go_wp2_with fail
  refine (VD pt wh wB km km).mono ?_;rw [HSH.out];rintro e wC ⟨rfl,hbC⟩;have hZ:=I (ah hZ.out hbC);clear hbC k2 K5 e3 r0 r1 r2;have UE:=I (show CQ 5 0 = 0 from Ot (.inl J));by_cases hpz:pt = 0
  case' pos =>have vN:=I (show CQ wh pt = 0 from Ot (.inl J));have sC:¬0 < pt:=J;clear hpz
  case' neg =>have vN:=I (show CQ wh pt = 100 from Kv J J J);clear hpz
  all_goals
   go_wp2_with fail
   refine (VD wh pt wC km km).mono ?_;rw [vN.out];rintro e wD ⟨rfl,hbD⟩;have hZ:=I (ah hZ.out hbD);clear hbD vN;go_wp2_with fail
   refine (VD 5 0 wD km km).mono ?_;rw [UE.out];rintro e wE ⟨rfl,hbE⟩;have hZ:=I (ah hZ.out hbE);clear hbE UE;go_wp2_with fail
   refine (jt _ A xs.length aq HN.out (fun k hk=>?_)).mono ?_
   ·exact DE
   rintro e wF ⟨sa,sb,rfl,hsa,hsb,o9⟩;have hZ:=I (ah hZ.out o9);have UF:=I hsa;have UG:=I hsb;clear o9 hsa hsb;go_wp2_with fail
   refine (VD sa sb wF UF.out UG.out).mono ?_;obtain ⟨sm,cP⟩:∃sm,CQ sa sb = sm:=⟨_,rfl⟩;have O9:=zJ sa sb;rw [cP] at O9 ⊢;have Eo:=I cP;have HSR:=I O9;clear cP O9;rintro e wG ⟨rfl,hbG⟩;have bo:Below w.heap.size w wG:=ah hZ.out hbG;clear hbG hZ O1 hp0b O4 hwpb Bt O8 hqw htd sx;generalize wG = w1 at *;go_wp2_with fail
   refine (ayG _ A xs.length aq HN.out (fun k hk=>?_)).mono ?_
   ·obtain ⟨g,o,v,e,hg,hv,fW⟩:=ce.out k hk;exact ⟨g,o,v,e,Nat.lt_of_lt_of_le hg bo.size,(bo.cell (p:=⟨g,o+k,none⟩) hg).trans hv,fW⟩
   rintro e w2 ⟨x,cs,G,rfl,hO,hG,ar⟩;have eM:Below w.heap.size w w2:=ah bo ar;have hR:=hO.rd;obtain ⟨Ku,ayW,aDE,aBb,aBd,aEE,aE,hGx,aDF,aEF,aEG,axh,aJM,axi⟩:=aO hR;subst aE;clear hGx hR;have HG:=I hG;have Ji:=I (show (x.V.length:Int)≤1048576 by have:=hG.va;omega);have ZN:=I (show (x.wt:Int)≤1048576 by have:=Sa hG;omega);have iL:=I eM;clear bo ar hG eM HD;try dsimp only
   iterate 5 go_step
   refine kB 29 _ _ rfl w2.heap.size 0 [.slice Ku x.aa.length ayW,.slice aBb x.V.length aBd,.int .i64 x.next,.int .i64 x.weights.pack,.int .i64 x.weights.af,.int .i64 x.weights.an] [.slice none 0 0,.slice none 0 0,.int .i64 0,.int .i64 0,.int .i64 0,.int .i64 0] rfl rfl (oG.new w2 _ 29) S' U' ex ?_;intro w3 Y3 O3;replace Y3:oG w3 w2.heap.size [.slice Ku x.aa.length ayW,.slice aBb x.V.length aBd,.int .i64 x.next,.int .i64 x.weights.pack,.int .i64 x.weights.af,.int .i64 x.weights.an]:=Y3;have cU:w3.heap.size = w2.heap.size+1:=(by rw [O3.size];simp);have CE:=I hO.lt;have gf:=I ((hO.alloc (.cells ([.slice none 0 0,.slice none 0 0,.int .i64 0,.int .i64 0,.int .i64 0,.int .i64 0]:List Value).toArray 29)).only O3 (fun b X=>by have:=CE.out b X;omega));have pn:=I (As (ak iL.out (.cells ([.slice none 0 0,.slice none 0 0,.int .i64 0,.int .i64 0,.int .i64 0,.int .i64 0]:List Value).toArray 29)) O3 (by have:=iL.out.size;omega));have jK:=I Y3;have Pd:w2.heap.size < w3.heap.size:=J;obtain ⟨Ga,aB7,aB8,aB9,aCa,aCb,aCc,aCd,kY3_4,fY3_4,kY3_5,fY3_5⟩:=oa Y3;clear hO O3 iL Y3 cU;go_wp2_with fail
   refine (gL w3 A xs.length aq HN.out (fun k hk=>?_)).mono ?_
   ·obtain ⟨g,o,v,e,hg,hv,fW⟩:=ce.out k hk;exact ⟨g,o,v,e,Nat.lt_of_lt_of_le hg pn.out.size,(pn.out.cell (p:=⟨g,o+k,none⟩) hg).trans hv,fW⟩
   rintro e w4 ⟨p0,ps,Gp0,rfl,QS,qB,bx⟩;obtain ⟨mu,clabelsq,Flabelsq,Aneedsq,cneedsq,Fneedsq,Atolerancesq,ctolerancesq,Ftolerancesq,aE,hGq,hnameq,hlabelsq,hcpuq,hmemq,hrankq,hneedsq,htolerancesq⟩:=dL QS;subst aE;have Ig:=I QS;have Uc:=I (show (p0.wt:Int)≤1048576 by omega);clear hGq QS qB ce HN;have kC:=I (gf.out.ext bx);have fS:=I (ah pn.out bx);have Y4:=jK.out.ext bx;have kj:=I Y4;have Wy:=bx.size;have Ih:w2.heap.size < w4.heap.size:=J;clear Ga aB7 aB8 aB9 aCa aCb aCc aCd kY3_4 fY3_4 kY3_5 fY3_5;obtain ⟨M3,aFf,aFg,aFh,aFi,aFj,aFk,aFl,kY4_4,fY4_4,kY4_5,fY4_5⟩:=oa Y4;clear bx gf pn jK Y4 Pd;try dsimp only
   iterate 5 go_step
   refine kB 35 _ _ rfl w4.heap.size 0 [.string p0.name,.slice mu p0.labels.length clabelsq,.int .i64 p0.az,.int .i64 p0.mem,.int .i64 p0.aw,.slice Aneedsq p0.ai.length cneedsq,.slice Atolerancesq p0.ae.length ctolerancesq] [.string ⟨#[]⟩,.slice none 0 0,.int .i64 0,.int .i64 0,.int .i64 0,.slice none 0 0,.slice none 0 0] rfl rfl (oG.new w4 _ 35) S' U' ex ?_;intro w5 P5 O5;replace P5:oG w5 w4.heap.size [.string p0.name,.slice mu p0.labels.length clabelsq,.int .i64 p0.az,.int .i64 p0.mem,.int .i64 p0.aw,.slice Aneedsq p0.ai.length cneedsq,.slice Atolerancesq p0.ae.length ctolerancesq]:=P5;have bv:Below w4.heap.size w4 w5:=As (ak (aj _) (.cells ([.string ⟨#[]⟩,.slice none 0 0,.int .i64 0,.int .i64 0,.int .i64 0,.slice none 0 0,.slice none 0 0]:List Value).toArray 35)) O5 (Nat.le_refl _);have hw04:w.heap.size≤w4.heap.size:=fS.out.size;have hw24:w2.heap.size < w4.heap.size:=Ih;have Pe:=I (aZ Ig.out bv);have Pf:=I bv;have HXL:=I (show ∀b∈G,b < w2.heap.size from CE.out);have Ke:=I P5;have hpz5:w4.heap.size < w5.heap.size:=P5.lt;clear Ig O5;have nJ:=I (kC.out.ext bv);have Bu:=I (ah fS.out bv);have Y5:=kj.out.ext bv;have K0:=I Y5;have Es:=bv.size;have hzx5:w2.heap.size < w5.heap.size:=J;clear M3 aFf aFg aFh aFi aFj aFk aFl kY4_4 fY4_4 kY4_5 fY4_5;obtain ⟨Ii,fY5_0,kY5_1,fY5_1,kY5_2,fY5_2,kY5_3,fY5_3,kY5_4,fY5_4,kY5_5,fY5_5⟩:=oa Y5;clear bv kC fS kj Y5 Ih;obtain ⟨Ij,fP5_0,kP5_1,fP5_1,kP5_2,fP5_2,kP5_3,fP5_3,kP5_4,fP5_4,kP5_5,fP5_5,kP5_6,fP5_6⟩:=fv P5;clear P5;clear Pf HXL;have h8:=HG.out.h8;have gN:=wR HG.out.wt;have Du:=I gN;clear gN;go_wp2_with fail
   go_loopw [12] (fun i wr=>∃k:Nat,i = .int .i64 k∧k≤x.aa.length∧Below w5.heap.size w5 wr) (fun i _=>x.aa.length - (intOf i).toNat)
   case atStart=>exact ⟨0,rfl,Nat.zero_le _,aj _⟩
   case round =>
    obtain ⟨k,rfl,hk,bL⟩:=hrel;have Pg:=I bL;have HOr:=I (nJ.out.ext bL);have Ph:=I (ah Bu.out bL);have Yr:=K0.out.ext bL;have UH:=I Yr;have k9:=bL.size;have Pj:w2.heap.size < wr.heap.size:=J;clear Ii fY5_0 kY5_1 fY5_1 kY5_2 fY5_2 kY5_3 fY5_3 kY5_4 fY5_4 kY5_5 fY5_5;obtain ⟨Ik,fYr_0,kYr_1,fYr_1,kYr_2,fYr_2,kYr_3,fYr_3,kYr_4,fYr_4,kYr_5,fYr_5⟩:=oa Yr;clear Yr;have zW:=I (aZ Pe.out bL);have Pr:=Ke.out.ext bL;have UI:=I Pr;have Pk:w4.heap.size < wr.heap.size:=Pr.lt;clear Ij fP5_0 kP5_1 fP5_1 kP5_2 fP5_2 kP5_3 fP5_3 kP5_4 fP5_4 kP5_5 fP5_5 kP5_6 fP5_6;obtain ⟨Il,fPr_0,kPr_1,fPr_1,kPr_2,fPr_2,kPr_3,fPr_3,kPr_4,fPr_4,kPr_5,fPr_5,kPr_6,fPr_6⟩:=fv Pr;clear Pr;clear bL;by_cases ax:k < x.aa.length
    ·have nU:(k:Int) < x.aa.length:=J;obtain ⟨FH,FP,AU,_⟩:=aFG HOr.out.rd;obtain ⟨bh,oh,ckh,Fkh,hAh,_,ayL,o5,_,hch⟩:=AU.get ax;have UJ:=AU.aq;subst hAh;obtain ⟨aCh,aCi,Flabelsh,aCj,aCk,Ftaintsh,aE,hFh,hnameh,hlabelsh,hcpuh,hmemh,hslotsh,htaintsh⟩:=iy o5;subst aE;have c0:wr.cell? ⟨bh,oh+k * 6,none⟩ = some (.string x.aa[k].name):=(by have h0:=hch 0 _ rfl;rwa [show oh+(k * bc.size ba+0) = oh+k * 6 by show oh+(k * 6+0) = _;omega] at h0);clear AU o5 hch hFh hlabelsh hcpuh hmemh hslotsh htaintsh hnameh;obtain ⟨nm,gF⟩:∃nm,x.aa[k].name = nm:=⟨_,rfl⟩;rw [gF] at c0;clear gF;obtain ⟨m1,lI⟩:∃m1,OT nm x p0 = m1:=⟨_,rfl⟩;obtain ⟨m2,lz⟩:∃m2,EF nm x = m2:=⟨_,rfl⟩;obtain ⟨m3,Bf⟩:∃m3,Rt nm x p0 = m3:=⟨_,rfl⟩;have r1:=M' nm x p0;have r2:=ZO nm x;have r3:=Ny nm x p0;rw [lI] at r1;rw [lz] at r2;rw [Bf] at r3;obtain ⟨q1,ei⟩:∃q1,x.weights.pack * m1 = q1:=⟨_,rfl⟩;obtain ⟨q2,lR⟩:∃q2,x.weights.af * m2 = q2:=⟨_,rfl⟩;obtain ⟨q3,Im⟩:∃q3,x.weights.an * m3 = q3:=⟨_,rfl⟩;have s1:=g7 Du.out.1 r1;have s2:=g7 Du.out.2.1 r2;have s3:=g7 Du.out.2.2 r3;rw [ei] at s1;rw [lR] at s2;rw [Im] at s3;have HMM:=I (show uH nm x p0 = q1+q2+q3 by unfold uH;rw [if_pos HG.out.wt,lI,lz,Bf,ei,lR,Im]);have yp:=I lI;have JU:=I lz;have J0:=I Bf;have HQ:=I (And.intro ei (And.intro lR Im));have HS:=I (And.intro s1 (And.intro s2 s3));have n1:¬m1 < 0:=J;have n2:¬100 < m1:=J;have n3:¬m2 < 0:=J;have n4:¬100 < m2:=J;have n5:¬m3 < 0:=J;have n6:¬100 < m3:=J;have dn1:decide (m1 < 0) = false:=(by rw [decide_eq_false_iff_not];omega);have dn2:decide (100 < m1) = false:=(by rw [decide_eq_false_iff_not];omega);have dn3:decide (m2 < 0) = false:=(by rw [decide_eq_false_iff_not];omega);have dn4:decide (100 < m2) = false:=(by rw [decide_eq_false_iff_not];omega);have dn5:decide (m3 < 0) = false:=(by rw [decide_eq_false_iff_not];omega);have dn6:decide (100 < m3) = false:=(by rw [decide_eq_false_iff_not];omega);clear lI lz Bf ei lR Im s1 s2 s3 r1 r2 r3;go_wp2_with fail
     refine (ZA x p0 _ _ _ _ nm wr HOr.out.rd zW.out ZN.out Uc.out).mono ?_;rw [yp.out];rintro e wa ⟨rfl,hba⟩;have Pm:=I (ah Pg.out hba);have Pn:=I (HOr.out.ext hba);have UK:=I (ah Ph.out hba);have Ya:=UH.out.ext hba;have UL:=I Ya;have Uu:=hba.size;have Po:w2.heap.size < wa.heap.size:=J;clear Ik fYr_0 kYr_1 fYr_1 kYr_2 fYr_2 kYr_3 fYr_3 kYr_4 fYr_4 kYr_5 fYr_5;obtain ⟨Ip,fYa_0,kYa_1,fYa_1,kYa_2,fYa_2,kYa_3,fYa_3,kYa_4,fYa_4,kYa_5,fYa_5⟩:=oa Ya;clear HOr Ph UH Ya Pj;have zZ:=I (aZ zW.out hba);have Pa:=UI.out.ext hba;have UM:=I Pa;have Pp:w4.heap.size < wa.heap.size:=Pa.lt;clear Il fPr_0 kPr_1 fPr_1 kPr_2 fPr_2 kPr_3 fPr_3 kPr_4 fPr_4 kPr_5 fPr_5 kPr_6 fPr_6;obtain ⟨Iq,fPa_0,kPa_1,fPa_1,kPa_2,fPa_2,kPa_3,fPa_3,kPa_4,fPa_4,kPa_5,fPa_5,kPa_6,fPa_6⟩:=fv Pa;clear Pa zW UI Pk;clear hba;clear c0;go_wp2_with fail
     refine (Sy x p0 _ _ _ _ nm wa Pn.out.rd zZ.out ZN.out Uc.out).mono ?_;rw [JU.out];rintro e wb ⟨rfl,i7⟩;have Pq:=I (ah Pm.out i7);have Ps:=I (Pn.out.ext i7);have UP:=I (ah UK.out i7);have Yb:=UL.out.ext i7;have UR:=I Yb;have ow:=i7.size;have Pt:w2.heap.size < wb.heap.size:=J;clear Ip fYa_0 kYa_1 fYa_1 kYa_2 fYa_2 kYa_3 fYa_3 kYa_4 fYa_4 kYa_5 fYa_5;obtain ⟨Ir,fYb_0,kYb_1,fYb_1,kYb_2,fYb_2,kYb_3,fYb_3,kYb_4,fYb_4,kYb_5,fYb_5⟩:=oa Yb;clear Pn UK UL Yb Po;have z6:=I (aZ zZ.out i7);have Pb:=UM.out.ext i7;have US:=I Pb;have Pu:w4.heap.size < wb.heap.size:=Pb.lt;clear Iq fPa_0 kPa_1 fPa_1 kPa_2 fPa_2 kPa_3 fPa_3 kPa_4 fPa_4 kPa_5 fPa_5 kPa_6 fPa_6;obtain ⟨Is,fPb_0,kPb_1,fPb_1,kPb_2,fPb_2,kPb_3,fPb_3,kPb_4,fPb_4,kPb_5,fPb_5,kPb_6,fPb_6⟩:=fv Pb;clear Pb zZ UM Pp;clear i7;go_wp2_with fail
     refine (ZJ x p0 _ _ _ _ nm wb Ps.out.rd z6.out ZN.out Uc.out).mono ?_;rw [J0.out];rintro e wc ⟨rfl,hbc⟩;have Pv:=I (ah Pq.out hbc);have HOc:=I (Ps.out.ext hbc);have HBc:=I (ah UP.out hbc);have Yc:=UR.out.ext hbc;have HYc:=I Yc;have NI:=hbc.size;have hzxc:w2.heap.size < wc.heap.size:=J;clear Ir fYb_0 kYb_1 fYb_1 kYb_2 fYb_2 kYb_3 fYb_3 kYb_4 fYb_4 kYb_5 fYb_5;obtain ⟨UT,fYc_0,kYc_1,fYc_1,kYc_2,fYc_2,kYc_3,fYc_3,kYc_4,fYc_4,kYc_5,fYc_5⟩:=oa Yc;clear Ps UP UR Yc Pt;have Pw:=I (aZ z6.out hbc);have Pc:=US.out.ext hbc;have HPc:=I Pc;have hpzc:w4.heap.size < wc.heap.size:=Pc.lt;clear Is fPb_0 kPb_1 fPb_1 kPb_2 fPb_2 kPb_3 fPb_3 kPb_4 fPb_4 kPb_5 fPb_5 kPb_6 fPb_6;obtain ⟨UU,fPc_0,kPc_1,fPc_1,kPc_2,fPc_2,kPc_3,fPc_3,kPc_4,fPc_4,kPc_5,fPc_5,kPc_6,fPc_6⟩:=fv Pc;clear Pc z6 US Pu;clear hbc;obtain ⟨ei,lR,Im⟩:=HQ.out;obtain ⟨s1,s2,s3⟩:=HS.out;have e1:IntKind.i64.wrap q1 = q1:=IntWalk.i64_in _ J;have e2:IntKind.i64.wrap q2 = q2:=IntWalk.i64_in _ J;have e3:IntKind.i64.wrap q3 = q3:=IntWalk.i64_in _ J;have e4:IntKind.i64.wrap (q1+q2) = q1+q2:=IntWalk.i64_in _ J;have e5:IntKind.i64.wrap (q1+q2+q3) = q1+q2+q3:=IntWalk.i64_in _ J;have dd:((q1+q2+q3) != (q1+q2+q3)) = false:=S';clear s1 s2 s3;go_wp2_with fail
     refine zU wc 46 U' U' (aj _) ?_;have aK:Below wc.heap.size wc wc.drew:=aA (aj _);refine aX 0 _ O U' H' aK W' ?_;try simp only [Act.put,pz]
     refine aX 1 _ O U' H' aK W' ?_;try simp only [Act.put,pz]
     refine aX 2 _ O U' H' aK W' ?_;try simp only [Act.put,pz]
     refine aX 3 _ O U' H' aK W' ?_;try simp only [Act.put,pz]
     refine aX 4 _ O U' H' aK W' ?_;try simp only [Act.put,pz]
     refine aX 5 _ O U' H' aK W' ?_;try simp only [Act.put,pz]
     refine aX 6 _ O U' H' aK W' ?_;try simp only [Act.put,pz]
     refine aX 7 _ O U' H' aK W' ?_;try simp only [Act.put,pz]
     refine aX 8 _ O U' H' aK W' ?_;try simp only [Act.put,pz]
     refine aX 9 _ O U' H' aK W' ?_;try simp only [Act.put,pz]
     refine aX 10 _ O U' H' aK W' ?_;try simp only [Act.put,pz]
     refine aX 11 _ O U' H' aK W' ?_;try simp only [Act.put,pz]
     refine aX 12 _ O U' H' aK W' ?_;try simp only [Act.put,pz]
     refine aX 13 _ O U' H' aK W' ?_;try simp only [Act.put,pz]
     refine aX 14 _ O U' H' aK W' ?_;try simp only [Act.put,pz]
     refine aX 15 _ O U' H' aK W' ?_;try simp only [Act.put,pz]
     refine aX 16 _ O U' H' aK W' ?_;try simp only [Act.put,pz]
     refine aX 17 _ O U' H' aK W' ?_;try simp only [Act.put,pz]
     refine aX 18 _ O U' H' aK W' ?_;try simp only [Act.put,pz]
     refine aX 19 _ O U' H' aK W' ?_;try simp only [Act.put,pz]
     refine aX 20 _ O U' H' aK W' ?_;try simp only [Act.put,pz]
     refine aX 21 _ O U' H' aK W' ?_;try simp only [Act.put,pz]
     refine aX 22 _ O U' H' aK W' ?_;try simp only [Act.put,pz]
     refine aX 23 _ O U' H' aK W' ?_;try simp only [Act.put,pz]
     refine aX 24 _ O U' H' aK W' ?_;try simp only [Act.put,pz]
     refine aX 25 _ O U' H' aK W' ?_;try simp only [Act.put,pz]
     refine aX 27 _ O U' H' aK W' ?_;try simp only [Act.put,pz]
     refine aX 28 _ O U' H' aK W' ?_;try simp only [Act.put,pz]
     refine aX 29 _ O U' H' aK W' ?_;try simp only [Act.put,pz]
     refine aX 30 _ O U' H' aK W' ?_;try simp only [Act.put,pz]
     refine aX 31 _ O U' H' aK W' ?_;try simp only [Act.put,pz]
     refine aX 32 _ O U' H' aK W' ?_;try simp only [Act.put,pz]
     refine aX 33 _ O U' H' aK W' ?_;try simp only [Act.put,pz]
     refine aX 34 _ O U' H' aK W' ?_;try simp only [Act.put,pz]
     refine aX 35 _ O U' H' aK W' ?_;try simp only [Act.put,pz]
     refine aX 36 _ O U' H' aK W' ?_;try simp only [Act.put,pz]
     refine aX 37 _ O U' H' aK W' ?_;try simp only [Act.put,pz]
     refine aX 38 _ O U' H' aK W' ?_;try simp only [Act.put,pz]
     refine aX 39 _ O U' H' aK W' ?_;try simp only [Act.put,pz]
     refine aX 40 _ O U' H' aK W' ?_;try simp only [Act.put,pz]
     refine aX 41 _ O U' H' aK W' ?_;try simp only [Act.put,pz]
     refine aX 42 _ O U' H' aK W' ?_;try simp only [Act.put,pz]
     refine aX 43 _ O U' H' aK W' ?_;try simp only [Act.put,pz]
     refine bP 26 O U' O (fun K hK=>?_);go_simp;refine (XL x p0 _ _ _ _ nm _ (aZ HOc.out.rd aK) (aZ Pw.out aK) ZN.out Uc.out).mono ?_;rw [HMM.out];rintro e wd ⟨rfl,dq⟩;replace aK:=ah aK dq;refine hK _ _ aK ?_;try simp only [Act.put,pz]
     clear hK K;refine aX 44 _ O U' H' aK W' ?_;try simp only [Act.put,pz]
     refine aX 45 _ O U' H' aK W' ?_;try simp only [Act.put,pz]
     refine nR U' ?_;have Px:=I (ah Pv.out aK);clear aK dq;go_wp2;exact ⟨⟨k+1,N',J,Px.out⟩,by simp only [intOf];omega⟩
    ·have nU:¬(k:Int) < x.aa.length:=J;obtain ⟨du,cW⟩:=HSR.out;have hd0:decide ((0:Int)≤sm) = true:=(by rw [decide_eq_true_eq];exact du);have yf:decide (sm≤(100:Int)) = true:=(by rw [decide_eq_true_eq];exact cW);go_wp2_with fail
     refine (IB sa sb wr UF.out UG.out).mono ?_;rw [Eo.out];rintro e wz ⟨rfl,fV⟩;have HBZ:=I (ah Ph.out fV);clear fV;go_wp2;go_ret
     exact ⟨by simp [du,cW],HBZ.out⟩
theorem gX {H:Type} {enc:TypeId × Value→H} (W:World) (base:Nat) (args:Array Value) (ds:List (DataW H)) (p:List MemPlace)
 (It:∀(j:Nat) t v,Tryz.f4.params[j]? = some t→args[j]? = some v→Value.okWide Tryz.prog W .any base t v)
 (hA:DataW.TrodAll enc Tryz.prog W 0 (fun _=>true) true Tryz.f4.params.toList args.toList ds p) (ax:∀x∈p,x.block < W.heap.size) :
 Calls Tryz.prog 4 args W fun e W'=>e = .returned (.bool true)∧Below W.heap.size W W':=by
 rw [Tryz.params4] at hA It;obtain ⟨v0,JM,d0,ds0,p0,q0,uA,rfl,rfl,h0,r0⟩:=trodAll_cons hA;obtain ⟨rfl,rfl,rfl⟩:=trodAll_nil r0;obtain rfl:args = #[v0]:=by cases args;simp_all
 obtain ⟨fa,hf⟩:=h0;obtain ⟨xs,F,hr⟩:=yH Tryz.underlying22 rfl (Zf Tryz.underlying5) H enc W 0 fa _ _ _ _ hf;obtain ⟨A,c,hv,hS⟩:=jB hr;obtain ⟨B,n,d,rfl⟩:=okWide_slice Tryz.underlying22 (It 0 22 v0 rfl rfl);simp [Value.cells] at hv;obtain ⟨rfl,rfl,rfl⟩:=hv;exact walk xs B d F W hS
theorem L5:ownKnob Tryz.prog.godebug = none:=by kernel_rfl
theorem Pz:laidOutB Tryz.prog = true:=by kernel_rfl
theorem r9:∀t∈Tryz.f4.params.toList,Tryz.prog.readableRec t = true∧t < Tryz.prog.types.size:=by
 have h:(Tryz.f4.params.toList.all fun t=>Tryz.prog.readableRec t&&decide (t < Tryz.prog.types.size)) = true:=by kernel_rfl
 intro t ht;have:=List.all_eq_true.1 h t ht;simpa using this
theorem fF {H:Type} {enc:TypeId × Value→H} {W:World} {args:List Value} {ds:List (DataW H)} {p:List MemPlace}
 (h:DataW.TrodAll enc Tryz.prog W 0 (fun _=>true) true Tryz.f4.params.toList args ds p):∃d0,ds = [d0]:=by
 rw [Tryz.params4] at h;obtain ⟨v0,JM,d0,ds0,p0,q0,_,rfl,_,_,r0⟩:=trodAll_cons h;obtain ⟨_,rfl,_⟩:=trodAll_nil r0;exact ⟨d0,rfl⟩
theorem z7 (os:Os) (lk:os.Started) (H:Type) (enc:TypeId × Value→H) :
 ReturnsInHanded {} Tryz.checked os 4 .any (Rows.fnSharesSpec.pre6 enc Tryz.prog Tryz.f4 Rows.fnSharesRow.domain false) (Rows.fnSharesSpec.post enc Tryz.prog Tryz.f4 false true false false):=by
 refine returnsInHanded_of_change (C:=Tryz.checked) L5 lk U' Tryz.func4
  (ChangeSpec.witness6 (enc:=enc) (C:=Tryz.checked) false ⟨#[],#[.slice none 0 0],[]⟩ 8 U' U' U' U') ?_
 intro W base args ds gs kO Iu hW hcnd _;have ax:∀x∈kO,x.block < W.heap.size:=fun x hx=>hW.lt x hx;have hW':=hW;obtain ⟨p,q,hA,hV,rfl,_,_⟩:=hW';exact (gX W base args ds p Iu hA (fun x hx=>ax x (List.mem_append_left _ hx))).mono fun e W' ⟨he,X⟩ =>
  ⟨_,he,nO Pz r9 rfl Tryz.underlying4 rfl Vt hW X⟩
theorem j9:Rows.fnSharesRow.holds Tryz.pinned (OpenSpec.ofChange Rows.fnSharesSpec) :=
 OpenClaim.holds_of_wide 4 Tryz.f4 rfl rfl rfl rfl rfl rfl rfl ⟨rfl,rfl,rfl,rfl,rfl⟩ rfl rfl rfl rfl rfl U' Tryz.func4 U'
  (of_decide_eq_true U') Vr
  (fun os lk H enc _=>z7 os lk H enc)
theorem proved:Rows.FnSharesSaid :=
 j9
#print axioms proved
end Go.Proofs.YtajbbmembionpaaGreat.fnShares
