/- FnPlaces: for all bytes: PlaceNext puts the first that waits and can be put on its best host, and moves no other. No condition. -/
import Derived.Test.YtjahcnjmjahbaaaGreatAppO
import Derived.StillTailTactics
namespace Go.Proofs.YtjahcnjmjahbaaaGreat.fnPlaces
open Go.ChangeShapes Go.WideShapes Go.ChangeAt Go.RowKit
set_option linter.unusedVariables false
set_option linter.unusedSimpArgs false
set_option maxHeartbeats 8000000
set_option maxRecDepth 100000
theorem ayJ (x:aU):lT x x = true:=(jI x x).2 rfl
theorem walk (xs:List UInt8) (A:Option Addr) (aM:Nat) (F:List Nat) (w:World) (h:Sl w xs A aM F) :
 Calls Tryz.prog 5 #[.slice A xs.length aM] w fun e w'=>e = .returned (.bool true)∧Below w.heap.size w w':=by
 have de:=I (aAQ h);clear h;by_cases hbig:(1048576:Int) < xs.length
 ·have hd:decide ((1048576:Int) < xs.length) = true:=by simpa using hbig
  have HD:=I hd;clear hd hbig;go_enter Tryz.func5,Tryz.ntmps5;go_wp2_with fail
  refine (ayY _ _ _ _).mono ?_;rw [HD.out];rintro e w1 ⟨rfl,bm⟩;go_wp2;go_ret
  exact ⟨rfl,bm⟩
 ·have hd:decide ((1048576:Int) < xs.length) = false:=by simpa using hbig
  have HD:=I hd;have HN:=I (show (xs.length:Int)≤1048576 by omega);clear hd hbig;go_enter Tryz.func5,Tryz.ntmps5;go_wp2_with fail
  refine (ayY _ _ _ _).mono ?_;rw [HD.out];rintro e w1 ⟨rfl,bm⟩;go_wp2_with fail
  refine (ayG _ A xs.length aM HN.out (fun k hk=>?_)).mono ?_
  ·obtain ⟨g,o,v,e,hg,hv,gb⟩:=de.out k hk;exact ⟨g,o,v,e,Nat.lt_of_lt_of_le hg bm.size,(bm.cell (p:=⟨g,o+k,none⟩) hg).trans hv,gb⟩
  rintro e w2 ⟨x,cs,G,rfl,hO,hG,ao⟩;have dE:Below w.heap.size w w2:=ah bm ao;have hR:=hO.rd;obtain ⟨Qk,ayW,aDE,aBb,aBd,aEE,ax,hGx,aDF,aEF,aEG,axh,aJM,axi⟩:=aO hR;subst ax;clear hGx hR;have HG:=I hG;have Ji:=I (show (x.J.length:Int)≤1048576 by have:=hG.ws;omega);have ZN:=I (show (x.wt:Int)≤1048576 by have:=Qh hG;omega);have lh:=I dE;clear de bm ao hG dE HN HD;try dsimp only
  iterate 5 go_step
  refine km 29 _ _ rfl w2.heap.size 0 [.slice Qk x.aa.length ayW,.slice aBb x.J.length aBd,.int .i64 x.next,.int .i64 x.weights.pack,.int .i64 x.weights.af,.int .i64 x.weights.al] [.slice none 0 0,.slice none 0 0,.int .i64 0,.int .i64 0,.int .i64 0,.int .i64 0] rfl rfl (oG.new w2 _ 29) S' U' e' ?_;intro w3 Y3 O3;replace Y3:oG w3 w2.heap.size [.slice Qk x.aa.length ayW,.slice aBb x.J.length aBd,.int .i64 x.next,.int .i64 x.weights.pack,.int .i64 x.weights.af,.int .i64 x.weights.al]:=Y3;have ez:w3.heap.size = w2.heap.size+1:=by rw [O3.size];simp
  have xv:=I hO.lt;have fG:=I ((hO.alloc (.cells ([.slice none 0 0,.slice none 0 0,.int .i64 0,.int .i64 0,.int .i64 0,.int .i64 0]:List Value).toArray 29)).only O3 (fun b hb=>by have:=xv.out b hb;omega));have QB:=I (xw (ak lh.out (.cells ([.slice none 0 0,.slice none 0 0,.int .i64 0,.int .i64 0,.int .i64 0,.int .i64 0]:List Value).toArray 29)) O3 (by have:=lh.out.size;omega));have oe:=I Y3;have VO:w2.heap.size < w3.heap.size:=by omega
  obtain ⟨M1,aB7,aB8,aB9,aCa,aCb,aCc,aCd,kY3_4,fY3_4,kY3_5,fY3_5⟩:=l5 Y3;clear hO O3 lh Y3 ez;go_wp2_with fail
  refine (aFV x _ _ w3 fG.out.rd ZN.out).mono ?_;obtain ⟨RR,sJ⟩:∃RR,BX x = RR:=⟨_,rfl⟩;rw [sJ];obtain ⟨y,nm,hn,cd⟩:=RR;have kX:=I sJ;clear sJ;rintro e w4 ⟨ds4,G4,rfl,hO4,bL⟩;dsimp only at hO4 ⊢;have hR:=hO4.rd;obtain ⟨wV,chostsy,Fhostsy,Apodsy,cpodsy,Fpodsy,ax,hGy,hhostsy,hpodsy,hnexty,hweightspacky,hweightsspready,hweightssofty⟩:=aO hR;subst ax;have HQ4:=I hO4;have HK4:=I (oG.new w4 [.slice wV y.aa.length chostsy,.slice Apodsy y.J.length cpodsy,.int .i64 y.next,.int .i64 y.weights.pack,.int .i64 y.weights.af,.int .i64 y.weights.al] 29);clear hGy hR hO4;have kR:=I (fG.out.ext bL);have pc:=I (ah QB.out bL);have Y4:=oe.out.ext bL;have EP:=I Y4;have Wy:=bL.size;have VS:w2.heap.size < w4.heap.size:=by omega
  clear M1 aB7 aB8 aB9 aCa aCb aCc aCd kY3_4 fY3_4 kY3_5 fY3_5;obtain ⟨TE,aFf,aFg,aFh,aFi,aFj,aFk,aFl,kY4_4,fY4_4,kY4_5,fY4_5⟩:=l5 Y4;clear bL fG QB oe Y4 VO;go_wp2_with fail
  refine (UT x _ _ _ (kR.out.ER (ak (aj _) _)) Ji.out).mono ?_;rintro e w5 ⟨Av,cv,Gv,rfl,hOv,bt⟩;have N2:=I (HK4.out.ext bt);replace bt:Below w4.heap.size w4 w5:=ah (ak (aj _) _) bt;have HQ5:=I (HQ4.out.ext bt);have HV5:=I hOv;have hk5:=N2.out.lt;clear hOv HK4 HQ4;have rz:=I (kR.out.ext bt);have Xc:=I (ah pc.out bt);have Y5:=EP.out.ext bt;have EQ:=I Y5;have Es:=bt.size;have hzx5:w2.heap.size < w5.heap.size:=by omega
  clear TE aFf aFg aFh aFi aFj aFk aFl kY4_4 fY4_4 kY4_5 fY4_5;obtain ⟨N3,fY5_0,kY5_1,fY5_1,kY5_2,fY5_2,kY5_3,fY5_3,kY5_4,fY5_4,kY5_5,fY5_5⟩:=l5 Y5;clear bt kR pc EP Y5 VS;obtain ⟨FH,FP,Cs,x3⟩:=aFG rz.out.rd;have Ob:=I x3;have hp12:=HG.out.ws;have b5:(GI x.J).length≤12:=by have:=Uy x.J;omega
  clear Cs x3;go_wp2_with fail
  go_loopw [9] (fun i wr=>∃k:Nat,i = .int .i64 k∧k≤(GI x.J).length∧Hid (ES x k)∧Below w5.heap.size w5 wr) (fun i _=>(GI x.J).length - (intOf i).toNat)
  case atStart=>exact ⟨0,rfl,Nat.zero_le _,I (pQ x),aj _⟩
  case round =>
   obtain ⟨k,rfl,hk,HNT,az⟩:=hrel;have iX:=I az;have JC:=I (rz.out.ext az);have Yr:=EQ.out.ext az;have hzsr:=az.size;have hzxr:w2.heap.size < wr.heap.size:=O;clear N3 fY5_0 kY5_1 fY5_1 kY5_2 fY5_2 kY5_3 fY5_3 kY5_4 fY5_4 kY5_5 fY5_5;clear az;obtain ⟨N4,fYr_0,kYr_1,fYr_1,kYr_2,fYr_2,kYr_3,fYr_3,kYr_4,fYr_4,kYr_5,fYr_5⟩:=l5 Yr;clear Yr;by_cases ap:k < (GI x.J).length
   ·obtain ⟨j,hj,ej,nj,ju⟩:=wT HG.out ap;have iP:=I (fun hb=>pN HG.out ap HNT.out hj ej ju hb);have HN0:=I (fun hb=>pS HG.out ap HNT.out hj ej ju hb);have VV:=I (VB HG.out hj ej ju);have ul:=I (fun hb=>pL HG.out hj ju hb);have HPG:=I (fun hb=>aGJ HG.out hj ju hb);obtain ⟨bw,ow,ckw,Fkw,hAw,_,lI,hrw,_,hcw⟩:=Sl.get (show Sl w5 (GI x.J) Av cv Gv from HV5.out.rd) ap;subst hAw;have c1:=hcw 0 (.string (GI x.J)[k]) (by rw [hrw.1];rfl);rw [show ow+(k * bk.size ByteArray+0) = ow+k by show ow+(k * 1+0) = ow+k;omega] at c1;obtain ⟨s1,e1⟩:∃s,(GI x.J)[k] = s:=⟨_,rfl⟩;rw [e1] at c1 ej iP VV;have HI:=I ej;have fv:=I c1;obtain ⟨bp,op,ckp,Fkp,hAp,_,axV,QS,_,ti⟩:=Ob.out.get hj;subst hAp;obtain ⟨_,_,_,_,rfl,rfl,WT,hrest⟩:=QS;have I3:=I WT;obtain ⟨xy,aJn,aBL,aw3,aw4,aDG,aIi,aIj,axJ,ax,hFp,aEH,aBM,hcpup,hmemp,aEI,aDH,axK⟩:=dL WT;subst ax;have HCP:=I ti;have ue:(x.J[j].aS.wt:Int)≤20000:=(by have h1:=Qh HG.out;have h2:=Bq (f:=ag.wt) (List.getElem_mem hj);have e:x.wt = kL ba.wt x.aa+kL ag.wt x.J:=rfl;have e2:x.J[j].wt = x.J[j].aS.wt+x.J[j].on.size:=rfl;omega);have hcapw:=(show Sl w5 (GI x.J) (some ⟨bw,ow,none⟩) cv Gv from HV5.out.rd).aM;have yU:=Ob.out.aM;have se:(k:Int) < (GI x.J).length:=O;have lE:(j:Int) < x.J.length:=O;have OG:bw < wr.heap.size:=O;have Z':bp < wr.heap.size:=O;have n1:wr.cell? ⟨bw,ow+k,none⟩ = some (.string s1):=r' iX.out c1 lI;have m0:wr.cell? ⟨bp,op+j * 9,none⟩ = some (.string x.J[j].aS.name):=(by have h0:=ti 0 _ rfl;exact (iX.out.cell (p:=⟨bp,op+j * 9,none⟩) axV).trans (by rwa [show op+(j * bk.size ag+0) = op+j * 9 by show op+(j * 9+0) = _;omega] at h0));have m1:wr.cell? ⟨bp,op+j * 9+1,none⟩ = some (.slice xy x.J[j].aS.labels.length aJn):=(by have h0:=ti 1 _ rfl;exact (iX.out.cell (p:=⟨bp,op+j * 9+1,none⟩) axV).trans (by rwa [show op+(j * bk.size ag+1) = op+j * 9+1 by show op+(j * 9+1) = _;omega] at h0));have m2:wr.cell? ⟨bp,op+j * 9+2,none⟩ = some (.int .i64 x.J[j].aS.aw):=(by have h0:=ti 2 _ rfl;exact (iX.out.cell (p:=⟨bp,op+j * 9+2,none⟩) axV).trans (by rwa [show op+(j * bk.size ag+2) = op+j * 9+2 by show op+(j * 9+2) = _;omega] at h0));have m3:wr.cell? ⟨bp,op+j * 9+3,none⟩ = some (.int .i64 x.J[j].aS.mem):=(by have h0:=ti 3 _ rfl;exact (iX.out.cell (p:=⟨bp,op+j * 9+3,none⟩) axV).trans (by rwa [show op+(j * bk.size ag+3) = op+j * 9+3 by show op+(j * 9+3) = _;omega] at h0));have m4:wr.cell? ⟨bp,op+j * 9+4,none⟩ = some (.int .i64 x.J[j].aS.av):=(by have h0:=ti 4 _ rfl;exact (iX.out.cell (p:=⟨bp,op+j * 9+4,none⟩) axV).trans (by rwa [show op+(j * bk.size ag+4) = op+j * 9+4 by show op+(j * 9+4) = _;omega] at h0));have m5:wr.cell? ⟨bp,op+j * 9+5,none⟩ = some (.slice aw3 x.J[j].aS.ai.length aw4):=(by have h0:=ti 5 _ rfl;exact (iX.out.cell (p:=⟨bp,op+j * 9+5,none⟩) axV).trans (by rwa [show op+(j * bk.size ag+5) = op+j * 9+5 by show op+(j * 9+5) = _;omega] at h0));have m6:wr.cell? ⟨bp,op+j * 9+6,none⟩ = some (.slice aIi x.J[j].aS.ae.length aIj):=(by have h0:=ti 6 _ rfl;exact (iX.out.cell (p:=⟨bp,op+j * 9+6,none⟩) axV).trans (by rwa [show op+(j * bk.size ag+6) = op+j * 9+6 by show op+(j * 9+6) = _;omega] at h0));clear hrw hcw c1 WT ti hFp hrest nj;go_wp2_with fail
    refine zU wr 13 U' U' (aj _) ?_;refine YU (fun a0 a' w'=>∃(pp:Nat) (v0 v1 v2 v3 v4 v5 v6 v7 v8 v9 v10:Value),a' = (Act.put (Act.put (Act.put (Act.put (Act.put (Act.put (Act.put (Act.put (Act.put (Act.put (Act.put (Act.put a0 (some 36) v0) (some 37) v1) (some 38) v2) (some 39) v3) (some 40) v4) (some 41) v5) (some 42) v6) (some 43) v7) (some 44) v8) (some 45) v9) (some 46) v10) (some 10) (.pointer (some ⟨pp,0,none⟩)))∧Below wr.heap.size wr w'∧wr.heap.size≤pp∧oG w' pp [.string x.J[j].aS.name,.slice xy x.J[j].aS.labels.length aJn,.int .i64 x.J[j].aS.aw,.int .i64 x.J[j].aS.mem,.int .i64 x.J[j].aS.av,.slice aw3 x.J[j].aS.ai.length aw4,.slice aIi x.J[j].aS.ae.length aIj]) ?_ ?_;rotate_left
    ·intro HK;have bc:Below wr.heap.size wr wr.drew:=aA (aj _);refine aX 0 _ Z U' H' bc W' ?_;try simp only [Act.put,pz]
     refine aX 1 _ Z U' H' bc W' ?_;try simp only [Act.put,pz]
     refine aX 2 _ Z U' H' bc W' ?_;try simp only [Act.put,pz]
     refine aX 3 _ Z U' H' bc W' ?_;try simp only [Act.put,pz]
     refine aX 4 _ Z U' H' bc W' ?_;try simp only [Act.put,pz]
     refine aX 5 _ Z U' H' bc W' ?_;try simp only [Act.put,pz]
     refine aX 6 _ Z U' H' bc W' ?_;try simp only [Act.put,pz]
     refine D7 7 11 Z Z U' Z Z (fun K hK=>?_) (fun K hK=>?_)
     ·go_simp;refine (uN x _ _ s1 _ (JC.out.ER bc) Ji.out).mono ?_;rw [HI.out];rintro e wc ⟨rfl,hbc⟩;replace bc:=ah bc hbc;refine hK _ _ bc ?_;try simp only [Act.put,pz]
      clear hK K;refine aX 8 _ Z U' H' bc W' ?_;try simp only [Act.put,pz]
      refine aX 9 _ Z U' H' bc W' ?_;try simp only [Act.put,pz]
      refine aX 10 _ Z U' H' bc W' ?_;try simp only [Act.put,pz]
      refine bP 11 Z U' Z (fun K hK=>?_);go_simp;refine hK _ _ (ak bc _) ?_;try simp only [Act.put,pz]
      clear hK K;have hZ:wr.heap.size≤wc.heap.size:=bc.size;have vc:=oG.new wc [.string ⟨#[]⟩,.slice none 0 0,.int .i64 0,.int .i64 0,.int .i64 0,.slice none 0 0,.slice none 0 0] 46;replace bc:=ak bc (.cells ([.string ⟨#[]⟩,.slice none 0 0,.int .i64 0,.int .i64 0,.int .i64 0,.slice none 0 0,.slice none 0 0]:List Value).toArray 46);exact Hx
     ·go_simp;refine hK _ _ (ak bc _) ?_;try simp only [Act.put,pz]
      clear hK K;have hZ:wr.heap.size≤wr.drew.heap.size:=bc.size;have DE:=oG.new wr.drew [.string ⟨#[]⟩,.slice none 0 0,.int .i64 0,.int .i64 0,.int .i64 0,.slice none 0 0,.slice none 0 0] 46;replace bc:=ak bc (.cells ([.string ⟨#[]⟩,.slice none 0 0,.int .i64 0,.int .i64 0,.int .i64 0,.slice none 0 0,.slice none 0 0]:List Value).toArray 46);refine bP 7 Z U' Z (fun K hK=>?_);go_simp;refine (uN x _ _ s1 _ (JC.out.ER bc) Ji.out).mono ?_;rw [HI.out];rintro e wc ⟨rfl,hbc⟩;have vc:=DE.ext hbc;replace bc:=ah bc hbc;refine hK _ _ bc ?_;try simp only [Act.put,pz]
      clear hK K;refine aX 8 _ Z U' H' bc W' ?_;try simp only [Act.put,pz]
      refine aX 9 _ Z U' H' bc W' ?_;try simp only [Act.put,pz]
      refine aX 10 _ Z U' H' bc W' ?_;try simp only [Act.put,pz]
      exact Hx
    rintro _ w6 ⟨pp,v0,v1,v2,v3,v4,v5,v6,v7,v8,v9,v10,rfl,dB,hpp,YP⟩;have tC:=I (ah iX.out dB);have QI:=I (JC.out.ext dB);have QE:=I YP;have ru:=dB.size;have hzx6:w2.heap.size < w6.heap.size:=O;have hpl6:=YP.lt;have y6:=EQ.out.ext tC.out;clear m0 m1 m2 m3 m4 m5 m6 n1 dB JC N4 fYr_0 kYr_1 fYr_1 kYr_2 fYr_2 kYr_3 fYr_3 kYr_4 fYr_4 kYr_5 fYr_5;obtain ⟨N5,fy6_0,ky6_1,fy6_1,ky6_2,fy6_2,ky6_3,fy6_3,ky6_4,fy6_4,ky6_5,fy6_5⟩:=l5 y6;obtain ⟨N6,fYP_0,kYP_1,fYP_1,kYP_2,fYP_2,kYP_3,fYP_3,kYP_4,fYP_4,kYP_5,fYP_5,kYP_6,fYP_6⟩:=ua YP;clear y6 YP;cases fR:kj x x.J[j].aS with
    | false =>
      have nr:=I fR;have Gn:=I (HN0.out fR);clear fR;go_wp2_with fail
      refine (Uu x x.J[j].aS _ _ _ _ w6 QI.out.rd (aZ I3.out tC.out) ZN.out O).mono ?_;rw [nr.out];rintro e w7 ⟨rfl,bN⟩;have pT:=I (ah tC.out bN);clear bN;go_wp2;exact ⟨⟨k+1,N',O,Gn,pT.out⟩,by simp only [intOf];omega⟩
    | true =>
      have nr:=I fR;have e:=kX.out.symm.trans (iP.out fR);simp only [Prod.mk.injEq] at e;obtain ⟨hy,j6,hhn,lj⟩:=e;subst j6 hhn lj
      have Oc:=I (show pK (CG nm) y.J = j∧(∃h:j < y.J.length,y.J[j].on = gh x x.J[j].aS)∧y.J.length = x.J.length∧(GI y.J).length+1 = (GI x.J).length∧hJ x nm = (y,gh x x.J[j].aS,0)∧cr y from by
       have h1:=ul.out fR;have h2:=HPG.out fR;have h3:=VV.out;rw [if_pos fR,← hy] at h3;rw [← hy] at h1 h2;refine ⟨?_,?_,?_,h1,h3,h2⟩
       ·rw [hy,aGB hj];exact HI.out
       ·subst hy;exact ⟨by rw [VC];exact hj,pM hj⟩
       ·rw [hy,VC])
      clear fR hy iP HN0 ul HPG VV kX;go_wp2_with fail
      refine (Uu x x.J[j].aS _ _ _ _ w6 QI.out.rd (aZ I3.out tC.out) ZN.out O).mono ?_;rw [nr.out];generalize gh x x.J[j].aS = bs at *;rintro e w7 ⟨rfl,bN⟩;have pT:=I (ah tC.out bN);have VW:=I (QI.out.ext bN);have y7:=EQ.out.ext pT.out;have hzx7:w2.heap.size < w7.heap.size:=(by have:=bN.size;omega);have hzw7:bw < w7.heap.size:=(by have:=bN.size;omega);have n7:w7.cell? ⟨bw,ow+k,none⟩ = some (.string nm):=r' pT.out fv.out lI;clear bN QI QE N5 fy6_0 ky6_1 fy6_1 ky6_2 fy6_2 ky6_3 fy6_3 ky6_4 fy6_4 ky6_5 fy6_5 N6 fYP_0 kYP_1 fYP_1 kYP_2 fYP_2 kYP_3 fYP_3 kYP_4 fYP_4 kYP_5 fYP_5 kYP_6 fYP_6;obtain ⟨Od,fy7_0,ky7_1,fy7_1,ky7_2,fy7_2,ky7_3,fy7_3,ky7_4,fy7_4,ky7_5,fy7_5⟩:=l5 y7;clear y7;go_wp2_with fail
      refine zU w7 14 U' U' (aj _) ?_;refine YU (fun a0 a' w'=>∃(pq:Nat) (es:List Value) (Ge:List Nat) (yW yX yZ y' za zb zd ze zf zg:Value),a' = (Act.put (Act.put (Act.put (Act.put (Act.put (Act.put (Act.put (Act.put (Act.put (Act.put (Act.put (Act.put (Act.put a0 (some 55) yW) (some 56) yX) (some 57) yZ) (some 58) y') (some 59) za) (some 60) zb) (some 54) zd) (some 61) ze) (some 62) zf) (some 63) zg) (some 13) (.pointer (some ⟨pq,0,none⟩))) (some 14) (.string bs)) (some 15) (.int .i64 0))∧Below w7.heap.size w7 w'∧w7.heap.size≤pq∧oG w' pq es∧am w' w7.heap.size y es Ge) ?_ ?_;rotate_left
      ·intro HK;have bc:Below w7.heap.size w7 w7.drew:=aA (aj _);refine aX 0 _ Z U' H' bc W' ?_;try simp only [Act.put,pz]
       refine aX 1 _ Z U' H' bc W' ?_;try simp only [Act.put,pz]
       refine aX 2 _ Z U' H' bc W' ?_;try simp only [Act.put,pz]
       refine aX 3 _ Z U' H' bc W' ?_;try simp only [Act.put,pz]
       refine aX 4 _ Z U' H' bc W' ?_;try simp only [Act.put,pz]
       refine D7 5 10 Z Z U' Z Z (fun K hK=>?_) (fun K hK=>?_)
       ·go_simp;refine (VE x _ _ nm _ (VW.out.ER bc) ZN.out).mono ?_;rw [Oc.out.2.2.2.2.1];rintro e wc ⟨es,Ge,rfl,LM,hbc⟩;dsimp only at LM ⊢;have hR:=LM.rd;obtain ⟨hT,chostsz,Fhostsz,Apodsz,cpodsz,Fpodsz,ax,hGz,hhostsz,hpodsz,hnextz,hweightspackz,hweightsspreadz,hweightssoftz⟩:=aO hR;subst ax;clear hGz hR hhostsz hpodsz hnextz hweightspackz hweightsspreadz hweightssoftz;replace bc:=ah bc hbc;refine hK _ _ bc ?_;try simp only [Act.put,pz]
        clear hK K;refine aX 6 _ Z U' H' bc W' ?_;try simp only [Act.put,pz]
        refine aX 7 _ Z U' H' bc W' ?_;try simp only [Act.put,pz]
        refine aX 8 _ Z U' H' bc W' ?_;try simp only [Act.put,pz]
        refine aX 9 _ Z U' H' bc W' ?_;try simp only [Act.put,pz]
        refine bP 10 Z U' Z (fun K hK=>?_);go_simp;refine hK _ _ (ak bc _) ?_;try simp only [Act.put,pz]
        clear hK K;have hZ:w7.heap.size≤wc.heap.size:=bc.size;have vc:=oG.new wc [.slice none 0 0,.slice none 0 0,.int .i64 0,.int .i64 0,.int .i64 0,.int .i64 0] 29;replace bc:=ak bc (.cells ([.slice none 0 0,.slice none 0 0,.int .i64 0,.int .i64 0,.int .i64 0,.int .i64 0]:List Value).toArray 29);refine bP 11 Z U' Z (fun K hK=>?_);refine km 29 _ _ rfl _ 0 [.slice hT y.aa.length chostsz,.slice Apodsz y.J.length cpodsz,.int .i64 y.next,.int .i64 y.weights.pack,.int .i64 y.weights.af,.int .i64 y.weights.al] [.slice none 0 0,.slice none 0 0,.int .i64 0,.int .i64 0,.int .i64 0,.int .i64 0] Z (by first | rfl | (simp [Act.eval];done) | (simp [Act.eval];rfl)) vc S' U' e' ?_;intro wz YZ OZ;replace YZ:oG wz _ [.slice hT y.aa.length chostsz,.slice Apodsz y.J.length cpodsz,.int .i64 y.next,.int .i64 y.weights.pack,.int .i64 y.weights.af,.int .i64 y.weights.al]:=YZ;have dd:Below w7.heap.size w7 wz:=xw bc OZ hZ;refine hK _ _ dd ?_;try simp only [Act.put,pz]
        clear hK K;refine aX 12 _ Z U' H' dd W' ?_;try simp only [Act.put,pz]
        refine aX 13 _ Z U' H' dd W' ?_;try simp only [Act.put,pz]
        refine nR U' ?_;exact HK _ _ ⟨_,_,_,_,_,_,_,_,_,_,_,_,_,vd,dd,hZ,YZ,((LM.ext (ak (aj _) _)).only OZ (fun b hb=>Nat.ne_of_lt (LM.lt b hb))).mono (Nat.le_refl _)⟩
       ·go_simp;refine hK _ _ (ak bc _) ?_;try simp only [Act.put,pz]
        clear hK K;have hZ:w7.heap.size≤w7.drew.heap.size:=bc.size;have DE:=oG.new w7.drew [.slice none 0 0,.slice none 0 0,.int .i64 0,.int .i64 0,.int .i64 0,.int .i64 0] 29;replace bc:=ak bc (.cells ([.slice none 0 0,.slice none 0 0,.int .i64 0,.int .i64 0,.int .i64 0,.int .i64 0]:List Value).toArray 29);refine bP 5 Z U' Z (fun K hK=>?_);go_simp;refine (VE x _ _ nm _ (VW.out.ER bc) ZN.out).mono ?_;rw [Oc.out.2.2.2.2.1];rintro e wc ⟨es,Ge,rfl,LM,hbc⟩;dsimp only at LM ⊢;have hR:=LM.rd;obtain ⟨hT,chostsz,Fhostsz,Apodsz,cpodsz,Fpodsz,ax,hGz,hhostsz,hpodsz,hnextz,hweightspackz,hweightsspreadz,hweightssoftz⟩:=aO hR;subst ax;clear hGz hR hhostsz hpodsz hnextz hweightspackz hweightsspreadz hweightssoftz;have vc:=DE.ext hbc;replace bc:=ah bc hbc;refine hK _ _ bc ?_;try simp only [Act.put,pz]
        clear hK K;refine aX 6 _ Z U' H' bc W' ?_;try simp only [Act.put,pz]
        refine aX 7 _ Z U' H' bc W' ?_;try simp only [Act.put,pz]
        refine aX 8 _ Z U' H' bc W' ?_;try simp only [Act.put,pz]
        refine aX 9 _ Z U' H' bc W' ?_;try simp only [Act.put,pz]
        refine bP 11 Z U' Z (fun K hK=>?_);refine km 29 _ _ rfl _ 0 [.slice hT y.aa.length chostsz,.slice Apodsz y.J.length cpodsz,.int .i64 y.next,.int .i64 y.weights.pack,.int .i64 y.weights.af,.int .i64 y.weights.al] [.slice none 0 0,.slice none 0 0,.int .i64 0,.int .i64 0,.int .i64 0,.int .i64 0] Z (by first | rfl | (simp [Act.eval];done) | (simp [Act.eval];rfl)) vc S' U' e' ?_;intro wz YZ OZ;replace YZ:oG wz _ [.slice hT y.aa.length chostsz,.slice Apodsz y.J.length cpodsz,.int .i64 y.next,.int .i64 y.weights.pack,.int .i64 y.weights.af,.int .i64 y.weights.al]:=YZ;have dd:Below w7.heap.size w7 wz:=xw bc OZ hZ;refine hK _ _ dd ?_;try simp only [Act.put,pz]
        clear hK K;refine aX 12 _ Z U' H' dd W' ?_;try simp only [Act.put,pz]
        refine aX 13 _ Z U' H' dd W' ?_;try simp only [Act.put,pz]
        refine nR U' ?_;exact HK _ _ ⟨_,_,_,_,_,_,_,_,_,_,_,_,_,vd,dd,hZ,YZ,(LM.only OZ (fun b hb=>by have:=LM.base b hb;simp at this;have e:w7.drew.heap.size = w7.heap.size:=rfl;omega)).mono S'⟩
      rintro _ w8 ⟨pq,es,Ge,yW,yX,yZ,y',za,zb,zd,ze,zf,zg,rfl,kn,T',YE,hOE⟩;have tD:=I (ah pT.out kn);have HE8:=I hOE;have HYE:=I YE;have hR:=hOE.rd;obtain ⟨QJ,chostse,Fhostse,Apodse,cpodse,Fpodse,ax,hGe,hhostse,hpodse,hnexte,hweightspacke,hweightsspreade,hweightssofte⟩:=aO hR;subst ax;have k8:=N2.out.ext tD.out;have hk8:=k8.lt;have hzw8:bw < w8.heap.size:=(by have:=kn.size;omega);have n8:w8.cell? ⟨bw,ow+k,none⟩ = some (.string nm):=r' tD.out fv.out lI;have V0:=I (HQ5.out.ext tD.out);have HPY:=I (show (y.J.length:Int)≤1048576 by have:=Oc.out.2.2.1;omega);clear hGe hR hOE YE kn VW n7 pT hhostse hpodse hnexte hweightspacke hweightsspreade hweightssofte Od fy7_0 ky7_1 fy7_1 ky7_2 fy7_2 ky7_3 fy7_3 ky7_4 fy7_4 ky7_5 fy7_5;obtain ⟨Oe,fk8_0,kk8_1,fk8_1,kk8_2,fk8_2,kk8_3,fk8_3,kk8_4,fk8_4,kk8_5,fk8_5⟩:=l5 k8;clear k8;go_wp2_with fail
      refine zU w8 7 U' U' (aj _) ?_;have bc:Below w8.heap.size w8 w8.drew:=aA (aj _);refine aX 0 _ Z U' H' bc W' ?_;try simp only [Act.put,pz]
      refine aX 1 _ Z U' H' bc W' ?_;try simp only [Act.put,pz]
      refine aX 2 _ Z U' H' bc W' ?_;try simp only [Act.put,pz]
      refine aX 3 _ Z U' H' bc W' ?_;try simp only [Act.put,pz]
      refine aX 4 _ Z U' H' bc W' ?_;try simp only [Act.put,pz]
      refine bP 5 Z U' Z (fun K hK=>?_);go_simp;refine (uN y _ _ nm _ (V0.out.ER bc) HPY.out).mono ?_;rw [Oc.out.1];rintro e w9 ⟨rfl,hbc⟩;replace bc:=ah bc hbc;refine hK _ _ bc ?_;try simp only [Act.put,pz]
      clear hK K;refine aX 6 _ Z U' H' bc W' ?_;try simp only [Act.put,pz]
      refine nR U' ?_;have wX:=I (ah tD.out bc);have QK:=I (V0.out.ext bc);have HE9:=I (HE8.out.ext bc);have k9:=N2.out.ext wX.out;have e9:=HYE.out.ext bc;have hk9:=k9.lt;have he9:=e9.lt;have hzw9:bw < w9.heap.size:=(by have:=bc.size;omega);have n9:w9.cell? ⟨bw,ow+k,none⟩ = some (.string nm):=r' wX.out fv.out lI;obtain ⟨_,⟨hjy,ed⟩,hly,hlw,_,hGy⟩:=Oc.out;obtain ⟨FHy,FPy,_,hSy⟩:=aFG QK.out.rd;obtain ⟨bq,oq,ckq,Fkq,hAq,_,hbq,hrq,_,dP⟩:=hSy.get hjy;have hcapy:=hSy.aM;subst hAq;obtain ⟨zh,cpodlabelsq,Fpodlabelsq,Apodneedsq,cpodneedsq,Fpodneedsq,Apodtolerancesq,cpodtolerancesq,Fpodtolerancesq,ax,hFq,hpodnameq,hpodlabelsq,hpodcpuq,hpodmemq,hpodrankq,hpodneedsq,hpodtolerancesq,honq,hseqq⟩:=kE hrq;subst ax;have q7:w9.cell? ⟨bq,oq+j * 9+7,none⟩ = some (.string bs):=(by have h0:=dP 7 _ rfl;rw [← ed];rwa [show oq+(j * bk.size ag+7) = oq+j * 9+7 by show oq+(j * 9+7) = _;omega] at h0);have hjy2:(j:Int) < y.J.length:=O;have pZ:(0:Int)≤j:=O;have HLW:=I (show ((GI y.J).length:Int) = (GI x.J).length - 1 by omega);have HWY:=I (show (y.wt:Int)≤1048576 by have:=Qh hGy;omega);have Rr:=I (ayJ y);clear hrq hFq dP hSy ed hly hlw hGy bc hbc V0 HE8 HYE tD n8 Oe fk8_0 kk8_1 fk8_1 kk8_2 fk8_2 kk8_3 fk8_3 kk8_4 fk8_4 kk8_5 fk8_5;obtain ⟨Of,fk9_0,kk9_1,fk9_1,kk9_2,fk9_2,kk9_3,fk9_3,kk9_4,fk9_4,kk9_5,fk9_5⟩:=l5 k9;obtain ⟨Og,fe9_0,ke9_1,fe9_1,ke9_2,fe9_2,ke9_3,fe9_3,ke9_4,fe9_4,ke9_5,fe9_5⟩:=l5 e9;clear k9 e9;go_wp2_with fail
      refine (Xb y y _ _ _ _ w9 HE9.out.rd QK.out.rd HWY.out HWY.out).mono ?_;rw [Rr.out];rintro e iF ⟨rfl,fP⟩;have zj:=I (ah wX.out fP);have V5:=I (QK.out.ext fP);have V8:=N2.out.ext zj.out;have hk10:=V8.lt;clear fP wX QK HE9 n9 q7 Of fk9_0 kk9_1 fk9_1 kk9_2 fk9_2 kk9_3 fk9_3 kk9_4 fk9_4 kk9_5 fk9_5 Og fe9_0 ke9_1 fe9_1 ke9_2 fe9_2 ke9_3 fe9_3 ke9_4 fe9_4 ke9_5 fe9_5;obtain ⟨V',fk10_0,kk10_1,fk10_1,kk10_2,fk10_2,kk10_3,fk10_3,kk10_4,fk10_4,kk10_5,fk10_5⟩:=l5 V8;clear V8;go_wp2_with fail
      refine (UT y _ _ iF V5.out.rd HPY.out).mono ?_;have Wa:=HLW.out;generalize GI y.J = L2 at *;rintro e zu ⟨A11,c11,G11,rfl,_,lQ⟩;obtain ⟨L2n,hL2n⟩:∃q:Int,(L2.length:Int) = q:=⟨_,rfl⟩;have EM:wrap64 (((GI x.J).length:Int) - 1) = ((GI x.J).length:Int) - 1:=(by unfold wrap64;omega);clear hL2n;go_wp2;go_ret
      exact ⟨by simp [Wa],ah Xc.out (ah zj.out lQ)⟩
   ·have bz:k = (GI x.J).length:=O;subst bz;have se:¬((GI x.J).length:Int) < (GI x.J).length:=O;have e:=kX.out.symm.trans (pP HG.out HNT.out);simp only [Prod.mk.injEq] at e;obtain ⟨hy,j6,hhn,lj⟩:=e;subst hy j6 hhn;have Rr:=I (ayJ y);have HQr:=I (HQ5.out.ext iX.out);have kr:=N2.out.ext iX.out;have m':=kr.lt;obtain ⟨kkr_0,fkr_0,kkr_1,fkr_1,kkr_2,fkr_2,kkr_3,fkr_3,kkr_4,fkr_4,kkr_5,fkr_5⟩:=l5 kr;clear kr;by_cases h0:(GI y.J).length = 0
    ·rw [if_pos h0] at lj;subst lj;have O1:(((GI y.J).length:Int) == 0) = true:=(by rw [beq_iff_eq];omega);exact JB
    ·rw [if_neg h0] at lj;subst lj;have O1:(((GI y.J).length:Int) == 0) = false:=(by rw [beq_eq_false_iff_ne];omega);exact JB
theorem gX {H:Type} {enc:TypeId × Value→H} (W:World) (base:Nat) (args:Array Value) (ds:List (DataW H)) (p:List MemPlace)
 (Oh:∀(j:Nat) t v,Tryz.f5.params[j]? = some t→args[j]? = some v→Value.okWide Tryz.prog W .any base t v)
 (hA:DataW.TrodAll enc Tryz.prog W 0 (fun _=>true) true Tryz.f5.params.toList args.toList ds p) (ap:∀x∈p,x.block < W.heap.size) :
 Calls Tryz.prog 5 args W fun e W'=>e = .returned (.bool true)∧Below W.heap.size W W':=by
 rw [Tryz.params5] at hA Oh;obtain ⟨v0,JM,d0,ds0,p0,q0,xS,rfl,rfl,h0,r0⟩:=trodAll_cons hA;obtain ⟨rfl,rfl,rfl⟩:=trodAll_nil r0;obtain rfl:args = #[v0]:=by cases args;simp_all
 obtain ⟨fp,hf⟩:=h0;obtain ⟨xs,F,hr⟩:=yH Tryz.underlying22 rfl (aBV Tryz.underlying5) H enc W 0 fp _ _ _ _ hf;obtain ⟨A,c,hv,hS⟩:=jB hr;obtain ⟨B,n,d,rfl⟩:=okWide_slice Tryz.underlying22 (Oh 0 22 v0 rfl rfl);simp [Value.cells] at hv;obtain ⟨rfl,rfl,rfl⟩:=hv;exact walk xs B d F W hS
theorem Sg:ownKnob Tryz.prog.godebug = none:=by kernel_rfl
theorem Wb:laidOutB Tryz.prog = true:=by kernel_rfl
theorem tE:∀t∈Tryz.f5.params.toList,Tryz.prog.readableRec t = true∧t < Tryz.prog.types.size:=by
 have h:(Tryz.f5.params.toList.all fun t=>Tryz.prog.readableRec t&&decide (t < Tryz.prog.types.size)) = true:=by kernel_rfl
 intro t ht;have:=List.all_eq_true.1 h t ht;simpa using this
theorem fF {H:Type} {enc:TypeId × Value→H} {W:World} {args:List Value} {ds:List (DataW H)} {p:List MemPlace}
 (h:DataW.TrodAll enc Tryz.prog W 0 (fun _=>true) true Tryz.f5.params.toList args ds p):∃d0,ds = [d0]:=by
 rw [Tryz.params5] at h;obtain ⟨v0,JM,d0,ds0,p0,q0,_,rfl,_,_,r0⟩:=trodAll_cons h;obtain ⟨_,rfl,_⟩:=trodAll_nil r0;exact ⟨d0,rfl⟩
theorem DG (os:Os) (lO:os.Started) (H:Type) (enc:TypeId × Value→H) :
 ReturnsInHanded {} Tryz.checked os 5 .any (Rows.fnPlacesSpec.pre6 enc Tryz.prog Tryz.f5 Rows.fnPlacesRow.domain false) (Rows.fnPlacesSpec.post enc Tryz.prog Tryz.f5 false true false false):=by
 refine returnsInHanded_of_change (C:=Tryz.checked) Sg lO U' Tryz.func5
  (ChangeSpec.witness6 (enc:=enc) (C:=Tryz.checked) false ⟨#[],#[.slice none 0 0],[]⟩ 8 U' U' U' U') ?_
 intro W base args ds gs lB Oi hW hcnd _;have ap:∀x∈lB,x.block < W.heap.size:=fun x hx=>hW.lt x hx;have hW':=hW;obtain ⟨p,q,hA,hV,rfl,_,_⟩:=hW';exact (gX W base args ds p Oi hA (fun x hx=>ap x (List.mem_append_left _ hx))).mono fun e W' ⟨he,hb⟩ =>
  ⟨_,he,nO Wb tE rfl Tryz.underlying4 rfl auW hW hb⟩
theorem kA:Rows.fnPlacesRow.holds Tryz.pinned (OpenSpec.ofChange Rows.fnPlacesSpec) :=
 OpenClaim.holds_of_wide 5 Tryz.f5 rfl rfl rfl rfl rfl rfl rfl ⟨rfl,rfl,rfl,rfl,rfl⟩ rfl rfl rfl rfl rfl U' Tryz.func5 U'
  (of_decide_eq_true U') auf
  (fun os lO H enc _=>DG os lO H enc)
theorem proved:Rows.FnPlacesSaid :=
 kA
#print axioms proved
end Go.Proofs.YtjahcnjmjahbaaaGreat.fnPlaces
