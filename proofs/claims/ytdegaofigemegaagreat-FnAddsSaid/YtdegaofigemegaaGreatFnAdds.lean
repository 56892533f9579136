/- FnAdds: for all bytes: what was added is there once, what was removed is not; the pods of a host that goes wait again. No condition. -/
import Derived.Test.YtdegaofigemegaaGreatAppO
import Derived.StillTailTactics
namespace Go.Proofs.YtdegaofigemegaaGreat.fnAdds
open Go.ChangeShapes Go.WideShapes Go.ChangeAt Go.RowKit
set_option linter.unusedVariables false
set_option linter.unusedSimpArgs false
set_option maxHeartbeats 8000000
set_option maxRecDepth 100000
theorem Qj {nm:ByteArray} (h:Qs nm = true):nm≠⟨#[]⟩:=by
 rintro rfl;revert h;decide
theorem s9 {x y z:aU} {m:bN} {cd cz:Int} (G:Good x) (hx:x.next<=21) (hk:m.kind = 1) (hp:GU m.aS = true) (h1:mS x m = (y,cd)) (h2:Ut y m.aS.name = (z,cz)) :
 Good y/\Good z/\(Ut z m.aS.name).2 = 3/\((cd = 0/\pK (CG m.aS.name) x.M < 0/\x.M.length < 12/\0<=pK (CG m.aS.name) y.M/\cz = 0/\z.M.length = x.M.length/\y.next = x.next+1)∨(cd≠0/\pK (CG m.aS.name) x.M < 0/\12<=x.M.length)∨(cd≠0/\0<=pK (CG m.aS.name) x.M)):=by
 have e:mS x m = ff x m.aS:=by unfold mS;rw [if_pos hk]
 have Gy:Good y:=by have:=XQ G m;rw [h1] at this;exact this
 have Gz:Good z:=by have:=Xf Gy m.aS.name;rw [h2] at this;exact this
 have hn:=s0 Gy m.aS.name;rw [h2] at hn;obtain ⟨l1,l2⟩:=wh G hx hp;rw [<- e,h1] at l1 l2;dsimp only at l1 l2 hn;refine ⟨Gy,Gz,hn,?_⟩;by_cases hc:cd = 0
 ·obtain ⟨a1,a2⟩:=l1.1 hc;obtain ⟨b1,b2,b3⟩:=l2 hc;obtain ⟨c1,c2⟩:=qv Gy b1;rw [h2] at c1 c2;exact .inl ⟨hc,a1,a2,b1,c1,by dsimp only at c2;omega,b3⟩
 ·by_cases hi:pK (CG m.aS.name) x.M < 0
  ·refine .inr (.inl ⟨hc,hi,?_⟩);rcases Nat.lt_or_ge x.M.length 12 with h | h
   ·exact absurd (l1.2 ⟨hi,h⟩) hc
   ·exact h
  ·exact .inr (.inr ⟨hc,J⟩)
theorem rc {x y z:aU} {m:bN} {cd cz:Int} (G:Good x) (hk:m.kind = 2) (hp:Aj m.aD = true) (bI:m.aD.name≠⟨#[]⟩) (h1:mS x m = (y,cd)) (h2:Ko y m.aD.name = (z,cz)) :
 Good y/\Good z/\(Ko z m.aD.name).2 = 3/\(∀p∈z.M,p.on≠m.aD.name)/\z.M.length = y.M.length/\((cd = 0/\pK (iM m.aD.name) x.O < 0/\x.O.length < 8/\0<=pK (iM m.aD.name) y.O/\cz = 0/\z.O.length = x.O.length)∨(cd≠0/\pK (iM m.aD.name) x.O < 0/\8<=x.O.length)∨(cd≠0/\0<=pK (iM m.aD.name) x.O)):=by
 have e:mS x m = f' x m.aD:=by unfold mS;rw [if_neg J,if_pos hk]
 have Gy:Good y:=by have:=XQ G m;rw [h1] at this;exact this
 have Gz:Good z:=by have:=Xs Gy m.aD.name;rw [h2] at this;exact this
 have hn:=s4 Gy bI;rw [h2] at hn;obtain ⟨l1,l2⟩:=wj G hp;rw [<- e,h1] at l1 l2;dsimp only at l1 l2 hn;refine ⟨Gy,Gz,hn.1,hn.2.1,hn.2.2,?_⟩;by_cases hc:cd = 0
 ·obtain ⟨a1,a2⟩:=l1.1 hc;obtain ⟨b1,b2⟩:=l2 hc;obtain ⟨c1,c2⟩:=pc Gy b1;rw [h2] at c1 c2;exact .inl ⟨hc,a1,a2,b1,c1,by dsimp only at c2;omega⟩
 ·by_cases hi:pK (iM m.aD.name) x.O < 0
  ·refine .inr (.inl ⟨hc,hi,?_⟩);rcases Nat.lt_or_ge x.O.length 8 with h | h
   ·exact absurd (l1.2 ⟨hi,h⟩) hc
   ·exact h
  ·exact .inr (.inr ⟨hc,J⟩)
theorem walk (xs:List UInt8) (A:Option Addr) (cap:Nat) (F:List Nat) (w:World) (h:Sl w xs A cap F) :
 Calls Tryz.prog 3 #[.slice A xs.length cap] w λe w'=>e = .returned (.bool true)/\Below w.heap.size w w':=by
 have cC:=I (aAQ h);clear h;by_cases hbig:(1048576:Int) < xs.length
 ·have hd:decide ((1048576:Int) < xs.length) = true:=by simpa using hbig
  have HD:=I hd;clear hd hbig;go_enter Tryz.func3,Tryz.ntmps3;go_wp2_with fail
  refine (ayY _ _ _ _).mono ?_;rw [HD.out];rintro e w1 ⟨rfl,aR⟩;go_wp2;go_ret
  exact ⟨rfl,aR⟩
 ·have hd:decide ((1048576:Int) < xs.length) = false:=by simpa using hbig
  have HD:=I hd;have HN:=I (show (xs.length:Int)<=1048576 by omega);clear hd hbig;go_enter Tryz.func3,Tryz.ntmps3;go_wp2_with fail
  refine (ayY _ _ _ _).mono ?_;rw [HD.out];rintro e w1 ⟨rfl,aR⟩;go_wp2_with fail
  refine (l0 _ A xs.length cap HN.out (λk hk=>?_)).mono ?_
  ·obtain ⟨g,o,v,e,hg,hv,ic⟩:=cC.out k hk;exact ⟨g,o,v,e,Nat.lt_of_lt_of_le hg aR.size,(aR.cell (p:=⟨g,o+k,none⟩) hg).trans hv,ic⟩
  rintro e w2 ⟨x,cs,G,rfl,hO,⟨hG,eh⟩,am⟩;have Jf:=I eh;clear eh;have gL:Below w.heap.size w w2:=ah aR am;have hR:=hO.rd;obtain ⟨FL,ayW,aDE,aBb,aBd,aEE,ar,hGx,aDF,aEF,aEG,axh,aJM,axi⟩:=aO hR;subst ar;clear hGx hR;have HG:=I hG;have Ji:=I (show (x.M.length:Int)<=1048576 by have:=hG.xy;omega);have ZN:=I (show (x.wt:Int)<=1048576 by have:=IH hG;omega);have fp:=I gL;clear aR am hG gL HD;try dsimp only
  iterate 5 go_step
  refine ly 29 _ _ rfl w2.heap.size 0 [.slice FL x.O.length ayW,.slice aBb x.M.length aBd,.int .i64 x.next,.int .i64 x.weights.pack,.int .i64 x.weights.spread,.int .i64 x.weights.soft] [.slice none 0 0,.slice none 0 0,.int .i64 0,.int .i64 0,.int .i64 0,.int .i64 0] rfl rfl (oG.new w2 _ 29) S' U' fm ?_;intro w3 Y3 O3;replace Y3:oG w3 w2.heap.size [.slice FL x.O.length ayW,.slice aBb x.M.length aBd,.int .i64 x.next,.int .i64 x.weights.pack,.int .i64 x.weights.spread,.int .i64 x.weights.soft]:=Y3;have eB:w3.heap.size = w2.heap.size+1:=by rw [O3.size];simp
  have H9:=I hO.lt;have gN:=I ((hO.alloc (.cells ([.slice none 0 0,.slice none 0 0,.int .i64 0,.int .i64 0,.int .i64 0,.int .i64 0]:List Value).toArray 29)).only O3 (λb hb=>by have:=H9.out b hb;omega));have oL:=I (C' (ak fp.out (.cells ([.slice none 0 0,.slice none 0 0,.int .i64 0,.int .i64 0,.int .i64 0,.int .i64 0]:List Value).toArray 29)) O3 (by have:=fp.out.size;omega));have qq:=I Y3;have YI:w2.heap.size < w3.heap.size:=by omega
  obtain ⟨Pn,aB7,aB8,aB9,aCa,aCb,aCc,aCd,kY3_4,fY3_4,kY3_5,fY3_5⟩:=rL Y3;clear hO O3 fp Y3 eB;go_wp2_with fail
  refine (kI w3 A xs.length cap HN.out (λk hk=>?_)).mono ?_
  ·obtain ⟨g,o,v,e,hg,hv,ic⟩:=cC.out k hk;exact ⟨g,o,v,e,Nat.lt_of_lt_of_le hg oL.out.size,(oL.out.cell (p:=⟨g,o+k,none⟩) hg).trans hv,ic⟩
  rintro e w4 ⟨m,ms,Gmx,rfl,hOm,⟨Pp,BM⟩,bm⟩;have YJ:=hOm.rd;obtain ⟨lX,aHw,aBO,aHD,aHE,aCW,GR,G7,ayE,aHp,aHq,aBh,aHr,aHs,aBi,ar,uS,hkindm,aD7,aBP,aEN,aEO,aD8,aCX,ayF,aCY,aBj,aD9,aEa,aBQ,aBk⟩:=NS YJ;subst ar;have AJ:=I YJ;have PQ:=I (show (m.wt:Int)<=1048576 by omega);have YK:=I BM;clear uS YJ hOm Pp BM cC HN hkindm aD7 aBP aEN aEO aD8 aCX ayF aCY aBj aD9 aEa aBQ aBk;have ng:=I (gN.out.ext bm);have gY:=I (ah oL.out bm);have Y4:=qq.out.ext bm;have IY:=I Y4;have Wy:=bm.size;have YL:w2.heap.size < w4.heap.size:=by omega
  clear Pn aB7 aB8 aB9 aCa aCb aCc aCd kY3_4 fY3_4 kY3_5 fY3_5;obtain ⟨WS,aFf,aFg,aFh,aFi,aFj,aFk,aFl,kY4_4,fY4_4,kY4_5,fY4_5⟩:=rL Y4;clear bm gN oL qq Y4 YI;try dsimp only
  iterate 5 go_step
  refine ly 40 _ _ rfl w4.heap.size 0 [.int .i64 m.kind,.string m.aS.name,.slice lX m.aS.labels.length aHw,.int .i64 m.aS.aq,.int .i64 m.aS.mem,.int .i64 m.aS.av,.slice aHD m.aS.af.length aHE,.slice GR m.aS.ae.length G7,.string m.aD.name,.slice aHp m.aD.labels.length aHq,.int .i64 m.aD.aq,.int .i64 m.aD.mem,.int .i64 m.aD.slots,.slice aHr m.aD.aT.length aHs] [.int .i64 0,.string ⟨#[]⟩,.slice none 0 0,.int .i64 0,.int .i64 0,.int .i64 0,.slice none 0 0,.slice none 0 0,.string ⟨#[]⟩,.slice none 0 0,.int .i64 0,.int .i64 0,.int .i64 0,.slice none 0 0] rfl rfl (oG.new w4 _ 40) S' U' fm ?_;intro w5 M5 O5;replace M5:oG w5 w4.heap.size [.int .i64 m.kind,.string m.aS.name,.slice lX m.aS.labels.length aHw,.int .i64 m.aS.aq,.int .i64 m.aS.mem,.int .i64 m.aS.av,.slice aHD m.aS.af.length aHE,.slice GR m.aS.ae.length G7,.string m.aD.name,.slice aHp m.aD.labels.length aHq,.int .i64 m.aD.aq,.int .i64 m.aD.mem,.int .i64 m.aD.slots,.slice aHr m.aD.aT.length aHs]:=M5;have bu:Below w4.heap.size w4 w5:=C' (ak (aj w4) (.cells ([.int .i64 0,.string ⟨#[]⟩,.slice none 0 0,.int .i64 0,.int .i64 0,.int .i64 0,.slice none 0 0,.slice none 0 0,.string ⟨#[]⟩,.slice none 0 0,.int .i64 0,.int .i64 0,.int .i64 0,.slice none 0 0]:List Value).toArray 40)) O5 (Nat.le_refl _);have K0:=I (aZ AJ.out bu);have YN:=I M5;have YO:=M5.lt;clear M5 O5 AJ WS aFf aFg aFh aFi aFj aFk aFl kY4_4 fY4_4 kY4_5 fY4_5;have tj:=I (ng.out.ext bu);have HB5:=I (ah gY.out bu);have GC:=I (IY.out.ext bu);have YP:=GC.out.lt;clear bu ng gY IY Wy YL;have y5:=GC.out;have m5:=YN.out;obtain ⟨Qk,fy5_0,ky5_1,fy5_1,ky5_2,fy5_2,ky5_3,fy5_3,ky5_4,fy5_4,ky5_5,fy5_5⟩:=rL y5;obtain ⟨Ql,fm5_0,km5_1,fm5_1,km5_2,fm5_2,km5_3,fm5_3,km5_4,fm5_4,km5_5,fm5_5,km5_6,fm5_6,km5_7,fm5_7,km5_8,fm5_8,km5_9,fm5_9,km5_10,fm5_10,km5_11,fm5_11,km5_12,fm5_12,km5_13,fm5_13⟩:=ER m5;clear y5 m5;go_wp2_with fail
  refine (iu x _ _ m _ _ w5 tj.out.rd K0.out ZN.out PQ.out).mono ?_;clear Qk fy5_0 ky5_1 fy5_1 ky5_2 fy5_2 ky5_3 fy5_3 ky5_4 fy5_4 ky5_5 fy5_5;clear Ql fm5_0 km5_1 fm5_1 km5_2 fm5_2 km5_3 fm5_3 km5_4 fm5_4 km5_5 fm5_5 km5_6 fm5_6 km5_7 fm5_7 km5_8 fm5_8 km5_9 fm5_9 km5_10 fm5_10 km5_11 fm5_11 km5_12 fm5_12 km5_13 fm5_13;obtain ⟨RR,qz⟩:∃RR,mS x m = RR:=⟨_,rfl⟩;rw [qz];obtain ⟨y,cd⟩:=RR;have ik:=I qz;clear qz K0 PQ ZN;rintro e w6 ⟨aaJ,Gx6,rfl,hO,ev⟩;dsimp only at hO |-;have hR:=hO.rd;obtain ⟨Ac,chostsy,Fhostsy,Apodsy,cpodsy,Fpodsy,ar,hGy,hhostsy,hpodsy,hnexty,hweightspacky,hweightsspready,hweightssofty⟩:=aO hR;subst ar;clear hGy hR hhostsy hpodsy hnexty hweightspacky hweightsspready hweightssofty;have I1:=I hO;have SR:=I (oG.new w6 [.slice Ac y.O.length chostsy,.slice Apodsy y.M.length cpodsy,.int .i64 y.next,.int .i64 y.weights.pack,.int .i64 y.weights.spread,.int .i64 y.weights.soft] 29);clear hO;have SU:=I (ah HB5.out ev);have B9:=I (tj.out.ext ev);have GD:=I (GC.out.ext ev);have xP:=I (YN.out.ext ev);have Qm:=GD.out.lt;have Qn:=xP.out.lt;clear ev HB5 tj GC YN;clear YP YO;rcases YK.out with ⟨hk,hpr,_⟩ | ⟨hk,hhr,_⟩
  ·
   obtain ⟨RR,qz⟩:∃RR,Ut y m.aS.name = RR:=⟨_,rfl⟩;obtain ⟨z,cz⟩:=RR;have jp:=I (s9 HG.out Jf.out hk hpr ik.out qz);have Qo:=I qz;have B6:(m.kind == 1) = true:=(by rw [hk];rfl);have YQ:=I (show (y.wt:Int)<=1048576 by have:=IH jp.out.1;omega);have YR:=I (show (z.wt:Int)<=1048576 by have:=IH jp.out.2.1;omega);clear hk hpr qz ik YK;obtain ⟨ka,fa,kb,fb⟩:=c'2 xP.out;go_wp2_with fail
   refine (afT y _ _ m.aS.name _ (I1.out.P5 (ak (aj _) _)) YQ.out).mono ?_;rw [Qo.out];rintro e w7 ⟨YS,Gx7,rfl,hO,bw⟩;dsimp only at hO |-;have hR:=hO.rd;obtain ⟨nL,chostsz,Fhostsz,Apodsz,cpodsz,Fpodsz,ar,hGz,hhostsz,hpodsz,hnextz,hweightspackz,hweightsspreadz,hweightssoftz⟩:=aO hR;subst ar;clear hGz hR hhostsz hpodsz hnextz hweightspackz hweightsspreadz hweightssoftz;have GQ:=I hO;have Qp:=I (oG.new w7 [.slice nL z.O.length chostsz,.slice Apodsz z.M.length cpodsz,.int .i64 z.next,.int .i64 z.weights.pack,.int .i64 z.weights.spread,.int .i64 z.weights.soft] 29);have GS:=I (SR.out.ext bw);have GV:=GS.out.lt;replace bw:Below w6.heap.size w6 w7:=ah (ak (aj _) _) bw;clear hO SR Qo ka fa kb fb;have Qq:=I (ah SU.out bw);have Qr:=I (B9.out.ext bw);have Qt:=I (I1.out.ext bw);have GW:=I (GD.out.ext bw);have wR:=I (xP.out.ext bw);have GY:=GW.out.lt;have Hb:=wR.out.lt;clear bw SU B9 I1 GD xP;clear Qm Qn;have kb:=wR.out.cell (i:=1) (u:=.string m.aS.name) rfl;have fb:=wR.out.fz 1;go_wp2_with fail
   refine (afT z _ _ m.aS.name _ (GQ.out.P5 (ak (aj _) _)) YR.out).mono ?_;obtain ⟨RV,hRV⟩:∃RV,Ut z m.aS.name = RV:=⟨_,rfl⟩;have nP:=jp.out.2.2.1;rw [hRV] at nP |-;obtain ⟨v,cv⟩:=RV;dsimp only at nP;subst nP;clear hRV;rintro e w8 ⟨YT,Gx8,rfl,hO,d8⟩;dsimp only at hO |-;have hR:=hO.rd;obtain ⟨Ad,chostsv,Fhostsv,Apodsv,cpodsv,Fpodsv,ar,hGv,hhostsv,hpodsv,hnextv,hweightspackv,hweightsspreadv,hweightssoftv⟩:=aO hR;subst ar;clear hGv hR hhostsv hpodsv hnextv hweightspackv hweightsspreadv hweightssoftv;have Ae:=I (Qp.out.ext d8);have YV:=Ae.out.lt;replace d8:Below w7.heap.size w7 w8:=ah (ak (aj _) _) d8;clear hO Qp kb fb;have pC:=I (ah Qq.out d8);have I2:=I (Qr.out.ext d8);have Qu:=I (Qt.out.ext d8);have HZ8:=I (GQ.out.ext d8);have Cn:=I (GW.out.ext d8);have Af:=I (wR.out.ext d8);have Hc:=I (GS.out.ext d8);have YW:=Cn.out.lt;have YY:=Af.out.lt;have YZ:=Hc.out.lt;clear d8 Qq Qr Qt GQ GW wR GS;clear GY Hb GV;obtain ⟨xL,aAC,aAD,aAE,aAF,aAG,aAH,aAI,aAJ,aAK,aAL,aAM⟩:=rL Cn.out;have kc:=Af.out.cell (i:=1) (u:=.string m.aS.name) rfl;have fc:=Af.out.fz 1;go_wp2_with fail
   refine (AE x _ _ m.aS.name _ (I2.out.P5 (ak (aj _) _)) Ji.out).mono ?_;obtain ⟨i1,EQ⟩:∃i,pK (CG m.aS.name) x.M = i:=⟨_,rfl⟩;have Qw:=jp.out.2.2.2;rw [EQ] at Qw |-;rintro e w9 ⟨rfl,xB⟩;replace xB:Below w8.heap.size w8 w9:=ah (ak (aj _) _) xB;clear xL aAC aAD aAE aAF aAG aAH aAI aAJ aAK aAL aAM;clear kc fc EQ;have QX:=I (ah pC.out xB);have lj:=I (I2.out.ext xB);have Y0:=I (Qu.out.ext xB);have wS:=I (Cn.out.ext xB);have Hd:=I (Af.out.ext xB);have uc:=I (Hc.out.ext xB);have yl:=I (Ae.out.ext xB);have Y1:=wS.out.lt;have Y9:=Hd.out.lt;have Za:=uc.out.lt;have Zc:=yl.out.lt;clear xB pC I2 Qu Cn Af Hc Ae;have Qx:=wS.out.cell (i:=1) (u:=.slice aBb x.M.length aBd) rfl;have Qy:=wS.out.fz 1;rcases Qw with ⟨h1,h2,h3,h4,h5,h6,h7⟩ | ⟨h1,h2,h3⟩ | ⟨h1,h2⟩
   ·subst h1;subst h5;obtain ⟨i2,xN⟩:∃i,pK (CG m.aS.name) y.M = i:=⟨_,rfl⟩;have Zd:=I xN;rw [xN] at h4;have d1:decide (i1 < 0) = true:=(by simpa using h2);have d2:decide ((x.M.length:Int) < 12) = true:=(by rw [decide_eq_true_eq];omega);have d3:decide (0<=i2) = true:=(by simpa using h4);have d4:((z.M.length:Int) == (x.M.length:Int)) = true:=(by rw [beq_iff_eq];omega);have zp:=HG.out.n1;have yX:=Jf.out;have d5:wrap64 (x.next+1) = x.next+1:=(by unfold wrap64;omega);have d7:(y.next == x.next+1) = true:=(by rw [beq_iff_eq];exact h7);clear h7 zp yX;clear h2 h3 h6 xN;obtain ⟨wT,fkn_0,rq,ru,kkn_2,fkn_2,kkn_3,fkn_3,kkn_4,fkn_4,kkn_5,fkn_5⟩:=rL uc.out;have kc:=Hd.out.cell (i:=1) (u:=.string m.aS.name) rfl;have fc:=Hd.out.fz 1;go_wp2_with fail
    refine (AE y _ _ m.aS.name w9 Y0.out.rd (by have:=jp.out.1.xy;omega)).mono ?_;rw [Zd.out];rintro e wa ⟨rfl,hba⟩;clear Qx Qy;clear wT fkn_0 rq ru kkn_2 fkn_2 kkn_3 fkn_3 kkn_4 fkn_4 kkn_5 fkn_5;clear kc fc;have Zf:=I (ah QX.out hba);have Ag:=I (wS.out.ext hba);have Hh:=I (uc.out.ext hba);have I3:=I (yl.out.ext hba);have Zg:=Ag.out.lt;have Zh:=Hh.out.lt;have Zo:=I3.out.lt;clear hba QX wS uc yl;have aaf:=Ag.out.cell (i:=1) (u:=.slice aBb x.M.length aBd) rfl;have aah:=Ag.out.fz 1;have aaq:=Ag.out.cell (i:=2) (u:=.int .i64 x.next) rfl;have aar:=Ag.out.fz 2;have aas:=Hh.out.cell (i:=2) (u:=.int .i64 y.next) rfl;have aat:=Hh.out.fz 2;have QA:=I3.out.cell (i:=1) (u:=.slice Apodsz z.M.length cpodsz) rfl;have QB:=I3.out.fz 1;go_wp2;go_ret
    exact ⟨by first | rfl | simp,Zf.out⟩
   ·have d0:(cd == 0) = false:=(by rw [beq_eq_false_iff_ne];exact h1);have Zq:(cd != 0) = true:=(by rw [bne_iff_ne];exact h1);have d1:decide (i1 < 0) = true:=(by simpa using h2);have d2:decide ((x.M.length:Int) < 12) = false:=(by rw [decide_eq_false_iff_not];omega);clear h1 h2 h3;exact DD
   ·have d0:(cd == 0) = false:=(by rw [beq_eq_false_iff_ne];exact h1);have Zq:(cd != 0) = true:=(by rw [bne_iff_ne];exact h1);have d1:decide (i1 < 0) = false:=(by rw [decide_eq_false_iff_not];omega);clear h1 h2;exact DD
  ·
   obtain ⟨RR,qz⟩:∃RR,Ko y m.aD.name = RR:=⟨_,rfl⟩;obtain ⟨z,cz⟩:=RR;have bI:m.aD.name≠⟨#[]⟩:=by unfold Aj at hhr;simp only [Bool.and_eq_true] at hhr;exact Qj (by simp_all)
   have jp:=I (rc HG.out hk hhr bI ik.out qz);have Qo:=I qz;have B6:(m.kind == 1) = false:=(by rw [hk];rfl);have YQ:=I (show (y.wt:Int)<=1048576 by have:=IH jp.out.1;omega);have YR:=I (show (z.wt:Int)<=1048576 by have:=IH jp.out.2.1;omega);clear hk hhr bI qz ik YK;have ka:=xP.out.cell (i:=0) (u:=.int .i64 m.kind) rfl;have fa:=xP.out.fz 0;have kb:=xP.out.cell (i:=8) (u:=.string m.aD.name) rfl;have fb:=xP.out.fz 8;go_wp2_with fail
   refine (ah3 y _ _ m.aD.name _ (I1.out.P5 (ak (aj _) _)) YQ.out).mono ?_;rw [Qo.out];rintro e w7 ⟨YS,Gx7,rfl,hO,bw⟩;dsimp only at hO |-;have hR:=hO.rd;obtain ⟨nL,chostsz,Fhostsz,Apodsz,cpodsz,Fpodsz,ar,hGz,hhostsz,hpodsz,hnextz,hweightspackz,hweightsspreadz,hweightssoftz⟩:=aO hR;subst ar;clear hGz hR hhostsz hpodsz hnextz hweightspackz hweightsspreadz hweightssoftz;have GQ:=I hO;have Qp:=I (oG.new w7 [.slice nL z.O.length chostsz,.slice Apodsz z.M.length cpodsz,.int .i64 z.next,.int .i64 z.weights.pack,.int .i64 z.weights.spread,.int .i64 z.weights.soft] 29);have GS:=I (SR.out.ext bw);have GV:=GS.out.lt;replace bw:Below w6.heap.size w6 w7:=ah (ak (aj _) _) bw;clear hO SR Qo ka fa kb fb;have Qq:=I (ah SU.out bw);have Qr:=I (B9.out.ext bw);have Qt:=I (I1.out.ext bw);have GW:=I (GD.out.ext bw);have wR:=I (xP.out.ext bw);have GY:=GW.out.lt;have Hb:=wR.out.lt;clear bw SU B9 I1 GD xP;clear Qm Qn;have kb:=wR.out.cell (i:=8) (u:=.string m.aD.name) rfl;have fb:=wR.out.fz 8;go_wp2_with fail
   refine (ah3 z _ _ m.aD.name _ (GQ.out.P5 (ak (aj _) _)) YR.out).mono ?_;obtain ⟨RV,hRV⟩:∃RV,Ko z m.aD.name = RV:=⟨_,rfl⟩;have nP:=jp.out.2.2.1;rw [hRV] at nP |-;obtain ⟨v,cv⟩:=RV;dsimp only at nP;subst nP;clear hRV;rintro e w8 ⟨YT,Gx8,rfl,hO,d8⟩;dsimp only at hO |-;have hR:=hO.rd;obtain ⟨Ad,chostsv,Fhostsv,Apodsv,cpodsv,Fpodsv,ar,hGv,hhostsv,hpodsv,hnextv,hweightspackv,hweightsspreadv,hweightssoftv⟩:=aO hR;subst ar;clear hGv hR hhostsv hpodsv hnextv hweightspackv hweightsspreadv hweightssoftv;have Ae:=I (Qp.out.ext d8);have YV:=Ae.out.lt;replace d8:Below w7.heap.size w7 w8:=ah (ak (aj _) _) d8;clear hO Qp kb fb;have pC:=I (ah Qq.out d8);have I2:=I (Qr.out.ext d8);have Qu:=I (Qt.out.ext d8);have HZ8:=I (GQ.out.ext d8);have Cn:=I (GW.out.ext d8);have Af:=I (wR.out.ext d8);have Hc:=I (GS.out.ext d8);have YW:=Cn.out.lt;have YY:=Af.out.lt;have YZ:=Hc.out.lt;clear d8 Qq Qr Qt GQ GW wR GS;clear GY Hb GV;obtain ⟨FHz,FPz,_,hSz⟩:=aFG HZ8.out.rd;have vK:=I hSz;have hpz:=jp.out.2.1.xy;have HON:=I jp.out.2.2.2.1;clear hSz;have QD:=Ae.out.cell (i:=1) (u:=.slice Apodsz z.M.length cpodsz) rfl;have QE:=Ae.out.fz 1;go_wp2_with fail
   go_loopw [15] (λi wr=>∃j:Nat,i = .int .i64 j/\j<=z.M.length/\Below w8.heap.size w8 wr) (λi _=>z.M.length - (intOf i).toNat)
   case atStart=>exact ⟨0,rfl,Nat.zero_le _,ak (aj _) _⟩
   case round =>
    obtain ⟨j,rfl,hj,bC⟩:=hrel;have GO:=I bC;clear QD QE;have HBr:=I (ah pC.out bC);have HOr:=I (I2.out.ext bC);have HQr:=I (Qu.out.ext bC);have SV:=I (Cn.out.ext bC);have Hi:=I (Af.out.ext bC);have Zr:=I (Hc.out.ext bC);have QF:=I (Ae.out.ext bC);have aaL:=SV.out.lt;have aaM:=Hi.out.lt;have aaN:=Zr.out.lt;have aaO:=QF.out.lt;clear bC pC I2 Qu Cn Af Hc Ae;have aaP:=GO.out.size;have QG:=QF.out.cell (i:=1) (u:=.slice Apodsz z.M.length cpodsz) rfl;have QH:=QF.out.fz 1;have kb:=Hi.out.cell (i:=8) (u:=.string m.aD.name) rfl;have fb:=Hi.out.fz 8;by_cases hjt:j < z.M.length
    ·obtain ⟨bp,op,ckp,Fkp,hAp,_,axV,QS,_,BY⟩:=vK.out.get hjt;obtain ⟨Co,cpodlabelsp,Fpodlabelsp,Apodneedsp,cpodneedsp,Fpodneedsp,Apodtolerancesp,cpodtolerancesp,Fpodtolerancesp,ar,hFp,hpodnamep,hpodlabelsp,hpodcpup,hpodmemp,hpodrankp,hpodneedsp,hpodtolerancesp,honp,hseqp⟩:=kE QS;subst ar;subst hAp;obtain ⟨s1,cS⟩:∃s,z.M[j].on = s:=⟨_,rfl⟩;have c7:wr.cell? ⟨bp,op+j * 9+7,none⟩ = some (.string s1):=(by have h0:=BY 7 _ rfl;rw [<- cS];exact (GO.out.cell (p:=⟨bp,op+j * 9+7,none⟩) axV).trans (by rwa [show op+(j * ax.size ag+7) = op+j * 9+7 by show op+(j * 9+7) = _;omega] at h0));have xm:(s1.toList == m.aD.name.toList) = false:=by
      have hn:=HON.out _ (List.getElem_mem hjt);rw [cS] at hn;rw [Bool.eq_false_iff,ne_eq,beq_iff_eq];exact λe=>hn (Ce (by rw [beq_iff_eq];exact e))
     have hzp:bp < wr.heap.size:=J;have aau:=vK.out.cap;have nr:(j:Int) < z.M.length:=J;clear QS BY hFp cS;go_wp2_with fail
     refine zU wr 10 U' U' (aj _) ?_;have bo:Below wr.heap.size wr wr.drew:=aA (aj _);refine aX 0 _ J' U' H' bo W' ?_;try simp only [Act.put,pz]
     refine aX 1 _ J' U' H' bo W' ?_;try simp only [Act.put,pz]
     refine aX 2 _ J' U' H' bo W' ?_;try simp only [Act.put,pz]
     refine aX 3 _ J' U' H' bo W' ?_;try simp only [Act.put,pz]
     refine aX 4 _ J' U' H' bo W' ?_;try simp only [Act.put,pz]
     refine aX 5 _ J' U' H' bo W' ?_;try simp only [Act.put,pz]
     refine aX 6 _ J' U' H' bo W' ?_;try simp only [Act.put,pz]
     refine aX 7 _ J' U' H' bo W' ?_;try simp only [Act.put,pz]
     refine aX 8 _ J' U' H' bo W' ?_;try simp only [Act.put,pz]
     refine aX 9 _ J' U' H' bo W' ?_;try simp only [Act.put,pz]
     refine nR U' ?_;go_wp2;exact ⟨⟨j+1,N',J,ah GO.out bo⟩,by simp only [intOf];omega⟩
    ·have nr:¬(j:Int) < z.M.length:=J;obtain ⟨xL,aAC,aAD,aAE,aAF,aAG,aAH,aAI,aAJ,aAK,aAL,aAM⟩:=rL SV.out;have kc:=Hi.out.cell (i:=8) (u:=.string m.aD.name) rfl;have fc:=Hi.out.fz 8;go_wp2_with fail
     refine (gQ x _ _ m.aD.name _ (HOr.out.rd) (by have:=HG.out.h8;omega)).mono ?_;obtain ⟨i1,EQ⟩:∃i,pK (iM m.aD.name) x.O = i:=⟨_,rfl⟩;have Qw:=jp.out.2.2.2.2.2;rw [EQ] at Qw |-;rintro e w9 ⟨rfl,xB⟩;clear xL aAC aAD aAE aAF aAG aAH aAI aAJ aAK aAL aAM;clear kc fc EQ;clear QG QH kb fb;have QX:=I (ah HBr.out xB);have lj:=I (HOr.out.ext xB);have Y0:=I (HQr.out.ext xB);have wS:=I (SV.out.ext xB);have Hd:=I (Hi.out.ext xB);have uc:=I (Zr.out.ext xB);have yl:=I (QF.out.ext xB);have Y1:=wS.out.lt;have Y9:=Hd.out.lt;have Za:=uc.out.lt;have Zc:=yl.out.lt;clear xB HBr HOr HQr SV Hi Zr QF;have mU:=jp.out.2.2.2.2.1;have hpe:((z.M.length:Int) == (y.M.length:Int)) = true:=(by rw [beq_iff_eq];omega);clear mU;have QI:=wS.out.cell (i:=0) (u:=.slice FL x.O.length ayW) rfl;have QJ:=wS.out.fz 0;rcases Qw with ⟨h1,h2,h3,h4,h5,h6⟩ | ⟨h1,h2,h3⟩ | ⟨h1,h2⟩
     ·subst h1;subst h5;obtain ⟨i2,xN⟩:∃i,pK (iM m.aD.name) y.O = i:=⟨_,rfl⟩;have Zd:=I xN;rw [xN] at h4;have d1:decide (i1 < 0) = true:=(by simpa using h2);have d2:decide ((x.O.length:Int) < 8) = true:=(by rw [decide_eq_true_eq];omega);have d3:decide (0<=i2) = true:=(by simpa using h4);have d4:((z.O.length:Int) == (x.O.length:Int)) = true:=(by rw [beq_iff_eq];omega);clear h2 h3 h6 xN;obtain ⟨wT,fkn_0,rq,ru,kkn_2,fkn_2,kkn_3,fkn_3,kkn_4,fkn_4,kkn_5,fkn_5⟩:=rL uc.out;have kc:=Hd.out.cell (i:=8) (u:=.string m.aD.name) rfl;have fc:=Hd.out.fz 8;go_wp2_with fail
      refine (gQ y _ _ m.aD.name w9 Y0.out.rd (by have:=jp.out.1.h8;omega)).mono ?_;rw [Zd.out];rintro e wa ⟨rfl,hba⟩;clear QI QJ;clear wT fkn_0 rq ru kkn_2 fkn_2 kkn_3 fkn_3 kkn_4 fkn_4 kkn_5 fkn_5;clear kc fc;have Zf:=I (ah QX.out hba);have Ag:=I (wS.out.ext hba);have Hh:=I (uc.out.ext hba);have I3:=I (yl.out.ext hba);have Zg:=Ag.out.lt;have Zh:=Hh.out.lt;have Zo:=I3.out.lt;clear hba QX wS uc yl;have aav:=Ag.out.cell (i:=0) (u:=.slice FL x.O.length ayW) rfl;have aaw:=Ag.out.fz 0;have aax:=Hh.out.cell (i:=1) (u:=.slice Apodsy y.M.length cpodsy) rfl;have aay:=Hh.out.fz 1;obtain ⟨aaz,fla_0,QA,QB⟩:=c'2 I3.out;go_wp2;go_ret
      exact ⟨by first | rfl | simp,Zf.out⟩
     ·have d0:(cd == 0) = false:=(by rw [beq_eq_false_iff_ne];exact h1);have Zq:(cd != 0) = true:=(by rw [bne_iff_ne];exact h1);have d1:decide (i1 < 0) = true:=(by simpa using h2);have d2:decide ((x.O.length:Int) < 8) = false:=(by rw [decide_eq_false_iff_not];omega);clear h1 h2 h3;exact LO
     ·have d0:(cd == 0) = false:=(by rw [beq_eq_false_iff_ne];exact h1);have Zq:(cd != 0) = true:=(by rw [bne_iff_ne];exact h1);have d1:decide (i1 < 0) = false:=(by rw [decide_eq_false_iff_not];omega);clear h1 h2;exact LO
theorem gX {H:Type} {enc:TypeId × Value->H} (W:World) (base:Nat) (args:Array Value) (ds:List (DataW H)) (p:List MemPlace)
 (hval:∀(j:Nat) t v,Tryz.f3.params[j]? = some t->args[j]? = some v->Value.okWide Tryz.prog W .any base t v)
 (hA:DataW.TrodAll enc Tryz.prog W 0 (λ_=>true) true Tryz.f3.params.toList args.toList ds p) (ap:∀x∈p,x.block < W.heap.size) :
 Calls Tryz.prog 3 args W λe W'=>e = .returned (.bool true)/\Below W.heap.size W W':=by
 rw [Tryz.params3] at hA hval;obtain ⟨v0,JM,d0,ds0,p0,q0,Be,rfl,rfl,h0,r0⟩:=trodAll_cons hA;obtain ⟨rfl,rfl,rfl⟩:=trodAll_nil r0;obtain rfl:args = #[v0]:=by cases args;simp_all
 obtain ⟨fY,hf⟩:=h0;obtain ⟨xs,F,hr⟩:=yH Tryz.underlying22 rfl (aBV Tryz.underlying5) H enc W 0 fY _ _ _ _ hf;obtain ⟨A,c,hv,hS⟩:=jB hr;obtain ⟨B,n,d,rfl⟩:=okWide_slice Tryz.underlying22 (hval 0 22 v0 rfl rfl);simp [Value.cells] at hv;obtain ⟨rfl,rfl,rfl⟩:=hv;exact walk xs B d F W hS
theorem own:ownKnob Tryz.prog.godebug = none:=by kernel_rfl
theorem laid:laidOutB Tryz.prog = true:=by kernel_rfl
theorem readable:∀t∈Tryz.f3.params.toList,Tryz.prog.readableRec t = true/\t < Tryz.prog.types.size:=by
 have h:(Tryz.f3.params.toList.all λt=>Tryz.prog.readableRec t&&decide (t < Tryz.prog.types.size)) = true:=by kernel_rfl
 intro t ht;have:=List.all_eq_true.1 h t ht;simpa using this
theorem fF {H:Type} {enc:TypeId × Value->H} {W:World} {args:List Value} {ds:List (DataW H)} {p:List MemPlace}
 (h:DataW.TrodAll enc Tryz.prog W 0 (λ_=>true) true Tryz.f3.params.toList args ds p):∃d0,ds = [d0]:=by
 rw [Tryz.params3] at h;obtain ⟨v0,JM,d0,ds0,p0,q0,_,rfl,_,_,r0⟩:=trodAll_cons h;obtain ⟨_,rfl,_⟩:=trodAll_nil r0;exact ⟨d0,rfl⟩
theorem lifted (os:Os) (started:os.Started) (H:Type) (enc:TypeId × Value->H) :
 ReturnsInHanded {} Tryz.checked os 3 .any (Rows.fnAddsSpec.pre6 enc Tryz.prog Tryz.f3 Rows.fnAddsRow.domain false) (Rows.fnAddsSpec.post enc Tryz.prog Tryz.f3 false true false false):=by
 refine returnsInHanded_of_change (C:=Tryz.checked) own started U' Tryz.func3
  (ChangeSpec.witness6 (enc:=enc) (C:=Tryz.checked) false ⟨#[],#[.slice none 0 0],[]⟩ 8 U' U' U' U') ?_
 intro W base args ds gs before QK hW hcnd _;have ap:∀x∈before,x.block < W.heap.size:=λx hx=>hW.lt x hx;have hW':=hW;obtain ⟨p,q,hA,hV,rfl,_,_⟩:=hW';exact (gX W base args ds p QK hA (λx hx=>ap x (List.mem_append_left _ hx))).mono λe W' ⟨he,hb⟩ =>
  ⟨_,he,nO laid readable rfl Tryz.underlying4 rfl auW hW hb⟩
theorem over:Rows.fnAddsRow.holds Tryz.pinned (OpenSpec.ofChange Rows.fnAddsSpec) :=
 OpenClaim.holds_of_wide 3 Tryz.f3 rfl rfl rfl rfl rfl rfl rfl ⟨rfl,rfl,rfl,rfl,rfl⟩ rfl rfl rfl rfl rfl U' Tryz.func3 U'
  (of_decide_eq_true U') auf
  (λos started H enc _=>lifted os started H enc)
theorem proved:Rows.FnAddsSaid :=
 over
#print axioms proved
end Go.Proofs.YtdegaofigemegaaGreat.fnAdds
