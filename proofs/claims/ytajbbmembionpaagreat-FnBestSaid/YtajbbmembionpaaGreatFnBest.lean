/- FnBest: for all bytes: the best host is one that the pod fits on, has the greatest mark, and the least name among those. No condition. -/
import Derived.Test.YtajbbmembionpaaGreatDrawC
import Derived.Test.YtajbbmembionpaaGreatDrawA6
import Derived.StillTailTactics
namespace Go.Proofs.YtajbbmembionpaaGreat.fnBest
open Go.ChangeShapes Go.WideShapes Go.ChangeAt Go.RowKit
set_option linter.unusedVariables false
set_option linter.unusedSimpArgs false
set_option maxHeartbeats 8000000
set_option maxRecDepth 100000
theorem tg {x:aU} {p:nI} {hd:ByteArray} {tl:List ByteArray} (h:Jh x p = hd :: tl) {a:ByteArray} (ha:a∈Ar x p x.aa):uH a x p≤uH hd x p∧(uH a x p = uH hd x p→Op.bytesLess a.toList hd.toList = false):=by
 have hm:a∈Jh x p:=by unfold Jh;exact (Z8 (lt:=kS (CV x p)) (Ar x p x.aa) []).mem_iff.2 (by simpa using ha)
 have hs:bL (kS (CV x p)) (Jh x p):=yc (Ra x p) _ _ List.Pairwise.nil;have hn:kS (CV x p) a hd = false:=by
  rw [h] at hm hs;rcases List.mem_cons.1 hm with rfl | hm
  ·exact (Ra x p).pp _
  ·exact (List.pairwise_cons.1 hs).1 a hm
 have hr:=Nt x p a hd;rw [hn] at hr;have pF:¬(uH hd x p < uH a x p∨(uH a x p = uH hd x p∧Op.bytesLess a.data.toList hd.data.toList = true)):=fun hh=>by have:=hr.2 hh;cases this
 refine ⟨J,fun he=>?_⟩;rw [ByteArray.toList_eq,ByteArray.toList_eq];cases hb:Op.bytesLess a.data.toList hd.data.toList with
 | false=>rfl
 | true=>exact absurd (.inr ⟨he,hb⟩) pF
theorem qi {x:aU} {p:nI} {hd:ByteArray} {tl:List ByteArray} (h:Jh x p = hd :: tl):oH hd x p = 0:=by
 obtain ⟨_,_,_,hr⟩:=Ys (x:=x) (p:=p) (nm:=hd) (by rw [h];exact List.mem_cons_self);exact hr
theorem po {w:World} {xs:List ByteArray} {A:Option Addr} {c:Nat} {F:List Nat} (h:Sl w xs A c F) {k:Nat} (hk:k < xs.length) :
 ∃b o,A = some ⟨b,o,none⟩∧b < w.heap.size∧w.cell? ⟨b,o+k,none⟩ = some (.string xs[k]):=by
 obtain ⟨b,o,ck,Fk,hA,_,hb,hr,_,hc⟩:=h.get hk;have c1:=hc 0 (.string xs[k]) (by rw [hr.1];rfl);rw [show o+(k * ba.size ByteArray+0) = o+k by show o+(k * 1+0) = o+k;omega] at c1;exact ⟨b,o,hA,hb,c1⟩
theorem walk (xs:List UInt8) (A:Option Addr) (cap:Nat) (F:List Nat) (w:World) (h:Sl w xs A cap F) :
 Calls Tryz.prog 5 #[.slice A xs.length cap] w fun e w'=>e = .returned (.bool true)∧Below w.heap.size w w':=by
 have cE:=I (aAQ h);clear h;by_cases hbig:(1048576:Int) < xs.length
 ·have hd:decide ((1048576:Int) < xs.length) = true:=by simpa using hbig
  have HD:=I hd;clear hd hbig;go_enter Tryz.func5,Tryz.ntmps5;go_wp2_with fail
  refine (ZQ _ _ _ _).mono ?_;rw [HD.out];rintro e w1 ⟨rfl,bo⟩;go_wp2;go_ret
  exact ⟨rfl,bo⟩
 ·have hd:decide ((1048576:Int) < xs.length) = false:=by simpa using hbig
  have HD:=I hd;have HN:=I (show (xs.length:Int)≤1048576 by omega);clear hd hbig;go_enter Tryz.func5,Tryz.ntmps5;go_wp2_with fail
  refine (ZQ _ _ _ _).mono ?_;rw [HD.out];rintro e w1 ⟨rfl,bo⟩;go_wp2_with fail
  refine (ayG _ A xs.length cap HN.out (fun k hk=>?_)).mono ?_
  ·obtain ⟨g,o,v,e,hg,hv,f9⟩:=cE.out k hk;exact ⟨g,o,v,e,Nat.lt_of_lt_of_le hg bo.size,(bo.cell (p:=⟨g,o+k,none⟩) hg).trans hv,f9⟩
  rintro e w2 ⟨x,cs,G,rfl,hO,hG,ap⟩;have eg:Below w.heap.size w w2:=ah bo ap;have hR:=hO.rd;obtain ⟨Nf,ayW,aDE,aBb,aBd,aEE,aw,hGx,aDF,aEF,aEG,axh,aJM,axi⟩:=aO hR;subst aw;clear hGx hR;have HG:=I hG;have Ji:=I (show (x.au.length:Int)≤1048576 by have:=hG.wV;omega);have ZN:=I (show (x.wt:Int)≤1048576 by have:=W5 hG;omega);have lf:=I eg;clear bo ap hG eg HD;try dsimp only
  iterate 5 go_step
  refine ly 29 _ _ rfl w2.heap.size 0 [.slice Nf x.aa.length ayW,.slice aBb x.au.length aBd,.int .i64 x.next,.int .i64 x.weights.pack,.int .i64 x.weights.spread,.int .i64 x.weights.soft] [.slice none 0 0,.slice none 0 0,.int .i64 0,.int .i64 0,.int .i64 0,.int .i64 0] rfl rfl (oG.new w2 _ 29) S' U' eC ?_;intro w3 Y3 O3;replace Y3:oG w3 w2.heap.size [.slice Nf x.aa.length ayW,.slice aBb x.au.length aBd,.int .i64 x.next,.int .i64 x.weights.pack,.int .i64 x.weights.spread,.int .i64 x.weights.soft]:=Y3;have cW:w3.heap.size = w2.heap.size+1:=by rw [O3.size];simp
  have yM:=I hO.lt;have gz:=I ((hO.alloc (.cells ([.slice none 0 0,.slice none 0 0,.int .i64 0,.int .i64 0,.int .i64 0,.int .i64 0]:List Value).toArray 29)).only O3 (fun b hb=>by have:=yM.out b hb;omega));have vA:=I (CU (ak lf.out (.cells ([.slice none 0 0,.slice none 0 0,.int .i64 0,.int .i64 0,.int .i64 0,.int .i64 0]:List Value).toArray 29)) O3 (by have:=lf.out.size;omega));have kp:=I Y3;have St:w2.heap.size < w3.heap.size:=by omega
  obtain ⟨J8,aB7,aB8,aB9,aCa,aCb,aCc,aCd,kY3_4,fY3_4,kY3_5,fY3_5⟩:=lI Y3;clear hO O3 lf Y3 cW;go_wp2_with fail
  refine (hZ w3 A xs.length cap HN.out (fun k hk=>?_)).mono ?_
  ·obtain ⟨g,o,v,e,hg,hv,f9⟩:=cE.out k hk;exact ⟨g,o,v,e,Nat.lt_of_lt_of_le hg vA.out.size,(vA.out.cell (p:=⟨g,o+k,none⟩) hg).trans hv,f9⟩
  rintro e w4 ⟨p0,ps,Gp0,rfl,QS,vd,bu⟩;obtain ⟨nf,clabelsq,Flabelsq,Aneedsq,cneedsq,Fneedsq,Atolerancesq,ctolerancesq,Ftolerancesq,aw,hGq,hnameq,hlabelsq,hcpuq,hmemq,hrankq,hneedsq,htolerancesq⟩:=dL QS;subst aw;have Lk:=I QS;have Uc:=I (show (p0.wt:Int)≤1048576 by omega);clear hGq QS vd cE HN;have lz:=I (gz.out.ext bu);have iF:=I (ah vA.out bu);have Y4:=kp.out.ext bu;have kW:=I Y4;have Wy:=bu.size;have Ll:w2.heap.size < w4.heap.size:=by omega
  clear J8 aB7 aB8 aB9 aCa aCb aCc aCd kY3_4 fY3_4 kY3_5 fY3_5;obtain ⟨Qr,aFf,aFg,aFh,aFi,aFj,aFk,aFl,kY4_4,fY4_4,kY4_5,fY4_5⟩:=lI Y4;clear bu gz vA kp Y4 St;try dsimp only
  iterate 5 go_step
  refine ly 35 _ _ rfl w4.heap.size 0 [.string p0.name,.slice nf p0.labels.length clabelsq,.int .i64 p0.av,.int .i64 p0.mem,.int .i64 p0.ar,.slice Aneedsq p0.ag.length cneedsq,.slice Atolerancesq p0.ae.length ctolerancesq] [.string ⟨#[]⟩,.slice none 0 0,.int .i64 0,.int .i64 0,.int .i64 0,.slice none 0 0,.slice none 0 0] rfl rfl (oG.new w4 _ 35) S' U' eC ?_;intro w5 P5 O5;replace P5:oG w5 w4.heap.size [.string p0.name,.slice nf p0.labels.length clabelsq,.int .i64 p0.av,.int .i64 p0.mem,.int .i64 p0.ar,.slice Aneedsq p0.ag.length cneedsq,.slice Atolerancesq p0.ae.length ctolerancesq]:=P5;have br:Below w4.heap.size w4 w5:=CU (ak (aj _) (.cells ([.string ⟨#[]⟩,.slice none 0 0,.int .i64 0,.int .i64 0,.int .i64 0,.slice none 0 0,.slice none 0 0]:List Value).toArray 35)) O5 (Nat.le_refl _);have hw04:w.heap.size≤w4.heap.size:=iF.out.size;have hw24:w2.heap.size < w4.heap.size:=Ll;have Co:=I (aZ Lk.out br);have Su:=I br;have HXL:=I (show ∀b∈G,b < w2.heap.size from yM.out);have JB:=I P5;have Sw:w4.heap.size < w5.heap.size:=P5.lt;clear Lk O5;have nj:=I (lz.out.ext br);have Lj:=I (ah iF.out br);have Y5:=kW.out.ext br;have K3:=I Y5;have Es:=br.size;have Sx:w2.heap.size < w5.heap.size:=by omega
  clear Qr aFf aFg aFh aFi aFj aFk aFl kY4_4 fY4_4 kY4_5 fY4_5;obtain ⟨Lm,fY5_0,kY5_1,fY5_1,kY5_2,fY5_2,kY5_3,fY5_3,kY5_4,fY5_4,kY5_5,fY5_5⟩:=lI Y5;clear br lz iF kW Y5 Ll;obtain ⟨Ln,fP5_0,kP5_1,fP5_1,kP5_2,fP5_2,kP5_3,fP5_3,kP5_4,fP5_4,kP5_5,fP5_5,kP5_6,fP5_6⟩:=fe P5;clear P5;clear Su HXL;obtain ⟨RL,hRL⟩:∃RL,Jh x p0 = RL:=⟨_,rfl⟩;have xl:RL.length = (Ar x p0 x.aa).length:=by rw [← hRL];exact Rb x p0
  have gx:=I xl;have Z':=I hRL;have hfm:=LY x p0 x.aa;have h8:=HG.out.h8;have hrm:(RL.length:Int)≤1048576:=by omega
  have hfl8:((Ar x p0 x.aa).length:Int)≤1048576:=by omega
  have d2:((RL.length:Int) != ((Ar x p0 x.aa).length:Int)) = false:=by rw [xl];simp
  have bc:kg x p0 = RL.headD ⟨#[]⟩:=by unfold kg;rw [hRL]
  have fL:ot x p0 = !RL.isEmpty:=by unfold ot;rw [hRL]
  by_cases hz:RL = []
  case' pos =>have MP:=I (show kg x p0 = ⟨#[]⟩ by rw [bc,hz];rfl);have py:=I (show ot x p0 = false by rw [fL,hz];rfl);have JR:(Ar x p0 x.aa).length = 0:=(by rw [← xl,hz];rfl);have JF:RL.length = 0:=(by rw [hz];rfl);have mL:CQ 1 2 = 50:=(by decide);have HSH:=I mL;have HZ:=I (show RL.length = 0 by rw [hz];rfl);clear mL bc fL hRL xl hz d2 h8 hfm
  case' neg =>
   obtain ⟨hd,tl,hE⟩:∃hd tl,RL = hd :: tl:=by cases RL with | nil=>exact absurd rfl hz | cons a b=>exact ⟨a,b,rfl⟩
   have MP:=I (show kg x p0 = hd by rw [bc,hE];rfl);have py:=I (show ot x p0 = true by rw [fL,hE];rfl);have hfi:(0:Int) < (Ar x p0 x.aa).length:=(by have:=congrArg List.length hE;rw [List.length_cons] at this;omega);have hri:(0:Int) < RL.length:=J;have Sy:0 < RL.length:=J;have Sz:=I (fun (a:ByteArray) ha=>tg (hRL.trans hE) (a:=a) ha);have SA:=I (qi (hRL.trans hE));have HEL:=I hE;clear bc fL hRL xl hz hE
  all_goals
   go_wp2_with fail
   refine (ahW x p0 _ _ _ _ w5 nj.out.rd Co.out ZN.out Uc.out).mono ?_;rw [MP.out,py.out];rintro e w6 ⟨rfl,cw⟩;have BY:=I (nj.out.ext cw);have HB6:=I (ah Lj.out cw);have Y6:=K3.out.ext cw;have xz:=I Y6;have mu:=cw.size;have SF:w2.heap.size < w6.heap.size:=J;clear Lm fY5_0 kY5_1 fY5_1 kY5_2 fY5_2 kY5_3 fY5_3 kY5_4 fY5_4 kY5_5 fY5_5;obtain ⟨RQ,aE3,aE4,aE5,aE6,aE7,aE8,aE9,aFa,aFb,aFc,aFd⟩:=lI Y6;clear nj Lj K3 Y6 Sx;have Cr:=I (aZ Co.out cw);have P6:=JB.out.ext cw;have wH:=I P6;have SI:w4.heap.size < w6.heap.size:=P6.lt;clear Ln fP5_0 kP5_1 fP5_1 kP5_2 fP5_2 kP5_3 fP5_3 kP5_4 fP5_4 kP5_5 fP5_5 kP5_6 fP5_6;obtain ⟨Lo,fP6_0,kP6_1,fP6_1,kP6_2,fP6_2,kP6_3,fP6_3,kP6_4,fP6_4,kP6_5,fP6_5,kP6_6,fP6_6⟩:=fe P6;clear P6 Co JB Sw;clear cw;go_wp2_with fail
   refine (Xg x p0 _ _ _ _ w6 BY.out.rd Cr.out ZN.out Uc.out).mono ?_;rw [Z'.out];rintro e w7 ⟨Al,cl,Gl,rfl,hOl,bz⟩;have HL7:=I hOl;have SJ:=I (BY.out.ext bz);have xA:=I (ah HB6.out bz);have Y7:=xz.out.ext bz;have HY7:=I Y7;have mz:=bz.size;have SK:w2.heap.size < w7.heap.size:=J;clear RQ aE3 aE4 aE5 aE6 aE7 aE8 aE9 aFa aFb aFc aFd;obtain ⟨Lp,fY7_0,kY7_1,fY7_1,kY7_2,fY7_2,kY7_3,fY7_3,kY7_4,fY7_4,kY7_5,fY7_5⟩:=lI Y7;clear BY HB6 xz Y7 SF;have Cs:=I (aZ Cr.out bz);have P7:=wH.out.ext bz;have De:=I P7;have SL:w4.heap.size < w7.heap.size:=P7.lt;clear Lo fP6_0 kP6_1 fP6_1 kP6_2 fP6_2 kP6_3 fP6_3 kP6_4 fP6_4 kP6_5 fP6_5 kP6_6 fP6_6;obtain ⟨Lq,fP7_0,kP7_1,fP7_1,kP7_2,fP7_2,kP7_3,fP7_3,kP7_4,fP7_4,kP7_5,fP7_5,kP7_6,fP7_6⟩:=fe P7;clear P7 Cr wH SI;clear bz hOl;go_wp2_with fail
   refine (Zv x p0 _ _ _ _ w7 SJ.out.rd Cs.out ZN.out Uc.out).mono ?_;rintro e w8 ⟨Af,cf,Gf,rfl,hOf,gM⟩;have HF8:=I hOf;have HL8:=I (HL7.out.ext gM);have SM:=I (SJ.out.ext gM);have qn:=I (ah xA.out gM);have Y8:=HY7.out.ext gM;have HY8:=I Y8;have rm:=gM.size;have SN:w2.heap.size < w8.heap.size:=J;clear Lp fY7_0 kY7_1 fY7_1 kY7_2 fY7_2 kY7_3 fY7_3 kY7_4 fY7_4 kY7_5 fY7_5;obtain ⟨Ls,fY8_0,kY8_1,fY8_1,kY8_2,fY8_2,kY8_3,fY8_3,kY8_4,fY8_4,kY8_5,fY8_5⟩:=lI Y8;clear SJ xA HY7 Y8 SK;have Ct:=I (aZ Cs.out gM);have P8:=De.out.ext gM;have HP8:=I P8;have SP:w4.heap.size < w8.heap.size:=P8.lt;clear Lq fP7_0 kP7_1 fP7_1 kP7_2 fP7_2 kP7_3 fP7_3 kP7_4 fP7_4 kP7_5 fP7_5 kP7_6 fP7_6;obtain ⟨Lt,fP8_0,kP8_1,fP8_1,kP8_2,fP8_2,kP8_3,fP8_3,kP8_4,fP8_4,kP8_5,fP8_5,kP8_6,fP8_6⟩:=fe P8;clear P8 Cs De SL;clear gM hOf HL7;go_wp2_with fail
   refine (Xh x p0 _ _ _ _ w8 SM.out.rd Ct.out ZN.out Uc.out).mono ?_;rw [Z'.out];rintro e w9 ⟨Am,cm,Gm,rfl,hOm,xB⟩;have HF9:=I (HF8.out.ext xB);have SQ:=I (HL8.out.ext xB);have HM9:=I hOm;have nH:=I (SM.out.ext xB);have QX:=I (ah qn.out xB);have Y9:=HY8.out.ext xB;have HY9:=I Y9;have hz9:=xB.size;have SR:w2.heap.size < w9.heap.size:=J;clear Ls fY8_0 kY8_1 fY8_1 kY8_2 fY8_2 kY8_3 fY8_3 kY8_4 fY8_4 kY8_5 fY8_5;obtain ⟨Lu,fY9_0,kY9_1,fY9_1,kY9_2,fY9_2,kY9_3,fY9_3,kY9_4,fY9_4,kY9_5,fY9_5⟩:=lI Y9;clear SM qn HY8 Y9 SN;have Lv:=I (aZ Ct.out xB);have P9:=HP8.out.ext xB;have Kt:=I P9;have SU:w4.heap.size < w9.heap.size:=P9.lt;clear Lt fP8_0 kP8_1 fP8_1 kP8_2 fP8_2 kP8_3 fP8_3 kP8_4 fP8_4 kP8_5 fP8_5 kP8_6 fP8_6;obtain ⟨Lw,fP9_0,kP9_1,fP9_1,kP9_2,fP9_2,kP9_3,fP9_3,kP9_4,fP9_4,kP9_5,fP9_5,kP9_6,fP9_6⟩:=fe P9;clear P9 Ct HP8 SP;clear xB hOm HF8 HL8;go_wp2_with fail
   have gL:=kD RL Al Am cl cm _ _ w9 SQ.out.rd HM9.out.rd hrm;try rw [HZ.out] at gL
   refine gL.mono ?_;clear gL;rintro e jS ⟨rfl,fP⟩;have SV:=I (HF9.out.ext fP);have Lx:=I (SQ.out.ext fP);have Je:=I (nH.out.ext fP);have Cb:=I (ah QX.out fP);have SX:=HY9.out.ext fP;have SZ:=I SX;have zO:=fP.size;have hzx10:w2.heap.size < jS.heap.size:=J;clear Lu fY9_0 kY9_1 fY9_1 kY9_2 fY9_2 kY9_3 fY9_3 kY9_4 fY9_4 kY9_5 fY9_5;obtain ⟨Cu,fY10_0,kY10_1,fY10_1,kY10_2,fY10_2,kY10_3,fY10_3,kY10_4,fY10_4,kY10_5,fY10_5⟩:=lI SX;clear nH QX HY9 SX SR;have Ly:=I (aZ Lv.out fP);have NJ:=Kt.out.ext fP;have S4:=I NJ;have hpz10:w4.heap.size < jS.heap.size:=NJ.lt;clear Lw fP9_0 kP9_1 fP9_1 kP9_2 fP9_2 kP9_3 fP9_3 kP9_4 fP9_4 kP9_5 fP9_5 kP9_6 fP9_6;obtain ⟨Cv,fP10_0,kP10_1,fP10_1,kP10_2,fP10_2,kP10_3,fP10_3,kP10_4,fP10_4,kP10_5,fP10_5,kP10_6,fP10_6⟩:=fe NJ;clear NJ Lv Kt SU;clear fP HF9 SQ HM9
  ·obtain ⟨bl,ol,hAl,U3,DE⟩:=po (show Sl jS RL Al cl Gl from Lx.out.rd) Sy;subst hAl;have hcapl:=(show Sl jS RL (some ⟨bl,ol,none⟩) cl Gl from Lx.out.rd).cap;rw [Nat.add_zero] at DE;have l':=I (show jS.cell? ⟨bl,ol,none⟩ = some (.string hd) by rw [DE];congr 2;have:=HEL.out;subst this;rfl);clear DE d2;go_wp2_with fail
   go_loopw [9] (fun i wr=>∃k:Nat,i = .int .i64 k∧k≤(Ar x p0 x.aa).length∧Below jS.heap.size jS wr) (fun i _=>(Ar x p0 x.aa).length - (intOf i).toNat)
   case atStart=>exact ⟨0,rfl,Nat.zero_le _,aj _⟩
   case round =>
    obtain ⟨k,rfl,hk,bF⟩:=hrel;have Cw:=I bF;have HFr:=I (SV.out.ext bF);have HOr:=I (Je.out.ext bF);have S5:=I (ah Cb.out bF);have Yr:=SZ.out.ext bF;have HYr:=I Yr;have mo:=bF.size;have S6:w2.heap.size < wr.heap.size:=J;clear Cu fY10_0 kY10_1 fY10_1 kY10_2 fY10_2 kY10_3 fY10_3 kY10_4 fY10_4 kY10_5 fY10_5;obtain ⟨LA,fYr_0,kYr_1,fYr_1,kYr_2,fYr_2,kYr_3,fYr_3,kYr_4,fYr_4,kYr_5,fYr_5⟩:=lI Yr;clear Yr;have vB:=I (aZ Ly.out bF);have Pr:=S4.out.ext bF;have HPr:=I Pr;have S7:w4.heap.size < wr.heap.size:=Pr.lt;clear Cv fP10_0 kP10_1 fP10_1 kP10_2 fP10_2 kP10_3 fP10_3 kP10_4 fP10_4 kP10_5 fP10_5 kP10_6 fP10_6;obtain ⟨LB,fPr_0,kPr_1,fPr_1,kPr_2,fPr_2,kPr_3,fPr_3,kPr_4,fPr_4,kPr_5,fPr_5,kPr_6,fPr_6⟩:=fe Pr;clear Pr;clear bF;by_cases aq:k < (Ar x p0 x.aa).length
    ·have pE:(k:Int) < (Ar x p0 x.aa).length:=J;obtain ⟨bf,oof,hAf,hbf0,kf0⟩:=po (show Sl wr (Ar x p0 x.aa) Af cf Gf from HFr.out.rd) aq;have hcapf:=(show Sl wr (Ar x p0 x.aa) Af cf Gf from HFr.out.rd).cap;subst hAf;have Cx:=Sz.out _ (List.getElem_mem aq);obtain ⟨a,ha⟩:∃a,(Ar x p0 x.aa)[k] = a:=⟨_,rfl⟩;rw [ha] at kf0 Cx;have HKF:=I kf0;obtain ⟨ma,Nn⟩:∃ma,uH a x p0 = ma:=⟨_,rfl⟩;obtain ⟨mh,hmh⟩:∃mh,uH hd x p0 = mh:=⟨_,rfl⟩;rw [Nn,hmh] at Cx;have HMA:=I Nn;have HMH:=I hmh;obtain ⟨Qj,ht2⟩:=Cx;have HT2:=I ht2;have tS:¬mh < ma:=J;clear ha Nn hmh ht2;go_wp2_with fail
     refine zU wr 8 U' U' (aj _) ?_;have aE:Below wr.heap.size wr wr.drew:=aA (aj _);refine aX 0 _ O U' H' aE W' ?_;try simp only [Act.put,pz]
     refine aX 1 _ O U' H' aE W' ?_;try simp only [Act.put,pz]
     refine aX 2 _ O U' H' aE W' ?_;try simp only [Act.put,pz]
     refine aX 3 _ O U' H' aE W' ?_;try simp only [Act.put,pz]
     refine aX 4 _ O U' H' aE W' ?_;try simp only [Act.put,pz]
     refine aX 5 _ O U' H' aE W' ?_;try simp only [Act.put,pz]
     refine bP 6 O U' O (fun K hK=>?_);go_simp;refine (XL x p0 _ _ _ _ a _ (aZ HOr.out.rd aE) (aZ vB.out aE) ZN.out Uc.out).mono ?_;rw [HMA.out];rintro e wa ⟨rfl,hbc⟩;replace aE:=ah aE hbc;refine hK _ _ aE ?_;try simp only [Act.put,pz]
     clear hK K;refine aX 7 _ O U' H' aE W' ?_;try simp only [Act.put,pz]
     refine nR U' ?_;have qk:=aE;have S8:=I (ah Cw.out qk);have kfa:wa.cell? ⟨bf,oof+k,none⟩ = some (.string a):=r' qk HKF.out hbf0;have S9:=I (HOr.out.ext qk);have HBa:=I (ah S5.out qk);have Ya:=HYr.out.ext qk;have HYa:=I Ya;have Z0:=qk.size;have Ta:w2.heap.size < wa.heap.size:=J;clear LA fYr_0 kYr_1 fYr_1 kYr_2 fYr_2 kYr_3 fYr_3 kYr_4 fYr_4 kYr_5 fYr_5;obtain ⟨LC,fYa_0,kYa_1,fYa_1,kYa_2,fYa_2,kYa_3,fYa_3,kYa_4,fYa_4,kYa_5,fYa_5⟩:=lI Ya;clear HOr S5 HYr Ya S6;have Cy:=I (aZ vB.out qk);have Pa:=HPr.out.ext qk;have HPa:=I Pa;have Tb:w4.heap.size < wa.heap.size:=Pa.lt;clear LB fPr_0 kPr_1 fPr_1 kPr_2 fPr_2 kPr_3 fPr_3 kPr_4 fPr_4 kPr_5 fPr_5 kPr_6 fPr_6;obtain ⟨LD,fPa_0,kPa_1,fPa_1,kPa_2,fPa_2,kPa_3,fPa_3,kPa_4,fPa_4,kPa_5,fPa_5,kPa_6,fPa_6⟩:=fe Pa;clear Pa vB HPr S7;clear qk aE hbc kf0;go_wp2_with fail
     refine (XL x p0 _ _ _ _ hd wa S9.out.rd Cy.out ZN.out Uc.out).mono ?_;rw [HMH.out];rintro e wb ⟨rfl,fL⟩;have Tc:=I (ah S8.out fL);have kfb:wb.cell? ⟨bf,oof+k,none⟩ = some (.string a):=r' fL kfa (show bf < wa.heap.size by omega);have Te:=I (S9.out.ext fL);have HBb:=I (ah HBa.out fL);have Yb:=HYa.out.ext fL;have HYb:=I Yb;have pg:=fL.size;have Tf:w2.heap.size < wb.heap.size:=J;clear LC fYa_0 kYa_1 fYa_1 kYa_2 fYa_2 kYa_3 fYa_3 kYa_4 fYa_4 kYa_5 fYa_5;obtain ⟨LF,fYb_0,kYb_1,fYb_1,kYb_2,fYb_2,kYb_3,fYb_3,kYb_4,fYb_4,kYb_5,fYb_5⟩:=lI Yb;clear S9 HBa HYa Yb Ta;have Cz:=I (aZ Cy.out fL);have Pb:=HPa.out.ext fL;have HPb:=I Pb;have Tg:w4.heap.size < wb.heap.size:=Pb.lt;clear LD fPa_0 kPa_1 fPa_1 kPa_2 fPa_2 kPa_3 fPa_3 kPa_4 fPa_4 kPa_5 fPa_5 kPa_6 fPa_6;obtain ⟨LG,fPb_0,kPb_1,fPb_1,kPb_2,fPb_2,kPb_3,fPb_3,kPb_4,fPb_4,kPb_5,fPb_5,kPb_6,fPb_6⟩:=fe Pb;clear Pb Cy HPa Tb;clear fL kfa;go_wp2_with fail
     refine (XL x p0 _ _ _ _ hd wb Te.out.rd Cz.out ZN.out Uc.out).mono ?_;rw [HMH.out];rintro e wc ⟨rfl,hbc⟩;have LH:=I (ah Tc.out hbc);have kfc:wc.cell? ⟨bf,oof+k,none⟩ = some (.string a):=r' hbc kfb (show bf < wb.heap.size by omega);have HOc:=I (Te.out.ext hbc);have HBc:=I (ah HBb.out hbc);have Yc:=HYb.out.ext hbc;have HYc:=I Yc;have Rf:=hbc.size;have hzxc:w2.heap.size < wc.heap.size:=J;clear LF fYb_0 kYb_1 fYb_1 kYb_2 fYb_2 kYb_3 fYb_3 kYb_4 fYb_4 kYb_5 fYb_5;obtain ⟨kYc_0,fYc_0,kYc_1,fYc_1,kYc_2,fYc_2,kYc_3,fYc_3,kYc_4,fYc_4,kYc_5,fYc_5⟩:=lI Yc;clear Te HBb HYb Yc Tf;have HRPc:=I (aZ Cz.out hbc);have Pc:=HPb.out.ext hbc;have HPc:=I Pc;have hpzc:w4.heap.size < wc.heap.size:=Pc.lt;clear LG fPb_0 kPb_1 fPb_1 kPb_2 fPb_2 kPb_3 fPb_3 kPb_4 fPb_4 kPb_5 fPb_5 kPb_6 fPb_6;obtain ⟨kPc_0,fPc_0,kPc_1,fPc_1,kPc_2,fPc_2,kPc_3,fPc_3,kPc_4,fPc_4,kPc_5,fPc_5,kPc_6,fPc_6⟩:=fe Pc;clear Pc Cz HPb Tg;clear hbc kfb;by_cases hem:ma = mh
     ·have cY:=HT2.out hem;have Th:(ma == mh) = true:=(by rw [beq_iff_eq];exact hem);clear hem;go_wp2;exact ⟨⟨k+1,N',J,LH.out⟩,by simp only [intOf];omega⟩
     ·have Th:(ma == mh) = false:=(by rw [beq_eq_false_iff_ne];exact hem);clear hem;go_wp2;exact ⟨⟨k+1,N',J,LH.out⟩,by simp only [intOf];omega⟩
    ·obtain ⟨kk,Dn⟩:∃kk:Int,(k:Int) = kk:=⟨_,rfl⟩;have gS:kk = (Ar x p0 x.aa).length:=J;have pE:¬(k:Int) < (Ar x p0 x.aa).length:=J;have DE:wr.cell? ⟨bl,ol,none⟩ = some (.string hd):=r' Cw.out l'.out U3;clear Dn gS;go_wp2_with fail
     refine (N9 x p0 _ _ _ _ hd wr HOr.out.rd vB.out ZN.out Uc.out).mono ?_;rw [SA.out];rintro e wa ⟨rfl,qk⟩;have kla:wa.cell? ⟨bl,ol,none⟩ = some (.string hd):=r' qk DE (show bl < wr.heap.size by have:=Cw.out.size;omega);have HBA:=I (ah S5.out qk);clear qk DE;go_wp2;go_ret
     exact ⟨S',HBA.out⟩
  ·go_wp2_with fail
   refine (VD 1 2 jS nW nW).mono ?_;rw [HSH.out];rintro e zu ⟨rfl,lQ⟩;go_wp2;go_ret
   exact ⟨rfl,ah Cb.out lQ⟩
theorem gX {H:Type} {enc:TypeId × Value→H} (W:World) (base:Nat) (args:Array Value) (ds:List (DataW H)) (p:List MemPlace)
 (hval:∀(j:Nat) t v,Tryz.f5.params[j]? = some t→args[j]? = some v→Value.okWide Tryz.prog W .any base t v)
 (hA:DataW.TrodAll enc Tryz.prog W 0 (fun _=>true) true Tryz.f5.params.toList args.toList ds p) (aq:∀x∈p,x.block < W.heap.size) :
 Calls Tryz.prog 5 args W fun e W'=>e = .returned (.bool true)∧Below W.heap.size W W':=by
 rw [Tryz.params5] at hA hval;obtain ⟨v0,JM,d0,ds0,p0,q0,wu,rfl,rfl,h0,r0⟩:=trodAll_cons hA;obtain ⟨rfl,rfl,rfl⟩:=trodAll_nil r0;obtain rfl:args = #[v0]:=by cases args;simp_all
 obtain ⟨fp,hf⟩:=h0;obtain ⟨xs,F,hr⟩:=yH Tryz.underlying22 rfl (aBV Tryz.underlying5) H enc W 0 fp _ _ _ _ hf;obtain ⟨A,c,hv,hS⟩:=jB hr;obtain ⟨B,n,d,rfl⟩:=okWide_slice Tryz.underlying22 (hval 0 22 v0 rfl rfl);simp [Value.cells] at hv;obtain ⟨rfl,rfl,rfl⟩:=hv;exact walk xs B d F W hS
theorem own:ownKnob Tryz.prog.godebug = none:=by kernel_rfl
theorem laid:laidOutB Tryz.prog = true:=by kernel_rfl
theorem readable:∀t∈Tryz.f5.params.toList,Tryz.prog.readableRec t = true∧t < Tryz.prog.types.size:=by
 have h:(Tryz.f5.params.toList.all fun t=>Tryz.prog.readableRec t&&decide (t < Tryz.prog.types.size)) = true:=by kernel_rfl
 intro t ht;have:=List.all_eq_true.1 h t ht;simpa using this
theorem fF {H:Type} {enc:TypeId × Value→H} {W:World} {args:List Value} {ds:List (DataW H)} {p:List MemPlace}
 (h:DataW.TrodAll enc Tryz.prog W 0 (fun _=>true) true Tryz.f5.params.toList args ds p):∃d0,ds = [d0]:=by
 rw [Tryz.params5] at h;obtain ⟨v0,JM,d0,ds0,p0,q0,_,rfl,_,_,r0⟩:=trodAll_cons h;obtain ⟨_,rfl,_⟩:=trodAll_nil r0;exact ⟨d0,rfl⟩
theorem lifted (os:Os) (started:os.Started) (H:Type) (enc:TypeId × Value→H) :
 ReturnsInHanded {} Tryz.checked os 5 .any (Rows.fnBestSpec.pre6 enc Tryz.prog Tryz.f5 Rows.fnBestRow.domain false) (Rows.fnBestSpec.post enc Tryz.prog Tryz.f5 false true false false):=by
 refine returnsInHanded_of_change (C:=Tryz.checked) own started U' Tryz.func5
  (ChangeSpec.witness6 (enc:=enc) (C:=Tryz.checked) false ⟨#[],#[.slice none 0 0],[]⟩ 8 U' U' U' U') ?_
 intro W base args ds gs before LI hW hcnd _;have aq:∀x∈before,x.block < W.heap.size:=fun x hx=>hW.lt x hx;have hW':=hW;obtain ⟨p,q,hA,hV,rfl,_,_⟩:=hW';exact (gX W base args ds p LI hA (fun x hx=>aq x (List.mem_append_left _ hx))).mono fun e W' ⟨he,hb⟩ =>
  ⟨_,he,nO laid readable rfl Tryz.underlying4 rfl auW hW hb⟩
theorem over:Rows.fnBestRow.holds Tryz.pinned (OpenSpec.ofChange Rows.fnBestSpec) :=
 OpenClaim.holds_of_wide 5 Tryz.f5 rfl rfl rfl rfl rfl rfl rfl ⟨rfl,rfl,rfl,rfl,rfl⟩ rfl rfl rfl rfl rfl U' Tryz.func5 U'
  (of_decide_eq_true U') auf
  (fun os started H enc _=>lifted os started H enc)
theorem proved:Rows.FnBestSaid :=
 over
#print axioms proved
end Go.Proofs.YtajbbmembionpaaGreat.fnBest
