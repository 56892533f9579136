/- ApplyManifest of the reference. No condition. -/
import Derived.Test.YtjahcnjmjahbaaaGreatOpsAS
import Derived.Test.YtjahcnjmjahbaaaGreatOpsQS
import Derived.Test.YtjahcnjmjahbaaaGreatKeepQ
import Derived.Test.YtjahcnjmjahbaaaGreatWaitS
namespace Go.Proofs.YtjahcnjmjahbaaaGreat
open Go.ChangeShapes Go.WideShapes Go.ChangeAt Go.RowKit
set_option linter.unusedVariables false
set_option linter.unusedSimpArgs false
set_option maxHeartbeats 8000000
set_option maxRecDepth 100000
def Ch (x:aU) (m:cB):aU × Int:=if m.kind = 1 then lN x m.aS else if m.kind = 2 then mH x m.bt else (x,if iI x = true then 8 else 1)
theorem axA (x:aU) (cs:List Value) (F:List Nat) (m:cB) (ms:List Value) (Fm:List Nat) (w:World) (h:rd w x cs F) (h':rd w m ms Fm) (hw:(x.wt:Int)≤1048576) (hm:(m.wt:Int)≤1048576) :
 Calls Tryz.prog 107 #[.agg cs.toArray,.agg ms.toArray] w fun e w'=>∃ds G,e = .returned (.tuple #[.agg ds.toArray,.int .i64 (Ch x m).2])∧am w' w.heap.size (Ch x m).1 ds G∧Below w.heap.size w w':=by
 have hmw:m.wt = m.aS.wt+m.bt.wt:=rfl;have Uc:=I (show (m.aS.wt:Int)≤1048576 by omega);have HWU:=I (show (m.bt.wt:Int)≤1048576 by omega);have HW:=I hw;clear hw hm hmw;have hr:=h;obtain ⟨Qi,ayW,aDE,aBb,aBd,aEE,aw,qp,aDF,aEF,aEG,axh,aJM,axi⟩:=aO hr;subst aw;clear qp hr;obtain ⟨k,p,u⟩:=m;dsimp only at Uc HWU;obtain ⟨_,_,_,_,rfl,rfl,⟨rfl,rfl,hkind⟩,_,_,_,_,rfl,rfl,WT,afd⟩:=h';dsimp only at hkind WT afd ⊢;have hp:=WT;have hu:=afd;obtain ⟨Ev,aJn,aBL,aw3,aw4,aDG,aIi,aIj,axJ,aw,hFp,aEH,aBM,hcpup,hmemp,aEI,aDH,axK⟩:=dL hp;subst aw;obtain ⟨UC,aze,aEJ,azf,azg,aEK,aw,hFu,hnameu,aEL,hcpuu,hmemu,aGh,aEM⟩:=iy hu;subst aw;clear hFp hFu hp hu;unfold Ch;dsimp only;by_cases h1:k = 1
 ·as_aux_lemma =>
  subst h1;rw [if_pos rfl];have HS:=I (fun cs F us Fu wq a b=>azh x cs F p us Fu wq a b HW.out Uc.out);generalize lN x p = RR at *;obtain ⟨R,cd⟩:=RR;dsimp only at HS ⊢;go_enter Tryz.func107,Tryz.ntmps107;go_wp2_with fail
  refine (HS.out _ _ _ _ _ (aZ h cg) (aZ WT cg)).mono ?_;exact Gz
 ·rw [if_neg h1];by_cases h2:k = 2
  ·as_aux_lemma =>
   subst h2;rw [if_pos rfl];have HS:=I (fun cs F us Fu wq a b=>aBe x cs F u us Fu wq a b HW.out HWU.out);generalize mH x u = RR at *;obtain ⟨R,cd⟩:=RR;dsimp only at HS ⊢;go_enter Tryz.func107,Tryz.ntmps107;go_wp2_with fail
   refine (HS.out _ _ _ _ _ (aZ h cg) (aZ afd cg)).mono ?_;exact Gz
  ·rw [if_neg h2];cases hc:iI x
   ·as_aux_lemma =>
    have HC:=I hc;clear hc;simp only [Bool.false_eq_true,if_false];go_enter Tryz.func107,Tryz.ntmps107;go_wp2_with fail
    refine (qM x _ _ _ (aZ h cg) HW.out).mono ?_;rw [HC.out];rintro e w0 ⟨rfl,fJ⟩;obtain ⟨Ck,L6⟩:=ay fJ;have cf:=fJ.size;simp at cf;have jn:Below w.heap.size w w0:=ah cg fJ;go_wp2_with fail
    refine (BO x _ _ _ (aZ h cg) HW.out).mono ?_;rintro e w1 ⟨ds,G,rfl,hO,bk⟩;have hR:=hO.rd;obtain ⟨kM,kN,ND,ny,nC,TD,aw,hGr,NG,TF,TG,xI,uD,xJ⟩:=aO hR;subst aw;clear hGr hR;have XB:oG w1 (w.heap.size+1+1) [.slice none 0 0,.slice none 0 0,.int .i64 0,.int .i64 0,.int .i64 0,.int .i64 0]:=oG.ext (oG.ext (oG.vx w _ _ [.slice none 0 0,.slice none 0 0,.int .i64 0,.int .i64 0,.int .i64 0,.int .i64 0] 29) fJ) bk;have HO:=I (hO.mono (B':=w.heap.size+1+1+1) J);have av:Below w.heap.size w w1:=ah jn bk;clear hO bk h fJ;try dsimp only
    iterate 2 go_step
    refine lr 29 _ _ rfl (w.heap.size+1+1) 0 [.slice kM x.Z.length kN,.slice ny x.O.length nC,.int .i64 x.next,.int .i64 x.weights.pack,.int .i64 x.weights.af,.int .i64 x.weights.an] [.slice none 0 0,.slice none 0 0,.int .i64 0,.int .i64 0,.int .i64 0,.int .i64 0] rfl rfl XB S' U' eu ?_;intro w2 YB OB;replace YB:oG w2 (w.heap.size+1+1) [.slice kM x.Z.length kN,.slice ny x.O.length nC,.int .i64 x.next,.int .i64 x.weights.pack,.int .i64 x.weights.af,.int .i64 x.weights.an]:=YB;try dsimp only [Act.put]
    go_wp2;refine bodyPost_ret (v:=.tuple #[.agg #[.slice kM x.Z.length kN,.slice ny x.O.length nC,.int .i64 x.next,.int .i64 x.weights.pack,.int .i64 x.weights.af,.int .i64 x.weights.an],.int .i64 1]) (yc Tryz.results107 _ (w.heap.size+1+1) [.slice kM x.Z.length kN,.slice ny x.O.length nC,.int .i64 x.next,.int .i64 x.weights.pack,.int .i64 x.weights.af,.int .i64 x.weights.an] _ _ rfl rfl YB Tryz.underlying29 rfl U') rfl ?_;exact ua
   ·as_aux_lemma =>
    have HC:=I hc;clear hc;simp only [if_true];go_enter Tryz.func107,Tryz.ntmps107;go_wp2_with fail
    refine (qM x _ _ _ (aZ h cg) HW.out).mono ?_;rw [HC.out];rintro e w0 ⟨rfl,fJ⟩;obtain ⟨Ck,L6⟩:=ay fJ;have cf:=fJ.size;simp at cf;have jn:Below w.heap.size w w0:=ah cg fJ;go_wp2_with fail
    refine (BO x _ _ _ (aZ h cg) HW.out).mono ?_;rintro e w1 ⟨ds,G,rfl,hO,bk⟩;have hR:=hO.rd;obtain ⟨kM,kN,ND,ny,nC,TD,aw,hGr,NG,TF,TG,xI,uD,xJ⟩:=aO hR;subst aw;clear hGr hR;have XB:oG w1 (w.heap.size+1+1) [.slice none 0 0,.slice none 0 0,.int .i64 0,.int .i64 0,.int .i64 0,.int .i64 0]:=oG.ext (oG.ext (oG.vx w _ _ [.slice none 0 0,.slice none 0 0,.int .i64 0,.int .i64 0,.int .i64 0,.int .i64 0] 29) fJ) bk;have HO:=I (hO.mono (B':=w.heap.size+1+1+1) J);have av:Below w.heap.size w w1:=ah jn bk;clear hO bk h fJ;try dsimp only
    iterate 2 go_step
    refine lr 29 _ _ rfl (w.heap.size+1+1) 0 [.slice kM x.Z.length kN,.slice ny x.O.length nC,.int .i64 x.next,.int .i64 x.weights.pack,.int .i64 x.weights.af,.int .i64 x.weights.an] [.slice none 0 0,.slice none 0 0,.int .i64 0,.int .i64 0,.int .i64 0,.int .i64 0] rfl rfl XB S' U' eu ?_;intro w2 YB OB;replace YB:oG w2 (w.heap.size+1+1) [.slice kM x.Z.length kN,.slice ny x.O.length nC,.int .i64 x.next,.int .i64 x.weights.pack,.int .i64 x.weights.af,.int .i64 x.weights.an]:=YB;try dsimp only [Act.put]
    go_wp2;refine bodyPost_ret (v:=.tuple #[.agg #[.slice kM x.Z.length kN,.slice ny x.O.length nC,.int .i64 x.next,.int .i64 x.weights.pack,.int .i64 x.weights.af,.int .i64 x.weights.an],.int .i64 8]) (yc Tryz.results107 _ (w.heap.size+1+1) [.slice kM x.Z.length kN,.slice ny x.O.length nC,.int .i64 x.next,.int .i64 x.weights.pack,.int .i64 x.weights.af,.int .i64 x.weights.an] _ _ rfl rfl YB Tryz.underlying29 rfl U') rfl ?_;exact ua
theorem azi (x:aU) (cs:List Value) (F:List Nat) (w:World) (h:rd w x cs F) (hw:(x.wt:Int)≤1048576) :
 Calls Tryz.prog 111 #[.agg cs.toArray] w fun e w'=>∃ds G,e = .returned (.tuple #[.agg ds.toArray,.string (BX x).2.1,.string (BX x).2.2.1,.int .i64 (BX x).2.2.2])∧am w' w.heap.size (BX x).1 ds G∧Below w.heap.size w w':=by
 have fl:(x.O.length:Int)≤1048576:=by have h1:=gJ ai.wt x.O;have h2:x.wt = kL az.wt x.Z+kL ai.wt x.O:=rfl;omega
 have HW:=I hw;have Ji:=I fl;clear hw;have hr:=h;obtain ⟨bG,bD,fQ,dn,bW,jg,aw,qp,bQ,dM,hnext,aV,aP,aW⟩:=aO hr;subst aw;clear qp hr;have KT:oG ((w.alloc (.cells ([.slice bG x.Z.length bD,.slice dn x.O.length bW,.int .i64 x.next,.int .i64 x.weights.pack,.int .i64 x.weights.af,.int .i64 x.weights.an]:List Value).toArray 29)).alloc (.cells ([.slice none 0 0,.slice none 0 0,.int .i64 0,.int .i64 0,.int .i64 0,.int .i64 0]:List Value).toArray 29)) w.heap.size [.slice bG x.Z.length bD,.slice dn x.O.length bW,.int .i64 x.next,.int .i64 x.weights.pack,.int .i64 x.weights.af,.int .i64 x.weights.an]:=(oG.new w [.slice bG x.Z.length bD,.slice dn x.O.length bW,.int .i64 x.next,.int .i64 x.weights.pack,.int .i64 x.weights.af,.int .i64 x.weights.an] 29).ext (ak (aj _) _);have KR:oG ((w.alloc (.cells ([.slice bG x.Z.length bD,.slice dn x.O.length bW,.int .i64 x.next,.int .i64 x.weights.pack,.int .i64 x.weights.af,.int .i64 x.weights.an]:List Value).toArray 29)).alloc (.cells ([.slice none 0 0,.slice none 0 0,.int .i64 0,.int .i64 0,.int .i64 0,.int .i64 0]:List Value).toArray 29)) (w.heap.size+1) [.slice none 0 0,.slice none 0 0,.int .i64 0,.int .i64 0,.int .i64 0,.int .i64 0]:=by have:=oG.new (w.alloc (.cells ([.slice bG x.Z.length bD,.slice dn x.O.length bW,.int .i64 x.next,.int .i64 x.weights.pack,.int .i64 x.weights.af,.int .i64 x.weights.an]:List Value).toArray 29)) [.slice none 0 0,.slice none 0 0,.int .i64 0,.int .i64 0,.int .i64 0,.int .i64 0] 29;rw [World.size_alloc] at this;exact this
 have hB:Below w.heap.size w ((w.alloc (.cells ([.slice bG x.Z.length bD,.slice dn x.O.length bW,.int .i64 x.next,.int .i64 x.weights.pack,.int .i64 x.weights.af,.int .i64 x.weights.an]:List Value).toArray 29)).alloc (.cells ([.slice none 0 0,.slice none 0 0,.int .i64 0,.int .i64 0,.int .i64 0,.int .i64 0]:List Value).toArray 29)):=ak (ak (aj _) _) _;go_enter Tryz.func111,Tryz.ntmps111;go_wp2_with fail
 refine (BO x _ _ _ (aZ h hB) HW.out).mono ?_;rintro e w1 ⟨lu,G1,rfl,jX,bk⟩;have dt:=jX.rd;obtain ⟨dG,bV,xq,dS,dJ,Bz,aw,hG1,oO,tq,wI,iV,gI,iW⟩:=aO dt;subst aw;clear hG1 dt;replace KT:=KT.ext bk;replace KR:=KR.ext bk;replace hB:=ah hB bk;have cQ:w.heap.size+1 < w1.heap.size:=KR.lt;have KO:oG (w1.alloc (.cells ([.slice dG x.Z.length bV,.slice dS x.O.length dJ,.int .i64 x.next,.int .i64 x.weights.pack,.int .i64 x.weights.af,.int .i64 x.weights.an]:List Value).toArray 29)) w1.heap.size [.slice dG x.Z.length bV,.slice dS x.O.length dJ,.int .i64 x.next,.int .i64 x.weights.pack,.int .i64 x.weights.af,.int .i64 x.weights.an]:=oG.new w1 [.slice dG x.Z.length bV,.slice dS x.O.length dJ,.int .i64 x.next,.int .i64 x.weights.pack,.int .i64 x.weights.af,.int .i64 x.weights.an] 29;have ex:Below w1.heap.size w1 (w1.alloc (.cells ([.slice dG x.Z.length bV,.slice dS x.O.length dJ,.int .i64 x.next,.int .i64 x.weights.pack,.int .i64 x.weights.af,.int .i64 x.weights.an]:List Value).toArray 29)):=ak (aj _) _;replace KT:=KT.ext ex;replace KR:=KR.ext ex;replace hB:=ah hB ex;replace jX:=(jX.mono (B':=w.heap.size+1+1) S').ext ex;clear bk;obtain ⟨t0,t1,t2,t3,t4,t5⟩:=cM (KT);have tl:=(KT).lt;go_wp2_with fail
 clear t0 t1 t2 t3 t4 t5 tl;generalize (w1.alloc (.cells ([.slice dG x.Z.length bV,.slice dS x.O.length dJ,.int .i64 x.next,.int .i64 x.weights.pack,.int .i64 x.weights.af,.int .i64 x.weights.an]:List Value).toArray 29)) = wo at *;have KK:=qM x _ _ _ (aZ h hB) HW.out;cases hc:iI x
 case' false =>
  rw [hc] at KK;have HF:=I (aJ4 hc);clear hc;refine KK.mono ?_;rintro e w3 ⟨rfl,bj⟩;replace KT:=KT.ext bj;replace KR:=KR.ext bj;replace hB:=ah hB bj;replace KO:=KO.ext bj;replace jX:=jX.ext bj;clear KK bj;obtain ⟨m0,m1,m2,m3,m4,m5⟩:=cM KO;have ml:=KO.lt;obtain ⟨r0,r1,r2,r3,r4,r5⟩:=cM (KR);have rf:=(KR).fz;have rl:=(KR).lt;have gH:=I jX;have RL:=I hB;clear KR KO KT jX hB;go_wp2_with fail
  try dsimp only
  iterate 60 (first | go_step | skip)
  refine bodyPost_ret (v:=.tuple #[.agg #[.slice dG x.Z.length bV,.slice dS x.O.length dJ,.int .i64 x.next,.int .i64 x.weights.pack,.int .i64 x.weights.af,.int .i64 x.weights.an],.string ⟨#[]⟩,.string ⟨#[]⟩,.int .i64 1]) (by simp [results,Tryz.results111,go_sem, *]) rfl ?_;exact ze
 rw [hc] at KK;have HC:=I hc;clear hc;refine KK.mono ?_;rintro e w3 ⟨rfl,bj⟩;replace KT:=KT.ext bj;replace KR:=KR.ext bj;replace hB:=ah hB bj;replace KO:=KO.ext bj;replace jX:=jX.ext bj;have eK:w.heap.size+1 < w3.heap.size:=KR.lt;clear KK bj;obtain ⟨t0,t1,t2,t3,t4,t5⟩:=cM (KT);have tl:=(KT).lt;go_wp2_with fail
 clear t0 t1 t2 t3 t4 t5 tl;refine (akH x _ _ _ (aZ h hB) Ji.out).mono ?_;rintro e w2 ⟨A2,c2,G2,rfl,bN,av⟩;replace KT:=KT.ext av;replace KR:=KR.ext av;replace hB:=ah hB av;replace KO:=KO.ext av;replace jX:=jX.ext av;clear av;have Vl:((GI x.O).length:Int)≤1048576:=by have:=ap3 x.O;omega
 have HLL:=I (show ∃l,GI x.O = l from ⟨_,rfl⟩);obtain ⟨l,hl⟩:=HLL.out;have HL:=I hl;rw [hl] at bN Vl;rw [hl];clear hl HLL;by_cases cY:l.length = 0
 ·have HF:=I (show BX x = (x,⟨#[]⟩,⟨#[]⟩,7) by rw [aIp HC.out (by rw [HL.out];intro j hj;omega),HL.out,if_pos cY]);obtain ⟨m0,m1,m2,m3,m4,m5⟩:=cM KO;have ml:=KO.lt;obtain ⟨r0,r1,r2,r3,r4,r5⟩:=cM (KR);have rf:=(KR).fz;have rl:=(KR).lt;have gH:=I jX;have RL:=I hB;clear KR KO KT jX hB;go_wp2_with fail
  try dsimp only
  iterate 60 (first | go_step | skip)
  refine bodyPost_ret (v:=.tuple #[.agg #[.slice dG x.Z.length bV,.slice dS x.O.length dJ,.int .i64 x.next,.int .i64 x.weights.pack,.int .i64 x.weights.af,.int .i64 x.weights.an],.string ⟨#[]⟩,.string ⟨#[]⟩,.int .i64 7]) (by simp [results,Tryz.results111,go_sem, *]) rfl ?_;exact ze
 ·have Mm:((l.length:Int) == 0) = false:=by rw [beq_eq_false_iff_ne];omega
  go_wp2_with fail
  try simp only [Mm]
  go_loopw [8] (fun j wr=>∃k:Nat,k≤l.length∧j = .int .i64 (k:Int)∧Hid (∀j (hj:j < l.length),j < k→vd x l[j] = false)∧Below w2.heap.size w2 wr) (fun j _=>l.length - (intOf j).toNat)
  case atStart=>exact ⟨0,Nat.zero_le _,rfl,I (fun j _ hj=>by omega),aj _⟩
  case round =>
   obtain ⟨k,hk,rfl,HB0,bS⟩:=hrel;have bL:=ah hB bS;by_cases ap:k < l.length
   ·obtain ⟨b,o,ck,Fk,hA,hbG,hbs,aJe,_,hcells⟩:=Sl.get (bN.ext bS).rd ap;subst hA;obtain ⟨aw,su,eQ⟩:=aJe;subst aw;have q0:wr.cell? ⟨b,o+k,none⟩ = some (.string l[k]):=(by have:=hcells 0 _ rfl;simpa [show bd.size ByteArray = 1 from rfl] using this);clear hcells su;obtain ⟨t0,t1,t2,t3,t4,t5⟩:=cM (KT.ext bS);have tl:=(KT.ext bS).lt;obtain ⟨r,sh,cd,hR⟩:∃r s c,kd x l[k] = (r,s,c):=⟨_,_,_,rfl⟩;have KP:=Qm x _ _ l[k] wr (aZ h bL) HW.out;rw [hR] at KP;dsimp only at KP;have HR:=I hR;clear hR;have HT:=I (And.intro KP (And.intro bL bS));clear KP;go_wp2_with fail
    try simp only [Mm]
    refine zU wr 14 U' U' (aj _) ?_;refine YU (fun a0 a' w'=>∃(p9:Nat) (Nj SB:Option Addr) (Nk SC:Nat) (G3:List Nat) (de df dg di dj dk dl dz ey ez:Value),a' = (Act.put (Act.put (Act.put (Act.put (Act.put (Act.put (Act.put (Act.put (Act.put (Act.put (Act.put (Act.put (Act.put a0 (some 31) (de)) (some 32) (df)) (some 33) (dg)) (some 34) (di)) (some 35) (dj)) (some 36) (dk)) (some 30) (dl)) (some 37) (dz)) (some 38) (ey)) (some 39) (ez)) (some 9) (.pointer (some ⟨p9,0,none⟩))) (some 10) (.string sh)) (some 11) (.int .i64 cd))∧Below wr.heap.size wr w'∧wr.heap.size≤p9∧oG w' p9 [.slice Nj r.Z.length Nk,.slice SB r.O.length SC,.int .i64 r.next,.int .i64 r.weights.pack,.int .i64 r.weights.af,.int .i64 r.weights.an]∧(∀y∈G3,y≠p9∧wr.heap.size≤y)∧am w' wr.heap.size r [.slice Nj r.Z.length Nk,.slice SB r.O.length SC,.int .i64 r.next,.int .i64 r.weights.pack,.int .i64 r.weights.af,.int .i64 r.weights.an] G3) ?_ ?_;rotate_left
    ·intro HK;have bu:Below wr.heap.size wr wr.drew:=aA (aj _);refine aX 0 _ X U' H' o3 W' ?_;try simp only [Act.put,pz]
     refine aX 1 _ X U' H' o3 W' ?_;try simp only [Act.put,pz]
     refine aX 2 _ X U' H' o3 W' ?_;try simp only [Act.put,pz]
     refine aX 3 _ X U' H' o3 W' ?_;try simp only [Act.put,pz]
     refine aX 4 _ X U' H' o3 W' ?_;try simp only [Act.put,pz]
     refine D7 5 10 X X U' X X (fun K hK=>?_) (fun K hK=>?_)
     ·have KP:=Qm x _ _ l[k] _ (aZ h (ah bL (aA (aj _)))) HW.out;rw [HR.out] at KP;dsimp only at KP;go_simp;refine KP.mono ?_;rintro e w5 ⟨ds,G3,rfl,hOr,bo⟩;have Mn:=hOr.rd;obtain ⟨Nj,Nk,Nl,SB,SC,SE,aw,hGr,Np,SG,SH,xE,uw,xG⟩:=aO Mn;subst aw;clear hGr Mn;have Vn:wr.heap.size≤_:=bu.size;replace bu:=ah bu bo;refine hK _ _ bu ?_;try simp only [Act.put,pz]
      clear hK K;replace hOr:=hOr.mono (B':=wr.heap.size) Vn;refine aX 6 _ X U' H' o3 W' ?_;try simp only [Act.put,pz]
      refine aX 7 _ X U' H' o3 W' ?_;try simp only [Act.put,pz]
      refine aX 8 _ X U' H' o3 W' ?_;try simp only [Act.put,pz]
      refine aX 9 _ X U' H' o3 W' ?_;try simp only [Act.put,pz]
      refine bP 10 X U' X (fun K hK=>?_);go_simp;refine hK _ _ (ak bu _) ?_;try simp only [Act.put,pz]
      clear hK K;have kR:wr.heap.size≤w5.heap.size:=bu.size;have HP:oG (w5.alloc (.cells ([.slice none 0 0,.slice none 0 0,.int .i64 0,.int .i64 0,.int .i64 0,.int .i64 0]:List Value).toArray 29)) w5.heap.size [.slice none 0 0,.slice none 0 0,.int .i64 0,.int .i64 0,.int .i64 0,.int .i64 0]:=oG.new w5 [.slice none 0 0,.slice none 0 0,.int .i64 0,.int .i64 0,.int .i64 0,.int .i64 0] 29;have me:=bu;have Vo:=hOr;have Mo:∀y∈G3,y≠w5.heap.size:=fun y hy=>by have:=hOr.lt y hy;omega
      replace hOr:=hOr.alloc (.cells ([.slice none 0 0,.slice none 0 0,.int .i64 0,.int .i64 0,.int .i64 0,.int .i64 0]:List Value).toArray 29);replace bu:=ak bu (.cells ([.slice none 0 0,.slice none 0 0,.int .i64 0,.int .i64 0,.int .i64 0,.int .i64 0]:List Value).toArray 29);have kl:=HP.lt;have kf:=HP.fz;obtain ⟨k0,k1,k2,k3,k4,k5⟩:=cM HP;have Iz:∀y∈G3,y≠w5.heap.size:=Mo;refine bP 11 X U' X (fun K hK=>?_);go_simp;refine hK _ _ Sd ?_;try simp only [Act.put,pz]
      clear hK K;refine bP 12 X U' X (fun K hK=>?_);go_simp;refine hK _ _ Sd ?_;try simp only [Act.put,pz]
      clear hK K;refine bP 13 X U' X (fun K hK=>?_);go_simp;refine hK _ _ Sd ?_;try simp only [Act.put,pz]
      clear hK K;refine nR U' ?_;exact HK _ _ ⟨w5.heap.size,_,_,_,_,G3,_,_,_,_,_,_,_,_,_,_,DZ,(ak me _),kR,(oG.new w5 [.slice Nj r.Z.length Nk,.slice SB r.O.length SC,.int .i64 r.next,.int .i64 r.weights.pack,.int .i64 r.weights.af,.int .i64 r.weights.an] 29),(fun y hy=>⟨Iz y hy,hOr.base y hy⟩),(Vo.alloc _)⟩
     ·have Vp:=Qm x _ _ l[k] _ (aZ h (ak (ah bL (aA (aj _))) (.cells ([.slice none 0 0,.slice none 0 0,.int .i64 0,.int .i64 0,.int .i64 0,.int .i64 0]:List Value).toArray 29))) HW.out;rw [HR.out] at Vp;dsimp only at Vp;go_simp;refine hK _ _ (ak bu _) ?_;try simp only [Act.put,pz]
      clear hK K;have kR:wr.heap.size≤wr.heap.size:=bu.size;have HP:oG (wr.drew.alloc (.cells ([.slice none 0 0,.slice none 0 0,.int .i64 0,.int .i64 0,.int .i64 0,.int .i64 0]:List Value).toArray 29)) wr.heap.size [.slice none 0 0,.slice none 0 0,.int .i64 0,.int .i64 0,.int .i64 0,.int .i64 0]:=oG.new wr.drew [.slice none 0 0,.slice none 0 0,.int .i64 0,.int .i64 0,.int .i64 0,.int .i64 0] 29;replace bu:=ak bu (.cells ([.slice none 0 0,.slice none 0 0,.int .i64 0,.int .i64 0,.int .i64 0,.int .i64 0]:List Value).toArray 29);refine bP 5 X U' X (fun K hK=>?_);have fl:=HP.lt;go_simp;refine Vp.mono ?_;rintro e w5 ⟨ds,G3,rfl,hOr,bo⟩;replace HP:=HP.ext bo;have Mn:=hOr.rd;obtain ⟨Nj,Nk,Nl,SB,SC,SE,aw,hGr,Np,SG,SH,xE,uw,xG⟩:=aO Mn;subst aw;clear hGr Mn;have Vn:wr.heap.size≤_:=bu.size;replace bu:=ah bu bo;refine hK _ _ bu ?_;try simp only [Act.put,pz]
      clear hK K;have Mo:∀y∈G3,y≠wr.heap.size:=fun y hy=>by have:=hOr.base y hy;(try simp at this);omega
      replace hOr:=hOr.mono (B':=wr.heap.size) Vn;refine aX 6 _ X U' H' o3 W' ?_;try simp only [Act.put,pz]
      refine aX 7 _ X U' H' o3 W' ?_;try simp only [Act.put,pz]
      refine aX 8 _ X U' H' o3 W' ?_;try simp only [Act.put,pz]
      refine aX 9 _ X U' H' o3 W' ?_;try simp only [Act.put,pz]
      have kl:=HP.lt;have kf:=HP.fz;obtain ⟨k0,k1,k2,k3,k4,k5⟩:=cM HP;have Iz:∀y∈G3,y≠wr.heap.size:=Mo;refine bP 11 X U' X (fun K hK=>?_);go_simp;refine hK _ _ Sk ?_;try simp only [Act.put,pz]
      clear hK K;refine bP 12 X U' X (fun K hK=>?_);go_simp;refine hK _ _ Sk ?_;try simp only [Act.put,pz]
      clear hK K;refine bP 13 X U' X (fun K hK=>?_);go_simp;refine hK _ _ Sk ?_;try simp only [Act.put,pz]
      clear hK K;refine nR U' ?_;exact HK _ _ ⟨wr.heap.size,_,_,_,_,G3,_,_,_,_,_,_,_,_,_,_,DZ,(aC (p:=⟨wr.heap.size,5,none⟩) (aC (p:=⟨wr.heap.size,4,none⟩) (aC (p:=⟨wr.heap.size,3,none⟩) (aC (p:=⟨wr.heap.size,2,none⟩) (aC (p:=⟨wr.heap.size,1,none⟩) (aC (p:=⟨wr.heap.size,0,none⟩) bu kR (.slice Nj r.Z.length Nk)) kR (.slice SB r.O.length SC)) kR (.int .i64 r.next)) kR (.int .i64 r.weights.pack)) kR (.int .i64 r.weights.af)) kR (.int .i64 r.weights.an)),kR,((((((HP.put 0 (.slice Nj r.Z.length Nk)).put 1 (.slice SB r.O.length SC)).put 2 (.int .i64 r.next)).put 3 (.int .i64 r.weights.pack)).put 4 (.int .i64 r.weights.af)).put 5 (.int .i64 r.weights.an)),(fun y hy=>⟨Iz y hy,hOr.base y hy⟩),(Ex (c:=wr.heap.size) (i:=5) (u:=.int .i64 r.weights.an) (Ex (c:=wr.heap.size) (i:=4) (u:=.int .i64 r.weights.af) (Ex (c:=wr.heap.size) (i:=3) (u:=.int .i64 r.weights.pack) (Ex (c:=wr.heap.size) (i:=2) (u:=.int .i64 r.next) (Ex (c:=wr.heap.size) (i:=1) (u:=.slice SB r.O.length SC) (Ex (c:=wr.heap.size) (i:=0) (u:=.slice Nj r.Z.length Nk) hOr Iz) Iz) Iz) Iz) Iz) Iz)⟩
    rintro a' w9 ⟨p9,Nj,SB,Nk,SC,G3,de,df,dg,di,dj,dk,dl,dz,ey,ez,ha,xB,hpb9,HP9,hGp9,SY⟩;subst ha;try simp only [Act.put,pz]
    clear t0 t1 t2 t3 t4 t5 tl;have Qq:=ah bL xB;have Qr:=(KR.ext bS).ext xB;have q9:=r' xB q0 hbs;have Vq:b < w9.heap.size:=(by have:=xB.size;omega);clear q0;by_cases hz:cd = 0
    ·subst hz
     have HF:=I (show BX x = (r,l[k],sh,0) by
      have h9:=aJi (x:=x) HC.out (k:=k) (by rw [HL.out];exact ap) (by simp only [HL.out];exact HB0.out) (by simp only [HL.out];unfold vd;rw [HR.out];rfl);simp only [HL.out,HR.out] at h9
      exact h9)
     have cq:b≠w.heap.size+1:=(by have:=bN.base b hbG;omega);have hpne:w.heap.size+1 < p9:=(by have:=KR.lt;have:=bS.size;omega);have xi:=HP9.ext (aA (aj _));have x0:(fun w'=>w'.cell? ⟨p9,0,none⟩ = some (.slice Nj r.Z.length Nk)∧w'.cell? ⟨p9,1,none⟩ = some (.slice SB r.O.length SC)∧w'.cell? ⟨p9,2,none⟩ = some (.int .i64 r.next)∧w'.cell? ⟨p9,3,none⟩ = some (.int .i64 r.weights.pack)∧w'.cell? ⟨p9,4,none⟩ = some (.int .i64 r.weights.af)∧w'.cell? ⟨p9,5,none⟩ = some (.int .i64 r.weights.an)∧w'.cell? ⟨b,o+k,none⟩ = some (.string l[k])) w9.drew:=⟨xi.cell (i:=0) (u:=.slice Nj r.Z.length Nk) rfl,xi.cell (i:=1) (u:=.slice SB r.O.length SC) rfl,xi.cell (i:=2) (u:=.int .i64 r.next) rfl,xi.cell (i:=3) (u:=.int .i64 r.weights.pack) rfl,xi.cell (i:=4) (u:=.int .i64 r.weights.af) rfl,xi.cell (i:=5) (u:=.int .i64 r.weights.an) rfl,(aA (aj _)).cell (p:=⟨b,o+k,none⟩) Vq |>.trans q9⟩;have mR:=I ((show am w9 (w.heap.size+1+1) r [.slice Nj r.Z.length Nk,.slice SB r.O.length SC,.int .i64 r.next,.int .i64 r.weights.pack,.int .i64 r.weights.af,.int .i64 r.weights.an] G3 from SY.mono (by have:=KR.lt;have:=bS.size;omega)).ext (aA (aj _)));have pk:=I (aA Qq);obtain ⟨r0,r1,r2,r3,r4,r5⟩:=cM (Qr.ext (aA (aj _)));have rf:=(Qr.ext (aA (aj _))).fz;have rl:=(Qr.ext (aA (aj _))).lt;go_wp2_with fail
     refine azU (C:=(fun w'=>w'.cell? ⟨p9,0,none⟩ = some (.slice Nj r.Z.length Nk)∧w'.cell? ⟨p9,1,none⟩ = some (.slice SB r.O.length SC)∧w'.cell? ⟨p9,2,none⟩ = some (.int .i64 r.next)∧w'.cell? ⟨p9,3,none⟩ = some (.int .i64 r.weights.pack)∧w'.cell? ⟨p9,4,none⟩ = some (.int .i64 r.weights.af)∧w'.cell? ⟨p9,5,none⟩ = some (.int .i64 r.weights.an)∧w'.cell? ⟨b,o+k,none⟩ = some (.string l[k]))) 10 U' rfl x0 ?_;generalize w9.drew = wd at *
     refine aX 0 _ X U' H' x0 (Or.inl ⟨rfl,fun wq hq=>by
      obtain ⟨y0,y1,y2,y3,y4,y5,y6⟩:=hq;go_simp
      try rfl⟩) ?_
     try simp only [Act.put,pz]
     refine aX 1 _ X U' H' x0 (Or.inl ⟨rfl,fun wq hq=>by
      obtain ⟨y0,y1,y2,y3,y4,y5,y6⟩:=hq;go_simp
      try rfl⟩) ?_
     try simp only [Act.put,pz]
     refine aX 2 _ X U' H' x0 (Or.inl ⟨rfl,fun wq hq=>by
      obtain ⟨y0,y1,y2,y3,y4,y5,y6⟩:=hq;go_simp
      try rfl⟩) ?_
     try simp only [Act.put,pz]
     refine aX 3 _ X U' H' x0 (Or.inl ⟨rfl,fun wq hq=>by
      obtain ⟨y0,y1,y2,y3,y4,y5,y6⟩:=hq;go_simp
      try rfl⟩) ?_
     try simp only [Act.put,pz]
     refine aX 4 _ X U' H' x0 (Or.inl ⟨rfl,fun wq hq=>by
      obtain ⟨y0,y1,y2,y3,y4,y5,y6⟩:=hq;go_simp
      try rfl⟩) ?_
     try simp only [Act.put,pz]
     refine aX 5 _ X U' H' x0 (Or.inl ⟨rfl,fun wq hq=>by
      obtain ⟨y0,y1,y2,y3,y4,y5,y6⟩:=hq;go_simp
      try rfl⟩) ?_
     try simp only [Act.put,pz]
     refine bP 6 X U' X (fun K hK=>?_);go_simp;have Cv:=((((((xi.bE (c:=w.heap.size+1) J 0 (.slice Nj r.Z.length Nk)).bE (c:=w.heap.size+1) J 1 (.slice SB r.O.length SC)).bE (c:=w.heap.size+1) J 2 (.int .i64 r.next)).bE (c:=w.heap.size+1) J 3 (.int .i64 r.weights.pack)).bE (c:=w.heap.size+1) J 4 (.int .i64 r.weights.af)).bE (c:=w.heap.size+1) J 5 (.int .i64 r.weights.an));have qs:=(World.cell?_of_block (a:=⟨b,o+k,none⟩) (by rw [Below.heap_setCell _ _ _ _ (by exact cq),Below.heap_setCell _ _ _ _ (by exact cq),Below.heap_setCell _ _ _ _ (by exact cq),Below.heap_setCell _ _ _ _ (by exact cq),Below.heap_setCell _ _ _ _ (by exact cq),Below.heap_setCell _ _ _ _ (by exact cq)]:((((((wd.setCell ⟨w.heap.size+1,0,none⟩ (.slice Nj r.Z.length Nk)).setCell ⟨w.heap.size+1,1,none⟩ (.slice SB r.O.length SC)).setCell ⟨w.heap.size+1,2,none⟩ (.int .i64 r.next)).setCell ⟨w.heap.size+1,3,none⟩ (.int .i64 r.weights.pack)).setCell ⟨w.heap.size+1,4,none⟩ (.int .i64 r.weights.af)).setCell ⟨w.heap.size+1,5,none⟩ (.int .i64 r.weights.an)).heap[b]? = wd.heap[b]?)).trans x0.2.2.2.2.2.2;have x1:=And.intro (Cv.cell (i:=0) (u:=.slice Nj r.Z.length Nk) rfl) (And.intro (Cv.cell (i:=1) (u:=.slice SB r.O.length SC) rfl) (And.intro (Cv.cell (i:=2) (u:=.int .i64 r.next) rfl) (And.intro (Cv.cell (i:=3) (u:=.int .i64 r.weights.pack) rfl) (And.intro (Cv.cell (i:=4) (u:=.int .i64 r.weights.af) rfl) (And.intro (Cv.cell (i:=5) (u:=.int .i64 r.weights.an) rfl) qs)))));refine hK _ _ x1 ?_;try simp only [Act.put,pz]
     clear hK K;refine bP 7 X U' X (fun K hK=>?_);go_simp;refine hK _ _ x1 ?_;try simp only [Act.put,pz]
     clear hK K;refine bP 8 X U' X (fun K hK=>?_);go_simp;refine hK _ _ x1 ?_;try simp only [Act.put,pz]
     clear hK K;refine bP 9 X U' X (fun K hK=>?_);go_simp;refine hK _ _ x1 ?_;try simp only [Act.put,pz]
     clear hK K;refine nR U' ?_;clear SY Qq Qr bL bS xB HP9 q9 x0 x1 Cv xi qs;go_wp2_with fail
     try dsimp only
     iterate 60 (first | go_step | skip)
     refine bodyPost_ret (v:=.tuple #[.agg #[.slice Nj r.Z.length Nk,.slice SB r.O.length SC,.int .i64 r.next,.int .i64 r.weights.pack,.int .i64 r.weights.af,.int .i64 r.weights.an],.string l[k],.string sh,.int .i64 0]) (by simp [results,Tryz.results111,go_sem, *]) rfl ?_;rw [HF.out]
     first
      | refine ⟨[.slice Nj r.Z.length Nk,.slice SB r.O.length SC,.int .i64 r.next,.int .i64 r.weights.pack,.int .i64 r.weights.af,.int .i64 r.weights.an],G3,rfl,?_,?_⟩
      | refine ⟨[.slice Nj r.Z.length Nk,.slice SB r.O.length SC,.int .i64 r.next,.int .i64 r.weights.pack,.int .i64 r.weights.af,.int .i64 r.weights.an],rfl,⟨G3,?_⟩,?_⟩
     ·try dsimp only
      refine am.mono (B:=w.heap.size+1+1) ?_ J;have hO:=mR.out;exact Yx
     ·have hB:=pk.out;exact Yy
    ·have HZ:=I hz;have tj:(cd == 0) = false:=(by simp [hz]);clear hz;go_wp2_with fail
     refine ⟨⟨k+1,J,N',I (fun j hj gm=>?_),ah bS xB⟩,by simp [intOf];omega⟩;rcases Nat.lt_or_ge j k with h9 | h9
     ·exact HB0.out j hj h9
     ·have:j = k:=J;subst this;unfold vd;rw [HR.out];simp [HZ.out]
   ·have bx:k = l.length:=J
    have HF:=I (show BX x = (x,⟨#[]⟩,⟨#[]⟩,6) by
     have h9:=aIp (x:=x) HC.out (by simp only [HL.out];intro j hj;exact HB0.out j hj J)
     rwa [HL.out,if_neg cY] at h9)
    replace KT:=KT.ext bS;replace KR:=KR.ext bS;replace KO:=KO.ext bS;replace jX:=jX.ext bS;clear hB;have hB:=bL;clear bL bx bN;obtain ⟨m0,m1,m2,m3,m4,m5⟩:=cM KO;have ml:=KO.lt;obtain ⟨r0,r1,r2,r3,r4,r5⟩:=cM (KR);have rf:=(KR).fz;have rl:=(KR).lt;have gH:=I jX;have RL:=I hB;clear KR KO KT jX hB;go_wp2_with fail
    try dsimp only
    iterate 60 (first | go_step | skip)
    refine bodyPost_ret (v:=.tuple #[.agg #[.slice dG x.Z.length bV,.slice dS x.O.length dJ,.int .i64 x.next,.int .i64 x.weights.pack,.int .i64 x.weights.af,.int .i64 x.weights.an],.string ⟨#[]⟩,.string ⟨#[]⟩,.int .i64 6]) (by simp [results,Tryz.results111,go_sem, *]) rfl ?_;exact ze
end Go.Proofs.YtjahcnjmjahbaaaGreat
