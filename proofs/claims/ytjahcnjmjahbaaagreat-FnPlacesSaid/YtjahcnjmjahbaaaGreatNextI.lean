/- PlaceNext of the program. No condition. -/
import Derived.Test.YtjahcnjmjahbaaaGreatPlacePB
namespace Go.Proofs.YtjahcnjmjahbaaaGreat
open Go.ChangeShapes Go.WideShapes Go.ChangeAt Go.RowKit
set_option linter.unusedVariables false
set_option linter.unusedSimpArgs false
set_option maxHeartbeats 8000000
set_option maxRecDepth 100000
theorem aFV (x:aU) (cs:List Value) (F:List Nat) (w:World) (h:rd w x cs F) (hw:(x.wt:Int)≤1048576) :
 Calls Tryz.prog 21 #[.agg cs.toArray] w fun e w'=>∃ds G,e = .returned (.tuple #[.agg ds.toArray,.string (BX x).2.1,.string (BX x).2.2.1,.int .i64 (BX x).2.2.2])∧am w' w.heap.size (BX x).1 ds G∧Below w.heap.size w w':=by
 have fk:(x.J.length:Int)≤1048576:=by have h1:=gJ ag.wt x.J;have h2:x.wt = kL ba.wt x.aa+kL ag.wt x.J:=rfl;omega
 have HW:=I hw;have Ji:=I fk;clear hw;have hr:=h;obtain ⟨bG,bD,fQ,dn,bW,jg,ax,qp,bQ,dM,hnext,aV,aP,aW⟩:=aO hr;subst ax;clear qp hr;have KT:oG ((w.alloc (.cells ([.slice bG x.aa.length bD,.slice dn x.J.length bW,.int .i64 x.next,.int .i64 x.weights.pack,.int .i64 x.weights.af,.int .i64 x.weights.al]:List Value).toArray 29)).alloc (.cells ([.slice none 0 0,.slice none 0 0,.int .i64 0,.int .i64 0,.int .i64 0,.int .i64 0]:List Value).toArray 29)) w.heap.size [.slice bG x.aa.length bD,.slice dn x.J.length bW,.int .i64 x.next,.int .i64 x.weights.pack,.int .i64 x.weights.af,.int .i64 x.weights.al]:=(oG.new w [.slice bG x.aa.length bD,.slice dn x.J.length bW,.int .i64 x.next,.int .i64 x.weights.pack,.int .i64 x.weights.af,.int .i64 x.weights.al] 29).ext (ak (aj _) _);have KR:oG ((w.alloc (.cells ([.slice bG x.aa.length bD,.slice dn x.J.length bW,.int .i64 x.next,.int .i64 x.weights.pack,.int .i64 x.weights.af,.int .i64 x.weights.al]:List Value).toArray 29)).alloc (.cells ([.slice none 0 0,.slice none 0 0,.int .i64 0,.int .i64 0,.int .i64 0,.int .i64 0]:List Value).toArray 29)) (w.heap.size+1) [.slice none 0 0,.slice none 0 0,.int .i64 0,.int .i64 0,.int .i64 0,.int .i64 0]:=by have:=oG.new (w.alloc (.cells ([.slice bG x.aa.length bD,.slice dn x.J.length bW,.int .i64 x.next,.int .i64 x.weights.pack,.int .i64 x.weights.af,.int .i64 x.weights.al]:List Value).toArray 29)) [.slice none 0 0,.slice none 0 0,.int .i64 0,.int .i64 0,.int .i64 0,.int .i64 0] 29;rw [World.size_alloc] at this;exact this
 have hB:Below w.heap.size w ((w.alloc (.cells ([.slice bG x.aa.length bD,.slice dn x.J.length bW,.int .i64 x.next,.int .i64 x.weights.pack,.int .i64 x.weights.af,.int .i64 x.weights.al]:List Value).toArray 29)).alloc (.cells ([.slice none 0 0,.slice none 0 0,.int .i64 0,.int .i64 0,.int .i64 0,.int .i64 0]:List Value).toArray 29)):=ak (ak (aj _) _) _;go_enter Tryz.func21,Tryz.ntmps21;obtain ⟨t0,t1,t2,t3,t4,t5⟩:=cH (KT);have tl:=(KT).lt;go_wp2_with fail
 clear t0 t1 t2 t3 t4 t5 tl;generalize ((w.alloc (.cells ([.slice bG x.aa.length bD,.slice dn x.J.length bW,.int .i64 x.next,.int .i64 x.weights.pack,.int .i64 x.weights.af,.int .i64 x.weights.al]:List Value).toArray 29)).alloc (.cells ([.slice none 0 0,.slice none 0 0,.int .i64 0,.int .i64 0,.int .i64 0,.int .i64 0]:List Value).toArray 29)) = wo at *;have KK:=qL x _ _ _ (aZ h hB) HW.out;cases hc:iI x
 case' false =>
  rw [hc] at KK;have HF:=I (aJ4 hc);clear hc;refine KK.mono ?_;rintro e w3 ⟨rfl,bd⟩;replace KT:=KT.ext bd;replace KR:=KR.ext bd;replace hB:=ah hB bd;clear KK bd;obtain ⟨t0,t1,t2,t3,t4,t5⟩:=cH (KT);have tl:=(KT).lt;go_wp2_with fail
  clear t0 t1 t2 t3 t4 t5 tl;have hzk:=KR.lt;refine (uo x _ _ _ (aZ h hB) HW.out).mono ?_;rintro e w9 ⟨cs9,G9,rfl,SY,xB⟩;have yM:=SY.rd;obtain ⟨Pe,Pg,Ph,Vo,Vp,Vq,ax,hG9,Pj,Vr,Vs,zF,wB,zG⟩:=aO yM;subst ax;clear hG9 yM;replace KR:=KR.ext xB;have mH:=I (SY.mono (B':=w.heap.size+1+1) O);have QX:=I (ah hB xB);obtain ⟨r0,r1,r2,r3,r4,r5⟩:=cH (KR);have rf:=(KR).fz;have rl:=(KR).lt;clear KR SY xB hB;go_wp2_with fail
  try dsimp only
  iterate 60 (first | go_step | skip)
  refine bodyPost_ret (v:=.tuple #[.agg #[.slice Pe x.aa.length Pg,.slice Vo x.J.length Vp,.int .i64 x.next,.int .i64 x.weights.pack,.int .i64 x.weights.af,.int .i64 x.weights.al],.string ⟨#[]⟩,.string ⟨#[]⟩,.int .i64 1]) (by simp [results,Tryz.results21,go_sem, *]) rfl ?_;exact AM
 rw [hc] at KK;have HC:=I hc;clear hc;refine KK.mono ?_;rintro e w3 ⟨rfl,bd⟩;replace KT:=KT.ext bd;replace KR:=KR.ext bd;replace hB:=ah hB bd;have ez:w.heap.size+1 < w3.heap.size:=KR.lt;clear KK bd;obtain ⟨t0,t1,t2,t3,t4,t5⟩:=cH (KT);have tl:=(KT).lt;go_wp2_with fail
 clear t0 t1 t2 t3 t4 t5 tl;refine (abR x _ _ _ (aZ h hB) Ji.out).mono ?_;rintro e w2 ⟨A2,c2,G2,rfl,bC,ao⟩;replace KT:=KT.ext ao;replace KR:=KR.ext ao;replace hB:=ah hB ao;clear ao;have EM:((GI x.J).length:Int)≤1048576:=by have:=Uy x.J;omega
 have Ns:=I (show ∃l,GI x.J = l from ⟨_,rfl⟩);obtain ⟨l,hl⟩:=Ns.out;have HL:=I hl;rw [hl] at bC EM;rw [hl];clear hl Ns;go_wp2_with fail
 go_loopw [21] (fun j wr=>∃k:Nat,k≤l.length∧j = .int .i64 (k:Int)∧Hid (∀j (hj:j < l.length),j < k→oz x l[j] = false)∧Below w2.heap.size w2 wr) (fun j _=>l.length - (intOf j).toNat)
 case atStart=>exact ⟨0,Nat.zero_le _,rfl,I (fun j _ hj=>by omega),aj _⟩
 case round =>
  obtain ⟨k,hk,rfl,HB0,bS⟩:=hrel;have bF:=ah hB bS;by_cases ap:k < l.length
  ·obtain ⟨b,o,ck,Fk,hA,hbG,hbs,aJe,_,hcells⟩:=Sl.get (bC.ext bS).rd ap;subst hA;obtain ⟨ax,su,gv⟩:=aJe;subst ax;have q0:wr.cell? ⟨b,o+k,none⟩ = some (.string l[k]):=(by have:=hcells 0 _ rfl;simpa [show bk.size ByteArray = 1 from rfl] using this);clear hcells su;obtain ⟨t0,t1,t2,t3,t4,t5⟩:=cH (KT.ext bS);have tl:=(KT.ext bS).lt;obtain ⟨r,sh,cd,hR⟩:∃r s c,hJ x l[k] = (r,s,c):=⟨_,_,_,rfl⟩;have KP:=VE x _ _ l[k] wr (aZ h bF) HW.out;rw [hR] at KP;dsimp only at KP;have HR:=I hR;clear hR;go_wp2_with fail
   clear t0 t1 t2 t3 t4 t5 tl;refine KP.mono ?_;rintro e w5 ⟨ds,G3,rfl,hO3,bt⟩;have Xz:=hO3.rd;obtain ⟨Nj,Nk,Nl,SB,SC,SE,ax,hG3,Np,SG,SH,xE,uw,xG⟩:=aO Xz;subst ax;clear hG3 Xz KP q0;replace bF:=ah bF bt;have wJ:=(KR.ext bS).ext bt;by_cases hz:cd = 0
   ·subst hz
    have HF:=I (show BX x = (r,l[k],sh,0) by
     have h9:=Uz (x:=x) HC.out (k:=k) (by rw [HL.out];exact ap) (by simp only [HL.out];exact HB0.out) (by simp only [HL.out];unfold oz;rw [HR.out];rfl);simp only [HL.out,HR.out] at h9
     exact h9)
    obtain ⟨r0,r1,r2,r3,r4,r5⟩:=cH (wJ.ext (ak (aj w5) (.cells ([.slice Nj r.aa.length Nk,.slice SB r.J.length SC,.int .i64 r.next,.int .i64 r.weights.pack,.int .i64 r.weights.af,.int .i64 r.weights.al]:List Value).toArray 29)));have rf:=(wJ.ext (ak (aj w5) (.cells ([.slice Nj r.aa.length Nk,.slice SB r.J.length SC,.int .i64 r.next,.int .i64 r.weights.pack,.int .i64 r.weights.af,.int .i64 r.weights.al]:List Value).toArray 29))).fz;have rl:=(wJ.ext (ak (aj w5) (.cells ([.slice Nj r.aa.length Nk,.slice SB r.J.length SC,.int .i64 r.next,.int .i64 r.weights.pack,.int .i64 r.weights.af,.int .i64 r.weights.al]:List Value).toArray 29))).lt;have fG:=I (hO3.mono (B':=w.heap.size+1+1) (by have:=KR.lt;have:=bS.size;omega));have QB:=I bF;clear hO3 bF wJ bS bt;go_wp2_with fail
    try dsimp only
    iterate 60 (first | go_step | skip)
    refine bodyPost_ret (v:=.tuple #[.agg #[.slice Nj r.aa.length Nk,.slice SB r.J.length SC,.int .i64 r.next,.int .i64 r.weights.pack,.int .i64 r.weights.af,.int .i64 r.weights.al],.string l[k],.string sh,.int .i64 0]) (by simp [results,Tryz.results21,go_sem, *]) rfl ?_;rw [HF.out]
    first
     | refine ⟨[.slice Nj r.aa.length Nk,.slice SB r.J.length SC,.int .i64 r.next,.int .i64 r.weights.pack,.int .i64 r.weights.af,.int .i64 r.weights.al],G3,rfl,?_,?_⟩
     | refine ⟨[.slice Nj r.aa.length Nk,.slice SB r.J.length SC,.int .i64 r.next,.int .i64 r.weights.pack,.int .i64 r.weights.af,.int .i64 r.weights.al],rfl,⟨G3,?_⟩,?_⟩
    ·try dsimp only
     refine am.mono (B:=w.heap.size+1+1) ?_ O;have hO:=fG.out;exact OS
    ·have hB:=QB.out;exact OY
   ·have HZ:=I hz;have lN:(cd == 0) = false:=(by simp [hz]);clear hz;go_wp2_with fail
    refine ⟨⟨k+1,O,N',I (fun j hj fX=>?_),ak (ah bS bt) _⟩,by simp [intOf];omega⟩;exact Ks
  ·have bz:k = l.length:=O;have HK:=I bz
   have HN:=I (show BX x = (x,⟨#[]⟩,⟨#[]⟩,if l.length = 0 then 7 else 6) by
    have h9:=Qr (x:=x) HC.out (by simp only [HL.out];intro j hj;exact HB0.out j hj O)
    rwa [HL.out] at h9)
   replace KT:=KT.ext bS;replace KR:=KR.ext bS;clear hB;have hB:=bF;clear bF bz bC;by_cases hl0:l.length = 0
   ·have HF:=I (HN.out.trans (by rw [if_pos hl0]));obtain ⟨t0,t1,t2,t3,t4,t5⟩:=cH (KT);have tl:=(KT).lt;go_wp2_with fail
    clear t0 t1 t2 t3 t4 t5 tl;have hzk:=KR.lt;refine (uo x _ _ _ (aZ h hB) HW.out).mono ?_;rintro e w9 ⟨cs9,G9,rfl,SY,xB⟩;have yM:=SY.rd;obtain ⟨Pe,Pg,Ph,Vo,Vp,Vq,ax,hG9,Pj,Vr,Vs,zF,wB,zG⟩:=aO yM;subst ax;clear hG9 yM;replace KR:=KR.ext xB;have mH:=I (SY.mono (B':=w.heap.size+1+1) O);have QX:=I (ah hB xB);obtain ⟨r0,r1,r2,r3,r4,r5⟩:=cH (KR);have rf:=(KR).fz;have rl:=(KR).lt;clear KR SY xB hB;go_wp2_with fail
    try dsimp only
    iterate 60 (first | go_step | skip)
    refine bodyPost_ret (v:=.tuple #[.agg #[.slice Pe x.aa.length Pg,.slice Vo x.J.length Vp,.int .i64 x.next,.int .i64 x.weights.pack,.int .i64 x.weights.af,.int .i64 x.weights.al],.string ⟨#[]⟩,.string ⟨#[]⟩,.int .i64 7]) (by simp [results,Tryz.results21,go_sem, *]) rfl ?_;exact AM
   ·have HF:=I (HN.out.trans (by rw [if_neg hl0]));obtain ⟨t0,t1,t2,t3,t4,t5⟩:=cH (KT);have tl:=(KT).lt;go_wp2_with fail
    clear t0 t1 t2 t3 t4 t5 tl;have hzk:=KR.lt;refine (uo x _ _ _ (aZ h hB) HW.out).mono ?_;rintro e w9 ⟨cs9,G9,rfl,SY,xB⟩;have yM:=SY.rd;obtain ⟨Pe,Pg,Ph,Vo,Vp,Vq,ax,hG9,Pj,Vr,Vs,zF,wB,zG⟩:=aO yM;subst ax;clear hG9 yM;replace KR:=KR.ext xB;have mH:=I (SY.mono (B':=w.heap.size+1+1) O);have QX:=I (ah hB xB);obtain ⟨r0,r1,r2,r3,r4,r5⟩:=cH (KR);have rf:=(KR).fz;have rl:=(KR).lt;clear KR SY xB hB;go_wp2_with fail
    try dsimp only
    iterate 60 (first | go_step | skip)
    refine bodyPost_ret (v:=.tuple #[.agg #[.slice Pe x.aa.length Pg,.slice Vo x.J.length Vp,.int .i64 x.next,.int .i64 x.weights.pack,.int .i64 x.weights.af,.int .i64 x.weights.al],.string ⟨#[]⟩,.string ⟨#[]⟩,.int .i64 6]) (by simp [results,Tryz.results21,go_sem, *]) rfl ?_;exact AM
theorem C7 {α:Type} [bk α] {w:World} {B c i:Nat} {u:Value} {x:α} {cs:List Value} {F:List Nat} (h:am w B x cs F) (hF:∀y∈F,y≠c):am (w.setCell ⟨c,i,none⟩ u) B x cs F :=
 h.bJ (fun y hy=>Below.heap_setCell _ _ _ _ xP) fj
theorem Qt (x:aU) (cs:List Value) (F:List Nat) (nm:ByteArray) (w:World) (h:rd w x cs F) (hw:(x.wt:Int)≤1048576) :
 Calls Tryz.prog 110 #[.agg cs.toArray,.string nm] w fun e w'=>∃ds G,e = .returned (.tuple #[.agg ds.toArray,.string (hJ x nm).2.1,.int .i64 (hJ x nm).2.2])∧am w' w.heap.size (hJ x nm).1 ds G∧Below w.heap.size w w':=by
 have ga:x.wt = kL ba.wt x.aa+kL ag.wt x.J:=rfl;have fk:(x.J.length:Int)≤1048576:=by have h1:=gJ ag.wt x.J;omega
 have vQ:=I (fun k (hk:k < x.J.length)=>(show (nI.wt x.J[k].aS:Int)≤1048576 by have:=rM (f:=ag.wt) hk;have e:ag.wt x.J[k] = nI.wt x.J[k].aS+x.J[k].on.size:=rfl;omega));have HW:=I hw;have Ji:=I fk;clear hw ga;have hr:=h;obtain ⟨bG,bD,fQ,dn,bW,jg,ax,qp,bQ,dM,hnext,aV,aP,aW⟩:=aO hr;subst ax;clear qp hr;have yn:=Nc (p:=CG nm) x.J;obtain ⟨r,cZ⟩:∃r,pK (CG nm) x.J = r:=⟨_,rfl⟩;have HR:=I cZ;rw [cZ] at yn;clear cZ;have KT:=(oG.new w [.slice bG x.aa.length bD,.slice dn x.J.length bW,.int .i64 x.next,.int .i64 x.weights.pack,.int .i64 x.weights.af,.int .i64 x.weights.al] 29).ext (ak (aj _) (.cells ([.slice none 0 0,.slice none 0 0,.int .i64 0,.int .i64 0,.int .i64 0,.int .i64 0]:List Value).toArray 29));have KR:oG ((w.alloc (.cells ([.slice bG x.aa.length bD,.slice dn x.J.length bW,.int .i64 x.next,.int .i64 x.weights.pack,.int .i64 x.weights.af,.int .i64 x.weights.al]:List Value).toArray 29)).alloc (.cells ([.slice none 0 0,.slice none 0 0,.int .i64 0,.int .i64 0,.int .i64 0,.int .i64 0]:List Value).toArray 29)) (w.heap.size+1) [.slice none 0 0,.slice none 0 0,.int .i64 0,.int .i64 0,.int .i64 0,.int .i64 0]:=by have:=oG.new (w.alloc (.cells ([.slice bG x.aa.length bD,.slice dn x.J.length bW,.int .i64 x.next,.int .i64 x.weights.pack,.int .i64 x.weights.af,.int .i64 x.weights.al]:List Value).toArray 29)) [.slice none 0 0,.slice none 0 0,.int .i64 0,.int .i64 0,.int .i64 0,.int .i64 0] 29;rw [World.size_alloc] at this;exact this
 go_enter Tryz.func110,Tryz.ntmps110;go_wp2_with fail
 refine (BO x _ _ _ (aZ h (ak (ak (aj _) _) _)) HW.out).mono ?_;rintro e w1 ⟨lw,G1,rfl,hO,bm⟩;have cT:=hO.rd;obtain ⟨dG,bV,xq,dS,dJ,Bz,ax,hG1,oO,tq,wI,iV,gI,iW⟩:=aO cT;subst ax;clear hG1 cT;have UH:=I (show ∀y∈G1,y < w1.heap.size from hO.lt);replace hO:=hO.mono (B':=w.heap.size+1+1) S';have hB:Below w.heap.size w w1:=ah (ak (ak (aj _) _) _) bm;have cM:w.heap.size+1 < w1.heap.size:=by have:=bm.size;simp at this;omega
 replace KT:=KT.ext bm;replace KR:=KR.ext bm;have KB:=oG.new w1 [.slice dG x.aa.length bV,.slice dS x.J.length dJ,.int .i64 x.next,.int .i64 x.weights.pack,.int .i64 x.weights.af,.int .i64 x.weights.al] 29;have hA:Below w1.heap.size w1 (w1.alloc (.cells ([.slice dG x.aa.length bV,.slice dS x.J.length dJ,.int .i64 x.next,.int .i64 x.weights.pack,.int .i64 x.weights.af,.int .i64 x.weights.al]:List Value).toArray 29)):=ak (aj _) _;have lN:w1.heap.size < (w1.alloc (.cells ([.slice dG x.aa.length bV,.slice dS x.J.length dJ,.int .i64 x.next,.int .i64 x.weights.pack,.int .i64 x.weights.af,.int .i64 x.weights.al]:List Value).toArray 29)).heap.size:=by rw [World.size_alloc];omega
 replace KT:=KT.ext hA;replace KR:=KR.ext hA;replace hO:=hO.ext hA;replace hB:=ah hB hA;clear hA bm;obtain ⟨t0,t1,t2,t3,t4,t5⟩:=cH KT;have tl:=KT.lt;go_wp2_with fail
 clear t0 t1 t2 t3 t4 t5 tl;have KO:=qM x _ _ _ (aZ h hB) HW.out;cases hc:iI x
 case' false =>
  rw [hc] at KO;have HF:=I (azY (nm:=nm) hc);clear hc;refine KO.mono ?_;rintro e w3 ⟨rfl,bd⟩;replace KT:=KT.ext bd;replace KB:=KB.ext bd;replace KR:=KR.ext bd;replace hO:=hO.ext bd;replace hB:=ah hB bd;replace lN:=Nat.lt_of_lt_of_le lN (Below.size bd);clear KO bd;obtain ⟨m0,m1,m2,m3,m4,m5⟩:=cH KB;have ml:=KB.lt;obtain ⟨r0,r1,r2,r3,r4,r5⟩:=cH KR;have rf:=KR.fz;have rl:=KR.lt;have HO:=I hO;have HB:=I hB;clear hO hB KB KR KT;go_wp2_with fail
  try dsimp only
  iterate 60 (first | go_step | skip)
  refine bodyPost_ret (v:=.tuple #[.agg #[.slice dG x.aa.length bV,.slice dS x.J.length dJ,.int .i64 x.next,.int .i64 x.weights.pack,.int .i64 x.weights.af,.int .i64 x.weights.al],.string ⟨#[]⟩,.int .i64 1]) (by simp [results,Tryz.results110,go_sem, *]) rfl ?_;exact mj
 rw [hc] at KO;have HC:=I hc;clear hc;refine KO.mono ?_;rintro e w3 ⟨rfl,bd⟩;replace KT:=KT.ext bd;replace KB:=KB.ext bd;replace KR:=KR.ext bd;replace hO:=hO.ext bd;replace hB:=ah hB bd;replace lN:=Nat.lt_of_lt_of_le lN (Below.size bd);clear KO bd;obtain ⟨t0,t1,t2,t3,t4,t5⟩:=cH KT;have tl:=KT.lt;go_wp2_with fail
 clear t0 t1 t2 t3 t4 t5 tl;have KP:=uN x _ _ nm _ (aZ h hB) Ji.out;rw [HR.out] at KP;refine KP.mono ?_;clear KP;rintro e w2 ⟨rfl,ao⟩;replace KT:=KT.ext ao;replace KB:=KB.ext ao;replace KR:=KR.ext ao;replace hO:=hO.ext ao;replace hB:=ah hB ao;replace lN:=Nat.lt_of_lt_of_le lN (Below.size ao);by_cases hng:r < 0
 case' pos =>
  have HF:=I (Uv (nm:=nm) HC.out (by rw [HR.out];exact hng));obtain ⟨m0,m1,m2,m3,m4,m5⟩:=cH KB;have ml:=KB.lt;obtain ⟨r0,r1,r2,r3,r4,r5⟩:=cH KR;have rf:=KR.fz;have rl:=KR.lt;have HO:=I hO;have HB:=I hB;clear hO hB KB KR KT;go_wp2_with fail
  try dsimp only
  iterate 60 (first | go_step | skip)
  refine bodyPost_ret (v:=.tuple #[.agg #[.slice dG x.aa.length bV,.slice dS x.J.length dJ,.int .i64 x.next,.int .i64 x.weights.pack,.int .i64 x.weights.af,.int .i64 x.weights.al],.string ⟨#[]⟩,.int .i64 3]) (by simp [results,Tryz.results110,go_sem, *]) rfl ?_;exact mj
 obtain ⟨k,fd⟩:∃k:Nat,r = k:=⟨r.toNat,O⟩;have hk:k < x.J.length:=by omega
 have HP:=I (Qq (nm:=nm) HC.out (HR.out.trans fd) hk);subst fd;have UI:=vQ.out k hk;obtain ⟨b,o,ck,Fk,hA,o9,hbs,hr,br,hcc⟩:=Sl.get (α:=ag) dM hk;subst hA;have dx:=hr;obtain ⟨c1,c2,F1,F2,hce,_,QS,_,_,_,_,hce2,_,⟨hon0,_,ed⟩,⟨hsq0,_,Ue⟩⟩:=dx;have l6:=QS;obtain ⟨jM,jO,sN,aBv,aBw,aGy,aJD,aJE,aBx,hckp,hFp,zM,qY,Gt,Gw,hrank3,aGz,aBy⟩:=dL l6;subst hon0 hsq0 hce2 hckp hce;clear hFp l6 br;have q0:w2.cell? ⟨b,o+k * 9,none⟩ = some (.string x.J[k].aS.name):=r' hB (by exact hcc 0 _ rfl) hbs;have q1:w2.cell? ⟨b,o+k * 9+1,none⟩ = some (.slice jM x.J[k].aS.labels.length jO):=r' hB (by rw [Nat.add_assoc];exact hcc 1 _ rfl) hbs;have q2:w2.cell? ⟨b,o+k * 9+2,none⟩ = some (.int .i64 x.J[k].aS.aw):=r' hB (by rw [Nat.add_assoc];exact hcc 2 _ rfl) hbs;have q3:w2.cell? ⟨b,o+k * 9+3,none⟩ = some (.int .i64 x.J[k].aS.mem):=r' hB (by rw [Nat.add_assoc];exact hcc 3 _ rfl) hbs;have q4:w2.cell? ⟨b,o+k * 9+4,none⟩ = some (.int .i64 x.J[k].aS.av):=r' hB (by rw [Nat.add_assoc];exact hcc 4 _ rfl) hbs;have q5:w2.cell? ⟨b,o+k * 9+5,none⟩ = some (.slice aBv x.J[k].aS.ai.length aBw):=r' hB (by rw [Nat.add_assoc];exact hcc 5 _ rfl) hbs;have q6:w2.cell? ⟨b,o+k * 9+6,none⟩ = some (.slice aJD x.J[k].aS.ae.length aJE):=r' hB (by rw [Nat.add_assoc];exact hcc 6 _ rfl) hbs;have q7:w2.cell? ⟨b,o+k * 9+7,none⟩ = some (.string x.J[k].on):=r' hB (by rw [Nat.add_assoc];exact hcc 7 _ rfl) hbs;have q8:w2.cell? ⟨b,o+k * 9+8,none⟩ = some (.int .i64 x.J[k].seq):=r' hB (by rw [Nat.add_assoc];exact hcc 8 _ rfl) hbs;have qb:=Nat.lt_of_lt_of_le hbs hB.size;obtain ⟨t0,t1,t2,t3,t4,t5⟩:=cH KT;have tl:=KT.lt;by_cases anH:0 < x.J[k].on.size
 case' pos =>
  have cA:=Y3 anH;have nu:(x.J[k].on.toList != []) = true:=by rw [bne,cA];rfl
  have HF:=I (HP.out.trans (show qD x k x.J[k] = (x,⟨#[]⟩,5) by unfold qD;exact if_neg O));clear anH;obtain ⟨m0,m1,m2,m3,m4,m5⟩:=cH KB;have ml:=KB.lt;obtain ⟨r0,r1,r2,r3,r4,r5⟩:=cH KR;have rf:=KR.fz;have rl:=KR.lt;have HO:=I hO;have HB:=I hB;clear hO hB KB KR KT;go_wp2_with fail
  try dsimp only
  iterate 60 (first | go_step | skip)
  refine bodyPost_ret (v:=.tuple #[.agg #[.slice dG x.aa.length bV,.slice dS x.J.length dJ,.int .i64 x.next,.int .i64 x.weights.pack,.int .i64 x.weights.af,.int .i64 x.weights.al],.string ⟨#[]⟩,.int .i64 5]) (by simp [results,Tryz.results110,go_sem, *]) rfl ?_;exact mj
 have C8:x.J[k].on = ⟨#[]⟩:=Y4 O;have mE:=I (HP.out.trans (show qD x k x.J[k] = (if kj x x.J[k].aS = true then (⟨x.aa,x.J.set k ⟨x.J[k].aS,gh x x.J[k].aS,x.J[k].seq⟩,x.next,x.weights⟩,gh x x.J[k].aS,0) else (x,⟨#[]⟩,6)) by unfold qD;exact if_pos (by rw [C8];rfl)));rw [C8] at q7;clear C8 anH;have UJ:=aCF x x.J[k].aS HW.out;go_wp2_with fail
 have DY:=I (fun wq (hq:Below w.heap.size w wq)=>Uu x x.J[k].aS _ _ _ _ wq (aZ h hq) (aZ QS hq) HW.out UI);cases fR:kj x x.J[k].aS
 all_goals
  rw [fR] at DY mE;clear fR;refine aF _ U' U' (aj _) ?_
  repeat ((first | refine aG Z ?_ | refine aH _ Z I1 ?_);simp only [Act.put,pz])
  refine aN ?_;intro wn hn;replace hn:=hn.out;replace KT:=KT.ext hn;replace KB:=KB.ext hn;replace KR:=KR.ext hn;replace hO:=hO.ext hn;replace hB:=ah hB hn;replace lN:=Nat.lt_of_lt_of_le lN (Below.size hn);clear q0 q1 q2 q3 q4 q5 q6 q7 q8 qb t0 t1 t2 t3 t4 t5 tl
 ·have HF:=I (show hJ x nm = (x,⟨#[]⟩,6) from mE.out.trans (if_neg S'));obtain ⟨m0,m1,m2,m3,m4,m5⟩:=cH KB;have ml:=KB.lt;obtain ⟨r0,r1,r2,r3,r4,r5⟩:=cH KR;have rf:=KR.fz;have rl:=KR.lt;have HO:=I hO;have HB:=I hB;clear hO hB KB KR KT;go_wp2_with fail
  try dsimp only
  iterate 60 (first | go_step | skip)
  refine bodyPost_ret (v:=.tuple #[.agg #[.slice dG x.aa.length bV,.slice dS x.J.length dJ,.int .i64 x.next,.int .i64 x.weights.pack,.int .i64 x.weights.af,.int .i64 x.weights.al],.string ⟨#[]⟩,.int .i64 6]) (by simp [results,Tryz.results110,go_sem, *]) rfl ?_;exact mj
 ·have HF:=I (show hJ x nm = (⟨x.aa,x.J.set k ⟨x.J[k].aS,gh x x.J[k].aS,x.J[k].seq⟩,x.next,x.weights⟩,gh x x.J[k].aS,0) from mE.out.trans (if_pos rfl));clear mE DY;obtain ⟨s,hs⟩:∃s,gh x x.J[k].aS = s:=⟨_,rfl⟩;rw [hs] at HF UJ;try rw [hs]
  clear hs;have fh:∀y∈G1,y < w1.heap.size:=UH.out;have dh:=hO.base;obtain ⟨Gh,Gp,Xp,OL,hdis,nQ,ke⟩:=hO.aFY;obtain ⟨b2,o2,ck2,Fk2,hA2,ayO,abT,mZ,ol,hE,hback⟩:=am.Ef OL hk;subst hA2;have j8:w.heap.size+1 < b2∧b2 < w1.heap.size:=⟨by have:=OL.base b2 ayO;omega,fh b2 (ke b2 ayO)⟩;obtain ⟨UK,hgb2⟩:=j8;have td:=ol.rd;have D0:ck2.length = 9:=bk.len td;obtain ⟨d1,d2,J1,J2,hde,_,hdp,_,_,_,_,hde2,_,⟨hdo0,_,_⟩,⟨hds0,_,_⟩⟩:=td;have UL:ck2[7]? = some (.string x.J[k].on):=by
   exact Lc
  have e7:=hE.jC (j:=7) (q:=o2+k * 9+7) rfl (u:=.string x.J[k].on) UL;have ef:=hE.plain.frozen;have el:=hE.plain.lt;have ut:=hE.set (j:=7) (q:=o2+k * 9+7) O rfl (.string s);have bC:=(ol.kd s mK).bJ (w':=World.setCell _ ⟨b2,o2+k * 9+7,none⟩ (.string s)) (fun y hy=>Below.heap_setCell _ _ _ _ (by dsimp only;rintro rfl;exact mZ hy)) fj;have te:=hback _ _ _ bC ut;have tf:=C7 (c:=b2) (i:=o2+k * 9+7) (u:=.string s) Xp (fun y hy e=>hdis y hy (by rw [e];exact ayO));have Nf:=am.aFZ tf te hdis hnext aV aP aW;have Ng:=KB.bX (c:=b2) O (o2+k * 9+7) (.string s);have Ni:=KR.bX (c:=b2) O (o2+k * 9+7) (.string s);have dE:=aC hB (p:=⟨b2,o2+k * 9+7,none⟩) bM (.string s);have b1:=KB.cell (i:=1) (u:=.slice (some ⟨b2,o2,none⟩) x.J.length dJ) rfl;have bl:=KB.lt;clear KB KR hB hO Xp OL hE ol hback bC ut te tf hdp KT;have KB:=Ng;have KR:=Ni;have hB:=dE;have hO:=Nf;have KT:=True.intro;obtain ⟨m0,m1,m2,m3,m4,m5⟩:=cH KB;have ml:=KB.lt;obtain ⟨r0,r1,r2,r3,r4,r5⟩:=cH KR;have rf:=KR.fz;have rl:=KR.lt;have HO:=I hO;have HB:=I hB;clear hO hB KB KR KT Ng Ni dE Nf;go_wp2_with fail
  try dsimp only
  iterate 60 (first | go_step | skip)
  refine bodyPost_ret (v:=.tuple #[.agg #[.slice dG x.aa.length bV,.slice (some ⟨b2,o2,none⟩) x.J.length dJ,.int .i64 x.next,.int .i64 x.weights.pack,.int .i64 x.weights.af,.int .i64 x.weights.al],.string s,.int .i64 0]) (by simp [results,Tryz.results110,go_sem, *]) rfl ?_;exact Ir
theorem azi (x:aU) (cs:List Value) (F:List Nat) (w:World) (h:rd w x cs F) (hw:(x.wt:Int)≤1048576) :
 Calls Tryz.prog 111 #[.agg cs.toArray] w fun e w'=>∃ds G,e = .returned (.tuple #[.agg ds.toArray,.string (BX x).2.1,.string (BX x).2.2.1,.int .i64 (BX x).2.2.2])∧am w' w.heap.size (BX x).1 ds G∧Below w.heap.size w w':=by
 have fk:(x.J.length:Int)≤1048576:=by have h1:=gJ ag.wt x.J;have h2:x.wt = kL ba.wt x.aa+kL ag.wt x.J:=rfl;omega
 have HW:=I hw;have Ji:=I fk;clear hw;have hr:=h;obtain ⟨bG,bD,fQ,dn,bW,jg,ax,qp,bQ,dM,hnext,aV,aP,aW⟩:=aO hr;subst ax;clear qp hr;have KT:oG ((w.alloc (.cells ([.slice bG x.aa.length bD,.slice dn x.J.length bW,.int .i64 x.next,.int .i64 x.weights.pack,.int .i64 x.weights.af,.int .i64 x.weights.al]:List Value).toArray 29)).alloc (.cells ([.slice none 0 0,.slice none 0 0,.int .i64 0,.int .i64 0,.int .i64 0,.int .i64 0]:List Value).toArray 29)) w.heap.size [.slice bG x.aa.length bD,.slice dn x.J.length bW,.int .i64 x.next,.int .i64 x.weights.pack,.int .i64 x.weights.af,.int .i64 x.weights.al]:=(oG.new w [.slice bG x.aa.length bD,.slice dn x.J.length bW,.int .i64 x.next,.int .i64 x.weights.pack,.int .i64 x.weights.af,.int .i64 x.weights.al] 29).ext (ak (aj _) _);have KR:oG ((w.alloc (.cells ([.slice bG x.aa.length bD,.slice dn x.J.length bW,.int .i64 x.next,.int .i64 x.weights.pack,.int .i64 x.weights.af,.int .i64 x.weights.al]:List Value).toArray 29)).alloc (.cells ([.slice none 0 0,.slice none 0 0,.int .i64 0,.int .i64 0,.int .i64 0,.int .i64 0]:List Value).toArray 29)) (w.heap.size+1) [.slice none 0 0,.slice none 0 0,.int .i64 0,.int .i64 0,.int .i64 0,.int .i64 0]:=by have:=oG.new (w.alloc (.cells ([.slice bG x.aa.length bD,.slice dn x.J.length bW,.int .i64 x.next,.int .i64 x.weights.pack,.int .i64 x.weights.af,.int .i64 x.weights.al]:List Value).toArray 29)) [.slice none 0 0,.slice none 0 0,.int .i64 0,.int .i64 0,.int .i64 0,.int .i64 0] 29;rw [World.size_alloc] at this;exact this
 have hB:Below w.heap.size w ((w.alloc (.cells ([.slice bG x.aa.length bD,.slice dn x.J.length bW,.int .i64 x.next,.int .i64 x.weights.pack,.int .i64 x.weights.af,.int .i64 x.weights.al]:List Value).toArray 29)).alloc (.cells ([.slice none 0 0,.slice none 0 0,.int .i64 0,.int .i64 0,.int .i64 0,.int .i64 0]:List Value).toArray 29)):=ak (ak (aj _) _) _;go_enter Tryz.func111,Tryz.ntmps111;go_wp2_with fail
 refine (BO x _ _ _ (aZ h hB) HW.out).mono ?_;rintro e w1 ⟨lw,G1,rfl,jX,bm⟩;have cT:=jX.rd;obtain ⟨dG,bV,xq,dS,dJ,Bz,ax,hG1,oO,tq,wI,iV,gI,iW⟩:=aO cT;subst ax;clear hG1 cT;replace KT:=KT.ext bm;replace KR:=KR.ext bm;replace hB:=ah hB bm;have cM:w.heap.size+1 < w1.heap.size:=KR.lt;have KO:oG (w1.alloc (.cells ([.slice dG x.aa.length bV,.slice dS x.J.length dJ,.int .i64 x.next,.int .i64 x.weights.pack,.int .i64 x.weights.af,.int .i64 x.weights.al]:List Value).toArray 29)) w1.heap.size [.slice dG x.aa.length bV,.slice dS x.J.length dJ,.int .i64 x.next,.int .i64 x.weights.pack,.int .i64 x.weights.af,.int .i64 x.weights.al]:=oG.new w1 [.slice dG x.aa.length bV,.slice dS x.J.length dJ,.int .i64 x.next,.int .i64 x.weights.pack,.int .i64 x.weights.af,.int .i64 x.weights.al] 29;have ff:Below w1.heap.size w1 (w1.alloc (.cells ([.slice dG x.aa.length bV,.slice dS x.J.length dJ,.int .i64 x.next,.int .i64 x.weights.pack,.int .i64 x.weights.af,.int .i64 x.weights.al]:List Value).toArray 29)):=ak (aj _) _;replace KT:=KT.ext ff;replace KR:=KR.ext ff;replace hB:=ah hB ff;replace jX:=(jX.mono (B':=w.heap.size+1+1) S').ext ff;clear bm;obtain ⟨t0,t1,t2,t3,t4,t5⟩:=cH (KT);have tl:=(KT).lt;go_wp2_with fail
 clear t0 t1 t2 t3 t4 t5 tl;generalize (w1.alloc (.cells ([.slice dG x.aa.length bV,.slice dS x.J.length dJ,.int .i64 x.next,.int .i64 x.weights.pack,.int .i64 x.weights.af,.int .i64 x.weights.al]:List Value).toArray 29)) = wo at *;have KK:=qM x _ _ _ (aZ h hB) HW.out;cases hc:iI x
 case' false =>
  rw [hc] at KK;have HF:=I (aJ4 hc);clear hc;refine KK.mono ?_;rintro e w3 ⟨rfl,bd⟩;replace KT:=KT.ext bd;replace KR:=KR.ext bd;replace hB:=ah hB bd;replace KO:=KO.ext bd;replace jX:=jX.ext bd;clear KK bd;obtain ⟨m0,m1,m2,m3,m4,m5⟩:=cH KO;have ml:=KO.lt;obtain ⟨r0,r1,r2,r3,r4,r5⟩:=cH (KR);have rf:=(KR).fz;have rl:=(KR).lt;have gP:=I jX;have Rf:=I hB;clear KR KO KT jX hB;go_wp2_with fail
  try dsimp only
  iterate 60 (first | go_step | skip)
  refine bodyPost_ret (v:=.tuple #[.agg #[.slice dG x.aa.length bV,.slice dS x.J.length dJ,.int .i64 x.next,.int .i64 x.weights.pack,.int .i64 x.weights.af,.int .i64 x.weights.al],.string ⟨#[]⟩,.string ⟨#[]⟩,.int .i64 1]) (by simp [results,Tryz.results111,go_sem, *]) rfl ?_;exact AN
 rw [hc] at KK;have HC:=I hc;clear hc;refine KK.mono ?_;rintro e w3 ⟨rfl,bd⟩;replace KT:=KT.ext bd;replace KR:=KR.ext bd;replace hB:=ah hB bd;replace KO:=KO.ext bd;replace jX:=jX.ext bd;have ez:w.heap.size+1 < w3.heap.size:=KR.lt;clear KK bd;obtain ⟨t0,t1,t2,t3,t4,t5⟩:=cH (KT);have tl:=(KT).lt;go_wp2_with fail
 clear t0 t1 t2 t3 t4 t5 tl;refine (UT x _ _ _ (aZ h hB) Ji.out).mono ?_;rintro e w2 ⟨A2,c2,G2,rfl,bC,ao⟩;replace KT:=KT.ext ao;replace KR:=KR.ext ao;replace hB:=ah hB ao;replace KO:=KO.ext ao;replace jX:=jX.ext ao;clear ao;have EM:((GI x.J).length:Int)≤1048576:=by have:=Uy x.J;omega
 have Ns:=I (show ∃l,GI x.J = l from ⟨_,rfl⟩);obtain ⟨l,hl⟩:=Ns.out;have HL:=I hl;rw [hl] at bC EM;rw [hl];clear hl Ns;by_cases hl0:l.length = 0
 ·have HF:=I (show BX x = (x,⟨#[]⟩,⟨#[]⟩,7) by rw [Qr HC.out (by rw [HL.out];intro j hj;omega),HL.out,if_pos hl0]);obtain ⟨m0,m1,m2,m3,m4,m5⟩:=cH KO;have ml:=KO.lt;obtain ⟨r0,r1,r2,r3,r4,r5⟩:=cH (KR);have rf:=(KR).fz;have rl:=(KR).lt;have gP:=I jX;have Rf:=I hB;clear KR KO KT jX hB;go_wp2_with fail
  try dsimp only
  iterate 60 (first | go_step | skip)
  refine bodyPost_ret (v:=.tuple #[.agg #[.slice dG x.aa.length bV,.slice dS x.J.length dJ,.int .i64 x.next,.int .i64 x.weights.pack,.int .i64 x.weights.af,.int .i64 x.weights.al],.string ⟨#[]⟩,.string ⟨#[]⟩,.int .i64 7]) (by simp [results,Tryz.results111,go_sem, *]) rfl ?_;exact AN
 ·have Nt:((l.length:Int) == 0) = false:=by rw [beq_eq_false_iff_ne];omega
  go_wp2_with fail
  try simp only [Nt]
  go_loopw [8] (fun j wr=>∃k:Nat,k≤l.length∧j = .int .i64 (k:Int)∧Hid (∀j (hj:j < l.length),j < k→oz x l[j] = false)∧Below w2.heap.size w2 wr) (fun j _=>l.length - (intOf j).toNat)
  case atStart=>exact ⟨0,Nat.zero_le _,rfl,I (fun j _ hj=>by omega),aj _⟩
  case round =>
   obtain ⟨k,hk,rfl,HB0,bS⟩:=hrel;have bF:=ah hB bS;by_cases ap:k < l.length
   ·obtain ⟨b,o,ck,Fk,hA,hbG,hbs,aJe,_,hcells⟩:=Sl.get (bC.ext bS).rd ap;subst hA;obtain ⟨ax,su,gv⟩:=aJe;subst ax;have q0:wr.cell? ⟨b,o+k,none⟩ = some (.string l[k]):=(by have:=hcells 0 _ rfl;simpa [show bk.size ByteArray = 1 from rfl] using this);clear hcells su;obtain ⟨t0,t1,t2,t3,t4,t5⟩:=cH (KT.ext bS);have tl:=(KT.ext bS).lt;obtain ⟨r,sh,cd,hR⟩:∃r s c,hJ x l[k] = (r,s,c):=⟨_,_,_,rfl⟩;have KP:=Qt x _ _ l[k] wr (aZ h bF) HW.out;rw [hR] at KP;dsimp only at KP;have HR:=I hR;clear hR;have HT:=I (And.intro KP (And.intro bF bS));clear KP;go_wp2_with fail
    try simp only [Nt]
    refine zU wr 14 U' U' (aj _) ?_;refine YU (fun a0 a' w'=>∃(p9:Nat) (Nj SB:Option Addr) (Nk SC:Nat) (G3:List Nat) (dk dl dm dp dq dr dt d9 eO eR:Value),a' = (Act.put (Act.put (Act.put (Act.put (Act.put (Act.put (Act.put (Act.put (Act.put (Act.put (Act.put (Act.put (Act.put a0 (some 31) (dk)) (some 32) (dl)) (some 33) (dm)) (some 34) (dp)) (some 35) (dq)) (some 36) (dr)) (some 30) (dt)) (some 37) (d9)) (some 38) (eO)) (some 39) (eR)) (some 9) (.pointer (some ⟨p9,0,none⟩))) (some 10) (.string sh)) (some 11) (.int .i64 cd))∧Below wr.heap.size wr w'∧wr.heap.size≤p9∧oG w' p9 [.slice Nj r.aa.length Nk,.slice SB r.J.length SC,.int .i64 r.next,.int .i64 r.weights.pack,.int .i64 r.weights.af,.int .i64 r.weights.al]∧(∀y∈G3,y≠p9∧wr.heap.size≤y)∧am w' wr.heap.size r [.slice Nj r.aa.length Nk,.slice SB r.J.length SC,.int .i64 r.next,.int .i64 r.weights.pack,.int .i64 r.weights.af,.int .i64 r.weights.al] G3) ?_ ?_;rotate_left
    ·intro HK;have bc:Below wr.heap.size wr wr.drew:=aA (aj _);refine aX 0 _ Z U' H' pm W' ?_;try simp only [Act.put,pz]
     refine aX 1 _ Z U' H' pm W' ?_;try simp only [Act.put,pz]
     refine aX 2 _ Z U' H' pm W' ?_;try simp only [Act.put,pz]
     refine aX 3 _ Z U' H' pm W' ?_;try simp only [Act.put,pz]
     refine aX 4 _ Z U' H' pm W' ?_;try simp only [Act.put,pz]
     refine D7 5 10 Z Z U' Z Z (fun K hK=>?_) (fun K hK=>?_)
     ·have KP:=Qt x _ _ l[k] _ (aZ h (ah bF (aA (aj _)))) HW.out;rw [HR.out] at KP;dsimp only at KP;go_simp;refine KP.mono ?_;rintro e w5 ⟨ds,G3,rfl,hOr,bt⟩;have Nu:=hOr.rd;obtain ⟨Nj,Nk,Nl,SB,SC,SE,ax,hGr,Np,SG,SH,xE,uw,xG⟩:=aO Nu;subst ax;clear hGr Nu;have UY:wr.heap.size≤_:=bc.size;replace bc:=ah bc bt;refine hK _ _ bc ?_;try simp only [Act.put,pz]
      clear hK K;replace hOr:=hOr.mono (B':=wr.heap.size) UY;refine aX 6 _ Z U' H' pm W' ?_;try simp only [Act.put,pz]
      refine aX 7 _ Z U' H' pm W' ?_;try simp only [Act.put,pz]
      refine aX 8 _ Z U' H' pm W' ?_;try simp only [Act.put,pz]
      refine aX 9 _ Z U' H' pm W' ?_;try simp only [Act.put,pz]
      refine bP 10 Z U' Z (fun K hK=>?_);go_simp;refine hK _ _ (ak bc _) ?_;try simp only [Act.put,pz]
      clear hK K;have hZ:wr.heap.size≤w5.heap.size:=bc.size;have HP:oG (w5.alloc (.cells ([.slice none 0 0,.slice none 0 0,.int .i64 0,.int .i64 0,.int .i64 0,.int .i64 0]:List Value).toArray 29)) w5.heap.size [.slice none 0 0,.slice none 0 0,.int .i64 0,.int .i64 0,.int .i64 0,.int .i64 0]:=oG.new w5 [.slice none 0 0,.slice none 0 0,.int .i64 0,.int .i64 0,.int .i64 0,.int .i64 0] 29;have kt:=bc;have U9:=hOr;have Nv:∀y∈G3,y≠w5.heap.size:=fun y hy=>by have:=hOr.lt y hy;omega
      replace hOr:=hOr.alloc (.cells ([.slice none 0 0,.slice none 0 0,.int .i64 0,.int .i64 0,.int .i64 0,.int .i64 0]:List Value).toArray 29);replace bc:=ak bc (.cells ([.slice none 0 0,.slice none 0 0,.int .i64 0,.int .i64 0,.int .i64 0,.int .i64 0]:List Value).toArray 29);have kl:=HP.lt;have kf:=HP.fz;obtain ⟨k0,k1,k2,k3,k4,k5⟩:=cH HP;have Iz:∀y∈G3,y≠w5.heap.size:=Nv;refine bP 11 Z U' Z (fun K hK=>?_);go_simp;refine hK _ _ RN ?_;try simp only [Act.put,pz]
      clear hK K;refine bP 12 Z U' Z (fun K hK=>?_);go_simp;refine hK _ _ RN ?_;try simp only [Act.put,pz]
      clear hK K;refine bP 13 Z U' Z (fun K hK=>?_);go_simp;refine hK _ _ RN ?_;try simp only [Act.put,pz]
      clear hK K;refine nR U' ?_;exact HK _ _ ⟨w5.heap.size,_,_,_,_,G3,_,_,_,_,_,_,_,_,_,_,vd,(ak kt _),hZ,(oG.new w5 [.slice Nj r.aa.length Nk,.slice SB r.J.length SC,.int .i64 r.next,.int .i64 r.weights.pack,.int .i64 r.weights.af,.int .i64 r.weights.al] 29),(fun y hy=>⟨Iz y hy,hOr.base y hy⟩),(U9.alloc _)⟩
     ·have Vc:=Qt x _ _ l[k] _ (aZ h (ak (ah bF (aA (aj _))) (.cells ([.slice none 0 0,.slice none 0 0,.int .i64 0,.int .i64 0,.int .i64 0,.int .i64 0]:List Value).toArray 29))) HW.out;rw [HR.out] at Vc;dsimp only at Vc;go_simp;refine hK _ _ (ak bc _) ?_;try simp only [Act.put,pz]
      clear hK K;have hZ:wr.heap.size≤wr.heap.size:=bc.size;have HP:oG (wr.drew.alloc (.cells ([.slice none 0 0,.slice none 0 0,.int .i64 0,.int .i64 0,.int .i64 0,.int .i64 0]:List Value).toArray 29)) wr.heap.size [.slice none 0 0,.slice none 0 0,.int .i64 0,.int .i64 0,.int .i64 0,.int .i64 0]:=oG.new wr.drew [.slice none 0 0,.slice none 0 0,.int .i64 0,.int .i64 0,.int .i64 0,.int .i64 0] 29;replace bc:=ak bc (.cells ([.slice none 0 0,.slice none 0 0,.int .i64 0,.int .i64 0,.int .i64 0,.int .i64 0]:List Value).toArray 29);refine bP 5 Z U' Z (fun K hK=>?_);have fk:=HP.lt;go_simp;refine Vc.mono ?_;rintro e w5 ⟨ds,G3,rfl,hOr,bt⟩;replace HP:=HP.ext bt;have Nu:=hOr.rd;obtain ⟨Nj,Nk,Nl,SB,SC,SE,ax,hGr,Np,SG,SH,xE,uw,xG⟩:=aO Nu;subst ax;clear hGr Nu;have UY:wr.heap.size≤_:=bc.size;replace bc:=ah bc bt;refine hK _ _ bc ?_;try simp only [Act.put,pz]
      clear hK K;have Nv:∀y∈G3,y≠wr.heap.size:=fun y hy=>by have:=hOr.base y hy;(try simp at this);omega
      replace hOr:=hOr.mono (B':=wr.heap.size) UY;refine aX 6 _ Z U' H' pm W' ?_;try simp only [Act.put,pz]
      refine aX 7 _ Z U' H' pm W' ?_;try simp only [Act.put,pz]
      refine aX 8 _ Z U' H' pm W' ?_;try simp only [Act.put,pz]
      refine aX 9 _ Z U' H' pm W' ?_;try simp only [Act.put,pz]
      have kl:=HP.lt;have kf:=HP.fz;obtain ⟨k0,k1,k2,k3,k4,k5⟩:=cH HP;have Iz:∀y∈G3,y≠wr.heap.size:=Nv;refine bP 11 Z U' Z (fun K hK=>?_);go_simp;refine hK _ _ RU ?_;try simp only [Act.put,pz]
      clear hK K;refine bP 12 Z U' Z (fun K hK=>?_);go_simp;refine hK _ _ RU ?_;try simp only [Act.put,pz]
      clear hK K;refine bP 13 Z U' Z (fun K hK=>?_);go_simp;refine hK _ _ RU ?_;try simp only [Act.put,pz]
      clear hK K;refine nR U' ?_;exact HK _ _ ⟨wr.heap.size,_,_,_,_,G3,_,_,_,_,_,_,_,_,_,_,vd,(aC (p:=⟨wr.heap.size,5,none⟩) (aC (p:=⟨wr.heap.size,4,none⟩) (aC (p:=⟨wr.heap.size,3,none⟩) (aC (p:=⟨wr.heap.size,2,none⟩) (aC (p:=⟨wr.heap.size,1,none⟩) (aC (p:=⟨wr.heap.size,0,none⟩) bc hZ (.slice Nj r.aa.length Nk)) hZ (.slice SB r.J.length SC)) hZ (.int .i64 r.next)) hZ (.int .i64 r.weights.pack)) hZ (.int .i64 r.weights.af)) hZ (.int .i64 r.weights.al)),hZ,((((((HP.put 0 (.slice Nj r.aa.length Nk)).put 1 (.slice SB r.J.length SC)).put 2 (.int .i64 r.next)).put 3 (.int .i64 r.weights.pack)).put 4 (.int .i64 r.weights.af)).put 5 (.int .i64 r.weights.al)),(fun y hy=>⟨Iz y hy,hOr.base y hy⟩),(EE (c:=wr.heap.size) (i:=5) (u:=.int .i64 r.weights.al) (EE (c:=wr.heap.size) (i:=4) (u:=.int .i64 r.weights.af) (EE (c:=wr.heap.size) (i:=3) (u:=.int .i64 r.weights.pack) (EE (c:=wr.heap.size) (i:=2) (u:=.int .i64 r.next) (EE (c:=wr.heap.size) (i:=1) (u:=.slice SB r.J.length SC) (EE (c:=wr.heap.size) (i:=0) (u:=.slice Nj r.aa.length Nk) hOr Iz) Iz) Iz) Iz) Iz) Iz)⟩
    rintro a' w9 ⟨p9,Nj,SB,Nk,SC,G3,dk,dl,dm,dp,dq,dr,dt,d9,eO,eR,ha,xB,hpb9,HP9,hGp9,SY⟩;subst ha;try simp only [Act.put,pz]
    clear t0 t1 t2 t3 t4 t5 tl;have hBn:=ah bF xB;have wJ:=(KR.ext bS).ext xB;have q9:=r' xB q0 hbs;have Ve:b < w9.heap.size:=(by have:=xB.size;omega);clear q0;by_cases hz:cd = 0
    ·subst hz
     have HF:=I (show BX x = (r,l[k],sh,0) by
      have h9:=Uz (x:=x) HC.out (k:=k) (by rw [HL.out];exact ap) (by simp only [HL.out];exact HB0.out) (by simp only [HL.out];unfold oz;rw [HR.out];rfl);simp only [HL.out,HR.out] at h9
      exact h9)
     have cA:b≠w.heap.size+1:=(by have:=bC.base b hbG;omega);have hpne:w.heap.size+1 < p9:=(by have:=KR.lt;have:=bS.size;omega);have yp:=HP9.ext (aA (aj _));have x0:(fun w'=>w'.cell? ⟨p9,0,none⟩ = some (.slice Nj r.aa.length Nk)∧w'.cell? ⟨p9,1,none⟩ = some (.slice SB r.J.length SC)∧w'.cell? ⟨p9,2,none⟩ = some (.int .i64 r.next)∧w'.cell? ⟨p9,3,none⟩ = some (.int .i64 r.weights.pack)∧w'.cell? ⟨p9,4,none⟩ = some (.int .i64 r.weights.af)∧w'.cell? ⟨p9,5,none⟩ = some (.int .i64 r.weights.al)∧w'.cell? ⟨b,o+k,none⟩ = some (.string l[k])) w9.drew:=⟨yp.cell (i:=0) (u:=.slice Nj r.aa.length Nk) rfl,yp.cell (i:=1) (u:=.slice SB r.J.length SC) rfl,yp.cell (i:=2) (u:=.int .i64 r.next) rfl,yp.cell (i:=3) (u:=.int .i64 r.weights.pack) rfl,yp.cell (i:=4) (u:=.int .i64 r.weights.af) rfl,yp.cell (i:=5) (u:=.int .i64 r.weights.al) rfl,(aA (aj _)).cell (p:=⟨b,o+k,none⟩) Ve |>.trans q9⟩;have mH:=I ((show am w9 (w.heap.size+1+1) r [.slice Nj r.aa.length Nk,.slice SB r.J.length SC,.int .i64 r.next,.int .i64 r.weights.pack,.int .i64 r.weights.af,.int .i64 r.weights.al] G3 from SY.mono (by have:=KR.lt;have:=bS.size;omega)).ext (aA (aj _)));have pD:=I (aA hBn);obtain ⟨r0,r1,r2,r3,r4,r5⟩:=cH (wJ.ext (aA (aj _)));have rf:=(wJ.ext (aA (aj _))).fz;have rl:=(wJ.ext (aA (aj _))).lt;go_wp2_with fail
     refine azU (C:=(fun w'=>w'.cell? ⟨p9,0,none⟩ = some (.slice Nj r.aa.length Nk)∧w'.cell? ⟨p9,1,none⟩ = some (.slice SB r.J.length SC)∧w'.cell? ⟨p9,2,none⟩ = some (.int .i64 r.next)∧w'.cell? ⟨p9,3,none⟩ = some (.int .i64 r.weights.pack)∧w'.cell? ⟨p9,4,none⟩ = some (.int .i64 r.weights.af)∧w'.cell? ⟨p9,5,none⟩ = some (.int .i64 r.weights.al)∧w'.cell? ⟨b,o+k,none⟩ = some (.string l[k]))) 10 U' rfl x0 ?_;generalize w9.drew = wd at *
     refine aX 0 _ Z U' H' x0 (Or.inl ⟨rfl,fun wq hq=>by
      obtain ⟨y0,y1,y2,y3,y4,y5,y6⟩:=hq;go_simp
      try rfl⟩) ?_
     try simp only [Act.put,pz]
     refine aX 1 _ Z U' H' x0 (Or.inl ⟨rfl,fun wq hq=>by
      obtain ⟨y0,y1,y2,y3,y4,y5,y6⟩:=hq;go_simp
      try rfl⟩) ?_
     try simp only [Act.put,pz]
     refine aX 2 _ Z U' H' x0 (Or.inl ⟨rfl,fun wq hq=>by
      obtain ⟨y0,y1,y2,y3,y4,y5,y6⟩:=hq;go_simp
      try rfl⟩) ?_
     try simp only [Act.put,pz]
     refine aX 3 _ Z U' H' x0 (Or.inl ⟨rfl,fun wq hq=>by
      obtain ⟨y0,y1,y2,y3,y4,y5,y6⟩:=hq;go_simp
      try rfl⟩) ?_
     try simp only [Act.put,pz]
     refine aX 4 _ Z U' H' x0 (Or.inl ⟨rfl,fun wq hq=>by
      obtain ⟨y0,y1,y2,y3,y4,y5,y6⟩:=hq;go_simp
      try rfl⟩) ?_
     try simp only [Act.put,pz]
     refine aX 5 _ Z U' H' x0 (Or.inl ⟨rfl,fun wq hq=>by
      obtain ⟨y0,y1,y2,y3,y4,y5,y6⟩:=hq;go_simp
      try rfl⟩) ?_
     try simp only [Act.put,pz]
     refine bP 6 Z U' Z (fun K hK=>?_);go_simp;have Db:=((((((yp.bX (c:=w.heap.size+1) O 0 (.slice Nj r.aa.length Nk)).bX (c:=w.heap.size+1) O 1 (.slice SB r.J.length SC)).bX (c:=w.heap.size+1) O 2 (.int .i64 r.next)).bX (c:=w.heap.size+1) O 3 (.int .i64 r.weights.pack)).bX (c:=w.heap.size+1) O 4 (.int .i64 r.weights.af)).bX (c:=w.heap.size+1) O 5 (.int .i64 r.weights.al));have qs:=(World.cell?_of_block (a:=⟨b,o+k,none⟩) (by rw [Below.heap_setCell _ _ _ _ (by exact cA),Below.heap_setCell _ _ _ _ (by exact cA),Below.heap_setCell _ _ _ _ (by exact cA),Below.heap_setCell _ _ _ _ (by exact cA),Below.heap_setCell _ _ _ _ (by exact cA),Below.heap_setCell _ _ _ _ (by exact cA)]:((((((wd.setCell ⟨w.heap.size+1,0,none⟩ (.slice Nj r.aa.length Nk)).setCell ⟨w.heap.size+1,1,none⟩ (.slice SB r.J.length SC)).setCell ⟨w.heap.size+1,2,none⟩ (.int .i64 r.next)).setCell ⟨w.heap.size+1,3,none⟩ (.int .i64 r.weights.pack)).setCell ⟨w.heap.size+1,4,none⟩ (.int .i64 r.weights.af)).setCell ⟨w.heap.size+1,5,none⟩ (.int .i64 r.weights.al)).heap[b]? = wd.heap[b]?)).trans x0.2.2.2.2.2.2;have x1:=And.intro (Db.cell (i:=0) (u:=.slice Nj r.aa.length Nk) rfl) (And.intro (Db.cell (i:=1) (u:=.slice SB r.J.length SC) rfl) (And.intro (Db.cell (i:=2) (u:=.int .i64 r.next) rfl) (And.intro (Db.cell (i:=3) (u:=.int .i64 r.weights.pack) rfl) (And.intro (Db.cell (i:=4) (u:=.int .i64 r.weights.af) rfl) (And.intro (Db.cell (i:=5) (u:=.int .i64 r.weights.al) rfl) qs)))));refine hK _ _ x1 ?_;try simp only [Act.put,pz]
     clear hK K;refine bP 7 Z U' Z (fun K hK=>?_);go_simp;refine hK _ _ x1 ?_;try simp only [Act.put,pz]
     clear hK K;refine bP 8 Z U' Z (fun K hK=>?_);go_simp;refine hK _ _ x1 ?_;try simp only [Act.put,pz]
     clear hK K;refine bP 9 Z U' Z (fun K hK=>?_);go_simp;refine hK _ _ x1 ?_;try simp only [Act.put,pz]
     clear hK K;refine nR U' ?_;clear SY hBn wJ bF bS xB HP9 q9 x0 x1 Db yp qs;go_wp2_with fail
     try dsimp only
     iterate 60 (first | go_step | skip)
     refine bodyPost_ret (v:=.tuple #[.agg #[.slice Nj r.aa.length Nk,.slice SB r.J.length SC,.int .i64 r.next,.int .i64 r.weights.pack,.int .i64 r.weights.af,.int .i64 r.weights.al],.string l[k],.string sh,.int .i64 0]) (by simp [results,Tryz.results111,go_sem, *]) rfl ?_;rw [HF.out]
     first
      | refine ⟨[.slice Nj r.aa.length Nk,.slice SB r.J.length SC,.int .i64 r.next,.int .i64 r.weights.pack,.int .i64 r.weights.af,.int .i64 r.weights.al],G3,rfl,?_,?_⟩
      | refine ⟨[.slice Nj r.aa.length Nk,.slice SB r.J.length SC,.int .i64 r.next,.int .i64 r.weights.pack,.int .i64 r.weights.af,.int .i64 r.weights.al],rfl,⟨G3,?_⟩,?_⟩
     ·try dsimp only
      refine am.mono (B:=w.heap.size+1+1) ?_ O;have hO:=mH.out;exact OS
     ·have hB:=pD.out;exact OY
    ·have HZ:=I hz;have lN:(cd == 0) = false:=(by simp [hz]);clear hz;go_wp2_with fail
     refine ⟨⟨k+1,O,N',I (fun j hj fX=>?_),ah bS xB⟩,by simp [intOf];omega⟩;exact Ks
   ·have bz:k = l.length:=O
    have HF:=I (show BX x = (x,⟨#[]⟩,⟨#[]⟩,6) by
     have h9:=Qr (x:=x) HC.out (by simp only [HL.out];intro j hj;exact HB0.out j hj O)
     rwa [HL.out,if_neg hl0] at h9)
    replace KT:=KT.ext bS;replace KR:=KR.ext bS;replace KO:=KO.ext bS;replace jX:=jX.ext bS;clear hB;have hB:=bF;clear bF bz bC;obtain ⟨m0,m1,m2,m3,m4,m5⟩:=cH KO;have ml:=KO.lt;obtain ⟨r0,r1,r2,r3,r4,r5⟩:=cH (KR);have rf:=(KR).fz;have rl:=(KR).lt;have gP:=I jX;have Rf:=I hB;clear KR KO KT jX hB;go_wp2_with fail
    try dsimp only
    iterate 60 (first | go_step | skip)
    refine bodyPost_ret (v:=.tuple #[.agg #[.slice dG x.aa.length bV,.slice dS x.J.length dJ,.int .i64 x.next,.int .i64 x.weights.pack,.int .i64 x.weights.af,.int .i64 x.weights.al],.string ⟨#[]⟩,.string ⟨#[]⟩,.int .i64 6]) (by simp [results,Tryz.results111,go_sem, *]) rfl ?_;exact AN
end Go.Proofs.YtjahcnjmjahbaaaGreat
