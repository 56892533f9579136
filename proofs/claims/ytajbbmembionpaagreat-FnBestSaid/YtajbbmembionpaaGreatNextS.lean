/- PlaceNext of the reference. No condition. -/
import Derived.Test.YtajbbmembionpaaGreatPlacePB
import Derived.Test.YtajbbmembionpaaGreatWaitS
namespace Go.Proofs.YtajbbmembionpaaGreat
open Go.ChangeShapes Go.WideShapes Go.ChangeAt Go.RowKit
set_option linter.unusedVariables false
set_option linter.unusedSimpArgs false
set_option maxHeartbeats 8000000
set_option maxRecDepth 100000
theorem azi (x:aU) (cs:List Value) (F:List Nat) (w:World) (h:rd w x cs F) (hw:(x.wt:Int)≤1048576) :
 Calls Tryz.prog 108 #[.agg cs.toArray] w fun e w'=>∃ds G,e = .returned (.tuple #[.agg ds.toArray,.string (BX x).2.1,.string (BX x).2.2.1,.int .i64 (BX x).2.2.2])∧am w' w.heap.size (BX x).1 ds G∧Below w.heap.size w w':=by
 have ij:(x.au.length:Int)≤1048576:=by have h1:=gJ af.wt x.au;have h2:x.wt = kL aM.wt x.aa+kL af.wt x.au:=rfl;omega
 have HW:=I hw;have Ji:=I ij;clear hw;have hr:=h;obtain ⟨bG,bD,fQ,dn,bW,jg,aw,qp,bQ,dM,hnext,aV,aP,aW⟩:=aO hr;subst aw;clear qp hr;have KT:oG ((w.alloc (.cells ([.slice bG x.aa.length bD,.slice dn x.au.length bW,.int .i64 x.next,.int .i64 x.weights.pack,.int .i64 x.weights.spread,.int .i64 x.weights.soft]:List Value).toArray 29)).alloc (.cells ([.slice none 0 0,.slice none 0 0,.int .i64 0,.int .i64 0,.int .i64 0,.int .i64 0]:List Value).toArray 29)) w.heap.size [.slice bG x.aa.length bD,.slice dn x.au.length bW,.int .i64 x.next,.int .i64 x.weights.pack,.int .i64 x.weights.spread,.int .i64 x.weights.soft]:=(oG.new w [.slice bG x.aa.length bD,.slice dn x.au.length bW,.int .i64 x.next,.int .i64 x.weights.pack,.int .i64 x.weights.spread,.int .i64 x.weights.soft] 29).ext (ak (aj _) _);have KR:oG ((w.alloc (.cells ([.slice bG x.aa.length bD,.slice dn x.au.length bW,.int .i64 x.next,.int .i64 x.weights.pack,.int .i64 x.weights.spread,.int .i64 x.weights.soft]:List Value).toArray 29)).alloc (.cells ([.slice none 0 0,.slice none 0 0,.int .i64 0,.int .i64 0,.int .i64 0,.int .i64 0]:List Value).toArray 29)) (w.heap.size+1) [.slice none 0 0,.slice none 0 0,.int .i64 0,.int .i64 0,.int .i64 0,.int .i64 0]:=by have:=oG.new (w.alloc (.cells ([.slice bG x.aa.length bD,.slice dn x.au.length bW,.int .i64 x.next,.int .i64 x.weights.pack,.int .i64 x.weights.spread,.int .i64 x.weights.soft]:List Value).toArray 29)) [.slice none 0 0,.slice none 0 0,.int .i64 0,.int .i64 0,.int .i64 0,.int .i64 0] 29;rw [World.size_alloc] at this;exact this
 have hB:Below w.heap.size w ((w.alloc (.cells ([.slice bG x.aa.length bD,.slice dn x.au.length bW,.int .i64 x.next,.int .i64 x.weights.pack,.int .i64 x.weights.spread,.int .i64 x.weights.soft]:List Value).toArray 29)).alloc (.cells ([.slice none 0 0,.slice none 0 0,.int .i64 0,.int .i64 0,.int .i64 0,.int .i64 0]:List Value).toArray 29)):=ak (ak (aj _) _) _;go_enter Tryz.func108,Tryz.ntmps108;go_wp2_with fail
 refine (BO x _ _ _ (aZ h hB) HW.out).mono ?_;rintro e w1 ⟨l0,G1,rfl,jX,bo⟩;have cr:=jX.rd;obtain ⟨dG,bV,xq,dS,dJ,Bz,aw,hG1,oO,tq,wI,iV,gI,iW⟩:=aO cr;subst aw;clear hG1 cr;replace KT:=KT.ext bo;replace KR:=KR.ext bo;replace hB:=ah hB bo;have cg:w.heap.size+1 < w1.heap.size:=KR.lt;have KO:oG (w1.alloc (.cells ([.slice dG x.aa.length bV,.slice dS x.au.length dJ,.int .i64 x.next,.int .i64 x.weights.pack,.int .i64 x.weights.spread,.int .i64 x.weights.soft]:List Value).toArray 29)) w1.heap.size [.slice dG x.aa.length bV,.slice dS x.au.length dJ,.int .i64 x.next,.int .i64 x.weights.pack,.int .i64 x.weights.spread,.int .i64 x.weights.soft]:=oG.new w1 [.slice dG x.aa.length bV,.slice dS x.au.length dJ,.int .i64 x.next,.int .i64 x.weights.pack,.int .i64 x.weights.spread,.int .i64 x.weights.soft] 29;have eZ:Below w1.heap.size w1 (w1.alloc (.cells ([.slice dG x.aa.length bV,.slice dS x.au.length dJ,.int .i64 x.next,.int .i64 x.weights.pack,.int .i64 x.weights.spread,.int .i64 x.weights.soft]:List Value).toArray 29)):=ak (aj _) _;replace KT:=KT.ext eZ;replace KR:=KR.ext eZ;replace hB:=ah hB eZ;replace jX:=(jX.mono (B':=w.heap.size+1+1) S').ext eZ;clear bo;obtain ⟨t0,t1,t2,t3,t4,t5⟩:=dp (KT);have tl:=(KT).lt;go_wp2_with fail
 clear t0 t1 t2 t3 t4 t5 tl;generalize (w1.alloc (.cells ([.slice dG x.aa.length bV,.slice dS x.au.length dJ,.int .i64 x.next,.int .i64 x.weights.pack,.int .i64 x.weights.spread,.int .i64 x.weights.soft]:List Value).toArray 29)) = wo at *;have KK:=qM x _ _ _ (aZ h hB) HW.out;cases hc:iI x
 case' false =>
  rw [hc] at KK;have HF:=I (aJ4 hc);clear hc;refine KK.mono ?_;rintro e w3 ⟨rfl,aR⟩;replace KT:=KT.ext aR;replace KR:=KR.ext aR;replace hB:=ah hB aR;replace KO:=KO.ext aR;replace jX:=jX.ext aR;clear KK aR;obtain ⟨m0,m1,m2,m3,m4,m5⟩:=dp KO;have ml:=KO.lt;obtain ⟨r0,r1,r2,r3,r4,r5⟩:=dp (KR);have rf:=(KR).fz;have rl:=(KR).lt;have gb:=I jX;have Od:=I hB;clear KR KO KT jX hB;go_wp2_with fail
  try dsimp only
  iterate 60 (first | go_step | skip)
  refine bodyPost_ret (v:=.tuple #[.agg #[.slice dG x.aa.length bV,.slice dS x.au.length dJ,.int .i64 x.next,.int .i64 x.weights.pack,.int .i64 x.weights.spread,.int .i64 x.weights.soft],.string ⟨#[]⟩,.string ⟨#[]⟩,.int .i64 1]) (by simp [results,Tryz.results108,go_sem, *]) rfl ?_;exact yZ
 rw [hc] at KK;have HC:=I hc;clear hc;refine KK.mono ?_;rintro e w3 ⟨rfl,aR⟩;replace KT:=KT.ext aR;replace KR:=KR.ext aR;replace hB:=ah hB aR;replace KO:=KO.ext aR;replace jX:=jX.ext aR;have cW:w.heap.size+1 < w3.heap.size:=KR.lt;clear KK aR;obtain ⟨t0,t1,t2,t3,t4,t5⟩:=dp (KT);have tl:=(KT).lt;go_wp2_with fail
 clear t0 t1 t2 t3 t4 t5 tl;refine (akH x _ _ _ (aZ h hB) Ji.out).mono ?_;rintro e w2 ⟨A2,c2,G2,rfl,bE,ap⟩;replace KT:=KT.ext ap;replace KR:=KR.ext ap;replace hB:=ah hB ap;replace KO:=KO.ext ap;replace jX:=jX.ext ap;clear ap;have Rv:((GI x.au).length:Int)≤1048576:=by have:=ap3 x.au;omega
 have tT:=I (show ∃l,GI x.au = l from ⟨_,rfl⟩);obtain ⟨l,hl⟩:=tT.out;have HL:=I hl;rw [hl] at bE Rv;rw [hl];clear hl tT;by_cases hl0:l.length = 0
 ·have HF:=I (show BX x = (x,⟨#[]⟩,⟨#[]⟩,7) by rw [Yk HC.out (by rw [HL.out];intro j hj;omega),HL.out,if_pos hl0]);obtain ⟨m0,m1,m2,m3,m4,m5⟩:=dp KO;have ml:=KO.lt;obtain ⟨r0,r1,r2,r3,r4,r5⟩:=dp (KR);have rf:=(KR).fz;have rl:=(KR).lt;have gb:=I jX;have Od:=I hB;clear KR KO KT jX hB;go_wp2_with fail
  try dsimp only
  iterate 60 (first | go_step | skip)
  refine bodyPost_ret (v:=.tuple #[.agg #[.slice dG x.aa.length bV,.slice dS x.au.length dJ,.int .i64 x.next,.int .i64 x.weights.pack,.int .i64 x.weights.spread,.int .i64 x.weights.soft],.string ⟨#[]⟩,.string ⟨#[]⟩,.int .i64 7]) (by simp [results,Tryz.results108,go_sem, *]) rfl ?_;exact yZ
 ·have Kp:((l.length:Int) == 0) = false:=by rw [beq_eq_false_iff_ne];omega
  go_wp2_with fail
  try simp only [Kp]
  go_loopw [8] (fun j wr=>∃k:Nat,k≤l.length∧j = .int .i64 (k:Int)∧Hid (∀j (hj:j < l.length),j < k→vq x l[j] = false)∧Below w2.heap.size w2 wr) (fun j _=>l.length - (intOf j).toNat)
  case atStart=>exact ⟨0,Nat.zero_le _,rfl,I (fun j _ hj=>by omega),aj _⟩
  case round =>
   obtain ⟨k,hk,rfl,HB0,bF⟩:=hrel;have b5:=ah hB bF;by_cases aq:k < l.length
   ·obtain ⟨b,o,ck,Fk,hA,hbG,bc,aJe,_,hcells⟩:=Sl.get (bE.ext bF).rd aq;subst hA;obtain ⟨aw,su,gg⟩:=aJe;subst aw;have q0:wr.cell? ⟨b,o+k,none⟩ = some (.string l[k]):=(by have:=hcells 0 _ rfl;simpa [show ba.size ByteArray = 1 from rfl] using this);clear hcells su;obtain ⟨t0,t1,t2,t3,t4,t5⟩:=dp (KT.ext bF);have tl:=(KT.ext bF).lt;obtain ⟨r,sh,cd,hR⟩:∃r s c,j6 x l[k] = (r,s,c):=⟨_,_,_,rfl⟩;have KP:=Nx x _ _ l[k] wr (aZ h b5) HW.out;rw [hR] at KP;dsimp only at KP;have HR:=I hR;clear hR;have HT:=I (And.intro KP (And.intro b5 bF));clear KP;go_wp2_with fail
    try simp only [Kp]
    refine zU wr 14 U' U' (aj _) ?_;refine YU (fun a0 a' w'=>∃(p9:Nat) (Nj SB:Option Addr) (Nk SC:Nat) (G3:List Nat) (da db dc dd de df dh dt eA eB:Value),a' = (Act.put (Act.put (Act.put (Act.put (Act.put (Act.put (Act.put (Act.put (Act.put (Act.put (Act.put (Act.put (Act.put a0 (some 31) (da)) (some 32) (db)) (some 33) (dc)) (some 34) (dd)) (some 35) (de)) (some 36) (df)) (some 30) (dh)) (some 37) (dt)) (some 38) (eA)) (some 39) (eB)) (some 9) (.pointer (some ⟨p9,0,none⟩))) (some 10) (.string sh)) (some 11) (.int .i64 cd))∧Below wr.heap.size wr w'∧wr.heap.size≤p9∧oG w' p9 [.slice Nj r.aa.length Nk,.slice SB r.au.length SC,.int .i64 r.next,.int .i64 r.weights.pack,.int .i64 r.weights.spread,.int .i64 r.weights.soft]∧(∀y∈G3,y≠p9∧wr.heap.size≤y)∧am w' wr.heap.size r [.slice Nj r.aa.length Nk,.slice SB r.au.length SC,.int .i64 r.next,.int .i64 r.weights.pack,.int .i64 r.weights.spread,.int .i64 r.weights.soft] G3) ?_ ?_;rotate_left
    ·intro HK;have aE:Below wr.heap.size wr wr.drew:=aA (aj _);refine aX 0 _ O U' H' pD W' ?_;try simp only [Act.put,pz]
     refine aX 1 _ O U' H' pD W' ?_;try simp only [Act.put,pz]
     refine aX 2 _ O U' H' pD W' ?_;try simp only [Act.put,pz]
     refine aX 3 _ O U' H' pD W' ?_;try simp only [Act.put,pz]
     refine aX 4 _ O U' H' pD W' ?_;try simp only [Act.put,pz]
     refine D7 5 10 O O U' O O (fun K hK=>?_) (fun K hK=>?_)
     ·have KP:=Nx x _ _ l[k] _ (aZ h (ah b5 (aA (aj _)))) HW.out;rw [HR.out] at KP;dsimp only at KP;go_simp;refine KP.mono ?_;rintro e w5 ⟨ds,G3,rfl,hOr,br⟩;have Kr:=hOr.rd;obtain ⟨Nj,Nk,Nl,SB,SC,SE,aw,hGr,Np,SG,SH,xE,uw,xG⟩:=aO Kr;subst aw;clear hGr Kr;have Ry:wr.heap.size≤_:=aE.size;replace aE:=ah aE br;refine hK _ _ aE ?_;try simp only [Act.put,pz]
      clear hK K;replace hOr:=hOr.mono (B':=wr.heap.size) Ry;refine aX 6 _ O U' H' pD W' ?_;try simp only [Act.put,pz]
      refine aX 7 _ O U' H' pD W' ?_;try simp only [Act.put,pz]
      refine aX 8 _ O U' H' pD W' ?_;try simp only [Act.put,pz]
      refine aX 9 _ O U' H' pD W' ?_;try simp only [Act.put,pz]
      refine bP 10 O U' O (fun K hK=>?_);go_simp;refine hK _ _ (ak aE _) ?_;try simp only [Act.put,pz]
      clear hK K;have nr:wr.heap.size≤w5.heap.size:=aE.size;have HP:oG (w5.alloc (.cells ([.slice none 0 0,.slice none 0 0,.int .i64 0,.int .i64 0,.int .i64 0,.int .i64 0]:List Value).toArray 29)) w5.heap.size [.slice none 0 0,.slice none 0 0,.int .i64 0,.int .i64 0,.int .i64 0,.int .i64 0]:=oG.new w5 [.slice none 0 0,.slice none 0 0,.int .i64 0,.int .i64 0,.int .i64 0,.int .i64 0] 29;have mA:=aE;have Rz:=hOr;have Ks:∀y∈G3,y≠w5.heap.size:=fun y hy=>by have:=hOr.lt y hy;omega
      replace hOr:=hOr.alloc (.cells ([.slice none 0 0,.slice none 0 0,.int .i64 0,.int .i64 0,.int .i64 0,.int .i64 0]:List Value).toArray 29);replace aE:=ak aE (.cells ([.slice none 0 0,.slice none 0 0,.int .i64 0,.int .i64 0,.int .i64 0,.int .i64 0]:List Value).toArray 29);have kl:=HP.lt;have kf:=HP.fz;obtain ⟨k0,k1,k2,k3,k4,k5⟩:=dp HP;have Iz:∀y∈G3,y≠w5.heap.size:=Ks;refine bP 11 O U' O (fun K hK=>?_);go_simp;refine hK _ _ ON ?_;try simp only [Act.put,pz]
      clear hK K;refine bP 12 O U' O (fun K hK=>?_);go_simp;refine hK _ _ ON ?_;try simp only [Act.put,pz]
      clear hK K;refine bP 13 O U' O (fun K hK=>?_);go_simp;refine hK _ _ ON ?_;try simp only [Act.put,pz]
      clear hK K;refine nR U' ?_;exact HK _ _ ⟨w5.heap.size,_,_,_,_,G3,_,_,_,_,_,_,_,_,_,_,vQ,(ak mA _),nr,(oG.new w5 [.slice Nj r.aa.length Nk,.slice SB r.au.length SC,.int .i64 r.next,.int .i64 r.weights.pack,.int .i64 r.weights.spread,.int .i64 r.weights.soft] 29),(fun y hy=>⟨Iz y hy,hOr.base y hy⟩),(Rz.alloc _)⟩
     ·have RA:=Nx x _ _ l[k] _ (aZ h (ak (ah b5 (aA (aj _))) (.cells ([.slice none 0 0,.slice none 0 0,.int .i64 0,.int .i64 0,.int .i64 0,.int .i64 0]:List Value).toArray 29))) HW.out;rw [HR.out] at RA;dsimp only at RA;go_simp;refine hK _ _ (ak aE _) ?_;try simp only [Act.put,pz]
      clear hK K;have nr:wr.heap.size≤wr.heap.size:=aE.size;have HP:oG (wr.drew.alloc (.cells ([.slice none 0 0,.slice none 0 0,.int .i64 0,.int .i64 0,.int .i64 0,.int .i64 0]:List Value).toArray 29)) wr.heap.size [.slice none 0 0,.slice none 0 0,.int .i64 0,.int .i64 0,.int .i64 0,.int .i64 0]:=oG.new wr.drew [.slice none 0 0,.slice none 0 0,.int .i64 0,.int .i64 0,.int .i64 0,.int .i64 0] 29;replace aE:=ak aE (.cells ([.slice none 0 0,.slice none 0 0,.int .i64 0,.int .i64 0,.int .i64 0,.int .i64 0]:List Value).toArray 29);refine bP 5 O U' O (fun K hK=>?_);have ij:=HP.lt;go_simp;refine RA.mono ?_;rintro e w5 ⟨ds,G3,rfl,hOr,br⟩;replace HP:=HP.ext br;have Kr:=hOr.rd;obtain ⟨Nj,Nk,Nl,SB,SC,SE,aw,hGr,Np,SG,SH,xE,uw,xG⟩:=aO Kr;subst aw;clear hGr Kr;have Ry:wr.heap.size≤_:=aE.size;replace aE:=ah aE br;refine hK _ _ aE ?_;try simp only [Act.put,pz]
      clear hK K;have Ks:∀y∈G3,y≠wr.heap.size:=fun y hy=>by have:=hOr.base y hy;(try simp at this);omega
      replace hOr:=hOr.mono (B':=wr.heap.size) Ry;refine aX 6 _ O U' H' pD W' ?_;try simp only [Act.put,pz]
      refine aX 7 _ O U' H' pD W' ?_;try simp only [Act.put,pz]
      refine aX 8 _ O U' H' pD W' ?_;try simp only [Act.put,pz]
      refine aX 9 _ O U' H' pD W' ?_;try simp only [Act.put,pz]
      have kl:=HP.lt;have kf:=HP.fz;obtain ⟨k0,k1,k2,k3,k4,k5⟩:=dp HP;have Iz:∀y∈G3,y≠wr.heap.size:=Ks;refine bP 11 O U' O (fun K hK=>?_);go_simp;refine hK _ _ OY ?_;try simp only [Act.put,pz]
      clear hK K;refine bP 12 O U' O (fun K hK=>?_);go_simp;refine hK _ _ OY ?_;try simp only [Act.put,pz]
      clear hK K;refine bP 13 O U' O (fun K hK=>?_);go_simp;refine hK _ _ OY ?_;try simp only [Act.put,pz]
      clear hK K;refine nR U' ?_;exact HK _ _ ⟨wr.heap.size,_,_,_,_,G3,_,_,_,_,_,_,_,_,_,_,vQ,(aC (p:=⟨wr.heap.size,5,none⟩) (aC (p:=⟨wr.heap.size,4,none⟩) (aC (p:=⟨wr.heap.size,3,none⟩) (aC (p:=⟨wr.heap.size,2,none⟩) (aC (p:=⟨wr.heap.size,1,none⟩) (aC (p:=⟨wr.heap.size,0,none⟩) aE nr (.slice Nj r.aa.length Nk)) nr (.slice SB r.au.length SC)) nr (.int .i64 r.next)) nr (.int .i64 r.weights.pack)) nr (.int .i64 r.weights.spread)) nr (.int .i64 r.weights.soft)),nr,((((((HP.put 0 (.slice Nj r.aa.length Nk)).put 1 (.slice SB r.au.length SC)).put 2 (.int .i64 r.next)).put 3 (.int .i64 r.weights.pack)).put 4 (.int .i64 r.weights.spread)).put 5 (.int .i64 r.weights.soft)),(fun y hy=>⟨Iz y hy,hOr.base y hy⟩),(Ds (c:=wr.heap.size) (i:=5) (u:=.int .i64 r.weights.soft) (Ds (c:=wr.heap.size) (i:=4) (u:=.int .i64 r.weights.spread) (Ds (c:=wr.heap.size) (i:=3) (u:=.int .i64 r.weights.pack) (Ds (c:=wr.heap.size) (i:=2) (u:=.int .i64 r.next) (Ds (c:=wr.heap.size) (i:=1) (u:=.slice SB r.au.length SC) (Ds (c:=wr.heap.size) (i:=0) (u:=.slice Nj r.aa.length Nk) hOr Iz) Iz) Iz) Iz) Iz) Iz)⟩
    rintro a' w9 ⟨p9,Nj,SB,Nk,SC,G3,da,db,dc,dd,de,df,dh,dt,eA,eB,ha,xB,hpb9,Kt,hGp9,SY⟩;subst ha;try simp only [Act.put,pz]
    clear t0 t1 t2 t3 t4 t5 tl;have Zh:=ah b5 xB;have Nz:=(KR.ext bF).ext xB;have q9:=r' xB q0 bc;have RB:b < w9.heap.size:=(by have:=xB.size;omega);clear q0;by_cases hz:cd = 0
    ·subst hz
     have HF:=I (show BX x = (r,l[k],sh,0) by
      have h9:=aJi (x:=x) HC.out (k:=k) (by rw [HL.out];exact aq) (by simp only [HL.out];exact HB0.out) (by simp only [HL.out];unfold vq;rw [HR.out];rfl);simp only [HL.out,HR.out] at h9
      exact h9)
     have bN:b≠w.heap.size+1:=(by have:=bE.base b hbG;omega);have hpne:w.heap.size+1 < p9:=(by have:=KR.lt;have:=bF.size;omega);have xo:=Kt.ext (aA (aj _));have x0:(fun w'=>w'.cell? ⟨p9,0,none⟩ = some (.slice Nj r.aa.length Nk)∧w'.cell? ⟨p9,1,none⟩ = some (.slice SB r.au.length SC)∧w'.cell? ⟨p9,2,none⟩ = some (.int .i64 r.next)∧w'.cell? ⟨p9,3,none⟩ = some (.int .i64 r.weights.pack)∧w'.cell? ⟨p9,4,none⟩ = some (.int .i64 r.weights.spread)∧w'.cell? ⟨p9,5,none⟩ = some (.int .i64 r.weights.soft)∧w'.cell? ⟨b,o+k,none⟩ = some (.string l[k])) w9.drew:=⟨xo.cell (i:=0) (u:=.slice Nj r.aa.length Nk) rfl,xo.cell (i:=1) (u:=.slice SB r.au.length SC) rfl,xo.cell (i:=2) (u:=.int .i64 r.next) rfl,xo.cell (i:=3) (u:=.int .i64 r.weights.pack) rfl,xo.cell (i:=4) (u:=.int .i64 r.weights.spread) rfl,xo.cell (i:=5) (u:=.int .i64 r.weights.soft) rfl,(aA (aj _)).cell (p:=⟨b,o+k,none⟩) RB |>.trans q9⟩;have nH:=I ((show am w9 (w.heap.size+1+1) r [.slice Nj r.aa.length Nk,.slice SB r.au.length SC,.int .i64 r.next,.int .i64 r.weights.pack,.int .i64 r.weights.spread,.int .i64 r.weights.soft] G3 from SY.mono (by have:=KR.lt;have:=bF.size;omega)).ext (aA (aj _)));have pN:=I (aA Zh);obtain ⟨r0,r1,r2,r3,r4,r5⟩:=dp (Nz.ext (aA (aj _)));have rf:=(Nz.ext (aA (aj _))).fz;have rl:=(Nz.ext (aA (aj _))).lt;go_wp2_with fail
     refine azU (C:=(fun w'=>w'.cell? ⟨p9,0,none⟩ = some (.slice Nj r.aa.length Nk)∧w'.cell? ⟨p9,1,none⟩ = some (.slice SB r.au.length SC)∧w'.cell? ⟨p9,2,none⟩ = some (.int .i64 r.next)∧w'.cell? ⟨p9,3,none⟩ = some (.int .i64 r.weights.pack)∧w'.cell? ⟨p9,4,none⟩ = some (.int .i64 r.weights.spread)∧w'.cell? ⟨p9,5,none⟩ = some (.int .i64 r.weights.soft)∧w'.cell? ⟨b,o+k,none⟩ = some (.string l[k]))) 10 U' rfl x0 ?_;generalize w9.drew = wd at *
     refine aX 0 _ O U' H' x0 (Or.inl ⟨rfl,fun wq hq=>by
      obtain ⟨y0,y1,y2,y3,y4,y5,y6⟩:=hq;go_simp
      try rfl⟩) ?_
     try simp only [Act.put,pz]
     refine aX 1 _ O U' H' x0 (Or.inl ⟨rfl,fun wq hq=>by
      obtain ⟨y0,y1,y2,y3,y4,y5,y6⟩:=hq;go_simp
      try rfl⟩) ?_
     try simp only [Act.put,pz]
     refine aX 2 _ O U' H' x0 (Or.inl ⟨rfl,fun wq hq=>by
      obtain ⟨y0,y1,y2,y3,y4,y5,y6⟩:=hq;go_simp
      try rfl⟩) ?_
     try simp only [Act.put,pz]
     refine aX 3 _ O U' H' x0 (Or.inl ⟨rfl,fun wq hq=>by
      obtain ⟨y0,y1,y2,y3,y4,y5,y6⟩:=hq;go_simp
      try rfl⟩) ?_
     try simp only [Act.put,pz]
     refine aX 4 _ O U' H' x0 (Or.inl ⟨rfl,fun wq hq=>by
      obtain ⟨y0,y1,y2,y3,y4,y5,y6⟩:=hq;go_simp
      try rfl⟩) ?_
     try simp only [Act.put,pz]
     refine aX 5 _ O U' H' x0 (Or.inl ⟨rfl,fun wq hq=>by
      obtain ⟨y0,y1,y2,y3,y4,y5,y6⟩:=hq;go_simp
      try rfl⟩) ?_
     try simp only [Act.put,pz]
     refine bP 6 O U' O (fun K hK=>?_);go_simp;have BA:=((((((xo.bj (c:=w.heap.size+1) J 0 (.slice Nj r.aa.length Nk)).bj (c:=w.heap.size+1) J 1 (.slice SB r.au.length SC)).bj (c:=w.heap.size+1) J 2 (.int .i64 r.next)).bj (c:=w.heap.size+1) J 3 (.int .i64 r.weights.pack)).bj (c:=w.heap.size+1) J 4 (.int .i64 r.weights.spread)).bj (c:=w.heap.size+1) J 5 (.int .i64 r.weights.soft));have qs:=(World.cell?_of_block (a:=⟨b,o+k,none⟩) (by rw [Below.heap_setCell _ _ _ _ (by exact bN),Below.heap_setCell _ _ _ _ (by exact bN),Below.heap_setCell _ _ _ _ (by exact bN),Below.heap_setCell _ _ _ _ (by exact bN),Below.heap_setCell _ _ _ _ (by exact bN),Below.heap_setCell _ _ _ _ (by exact bN)]:((((((wd.setCell ⟨w.heap.size+1,0,none⟩ (.slice Nj r.aa.length Nk)).setCell ⟨w.heap.size+1,1,none⟩ (.slice SB r.au.length SC)).setCell ⟨w.heap.size+1,2,none⟩ (.int .i64 r.next)).setCell ⟨w.heap.size+1,3,none⟩ (.int .i64 r.weights.pack)).setCell ⟨w.heap.size+1,4,none⟩ (.int .i64 r.weights.spread)).setCell ⟨w.heap.size+1,5,none⟩ (.int .i64 r.weights.soft)).heap[b]? = wd.heap[b]?)).trans x0.2.2.2.2.2.2;have x1:=And.intro (BA.cell (i:=0) (u:=.slice Nj r.aa.length Nk) rfl) (And.intro (BA.cell (i:=1) (u:=.slice SB r.au.length SC) rfl) (And.intro (BA.cell (i:=2) (u:=.int .i64 r.next) rfl) (And.intro (BA.cell (i:=3) (u:=.int .i64 r.weights.pack) rfl) (And.intro (BA.cell (i:=4) (u:=.int .i64 r.weights.spread) rfl) (And.intro (BA.cell (i:=5) (u:=.int .i64 r.weights.soft) rfl) qs)))));refine hK _ _ x1 ?_;try simp only [Act.put,pz]
     clear hK K;refine bP 7 O U' O (fun K hK=>?_);go_simp;refine hK _ _ x1 ?_;try simp only [Act.put,pz]
     clear hK K;refine bP 8 O U' O (fun K hK=>?_);go_simp;refine hK _ _ x1 ?_;try simp only [Act.put,pz]
     clear hK K;refine bP 9 O U' O (fun K hK=>?_);go_simp;refine hK _ _ x1 ?_;try simp only [Act.put,pz]
     clear hK K;refine nR U' ?_;clear SY Zh Nz b5 bF xB Kt q9 x0 x1 BA xo qs;go_wp2_with fail
     try dsimp only
     iterate 60 (first | go_step | skip)
     refine bodyPost_ret (v:=.tuple #[.agg #[.slice Nj r.aa.length Nk,.slice SB r.au.length SC,.int .i64 r.next,.int .i64 r.weights.pack,.int .i64 r.weights.spread,.int .i64 r.weights.soft],.string l[k],.string sh,.int .i64 0]) (by simp [results,Tryz.results108,go_sem, *]) rfl ?_;rw [HF.out]
     first
      | refine ⟨[.slice Nj r.aa.length Nk,.slice SB r.au.length SC,.int .i64 r.next,.int .i64 r.weights.pack,.int .i64 r.weights.spread,.int .i64 r.weights.soft],G3,rfl,?_,?_⟩
      | refine ⟨[.slice Nj r.aa.length Nk,.slice SB r.au.length SC,.int .i64 r.next,.int .i64 r.weights.pack,.int .i64 r.weights.spread,.int .i64 r.weights.soft],rfl,⟨G3,?_⟩,?_⟩
     ·try dsimp only
      refine am.mono (B:=w.heap.size+1+1) ?_ J;have hO:=nH.out;exact TJ
     ·have hB:=pN.out;exact TK
    ·have HZ:=I hz;have pg:(cd == 0) = false:=(by simp [hz]);clear hz;go_wp2_with fail
     refine ⟨⟨k+1,J,N',I (fun j hj gh=>?_),ah bF xB⟩,by simp [intOf];omega⟩;rcases Nat.lt_or_ge j k with h9 | h9
     ·exact HB0.out j hj h9
     ·have:j = k:=J;subst this;unfold vq;rw [HR.out];simp [HZ.out]
   ·have bB:k = l.length:=J
    have HF:=I (show BX x = (x,⟨#[]⟩,⟨#[]⟩,6) by
     have h9:=Yk (x:=x) HC.out (by simp only [HL.out];intro j hj;exact HB0.out j hj J)
     rwa [HL.out,if_neg hl0] at h9)
    replace KT:=KT.ext bF;replace KR:=KR.ext bF;replace KO:=KO.ext bF;replace jX:=jX.ext bF;clear hB;have hB:=b5;clear b5 bB bE;obtain ⟨m0,m1,m2,m3,m4,m5⟩:=dp KO;have ml:=KO.lt;obtain ⟨r0,r1,r2,r3,r4,r5⟩:=dp (KR);have rf:=(KR).fz;have rl:=(KR).lt;have gb:=I jX;have Od:=I hB;clear KR KO KT jX hB;go_wp2_with fail
    try dsimp only
    iterate 60 (first | go_step | skip)
    refine bodyPost_ret (v:=.tuple #[.agg #[.slice dG x.aa.length bV,.slice dS x.au.length dJ,.int .i64 x.next,.int .i64 x.weights.pack,.int .i64 x.weights.spread,.int .i64 x.weights.soft],.string ⟨#[]⟩,.string ⟨#[]⟩,.int .i64 6]) (by simp [results,Tryz.results108,go_sem, *]) rfl ?_;exact yZ
end Go.Proofs.YtajbbmembionpaaGreat
