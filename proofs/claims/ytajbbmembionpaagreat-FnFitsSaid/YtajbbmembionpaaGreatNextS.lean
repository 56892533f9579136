/- PlaceNext of the reference. No condition. -/
import Derived.Test.YtajbbmembionpaaGreatOpsW
import Derived.Test.YtajbbmembionpaaGreatWaitS
namespace Go.Proofs.YtajbbmembionpaaGreat
open Go.ChangeShapes Go.WideShapes Go.ChangeAt Go.RowKit
set_option linter.unusedVariables false
set_option linter.unusedSimpArgs false
set_option maxHeartbeats 8000000
set_option maxRecDepth 100000
theorem azi (x:aU) (cs:List Value) (F:List Nat) (w:World) (h:rd w x cs F) (hw:(x.wt:Int)≤1048576) :
 Calls Tryz.prog 108 #[.agg cs.toArray] w fun e w'=>∃ds G,e = .returned (.tuple #[.agg ds.toArray,.string (BX x).2.1,.string (BX x).2.2.1,.int .i64 (BX x).2.2.2])∧am w' w.heap.size (BX x).1 ds G∧Below w.heap.size w w':=by
 have gP:(x.O.length:Int)≤1048576:=by have Z:=gJ ag.wt x.O;have h2:x.wt = kL aR.wt x.V+kL ag.wt x.O:=rfl;omega
 have HW:=I hw;have Ji:=I gP;clear hw;have hr:=h;obtain ⟨bG,bD,fQ,dn,bW,jg,aD,qp,bQ,dM,hnext,aV,aP,aW⟩:=aO hr;subst aD;clear qp hr;have KT:oG ((w.alloc (.cells ([.slice bG x.V.length bD,.slice dn x.O.length bW,.int .i64 x.next,.int .i64 x.weights.pack,.int .i64 x.weights.af,.int .i64 x.weights.an]:List Value).toArray 29)).alloc (.cells ([.slice none 0 0,.slice none 0 0,.int .i64 0,.int .i64 0,.int .i64 0,.int .i64 0]:List Value).toArray 29)) w.heap.size [.slice bG x.V.length bD,.slice dn x.O.length bW,.int .i64 x.next,.int .i64 x.weights.pack,.int .i64 x.weights.af,.int .i64 x.weights.an]:=(oG.new w [.slice bG x.V.length bD,.slice dn x.O.length bW,.int .i64 x.next,.int .i64 x.weights.pack,.int .i64 x.weights.af,.int .i64 x.weights.an] 29).ext (ak (aj _) _);have KR:oG ((w.alloc (.cells ([.slice bG x.V.length bD,.slice dn x.O.length bW,.int .i64 x.next,.int .i64 x.weights.pack,.int .i64 x.weights.af,.int .i64 x.weights.an]:List Value).toArray 29)).alloc (.cells ([.slice none 0 0,.slice none 0 0,.int .i64 0,.int .i64 0,.int .i64 0,.int .i64 0]:List Value).toArray 29)) (w.heap.size+1) [.slice none 0 0,.slice none 0 0,.int .i64 0,.int .i64 0,.int .i64 0,.int .i64 0]:=by have:=oG.new (w.alloc (.cells ([.slice bG x.V.length bD,.slice dn x.O.length bW,.int .i64 x.next,.int .i64 x.weights.pack,.int .i64 x.weights.af,.int .i64 x.weights.an]:List Value).toArray 29)) [.slice none 0 0,.slice none 0 0,.int .i64 0,.int .i64 0,.int .i64 0,.int .i64 0] 29;rw [World.size_alloc] at this;exact this
 have hB:Below w.heap.size w ((w.alloc (.cells ([.slice bG x.V.length bD,.slice dn x.O.length bW,.int .i64 x.next,.int .i64 x.weights.pack,.int .i64 x.weights.af,.int .i64 x.weights.an]:List Value).toArray 29)).alloc (.cells ([.slice none 0 0,.slice none 0 0,.int .i64 0,.int .i64 0,.int .i64 0,.int .i64 0]:List Value).toArray 29)):=ak (ak (aj _) _) _;go_enter Tryz.func108,Tryz.ntmps108;go_wp2_with fail
 refine (BO x _ _ _ (aZ h hB) HW.out).mono ?_;rintro e w1 ⟨lj,G1,rfl,jX,bp⟩;have cP:=jX.rd;obtain ⟨dG,bV,xq,dS,dJ,Bz,aD,hG1,oO,tq,wI,iV,gI,iW⟩:=aO cP;subst aD;clear hG1 cP;replace KT:=KT.ext bp;replace KR:=KR.ext bp;replace hB:=ah hB bp;have cq:w.heap.size+1 < w1.heap.size:=KR.lt;have KO:oG (w1.alloc (.cells ([.slice dG x.V.length bV,.slice dS x.O.length dJ,.int .i64 x.next,.int .i64 x.weights.pack,.int .i64 x.weights.af,.int .i64 x.weights.an]:List Value).toArray 29)) w1.heap.size [.slice dG x.V.length bV,.slice dS x.O.length dJ,.int .i64 x.next,.int .i64 x.weights.pack,.int .i64 x.weights.af,.int .i64 x.weights.an]:=oG.new w1 [.slice dG x.V.length bV,.slice dS x.O.length dJ,.int .i64 x.next,.int .i64 x.weights.pack,.int .i64 x.weights.af,.int .i64 x.weights.an] 29;have eR:Below w1.heap.size w1 (w1.alloc (.cells ([.slice dG x.V.length bV,.slice dS x.O.length dJ,.int .i64 x.next,.int .i64 x.weights.pack,.int .i64 x.weights.af,.int .i64 x.weights.an]:List Value).toArray 29)):=ak (aj _) _;replace KT:=KT.ext eR;replace KR:=KR.ext eR;replace hB:=ah hB eR;replace jX:=(jX.mono (B':=w.heap.size+1+1) S').ext eR;clear bp;obtain ⟨t0,t1,t2,t3,t4,t5⟩:=dy (KT);have tl:=(KT).lt;go_wp2_with fail
 clear t0 t1 t2 t3 t4 t5 tl;generalize (w1.alloc (.cells ([.slice dG x.V.length bV,.slice dS x.O.length dJ,.int .i64 x.next,.int .i64 x.weights.pack,.int .i64 x.weights.af,.int .i64 x.weights.an]:List Value).toArray 29)) = wo at *;have KK:=qM x _ _ _ (aZ h hB) HW.out;cases hc:iI x
 case' false =>
  rw [hc] at KK;have HF:=I (aJ4 hc);clear hc;refine KK.mono ?_;rintro e w3 ⟨rfl,bd⟩;replace KT:=KT.ext bd;replace KR:=KR.ext bd;replace hB:=ah hB bd;replace KO:=KO.ext bd;replace jX:=jX.ext bd;clear KK bd;obtain ⟨m0,m1,m2,m3,m4,m5⟩:=dy KO;have ml:=KO.lt;obtain ⟨r0,r1,r2,r3,r4,r5⟩:=dy (KR);have rf:=(KR).fz;have rl:=(KR).lt;have fT:=I jX;have Mp:=I hB;clear KR KO KT jX hB;go_wp2_with fail
  try dsimp only
  iterate 60 (first | go_step | skip)
  refine bodyPost_ret (v:=.tuple #[.agg #[.slice dG x.V.length bV,.slice dS x.O.length dJ,.int .i64 x.next,.int .i64 x.weights.pack,.int .i64 x.weights.af,.int .i64 x.weights.an],.string ⟨#[]⟩,.string ⟨#[]⟩,.int .i64 1]) (by simp [results,Tryz.results108,go_sem, *]) rfl ?_;exact xn
 rw [hc] at KK;have HC:=I hc;clear hc;refine KK.mono ?_;rintro e w3 ⟨rfl,bd⟩;replace KT:=KT.ext bd;replace KR:=KR.ext bd;replace hB:=ah hB bd;replace KO:=KO.ext bd;replace jX:=jX.ext bd;have dm:w.heap.size+1 < w3.heap.size:=KR.lt;clear KK bd;obtain ⟨t0,t1,t2,t3,t4,t5⟩:=dy (KT);have tl:=(KT).lt;go_wp2_with fail
 clear t0 t1 t2 t3 t4 t5 tl;refine (akH x _ _ _ (aZ h hB) Ji.out).mono ?_;rintro e w2 ⟨A2,c2,G2,rfl,bM,aq⟩;replace KT:=KT.ext aq;replace KR:=KR.ext aq;replace hB:=ah hB aq;replace KO:=KO.ext aq;replace jX:=jX.ext aq;clear aq;have Ph:((GI x.O).length:Int)≤1048576:=by have:=ap3 x.O;omega
 have VA:=I (show ∃l,GI x.O = l from ⟨_,rfl⟩);obtain ⟨l,hl⟩:=VA.out;have HL:=I hl;rw [hl] at bM Ph;rw [hl];clear hl VA;by_cases hl0:l.length = 0
 ·have HF:=I (show BX x = (x,⟨#[]⟩,⟨#[]⟩,7) by rw [UR HC.out (by rw [HL.out];intro j hj;omega),HL.out,if_pos hl0]);obtain ⟨m0,m1,m2,m3,m4,m5⟩:=dy KO;have ml:=KO.lt;obtain ⟨r0,r1,r2,r3,r4,r5⟩:=dy (KR);have rf:=(KR).fz;have rl:=(KR).lt;have fT:=I jX;have Mp:=I hB;clear KR KO KT jX hB;go_wp2_with fail
  try dsimp only
  iterate 60 (first | go_step | skip)
  refine bodyPost_ret (v:=.tuple #[.agg #[.slice dG x.V.length bV,.slice dS x.O.length dJ,.int .i64 x.next,.int .i64 x.weights.pack,.int .i64 x.weights.af,.int .i64 x.weights.an],.string ⟨#[]⟩,.string ⟨#[]⟩,.int .i64 7]) (by simp [results,Tryz.results108,go_sem, *]) rfl ?_;exact xn
 ·have H9:((l.length:Int) == 0) = false:=by rw [beq_eq_false_iff_ne];omega
  go_wp2_with fail
  try simp only [H9]
  go_loopw [8] (fun j wr=>∃k:Nat,k≤l.length∧j = .int .i64 (k:Int)∧Hid (∀j (hj:j < l.length),j < k→tI x l[j] = false)∧Below w2.heap.size w2 wr) (fun j _=>l.length - (intOf j).toNat)
  case atStart=>exact ⟨0,Nat.zero_le _,rfl,I (fun j _ hj=>by omega),aj _⟩
  case round =>
   obtain ⟨k,hk,rfl,HB0,bN⟩:=hrel;have b4:=ah hB bN;by_cases av:k < l.length
   ·obtain ⟨b,o,ck,Fk,hA,hbG,hbs,aJe,_,hcells⟩:=Sl.get (bM.ext bN).rd av;subst hA;obtain ⟨aD,su,fX⟩:=aJe;subst aD;have q0:wr.cell? ⟨b,o+k,none⟩ = some (.string l[k]):=(by have:=hcells 0 _ rfl;simpa [show bb.size ByteArray = 1 from rfl] using this);clear hcells su;obtain ⟨t0,t1,t2,t3,t4,t5⟩:=dy (KT.ext bN);have tl:=(KT.ext bN).lt;obtain ⟨r,sh,cd,hR⟩:∃r s c,ka x l[k] = (r,s,c):=⟨_,_,_,rfl⟩;have KP:=LG x _ _ l[k] wr (aZ h b4) HW.out;rw [hR] at KP;dsimp only at KP;have HR:=I hR;clear hR;have HT:=I (And.intro KP (And.intro b4 bN));clear KP;go_wp2_with fail
    try simp only [H9]
    refine zU wr 14 U' U' (aj _) ?_;refine YU (fun a0 a' w'=>∃(p9:Nat) (Nj SB:Option Addr) (Nk SC:Nat) (G3:List Nat) (df dg dh di dj dk dl dC ez eA:Value),a' = (Act.put (Act.put (Act.put (Act.put (Act.put (Act.put (Act.put (Act.put (Act.put (Act.put (Act.put (Act.put (Act.put a0 (some 31) (df)) (some 32) (dg)) (some 33) (dh)) (some 34) (di)) (some 35) (dj)) (some 36) (dk)) (some 30) (dl)) (some 37) (dC)) (some 38) (ez)) (some 39) (eA)) (some 9) (.pointer (some ⟨p9,0,none⟩))) (some 10) (.string sh)) (some 11) (.int .i64 cd))∧Below wr.heap.size wr w'∧wr.heap.size≤p9∧oG w' p9 [.slice Nj r.V.length Nk,.slice SB r.O.length SC,.int .i64 r.next,.int .i64 r.weights.pack,.int .i64 r.weights.af,.int .i64 r.weights.an]∧(∀y∈G3,y≠p9∧wr.heap.size≤y)∧am w' wr.heap.size r [.slice Nj r.V.length Nk,.slice SB r.O.length SC,.int .i64 r.next,.int .i64 r.weights.pack,.int .i64 r.weights.af,.int .i64 r.weights.an] G3) ?_ ?_;rotate_left
    ·intro HK;have ba:Below wr.heap.size wr wr.drew:=aA (aj _);refine aX 0 _ M U' H' oL W' ?_;try simp only [Act.put,pz]
     refine aX 1 _ M U' H' oL W' ?_;try simp only [Act.put,pz]
     refine aX 2 _ M U' H' oL W' ?_;try simp only [Act.put,pz]
     refine aX 3 _ M U' H' oL W' ?_;try simp only [Act.put,pz]
     refine aX 4 _ M U' H' oL W' ?_;try simp only [Act.put,pz]
     refine D7 5 10 M M U' M M (fun K hK=>?_) (fun K hK=>?_)
     ·have KP:=LG x _ _ l[k] _ (aZ h (ah b4 (aA (aj _)))) HW.out;rw [HR.out] at KP;dsimp only at KP;go_simp;refine KP.mono ?_;rintro e w5 ⟨ds,G3,rfl,hOr,bs⟩;have Ia:=hOr.rd;obtain ⟨Nj,Nk,Nl,SB,SC,SE,aD,hGr,Np,SG,SH,xE,uw,xG⟩:=aO Ia;subst aD;clear hGr Ia;have Pj:wr.heap.size≤_:=ba.size;replace ba:=ah ba bs;refine hK _ _ ba ?_;try simp only [Act.put,pz]
      clear hK K;replace hOr:=hOr.mono (B':=wr.heap.size) Pj;refine aX 6 _ M U' H' oL W' ?_;try simp only [Act.put,pz]
      refine aX 7 _ M U' H' oL W' ?_;try simp only [Act.put,pz]
      refine aX 8 _ M U' H' oL W' ?_;try simp only [Act.put,pz]
      refine aX 9 _ M U' H' oL W' ?_;try simp only [Act.put,pz]
      refine bP 10 M U' M (fun K hK=>?_);go_simp;refine hK _ _ (ak ba _) ?_;try simp only [Act.put,pz]
      clear hK K;have mo:wr.heap.size≤w5.heap.size:=ba.size;have HP:oG (w5.alloc (.cells ([.slice none 0 0,.slice none 0 0,.int .i64 0,.int .i64 0,.int .i64 0,.int .i64 0]:List Value).toArray 29)) w5.heap.size [.slice none 0 0,.slice none 0 0,.int .i64 0,.int .i64 0,.int .i64 0,.int .i64 0]:=oG.new w5 [.slice none 0 0,.slice none 0 0,.int .i64 0,.int .i64 0,.int .i64 0,.int .i64 0] 29;have lT:=ba;have Pk:=hOr;have zr:∀y∈G3,y≠w5.heap.size:=fun y hy=>by have:=hOr.lt y hy;omega
      replace hOr:=hOr.alloc (.cells ([.slice none 0 0,.slice none 0 0,.int .i64 0,.int .i64 0,.int .i64 0,.int .i64 0]:List Value).toArray 29);replace ba:=ak ba (.cells ([.slice none 0 0,.slice none 0 0,.int .i64 0,.int .i64 0,.int .i64 0,.int .i64 0]:List Value).toArray 29);have kl:=HP.lt;have kf:=HP.fz;obtain ⟨k0,k1,k2,k3,k4,k5⟩:=dy HP;have Iz:∀y∈G3,y≠w5.heap.size:=zr;refine bP 11 M U' M (fun K hK=>?_);go_simp;refine hK _ _ MI ?_;try simp only [Act.put,pz]
      clear hK K;refine bP 12 M U' M (fun K hK=>?_);go_simp;refine hK _ _ MI ?_;try simp only [Act.put,pz]
      clear hK K;refine bP 13 M U' M (fun K hK=>?_);go_simp;refine hK _ _ MI ?_;try simp only [Act.put,pz]
      clear hK K;refine nR U' ?_;exact HK _ _ ⟨w5.heap.size,_,_,_,_,G3,_,_,_,_,_,_,_,_,_,_,uk,(ak lT _),mo,(oG.new w5 [.slice Nj r.V.length Nk,.slice SB r.O.length SC,.int .i64 r.next,.int .i64 r.weights.pack,.int .i64 r.weights.af,.int .i64 r.weights.an] 29),(fun y hy=>⟨Iz y hy,hOr.base y hy⟩),(Pk.alloc _)⟩
     ·have Pm:=LG x _ _ l[k] _ (aZ h (ak (ah b4 (aA (aj _))) (.cells ([.slice none 0 0,.slice none 0 0,.int .i64 0,.int .i64 0,.int .i64 0,.int .i64 0]:List Value).toArray 29))) HW.out;rw [HR.out] at Pm;dsimp only at Pm;go_simp;refine hK _ _ (ak ba _) ?_;try simp only [Act.put,pz]
      clear hK K;have mo:wr.heap.size≤wr.heap.size:=ba.size;have HP:oG (wr.drew.alloc (.cells ([.slice none 0 0,.slice none 0 0,.int .i64 0,.int .i64 0,.int .i64 0,.int .i64 0]:List Value).toArray 29)) wr.heap.size [.slice none 0 0,.slice none 0 0,.int .i64 0,.int .i64 0,.int .i64 0,.int .i64 0]:=oG.new wr.drew [.slice none 0 0,.slice none 0 0,.int .i64 0,.int .i64 0,.int .i64 0,.int .i64 0] 29;replace ba:=ak ba (.cells ([.slice none 0 0,.slice none 0 0,.int .i64 0,.int .i64 0,.int .i64 0,.int .i64 0]:List Value).toArray 29);refine bP 5 M U' M (fun K hK=>?_);have gP:=HP.lt;go_simp;refine Pm.mono ?_;rintro e w5 ⟨ds,G3,rfl,hOr,bs⟩;replace HP:=HP.ext bs;have Ia:=hOr.rd;obtain ⟨Nj,Nk,Nl,SB,SC,SE,aD,hGr,Np,SG,SH,xE,uw,xG⟩:=aO Ia;subst aD;clear hGr Ia;have Pj:wr.heap.size≤_:=ba.size;replace ba:=ah ba bs;refine hK _ _ ba ?_;try simp only [Act.put,pz]
      clear hK K;have zr:∀y∈G3,y≠wr.heap.size:=fun y hy=>by have:=hOr.base y hy;(try simp at this);omega
      replace hOr:=hOr.mono (B':=wr.heap.size) Pj;refine aX 6 _ M U' H' oL W' ?_;try simp only [Act.put,pz]
      refine aX 7 _ M U' H' oL W' ?_;try simp only [Act.put,pz]
      refine aX 8 _ M U' H' oL W' ?_;try simp only [Act.put,pz]
      refine aX 9 _ M U' H' oL W' ?_;try simp only [Act.put,pz]
      have kl:=HP.lt;have kf:=HP.fz;obtain ⟨k0,k1,k2,k3,k4,k5⟩:=dy HP;have Iz:∀y∈G3,y≠wr.heap.size:=zr;refine bP 11 M U' M (fun K hK=>?_);go_simp;refine hK _ _ MO ?_;try simp only [Act.put,pz]
      clear hK K;refine bP 12 M U' M (fun K hK=>?_);go_simp;refine hK _ _ MO ?_;try simp only [Act.put,pz]
      clear hK K;refine bP 13 M U' M (fun K hK=>?_);go_simp;refine hK _ _ MO ?_;try simp only [Act.put,pz]
      clear hK K;refine nR U' ?_;exact HK _ _ ⟨wr.heap.size,_,_,_,_,G3,_,_,_,_,_,_,_,_,_,_,uk,(aC (p:=⟨wr.heap.size,5,none⟩) (aC (p:=⟨wr.heap.size,4,none⟩) (aC (p:=⟨wr.heap.size,3,none⟩) (aC (p:=⟨wr.heap.size,2,none⟩) (aC (p:=⟨wr.heap.size,1,none⟩) (aC (p:=⟨wr.heap.size,0,none⟩) ba mo (.slice Nj r.V.length Nk)) mo (.slice SB r.O.length SC)) mo (.int .i64 r.next)) mo (.int .i64 r.weights.pack)) mo (.int .i64 r.weights.af)) mo (.int .i64 r.weights.an)),mo,((((((HP.put 0 (.slice Nj r.V.length Nk)).put 1 (.slice SB r.O.length SC)).put 2 (.int .i64 r.next)).put 3 (.int .i64 r.weights.pack)).put 4 (.int .i64 r.weights.af)).put 5 (.int .i64 r.weights.an)),(fun y hy=>⟨Iz y hy,hOr.base y hy⟩),(Bu (c:=wr.heap.size) (i:=5) (u:=.int .i64 r.weights.an) (Bu (c:=wr.heap.size) (i:=4) (u:=.int .i64 r.weights.af) (Bu (c:=wr.heap.size) (i:=3) (u:=.int .i64 r.weights.pack) (Bu (c:=wr.heap.size) (i:=2) (u:=.int .i64 r.next) (Bu (c:=wr.heap.size) (i:=1) (u:=.slice SB r.O.length SC) (Bu (c:=wr.heap.size) (i:=0) (u:=.slice Nj r.V.length Nk) hOr Iz) Iz) Iz) Iz) Iz) Iz)⟩
    rintro a' w9 ⟨p9,Nj,SB,Nk,SC,G3,df,dg,dh,di,dj,dk,dl,dC,ez,eA,ha,xB,hpb9,Ib,hGp9,SY⟩;subst ha;try simp only [Act.put,pz]
    clear t0 t1 t2 t3 t4 t5 tl;have VB:=ah b4 xB;have LK:=(KR.ext bN).ext xB;have q9:=r' xB q0 hbs;have Pn:b < w9.heap.size:=(by have:=xB.size;omega);clear q0;by_cases hz:cd = 0
    ·subst hz
     have HF:=I (show BX x = (r,l[k],sh,0) by
      have h9:=aJi (x:=x) HC.out (k:=k) (by rw [HL.out];exact av) (by simp only [HL.out];exact HB0.out) (by simp only [HL.out];unfold tI;rw [HR.out];rfl);simp only [HL.out,HR.out] at h9
      exact h9)
     have bX:b≠w.heap.size+1:=(by have:=bM.base b hbG;omega);have hpne:w.heap.size+1 < p9:=(by have:=KR.lt;have:=bN.size;omega);have vm:=Ib.ext (aA (aj _));have x0:(fun w'=>w'.cell? ⟨p9,0,none⟩ = some (.slice Nj r.V.length Nk)∧w'.cell? ⟨p9,1,none⟩ = some (.slice SB r.O.length SC)∧w'.cell? ⟨p9,2,none⟩ = some (.int .i64 r.next)∧w'.cell? ⟨p9,3,none⟩ = some (.int .i64 r.weights.pack)∧w'.cell? ⟨p9,4,none⟩ = some (.int .i64 r.weights.af)∧w'.cell? ⟨p9,5,none⟩ = some (.int .i64 r.weights.an)∧w'.cell? ⟨b,o+k,none⟩ = some (.string l[k])) w9.drew:=⟨vm.cell (i:=0) (u:=.slice Nj r.V.length Nk) rfl,vm.cell (i:=1) (u:=.slice SB r.O.length SC) rfl,vm.cell (i:=2) (u:=.int .i64 r.next) rfl,vm.cell (i:=3) (u:=.int .i64 r.weights.pack) rfl,vm.cell (i:=4) (u:=.int .i64 r.weights.af) rfl,vm.cell (i:=5) (u:=.int .i64 r.weights.an) rfl,(aA (aj _)).cell (p:=⟨b,o+k,none⟩) Pn |>.trans q9⟩;have mm:=I ((show am w9 (w.heap.size+1+1) r [.slice Nj r.V.length Nk,.slice SB r.O.length SC,.int .i64 r.next,.int .i64 r.weights.pack,.int .i64 r.weights.af,.int .i64 r.weights.an] G3 from SY.mono (by have:=KR.lt;have:=bN.size;omega)).ext (aA (aj _)));have o3:=I (aA VB);obtain ⟨r0,r1,r2,r3,r4,r5⟩:=dy (LK.ext (aA (aj _)));have rf:=(LK.ext (aA (aj _))).fz;have rl:=(LK.ext (aA (aj _))).lt;go_wp2_with fail
     refine azU (C:=(fun w'=>w'.cell? ⟨p9,0,none⟩ = some (.slice Nj r.V.length Nk)∧w'.cell? ⟨p9,1,none⟩ = some (.slice SB r.O.length SC)∧w'.cell? ⟨p9,2,none⟩ = some (.int .i64 r.next)∧w'.cell? ⟨p9,3,none⟩ = some (.int .i64 r.weights.pack)∧w'.cell? ⟨p9,4,none⟩ = some (.int .i64 r.weights.af)∧w'.cell? ⟨p9,5,none⟩ = some (.int .i64 r.weights.an)∧w'.cell? ⟨b,o+k,none⟩ = some (.string l[k]))) 10 U' rfl x0 ?_;generalize w9.drew = wd at *
     refine aX 0 _ M U' H' x0 (Or.inl ⟨rfl,fun wq hq=>by
      obtain ⟨y0,y1,y2,y3,y4,y5,y6⟩:=hq;go_simp
      try rfl⟩) ?_
     try simp only [Act.put,pz]
     refine aX 1 _ M U' H' x0 (Or.inl ⟨rfl,fun wq hq=>by
      obtain ⟨y0,y1,y2,y3,y4,y5,y6⟩:=hq;go_simp
      try rfl⟩) ?_
     try simp only [Act.put,pz]
     refine aX 2 _ M U' H' x0 (Or.inl ⟨rfl,fun wq hq=>by
      obtain ⟨y0,y1,y2,y3,y4,y5,y6⟩:=hq;go_simp
      try rfl⟩) ?_
     try simp only [Act.put,pz]
     refine aX 3 _ M U' H' x0 (Or.inl ⟨rfl,fun wq hq=>by
      obtain ⟨y0,y1,y2,y3,y4,y5,y6⟩:=hq;go_simp
      try rfl⟩) ?_
     try simp only [Act.put,pz]
     refine aX 4 _ M U' H' x0 (Or.inl ⟨rfl,fun wq hq=>by
      obtain ⟨y0,y1,y2,y3,y4,y5,y6⟩:=hq;go_simp
      try rfl⟩) ?_
     try simp only [Act.put,pz]
     refine aX 5 _ M U' H' x0 (Or.inl ⟨rfl,fun wq hq=>by
      obtain ⟨y0,y1,y2,y3,y4,y5,y6⟩:=hq;go_simp
      try rfl⟩) ?_
     try simp only [Act.put,pz]
     refine bP 6 M U' M (fun K hK=>?_);go_simp;have si:=((((((vm.bj (c:=w.heap.size+1) J 0 (.slice Nj r.V.length Nk)).bj (c:=w.heap.size+1) J 1 (.slice SB r.O.length SC)).bj (c:=w.heap.size+1) J 2 (.int .i64 r.next)).bj (c:=w.heap.size+1) J 3 (.int .i64 r.weights.pack)).bj (c:=w.heap.size+1) J 4 (.int .i64 r.weights.af)).bj (c:=w.heap.size+1) J 5 (.int .i64 r.weights.an));have qs:=(World.cell?_of_block (a:=⟨b,o+k,none⟩) (by rw [Below.heap_setCell _ _ _ _ (by exact bX),Below.heap_setCell _ _ _ _ (by exact bX),Below.heap_setCell _ _ _ _ (by exact bX),Below.heap_setCell _ _ _ _ (by exact bX),Below.heap_setCell _ _ _ _ (by exact bX),Below.heap_setCell _ _ _ _ (by exact bX)]:((((((wd.setCell ⟨w.heap.size+1,0,none⟩ (.slice Nj r.V.length Nk)).setCell ⟨w.heap.size+1,1,none⟩ (.slice SB r.O.length SC)).setCell ⟨w.heap.size+1,2,none⟩ (.int .i64 r.next)).setCell ⟨w.heap.size+1,3,none⟩ (.int .i64 r.weights.pack)).setCell ⟨w.heap.size+1,4,none⟩ (.int .i64 r.weights.af)).setCell ⟨w.heap.size+1,5,none⟩ (.int .i64 r.weights.an)).heap[b]? = wd.heap[b]?)).trans x0.2.2.2.2.2.2;have x1:=And.intro (si.cell (i:=0) (u:=.slice Nj r.V.length Nk) rfl) (And.intro (si.cell (i:=1) (u:=.slice SB r.O.length SC) rfl) (And.intro (si.cell (i:=2) (u:=.int .i64 r.next) rfl) (And.intro (si.cell (i:=3) (u:=.int .i64 r.weights.pack) rfl) (And.intro (si.cell (i:=4) (u:=.int .i64 r.weights.af) rfl) (And.intro (si.cell (i:=5) (u:=.int .i64 r.weights.an) rfl) qs)))));refine hK _ _ x1 ?_;try simp only [Act.put,pz]
     clear hK K;refine bP 7 M U' M (fun K hK=>?_);go_simp;refine hK _ _ x1 ?_;try simp only [Act.put,pz]
     clear hK K;refine bP 8 M U' M (fun K hK=>?_);go_simp;refine hK _ _ x1 ?_;try simp only [Act.put,pz]
     clear hK K;refine bP 9 M U' M (fun K hK=>?_);go_simp;refine hK _ _ x1 ?_;try simp only [Act.put,pz]
     clear hK K;refine nR U' ?_;clear SY VB LK b4 bN xB Ib q9 x0 x1 si vm qs;go_wp2_with fail
     try dsimp only
     iterate 60 (first | go_step | skip)
     refine bodyPost_ret (v:=.tuple #[.agg #[.slice Nj r.V.length Nk,.slice SB r.O.length SC,.int .i64 r.next,.int .i64 r.weights.pack,.int .i64 r.weights.af,.int .i64 r.weights.an],.string l[k],.string sh,.int .i64 0]) (by simp [results,Tryz.results108,go_sem, *]) rfl ?_;rw [HF.out]
     first
      | refine ⟨[.slice Nj r.V.length Nk,.slice SB r.O.length SC,.int .i64 r.next,.int .i64 r.weights.pack,.int .i64 r.weights.af,.int .i64 r.weights.an],G3,rfl,?_,?_⟩
      | refine ⟨[.slice Nj r.V.length Nk,.slice SB r.O.length SC,.int .i64 r.next,.int .i64 r.weights.pack,.int .i64 r.weights.af,.int .i64 r.weights.an],rfl,⟨G3,?_⟩,?_⟩
     ·try dsimp only
      refine am.mono (B:=w.heap.size+1+1) ?_ J;have hO:=mm.out;exact Rm
     ·have hB:=o3.out;exact Rn
    ·have HZ:=I hz;have n':(cd == 0) = false:=(by simp [hz]);clear hz;go_wp2_with fail
     refine ⟨⟨k+1,J,N',I (fun j hj fV=>?_),ah bN xB⟩,by simp [intOf];omega⟩;rcases Nat.lt_or_ge j k with h9 | h9
     ·exact HB0.out j hj h9
     ·have:j = k:=J;subst this;unfold tI;rw [HR.out];simp [HZ.out]
   ·have bI:k = l.length:=J
    have HF:=I (show BX x = (x,⟨#[]⟩,⟨#[]⟩,6) by
     have h9:=UR (x:=x) HC.out (by simp only [HL.out];intro j hj;exact HB0.out j hj J)
     rwa [HL.out,if_neg hl0] at h9)
    replace KT:=KT.ext bN;replace KR:=KR.ext bN;replace KO:=KO.ext bN;replace jX:=jX.ext bN;clear hB;have hB:=b4;clear b4 bI bM;obtain ⟨m0,m1,m2,m3,m4,m5⟩:=dy KO;have ml:=KO.lt;obtain ⟨r0,r1,r2,r3,r4,r5⟩:=dy (KR);have rf:=(KR).fz;have rl:=(KR).lt;have fT:=I jX;have Mp:=I hB;clear KR KO KT jX hB;go_wp2_with fail
    try dsimp only
    iterate 60 (first | go_step | skip)
    refine bodyPost_ret (v:=.tuple #[.agg #[.slice dG x.V.length bV,.slice dS x.O.length dJ,.int .i64 x.next,.int .i64 x.weights.pack,.int .i64 x.weights.af,.int .i64 x.weights.an],.string ⟨#[]⟩,.string ⟨#[]⟩,.int .i64 6]) (by simp [results,Tryz.results108,go_sem, *]) rfl ?_;exact xn
end Go.Proofs.YtajbbmembionpaaGreat
