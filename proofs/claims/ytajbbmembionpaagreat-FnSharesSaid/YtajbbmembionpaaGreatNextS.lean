/- PlaceNext of the reference. No condition. -/
import Derived.Test.YtajbbmembionpaaGreatBest
import Derived.Test.YtajbbmembionpaaGreatWaitS
namespace Go.Proofs.YtajbbmembionpaaGreat
open Go.ChangeShapes Go.WideShapes Go.ChangeAt Go.RowKit
set_option linter.unusedVariables false
set_option linter.unusedSimpArgs false
set_option maxHeartbeats 8000000
set_option maxRecDepth 100000
theorem azi (x:aU) (cs:List Value) (F:List Nat) (w:World) (h:rd w x cs F) (hw:(x.wt:Int)≤1048576) :
 Calls Tryz.prog 108 #[.agg cs.toArray] w fun e w'=>∃ds G,e = .returned (.tuple #[.agg ds.toArray,.string (BX x).2.1,.string (BX x).2.2.1,.int .i64 (BX x).2.2.2])∧am w' w.heap.size (BX x).1 ds G∧Below w.heap.size w w':=by
 have gp:(x.V.length:Int)≤1048576:=by have h1:=gJ ag.wt x.V;have h2:x.wt = kL ba.wt x.aa+kL ag.wt x.V:=rfl;omega
 have HW:=I hw;have Ji:=I gp;clear hw;have hr:=h;obtain ⟨bG,bD,fQ,dn,bW,jg,aE,qp,bQ,dM,hnext,aV,aP,aW⟩:=aO hr;subst aE;clear qp hr;have KT:oG ((w.alloc (.cells ([.slice bG x.aa.length bD,.slice dn x.V.length bW,.int .i64 x.next,.int .i64 x.weights.pack,.int .i64 x.weights.af,.int .i64 x.weights.an]:List Value).toArray 29)).alloc (.cells ([.slice none 0 0,.slice none 0 0,.int .i64 0,.int .i64 0,.int .i64 0,.int .i64 0]:List Value).toArray 29)) w.heap.size [.slice bG x.aa.length bD,.slice dn x.V.length bW,.int .i64 x.next,.int .i64 x.weights.pack,.int .i64 x.weights.af,.int .i64 x.weights.an]:=(oG.new w [.slice bG x.aa.length bD,.slice dn x.V.length bW,.int .i64 x.next,.int .i64 x.weights.pack,.int .i64 x.weights.af,.int .i64 x.weights.an] 29).ext (ak (aj _) _);have KR:oG ((w.alloc (.cells ([.slice bG x.aa.length bD,.slice dn x.V.length bW,.int .i64 x.next,.int .i64 x.weights.pack,.int .i64 x.weights.af,.int .i64 x.weights.an]:List Value).toArray 29)).alloc (.cells ([.slice none 0 0,.slice none 0 0,.int .i64 0,.int .i64 0,.int .i64 0,.int .i64 0]:List Value).toArray 29)) (w.heap.size+1) [.slice none 0 0,.slice none 0 0,.int .i64 0,.int .i64 0,.int .i64 0,.int .i64 0]:=by have:=oG.new (w.alloc (.cells ([.slice bG x.aa.length bD,.slice dn x.V.length bW,.int .i64 x.next,.int .i64 x.weights.pack,.int .i64 x.weights.af,.int .i64 x.weights.an]:List Value).toArray 29)) [.slice none 0 0,.slice none 0 0,.int .i64 0,.int .i64 0,.int .i64 0,.int .i64 0] 29;rw [World.size_alloc] at this;exact this
 have hB:Below w.heap.size w ((w.alloc (.cells ([.slice bG x.aa.length bD,.slice dn x.V.length bW,.int .i64 x.next,.int .i64 x.weights.pack,.int .i64 x.weights.af,.int .i64 x.weights.an]:List Value).toArray 29)).alloc (.cells ([.slice none 0 0,.slice none 0 0,.int .i64 0,.int .i64 0,.int .i64 0,.int .i64 0]:List Value).toArray 29)):=ak (ak (aj _) _) _;go_enter Tryz.func108,Tryz.ntmps108;go_wp2_with fail
 refine (BO x _ _ _ (aZ h hB) HW.out).mono ?_;rintro e w1 ⟨lr,G1,rfl,jX,bo⟩;have cH:=jX.rd;obtain ⟨dG,bV,xq,dS,dJ,Bz,aE,hG1,oO,tq,wI,iV,gI,iW⟩:=aO cH;subst aE;clear hG1 cH;replace KT:=KT.ext bo;replace KR:=KR.ext bo;replace hB:=ah hB bo;have cE:w.heap.size+1 < w1.heap.size:=KR.lt;have KO:oG (w1.alloc (.cells ([.slice dG x.aa.length bV,.slice dS x.V.length dJ,.int .i64 x.next,.int .i64 x.weights.pack,.int .i64 x.weights.af,.int .i64 x.weights.an]:List Value).toArray 29)) w1.heap.size [.slice dG x.aa.length bV,.slice dS x.V.length dJ,.int .i64 x.next,.int .i64 x.weights.pack,.int .i64 x.weights.af,.int .i64 x.weights.an]:=oG.new w1 [.slice dG x.aa.length bV,.slice dS x.V.length dJ,.int .i64 x.next,.int .i64 x.weights.pack,.int .i64 x.weights.af,.int .i64 x.weights.an] 29;have eK:Below w1.heap.size w1 (w1.alloc (.cells ([.slice dG x.aa.length bV,.slice dS x.V.length dJ,.int .i64 x.next,.int .i64 x.weights.pack,.int .i64 x.weights.af,.int .i64 x.weights.an]:List Value).toArray 29)):=ak (aj _) _;replace KT:=KT.ext eK;replace KR:=KR.ext eK;replace hB:=ah hB eK;replace jX:=(jX.mono (B':=w.heap.size+1+1) S').ext eK;clear bo;obtain ⟨t0,t1,t2,t3,t4,t5⟩:=dr (KT);have tl:=(KT).lt;go_wp2_with fail
 clear t0 t1 t2 t3 t4 t5 tl;generalize (w1.alloc (.cells ([.slice dG x.aa.length bV,.slice dS x.V.length dJ,.int .i64 x.next,.int .i64 x.weights.pack,.int .i64 x.weights.af,.int .i64 x.weights.an]:List Value).toArray 29)) = wo at *;have KK:=qM x _ _ _ (aZ h hB) HW.out;cases hc:iI x
 case' false =>
  rw [hc] at KK;have HF:=I (aJ4 hc);clear hc;refine KK.mono ?_;rintro e w3 ⟨rfl,bb⟩;replace KT:=KT.ext bb;replace KR:=KR.ext bb;replace hB:=ah hB bb;replace KO:=KO.ext bb;replace jX:=jX.ext bb;clear KK bb;obtain ⟨m0,m1,m2,m3,m4,m5⟩:=dr KO;have ml:=KO.lt;obtain ⟨r0,r1,r2,r3,r4,r5⟩:=dr (KR);have rf:=(KR).fz;have rl:=(KR).lt;have fL:=I jX;have sj:=I hB;clear KR KO KT jX hB;go_wp2_with fail
  try dsimp only
  iterate 60 (first | go_step | skip)
  refine bodyPost_ret (v:=.tuple #[.agg #[.slice dG x.aa.length bV,.slice dS x.V.length dJ,.int .i64 x.next,.int .i64 x.weights.pack,.int .i64 x.weights.af,.int .i64 x.weights.an],.string ⟨#[]⟩,.string ⟨#[]⟩,.int .i64 1]) (by simp [results,Tryz.results108,go_sem, *]) rfl ?_;exact xm
 rw [hc] at KK;have HC:=I hc;clear hc;refine KK.mono ?_;rintro e w3 ⟨rfl,bb⟩;replace KT:=KT.ext bb;replace KR:=KR.ext bb;replace hB:=ah hB bb;replace KO:=KO.ext bb;replace jX:=jX.ext bb;have cU:w.heap.size+1 < w3.heap.size:=KR.lt;clear KK bb;obtain ⟨t0,t1,t2,t3,t4,t5⟩:=dr (KT);have tl:=(KT).lt;go_wp2_with fail
 clear t0 t1 t2 t3 t4 t5 tl;refine (akH x _ _ _ (aZ h hB) Ji.out).mono ?_;rintro e w2 ⟨A2,c2,G2,rfl,bI,ar⟩;replace KT:=KT.ext ar;replace KR:=KR.ext ar;replace hB:=ah hB ar;replace KO:=KO.ext ar;replace jX:=jX.ext ar;clear ar;have N1:((GI x.V).length:Int)≤1048576:=by have:=ap3 x.V;omega
 have TE:=I (show ∃l,GI x.V = l from ⟨_,rfl⟩);obtain ⟨l,hl⟩:=TE.out;have HL:=I hl;rw [hl] at bI N1;rw [hl];clear hl TE;by_cases hl0:l.length = 0
 ·have HF:=I (show BX x = (x,⟨#[]⟩,⟨#[]⟩,7) by rw [S4 HC.out (by rw [HL.out];intro j hj;omega),HL.out,if_pos hl0]);obtain ⟨m0,m1,m2,m3,m4,m5⟩:=dr KO;have ml:=KO.lt;obtain ⟨r0,r1,r2,r3,r4,r5⟩:=dr (KR);have rf:=(KR).fz;have rl:=(KR).lt;have fL:=I jX;have sj:=I hB;clear KR KO KT jX hB;go_wp2_with fail
  try dsimp only
  iterate 60 (first | go_step | skip)
  refine bodyPost_ret (v:=.tuple #[.agg #[.slice dG x.aa.length bV,.slice dS x.V.length dJ,.int .i64 x.next,.int .i64 x.weights.pack,.int .i64 x.weights.af,.int .i64 x.weights.an],.string ⟨#[]⟩,.string ⟨#[]⟩,.int .i64 7]) (by simp [results,Tryz.results108,go_sem, *]) rfl ?_;exact xm
 ·have GB:((l.length:Int) == 0) = false:=by rw [beq_eq_false_iff_ne];omega
  go_wp2_with fail
  try simp only [GB]
  go_loopw [8] (fun j wr=>∃k:Nat,k≤l.length∧j = .int .i64 (k:Int)∧Hid (∀j (hj:j < l.length),j < k→tS x l[j] = false)∧Below w2.heap.size w2 wr) (fun j _=>l.length - (intOf j).toNat)
  case atStart=>exact ⟨0,Nat.zero_le _,rfl,I (fun j _ hj=>by omega),aj _⟩
  case round =>
   obtain ⟨k,hk,rfl,HB0,bL⟩:=hrel;have b9:=ah hB bL;by_cases ax:k < l.length
   ·obtain ⟨b,o,ck,Fk,hA,hbG,hbs,aJe,_,hcells⟩:=Sl.get (bI.ext bL).rd ax;subst hA;obtain ⟨aE,su,gT⟩:=aJe;subst aE;have q0:wr.cell? ⟨b,o+k,none⟩ = some (.string l[k]):=(by have:=hcells 0 _ rfl;simpa [show bc.size ByteArray = 1 from rfl] using this);clear hcells su;obtain ⟨t0,t1,t2,t3,t4,t5⟩:=dr (KT.ext bL);have tl:=(KT.ext bL).lt;obtain ⟨r,sh,cd,hR⟩:∃r s c,ka x l[k] = (r,s,c):=⟨_,_,_,rfl⟩;have KP:=KQ x _ _ l[k] wr (aZ h b9) HW.out;rw [hR] at KP;dsimp only at KP;have HR:=I hR;clear hR;have HT:=I (And.intro KP (And.intro b9 bL));clear KP;go_wp2_with fail
    try simp only [GB]
    refine zU wr 14 U' U' (aj _) ?_;refine YU (fun a0 a' w'=>∃(p9:Nat) (Nj SB:Option Addr) (Nk SC:Nat) (G3:List Nat) (da db dc de df dg dh dv ev ew:Value),a' = (Act.put (Act.put (Act.put (Act.put (Act.put (Act.put (Act.put (Act.put (Act.put (Act.put (Act.put (Act.put (Act.put a0 (some 31) (da)) (some 32) (db)) (some 33) (dc)) (some 34) (de)) (some 35) (df)) (some 36) (dg)) (some 30) (dh)) (some 37) (dv)) (some 38) (ev)) (some 39) (ew)) (some 9) (.pointer (some ⟨p9,0,none⟩))) (some 10) (.string sh)) (some 11) (.int .i64 cd))∧Below wr.heap.size wr w'∧wr.heap.size≤p9∧oG w' p9 [.slice Nj r.aa.length Nk,.slice SB r.V.length SC,.int .i64 r.next,.int .i64 r.weights.pack,.int .i64 r.weights.af,.int .i64 r.weights.an]∧(∀y∈G3,y≠p9∧wr.heap.size≤y)∧am w' wr.heap.size r [.slice Nj r.aa.length Nk,.slice SB r.V.length SC,.int .i64 r.next,.int .i64 r.weights.pack,.int .i64 r.weights.af,.int .i64 r.weights.an] G3) ?_ ?_;rotate_left
    ·intro HK;have aK:Below wr.heap.size wr wr.drew:=aA (aj _);refine aX 0 _ O U' H' oX W' ?_;try simp only [Act.put,pz]
     refine aX 1 _ O U' H' oX W' ?_;try simp only [Act.put,pz]
     refine aX 2 _ O U' H' oX W' ?_;try simp only [Act.put,pz]
     refine aX 3 _ O U' H' oX W' ?_;try simp only [Act.put,pz]
     refine aX 4 _ O U' H' oX W' ?_;try simp only [Act.put,pz]
     refine D7 5 10 O O U' O O (fun K hK=>?_) (fun K hK=>?_)
     ·have KP:=KQ x _ _ l[k] _ (aZ h (ah b9 (aA (aj _)))) HW.out;rw [HR.out] at KP;dsimp only at KP;go_simp;refine KP.mono ?_;rintro e w5 ⟨ds,G3,rfl,hOr,bv⟩;have GC:=hOr.rd;obtain ⟨Nj,Nk,Nl,SB,SC,SE,aE,hGr,Np,SG,SH,xE,uw,xG⟩:=aO GC;subst aE;clear hGr GC;have N2:wr.heap.size≤_:=aK.size;replace aK:=ah aK bv;refine hK _ _ aK ?_;try simp only [Act.put,pz]
      clear hK K;replace hOr:=hOr.mono (B':=wr.heap.size) N2;refine aX 6 _ O U' H' oX W' ?_;try simp only [Act.put,pz]
      refine aX 7 _ O U' H' oX W' ?_;try simp only [Act.put,pz]
      refine aX 8 _ O U' H' oX W' ?_;try simp only [Act.put,pz]
      refine aX 9 _ O U' H' oX W' ?_;try simp only [Act.put,pz]
      refine bP 10 O U' O (fun K hK=>?_);go_simp;refine hK _ _ (ak aK _) ?_;try simp only [Act.put,pz]
      clear hK K;have my:wr.heap.size≤w5.heap.size:=aK.size;have HP:oG (w5.alloc (.cells ([.slice none 0 0,.slice none 0 0,.int .i64 0,.int .i64 0,.int .i64 0,.int .i64 0]:List Value).toArray 29)) w5.heap.size [.slice none 0 0,.slice none 0 0,.int .i64 0,.int .i64 0,.int .i64 0,.int .i64 0]:=oG.new w5 [.slice none 0 0,.slice none 0 0,.int .i64 0,.int .i64 0,.int .i64 0,.int .i64 0] 29;have lW:=aK;have N3:=hOr;have GD:∀y∈G3,y≠w5.heap.size:=fun y hy=>by have:=hOr.lt y hy;omega
      replace hOr:=hOr.alloc (.cells ([.slice none 0 0,.slice none 0 0,.int .i64 0,.int .i64 0,.int .i64 0,.int .i64 0]:List Value).toArray 29);replace aK:=ak aK (.cells ([.slice none 0 0,.slice none 0 0,.int .i64 0,.int .i64 0,.int .i64 0,.int .i64 0]:List Value).toArray 29);have kl:=HP.lt;have kf:=HP.fz;obtain ⟨k0,k1,k2,k3,k4,k5⟩:=dr HP;have Iz:∀y∈G3,y≠w5.heap.size:=GD;refine bP 11 O U' O (fun K hK=>?_);go_simp;refine hK _ _ LB ?_;try simp only [Act.put,pz]
      clear hK K;refine bP 12 O U' O (fun K hK=>?_);go_simp;refine hK _ _ LB ?_;try simp only [Act.put,pz]
      clear hK K;refine bP 13 O U' O (fun K hK=>?_);go_simp;refine hK _ _ LB ?_;try simp only [Act.put,pz]
      clear hK K;refine nR U' ?_;exact HK _ _ ⟨w5.heap.size,_,_,_,_,G3,_,_,_,_,_,_,_,_,_,_,uo,(ak lW _),my,(oG.new w5 [.slice Nj r.aa.length Nk,.slice SB r.V.length SC,.int .i64 r.next,.int .i64 r.weights.pack,.int .i64 r.weights.af,.int .i64 r.weights.an] 29),(fun y hy=>⟨Iz y hy,hOr.base y hy⟩),(N3.alloc _)⟩
     ·have N4:=KQ x _ _ l[k] _ (aZ h (ak (ah b9 (aA (aj _))) (.cells ([.slice none 0 0,.slice none 0 0,.int .i64 0,.int .i64 0,.int .i64 0,.int .i64 0]:List Value).toArray 29))) HW.out;rw [HR.out] at N4;dsimp only at N4;go_simp;refine hK _ _ (ak aK _) ?_;try simp only [Act.put,pz]
      clear hK K;have my:wr.heap.size≤wr.heap.size:=aK.size;have HP:oG (wr.drew.alloc (.cells ([.slice none 0 0,.slice none 0 0,.int .i64 0,.int .i64 0,.int .i64 0,.int .i64 0]:List Value).toArray 29)) wr.heap.size [.slice none 0 0,.slice none 0 0,.int .i64 0,.int .i64 0,.int .i64 0,.int .i64 0]:=oG.new wr.drew [.slice none 0 0,.slice none 0 0,.int .i64 0,.int .i64 0,.int .i64 0,.int .i64 0] 29;replace aK:=ak aK (.cells ([.slice none 0 0,.slice none 0 0,.int .i64 0,.int .i64 0,.int .i64 0,.int .i64 0]:List Value).toArray 29);refine bP 5 O U' O (fun K hK=>?_);have gp:=HP.lt;go_simp;refine N4.mono ?_;rintro e w5 ⟨ds,G3,rfl,hOr,bv⟩;replace HP:=HP.ext bv;have GC:=hOr.rd;obtain ⟨Nj,Nk,Nl,SB,SC,SE,aE,hGr,Np,SG,SH,xE,uw,xG⟩:=aO GC;subst aE;clear hGr GC;have N2:wr.heap.size≤_:=aK.size;replace aK:=ah aK bv;refine hK _ _ aK ?_;try simp only [Act.put,pz]
      clear hK K;have GD:∀y∈G3,y≠wr.heap.size:=fun y hy=>by have:=hOr.base y hy;(try simp at this);omega
      replace hOr:=hOr.mono (B':=wr.heap.size) N2;refine aX 6 _ O U' H' oX W' ?_;try simp only [Act.put,pz]
      refine aX 7 _ O U' H' oX W' ?_;try simp only [Act.put,pz]
      refine aX 8 _ O U' H' oX W' ?_;try simp only [Act.put,pz]
      refine aX 9 _ O U' H' oX W' ?_;try simp only [Act.put,pz]
      have kl:=HP.lt;have kf:=HP.fz;obtain ⟨k0,k1,k2,k3,k4,k5⟩:=dr HP;have Iz:∀y∈G3,y≠wr.heap.size:=GD;refine bP 11 O U' O (fun K hK=>?_);go_simp;refine hK _ _ LF ?_;try simp only [Act.put,pz]
      clear hK K;refine bP 12 O U' O (fun K hK=>?_);go_simp;refine hK _ _ LF ?_;try simp only [Act.put,pz]
      clear hK K;refine bP 13 O U' O (fun K hK=>?_);go_simp;refine hK _ _ LF ?_;try simp only [Act.put,pz]
      clear hK K;refine nR U' ?_;exact HK _ _ ⟨wr.heap.size,_,_,_,_,G3,_,_,_,_,_,_,_,_,_,_,uo,(aC (p:=⟨wr.heap.size,5,none⟩) (aC (p:=⟨wr.heap.size,4,none⟩) (aC (p:=⟨wr.heap.size,3,none⟩) (aC (p:=⟨wr.heap.size,2,none⟩) (aC (p:=⟨wr.heap.size,1,none⟩) (aC (p:=⟨wr.heap.size,0,none⟩) aK my (.slice Nj r.aa.length Nk)) my (.slice SB r.V.length SC)) my (.int .i64 r.next)) my (.int .i64 r.weights.pack)) my (.int .i64 r.weights.af)) my (.int .i64 r.weights.an)),my,((((((HP.put 0 (.slice Nj r.aa.length Nk)).put 1 (.slice SB r.V.length SC)).put 2 (.int .i64 r.next)).put 3 (.int .i64 r.weights.pack)).put 4 (.int .i64 r.weights.af)).put 5 (.int .i64 r.weights.an)),(fun y hy=>⟨Iz y hy,hOr.base y hy⟩),(Bj (c:=wr.heap.size) (i:=5) (u:=.int .i64 r.weights.an) (Bj (c:=wr.heap.size) (i:=4) (u:=.int .i64 r.weights.af) (Bj (c:=wr.heap.size) (i:=3) (u:=.int .i64 r.weights.pack) (Bj (c:=wr.heap.size) (i:=2) (u:=.int .i64 r.next) (Bj (c:=wr.heap.size) (i:=1) (u:=.slice SB r.V.length SC) (Bj (c:=wr.heap.size) (i:=0) (u:=.slice Nj r.aa.length Nk) hOr Iz) Iz) Iz) Iz) Iz) Iz)⟩
    rintro a' w9 ⟨p9,Nj,SB,Nk,SC,G3,da,db,dc,de,df,dg,dh,dv,ev,ew,ha,xB,hpb9,HP9,hGp9,SY⟩;subst ha;try simp only [Act.put,pz]
    clear t0 t1 t2 t3 t4 t5 tl;have TH:=ah b9 xB;have KW:=(KR.ext bL).ext xB;have q9:=r' xB q0 hbs;have N5:b < w9.heap.size:=(by have:=xB.size;omega);clear q0;by_cases hz:cd = 0
    ·subst hz
     have HF:=I (show BX x = (r,l[k],sh,0) by
      have h9:=aJi (x:=x) HC.out (k:=k) (by rw [HL.out];exact ax) (by simp only [HL.out];exact HB0.out) (by simp only [HL.out];unfold tS;rw [HR.out];rfl);simp only [HL.out,HR.out] at h9
      exact h9)
     have b4:b≠w.heap.size+1:=(by have:=bI.base b hbG;omega);have hpne:w.heap.size+1 < p9:=(by have:=KR.lt;have:=bL.size;omega);have vp:=HP9.ext (aA (aj _));have x0:(fun w'=>w'.cell? ⟨p9,0,none⟩ = some (.slice Nj r.aa.length Nk)∧w'.cell? ⟨p9,1,none⟩ = some (.slice SB r.V.length SC)∧w'.cell? ⟨p9,2,none⟩ = some (.int .i64 r.next)∧w'.cell? ⟨p9,3,none⟩ = some (.int .i64 r.weights.pack)∧w'.cell? ⟨p9,4,none⟩ = some (.int .i64 r.weights.af)∧w'.cell? ⟨p9,5,none⟩ = some (.int .i64 r.weights.an)∧w'.cell? ⟨b,o+k,none⟩ = some (.string l[k])) w9.drew:=⟨vp.cell (i:=0) (u:=.slice Nj r.aa.length Nk) rfl,vp.cell (i:=1) (u:=.slice SB r.V.length SC) rfl,vp.cell (i:=2) (u:=.int .i64 r.next) rfl,vp.cell (i:=3) (u:=.int .i64 r.weights.pack) rfl,vp.cell (i:=4) (u:=.int .i64 r.weights.af) rfl,vp.cell (i:=5) (u:=.int .i64 r.weights.an) rfl,(aA (aj _)).cell (p:=⟨b,o+k,none⟩) N5 |>.trans q9⟩;have po:=I ((show am w9 (w.heap.size+1+1) r [.slice Nj r.aa.length Nk,.slice SB r.V.length SC,.int .i64 r.next,.int .i64 r.weights.pack,.int .i64 r.weights.af,.int .i64 r.weights.an] G3 from SY.mono (by have:=KR.lt;have:=bL.size;omega)).ext (aA (aj _)));have o8:=I (aA TH);obtain ⟨r0,r1,r2,r3,r4,r5⟩:=dr (KW.ext (aA (aj _)));have rf:=(KW.ext (aA (aj _))).fz;have rl:=(KW.ext (aA (aj _))).lt;go_wp2_with fail
     refine azU (C:=(fun w'=>w'.cell? ⟨p9,0,none⟩ = some (.slice Nj r.aa.length Nk)∧w'.cell? ⟨p9,1,none⟩ = some (.slice SB r.V.length SC)∧w'.cell? ⟨p9,2,none⟩ = some (.int .i64 r.next)∧w'.cell? ⟨p9,3,none⟩ = some (.int .i64 r.weights.pack)∧w'.cell? ⟨p9,4,none⟩ = some (.int .i64 r.weights.af)∧w'.cell? ⟨p9,5,none⟩ = some (.int .i64 r.weights.an)∧w'.cell? ⟨b,o+k,none⟩ = some (.string l[k]))) 10 U' rfl x0 ?_;generalize w9.drew = wd at *
     refine aX 0 _ O U' H' x0 (Or.inl ⟨rfl,fun wq hq=>by
      obtain ⟨y0,y1,y2,y3,y4,y5,y6⟩:=hq;go_simp
      try rfl⟩) ?_
     try simp only [Act.put,pz]
     refine aX 1 _ O U' H' x0 (Or.inl ⟨rfl,fun wq hq=>by
      obtain ⟨y0,y1,y2,y3,y4,y5,y6⟩:=hq;go_simp
      try rfl⟩) ?_
     try simp only [Act.put,pz]
     refine aX 2 _ O U' H' x0 (Or.inl ⟨rfl,fun wq hq=>by
      obtain ⟨y0,y1,y2,y3,y4,y5,y6⟩:=hq;go_simp
      try rfl⟩) ?_
     try simp only [Act.put,pz]
     refine aX 3 _ O U' H' x0 (Or.inl ⟨rfl,fun wq hq=>by
      obtain ⟨y0,y1,y2,y3,y4,y5,y6⟩:=hq;go_simp
      try rfl⟩) ?_
     try simp only [Act.put,pz]
     refine aX 4 _ O U' H' x0 (Or.inl ⟨rfl,fun wq hq=>by
      obtain ⟨y0,y1,y2,y3,y4,y5,y6⟩:=hq;go_simp
      try rfl⟩) ?_
     try simp only [Act.put,pz]
     refine aX 5 _ O U' H' x0 (Or.inl ⟨rfl,fun wq hq=>by
      obtain ⟨y0,y1,y2,y3,y4,y5,y6⟩:=hq;go_simp
      try rfl⟩) ?_
     try simp only [Act.put,pz]
     refine bP 6 O U' O (fun K hK=>?_);go_simp;have zp:=((((((vp.bj (c:=w.heap.size+1) J 0 (.slice Nj r.aa.length Nk)).bj (c:=w.heap.size+1) J 1 (.slice SB r.V.length SC)).bj (c:=w.heap.size+1) J 2 (.int .i64 r.next)).bj (c:=w.heap.size+1) J 3 (.int .i64 r.weights.pack)).bj (c:=w.heap.size+1) J 4 (.int .i64 r.weights.af)).bj (c:=w.heap.size+1) J 5 (.int .i64 r.weights.an));have qs:=(World.cell?_of_block (a:=⟨b,o+k,none⟩) (by rw [Below.heap_setCell _ _ _ _ (by exact b4),Below.heap_setCell _ _ _ _ (by exact b4),Below.heap_setCell _ _ _ _ (by exact b4),Below.heap_setCell _ _ _ _ (by exact b4),Below.heap_setCell _ _ _ _ (by exact b4),Below.heap_setCell _ _ _ _ (by exact b4)]:((((((wd.setCell ⟨w.heap.size+1,0,none⟩ (.slice Nj r.aa.length Nk)).setCell ⟨w.heap.size+1,1,none⟩ (.slice SB r.V.length SC)).setCell ⟨w.heap.size+1,2,none⟩ (.int .i64 r.next)).setCell ⟨w.heap.size+1,3,none⟩ (.int .i64 r.weights.pack)).setCell ⟨w.heap.size+1,4,none⟩ (.int .i64 r.weights.af)).setCell ⟨w.heap.size+1,5,none⟩ (.int .i64 r.weights.an)).heap[b]? = wd.heap[b]?)).trans x0.2.2.2.2.2.2;have x1:=And.intro (zp.cell (i:=0) (u:=.slice Nj r.aa.length Nk) rfl) (And.intro (zp.cell (i:=1) (u:=.slice SB r.V.length SC) rfl) (And.intro (zp.cell (i:=2) (u:=.int .i64 r.next) rfl) (And.intro (zp.cell (i:=3) (u:=.int .i64 r.weights.pack) rfl) (And.intro (zp.cell (i:=4) (u:=.int .i64 r.weights.af) rfl) (And.intro (zp.cell (i:=5) (u:=.int .i64 r.weights.an) rfl) qs)))));refine hK _ _ x1 ?_;try simp only [Act.put,pz]
     clear hK K;refine bP 7 O U' O (fun K hK=>?_);go_simp;refine hK _ _ x1 ?_;try simp only [Act.put,pz]
     clear hK K;refine bP 8 O U' O (fun K hK=>?_);go_simp;refine hK _ _ x1 ?_;try simp only [Act.put,pz]
     clear hK K;refine bP 9 O U' O (fun K hK=>?_);go_simp;refine hK _ _ x1 ?_;try simp only [Act.put,pz]
     clear hK K;refine nR U' ?_;clear SY TH KW b9 bL xB HP9 q9 x0 x1 zp vp qs;go_wp2_with fail
     try dsimp only
     iterate 60 (first | go_step | skip)
     refine bodyPost_ret (v:=.tuple #[.agg #[.slice Nj r.aa.length Nk,.slice SB r.V.length SC,.int .i64 r.next,.int .i64 r.weights.pack,.int .i64 r.weights.af,.int .i64 r.weights.an],.string l[k],.string sh,.int .i64 0]) (by simp [results,Tryz.results108,go_sem, *]) rfl ?_;rw [HF.out]
     first
      | refine ⟨[.slice Nj r.aa.length Nk,.slice SB r.V.length SC,.int .i64 r.next,.int .i64 r.weights.pack,.int .i64 r.weights.af,.int .i64 r.weights.an],G3,rfl,?_,?_⟩
      | refine ⟨[.slice Nj r.aa.length Nk,.slice SB r.V.length SC,.int .i64 r.next,.int .i64 r.weights.pack,.int .i64 r.weights.af,.int .i64 r.weights.an],rfl,⟨G3,?_⟩,?_⟩
     ·try dsimp only
      refine am.mono (B:=w.heap.size+1+1) ?_ J;have hO:=po.out;exact PQ
     ·have hB:=o8.out;exact PR
    ·have HZ:=I hz;have ow:(cd == 0) = false:=(by simp [hz]);clear hz;go_wp2_with fail
     refine ⟨⟨k+1,J,N',I (fun j hj gl=>?_),ah bL xB⟩,by simp [intOf];omega⟩;rcases Nat.lt_or_ge j k with h9 | h9
     ·exact HB0.out j hj h9
     ·have:j = k:=J;subst this;unfold tS;rw [HR.out];simp [HZ.out]
   ·have bF:k = l.length:=J
    have HF:=I (show BX x = (x,⟨#[]⟩,⟨#[]⟩,6) by
     have h9:=S4 (x:=x) HC.out (by simp only [HL.out];intro j hj;exact HB0.out j hj J)
     rwa [HL.out,if_neg hl0] at h9)
    replace KT:=KT.ext bL;replace KR:=KR.ext bL;replace KO:=KO.ext bL;replace jX:=jX.ext bL;clear hB;have hB:=b9;clear b9 bF bI;obtain ⟨m0,m1,m2,m3,m4,m5⟩:=dr KO;have ml:=KO.lt;obtain ⟨r0,r1,r2,r3,r4,r5⟩:=dr (KR);have rf:=(KR).fz;have rl:=(KR).lt;have fL:=I jX;have sj:=I hB;clear KR KO KT jX hB;go_wp2_with fail
    try dsimp only
    iterate 60 (first | go_step | skip)
    refine bodyPost_ret (v:=.tuple #[.agg #[.slice dG x.aa.length bV,.slice dS x.V.length dJ,.int .i64 x.next,.int .i64 x.weights.pack,.int .i64 x.weights.af,.int .i64 x.weights.an],.string ⟨#[]⟩,.string ⟨#[]⟩,.int .i64 6]) (by simp [results,Tryz.results108,go_sem, *]) rfl ?_;exact xm
end Go.Proofs.YtajbbmembionpaaGreat
