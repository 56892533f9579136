/- PlaceNext of the reference. No condition. -/
import Derived.Test.YtkjeocdobidadaaGreatBest
import Derived.Test.YtkjeocdobidadaaGreatPlaceSp
import Derived.Test.YtkjeocdobidadaaGreatWaitS
import Derived.Test.YtkjeocdobidadaaGreatOrdP
import Derived.Test.YtkjeocdobidadaaGreatClusterS
import Derived.Test.YtkjeocdobidadaaGreatLabAt
import Derived.Test.YtkjeocdobidadaaGreatRegionCut
namespace Go.Proofs.YtkjeocdobidadaaGreat
open Go.ChangeShapes Go.WideShapes Go.ChangeAt Go.RowKit
set_option linter.unusedVariables false
set_option linter.unusedSimpArgs false
set_option maxHeartbeats 8000000
set_option maxRecDepth 100000
theorem PlaceNext_spec (x:aU) (cs:List Value) (F:List Nat) (w:World) (h:rd w x cs F) (hw:(x.wt:Int)≤1048576) :
 Calls Tryz.prog 54 #[.agg cs.toArray] w fun e w'=>∃ds G,e = .returned (.tuple #[.agg ds.toArray,.string (placeNextP x).2.1,.string (placeNextP x).2.2.1,.int .i64 (placeNextP x).2.2.2])∧Own w' w.heap.size (placeNextP x).1 ds G∧Below w.heap.size w w':=by
 have hpl:(x.au.length:Int)≤1048576:=by have h1:=gJ Placed.wt x.au;have h2:x.wt = kL Host.wt x.hosts+kL Placed.wt x.au:=rfl;omega
 have HW:=I' hw;have Ji:=I' hpl;clear hw;have hr:=h;obtain ⟨bG,bD,fQ,dn,bW,jg,hck,qp,bQ,dM,hnext,aV,aP,aW⟩:=aO hr;subst hck;clear qp hr;have KT:oG ((w.alloc (.cells ([.slice bG x.hosts.length bD,.slice dn x.au.length bW,.int .i64 x.next,.int .i64 x.weights.pack,.int .i64 x.weights.spread,.int .i64 x.weights.soft]:List Value).toArray 29)).alloc (.cells ([.slice none 0 0,.slice none 0 0,.int .i64 0,.int .i64 0,.int .i64 0,.int .i64 0]:List Value).toArray 29)) w.heap.size [.slice bG x.hosts.length bD,.slice dn x.au.length bW,.int .i64 x.next,.int .i64 x.weights.pack,.int .i64 x.weights.spread,.int .i64 x.weights.soft]:=(oG.new w [.slice bG x.hosts.length bD,.slice dn x.au.length bW,.int .i64 x.next,.int .i64 x.weights.pack,.int .i64 x.weights.spread,.int .i64 x.weights.soft] 29).ext (ak (aj _) _);have KR:oG ((w.alloc (.cells ([.slice bG x.hosts.length bD,.slice dn x.au.length bW,.int .i64 x.next,.int .i64 x.weights.pack,.int .i64 x.weights.spread,.int .i64 x.weights.soft]:List Value).toArray 29)).alloc (.cells ([.slice none 0 0,.slice none 0 0,.int .i64 0,.int .i64 0,.int .i64 0,.int .i64 0]:List Value).toArray 29)) (w.heap.size+1) [.slice none 0 0,.slice none 0 0,.int .i64 0,.int .i64 0,.int .i64 0,.int .i64 0]:=by have:=oG.new (w.alloc (.cells ([.slice bG x.hosts.length bD,.slice dn x.au.length bW,.int .i64 x.next,.int .i64 x.weights.pack,.int .i64 x.weights.spread,.int .i64 x.weights.soft]:List Value).toArray 29)) [.slice none 0 0,.slice none 0 0,.int .i64 0,.int .i64 0,.int .i64 0,.int .i64 0] 29;rw [World.size_alloc] at this;exact this
 have hB:Below w.heap.size w ((w.alloc (.cells ([.slice bG x.hosts.length bD,.slice dn x.au.length bW,.int .i64 x.next,.int .i64 x.weights.pack,.int .i64 x.weights.spread,.int .i64 x.weights.soft]:List Value).toArray 29)).alloc (.cells ([.slice none 0 0,.slice none 0 0,.int .i64 0,.int .i64 0,.int .i64 0,.int .i64 0]:List Value).toArray 29)):=ak (ak (aj _) _) _;go_enter Tryz.func54,Tryz.ntmps54;go_wp2_with fail
 refine (BO x _ _ _ (aZ h hB) HW.out).mono ?_;rintro e w1 ⟨cs1,G1,rfl,jX,hb1⟩;have hR1:=jX.rd;obtain ⟨dG,bV,xq,dS,dJ,Bz,hck,hG1,oO,tq,wI,iV,gI,iW⟩:=aO hR1;subst hck;clear hG1 hR1;replace KT:=KT.ext hb1;replace KR:=KR.ext hb1;replace hB:=ah hB hb1;have hz1:w.heap.size+1 < w1.heap.size:=KR.lt;have KO:oG (w1.alloc (.cells ([.slice dG x.hosts.length bV,.slice dS x.au.length dJ,.int .i64 x.next,.int .i64 x.weights.pack,.int .i64 x.weights.spread,.int .i64 x.weights.soft]:List Value).toArray 29)) w1.heap.size [.slice dG x.hosts.length bV,.slice dS x.au.length dJ,.int .i64 x.next,.int .i64 x.weights.pack,.int .i64 x.weights.spread,.int .i64 x.weights.soft]:=oG.new w1 [.slice dG x.hosts.length bV,.slice dS x.au.length dJ,.int .i64 x.next,.int .i64 x.weights.pack,.int .i64 x.weights.spread,.int .i64 x.weights.soft] 29;have hbo:Below w1.heap.size w1 (w1.alloc (.cells ([.slice dG x.hosts.length bV,.slice dS x.au.length dJ,.int .i64 x.next,.int .i64 x.weights.pack,.int .i64 x.weights.spread,.int .i64 x.weights.soft]:List Value).toArray 29)):=ak (aj _) _;replace KT:=KT.ext hbo;replace KR:=KR.ext hbo;replace hB:=ah hB hbo;replace jX:=(jX.mono (B':=w.heap.size+1+1) S').ext hbo;clear hb1;have t0:=(KT).cell (i:=0) (u:=.slice bG x.hosts.length bD) rfl;have t1:=(KT).cell (i:=1) (u:=.slice dn x.au.length bW) rfl;have t2:=(KT).cell (i:=2) (u:=.int .i64 x.next) rfl;have t3:=(KT).cell (i:=3) (u:=.int .i64 x.weights.pack) rfl;have t4:=(KT).cell (i:=4) (u:=.int .i64 x.weights.spread) rfl;have t5:=(KT).cell (i:=5) (u:=.int .i64 x.weights.soft) rfl;have tl:=(KT).lt;go_wp2_with fail
 clear t0 t1 t2 t3 t4 t5 tl;generalize (w1.alloc (.cells ([.slice dG x.hosts.length bV,.slice dS x.au.length dJ,.int .i64 x.next,.int .i64 x.weights.pack,.int .i64 x.weights.spread,.int .i64 x.weights.soft]:List Value).toArray 29)) = wo at *;have KK:=qM x _ _ _ (aZ h hB) HW.out;cases hc:iI x
 case' false =>
  rw [hc] at KK;have HF:=I' (placeNextP_bad hc);clear hc;refine KK.mono ?_;rintro e w3 ⟨rfl,hb3⟩;replace KT:=KT.ext hb3;replace KR:=KR.ext hb3;replace hB:=ah hB hb3;replace KO:=KO.ext hb3;replace jX:=jX.ext hb3;clear KK hb3;have m0:=KO.cell (i:=0) (u:=.slice dG x.hosts.length bV) rfl;have m1:=KO.cell (i:=1) (u:=.slice dS x.au.length dJ) rfl;have m2:=KO.cell (i:=2) (u:=.int .i64 x.next) rfl;have m3:=KO.cell (i:=3) (u:=.int .i64 x.weights.pack) rfl;have m4:=KO.cell (i:=4) (u:=.int .i64 x.weights.spread) rfl;have m5:=KO.cell (i:=5) (u:=.int .i64 x.weights.soft) rfl;have ml:=KO.lt;have r0:=(KR).cell (i:=0) (u:=.slice none 0 0) rfl;have r1:=(KR).cell (i:=1) (u:=.slice none 0 0) rfl;have r2:=(KR).cell (i:=2) (u:=.int .i64 0) rfl;have r3:=(KR).cell (i:=3) (u:=.int .i64 0) rfl;have r4:=(KR).cell (i:=4) (u:=.int .i64 0) rfl;have r5:=(KR).cell (i:=5) (u:=.int .i64 0) rfl;have rf:=(KR).fz;have rl:=(KR).lt;have HO1:=I' jX;have HB1:=I' hB;clear KR KO KT jX hB;go_wp2_with fail
  try dsimp only
  iterate 60 (first | go_step | skip)
  refine bodyPost_ret (v:=.tuple #[.agg #[.slice dG x.hosts.length bV,.slice dS x.au.length dJ,.int .i64 x.next,.int .i64 x.weights.pack,.int .i64 x.weights.spread,.int .i64 x.weights.soft],.string ⟨#[]⟩,.string ⟨#[]⟩,.int .i64 1]) (by simp [results,Tryz.results54,go_sem, *]) rfl ?_;exact Zabi
 rw [hc] at KK;have HC:=I' hc;clear hc;refine KK.mono ?_;rintro e w3 ⟨rfl,hb3⟩;replace KT:=KT.ext hb3;replace KR:=KR.ext hb3;replace hB:=ah hB hb3;replace KO:=KO.ext hb3;replace jX:=jX.ext hb3;have hz3:w.heap.size+1 < w3.heap.size:=KR.lt;clear KK hb3;have t0:=(KT).cell (i:=0) (u:=.slice bG x.hosts.length bD) rfl;have t1:=(KT).cell (i:=1) (u:=.slice dn x.au.length bW) rfl;have t2:=(KT).cell (i:=2) (u:=.int .i64 x.next) rfl;have t3:=(KT).cell (i:=3) (u:=.int .i64 x.weights.pack) rfl;have t4:=(KT).cell (i:=4) (u:=.int .i64 x.weights.spread) rfl;have t5:=(KT).cell (i:=5) (u:=.int .i64 x.weights.soft) rfl;have tl:=(KT).lt;go_wp2_with fail
 clear t0 t1 t2 t3 t4 t5 tl;refine (akH x _ _ _ (aZ h hB) Ji.out).mono ?_;rintro e w2 ⟨A2,c2,G2,rfl,hO2,hb2⟩;replace KT:=KT.ext hb2;replace KR:=KR.ext hb2;replace hB:=ah hB hb2;replace KO:=KO.ext hb2;replace jX:=jX.ext hb2;clear hb2;have hwl:((GI x.au).length:Int)≤1048576:=by have:=ap3 x.au;omega
 have HLL:=I' (show ∃l,GI x.au = l from ⟨_,rfl⟩);obtain ⟨l,hl⟩:=HLL.out;have HL:=I' hl;rw [hl] at hO2 hwl;rw [hl];clear hl HLL;by_cases hl0:l.length = 0
 ·have HF:=I' (show placeNextP x = (x,⟨#[]⟩,⟨#[]⟩,7) by rw [placeNextP_none HC.out (by rw [HL.out];intro j hj;omega),HL.out,if_pos hl0]);have m0:=KO.cell (i:=0) (u:=.slice dG x.hosts.length bV) rfl;have m1:=KO.cell (i:=1) (u:=.slice dS x.au.length dJ) rfl;have m2:=KO.cell (i:=2) (u:=.int .i64 x.next) rfl;have m3:=KO.cell (i:=3) (u:=.int .i64 x.weights.pack) rfl;have m4:=KO.cell (i:=4) (u:=.int .i64 x.weights.spread) rfl;have m5:=KO.cell (i:=5) (u:=.int .i64 x.weights.soft) rfl;have ml:=KO.lt;have r0:=(KR).cell (i:=0) (u:=.slice none 0 0) rfl;have r1:=(KR).cell (i:=1) (u:=.slice none 0 0) rfl;have r2:=(KR).cell (i:=2) (u:=.int .i64 0) rfl;have r3:=(KR).cell (i:=3) (u:=.int .i64 0) rfl;have r4:=(KR).cell (i:=4) (u:=.int .i64 0) rfl;have r5:=(KR).cell (i:=5) (u:=.int .i64 0) rfl;have rf:=(KR).fz;have rl:=(KR).lt;have HO1:=I' jX;have HB1:=I' hB;clear KR KO KT jX hB;go_wp2_with fail
  try dsimp only
  iterate 60 (first | go_step | skip)
  refine bodyPost_ret (v:=.tuple #[.agg #[.slice dG x.hosts.length bV,.slice dS x.au.length dJ,.int .i64 x.next,.int .i64 x.weights.pack,.int .i64 x.weights.spread,.int .i64 x.weights.soft],.string ⟨#[]⟩,.string ⟨#[]⟩,.int .i64 7]) (by simp [results,Tryz.results54,go_sem, *]) rfl ?_;exact Zabi
 ·have hl0b:((l.length:Int) == 0) = false:=by rw [beq_eq_false_iff_ne];omega
  go_wp2_with fail
  try simp only [hl0b]
  go_loopw [8] (fun j wr=>∃k:Nat,k≤l.length∧j = .int .i64 (k:Int)∧Hid (∀j (hj:j < l.length),j < k→okN x l[j] = false)∧Below w2.heap.size w2 wr) (fun j _=>l.length - (intOf j).toNat)
  case atStart=>exact ⟨0,Nat.zero_le _,rfl,I' (fun j _ hj=>by omega),aj _⟩
  case round =>
   obtain ⟨k,hk,rfl,HB0,hbr⟩:=hrel;have hBr:=ah hB hbr;by_cases hlt:k < l.length
   ·obtain ⟨b,o,ck,Fk,hA,hbG,hbs,hrdk,_,hcells⟩:=Sl.get (hO2.ext hbr).rd hlt;subst hA;obtain ⟨hck,su,hsz⟩:=hrdk;subst hck;have q0:wr.cell? ⟨b,o+k,none⟩ = some (.string l[k]):=(by have:=hcells 0 _ rfl;simpa [show Dat.size ByteArray = 1 from rfl] using this);clear hcells su;have t0:=(KT.ext hbr).cell (i:=0) (u:=.slice bG x.hosts.length bD) rfl;have t1:=(KT.ext hbr).cell (i:=1) (u:=.slice dn x.au.length bW) rfl;have t2:=(KT.ext hbr).cell (i:=2) (u:=.int .i64 x.next) rfl;have t3:=(KT.ext hbr).cell (i:=3) (u:=.int .i64 x.weights.pack) rfl;have t4:=(KT.ext hbr).cell (i:=4) (u:=.int .i64 x.weights.spread) rfl;have t5:=(KT.ext hbr).cell (i:=5) (u:=.int .i64 x.weights.soft) rfl;have tl:=(KT.ext hbr).lt;obtain ⟨r,sh,cd,hR⟩:∃r s c,placeP x l[k] = (r,s,c):=⟨_,_,_,rfl⟩;have KP:=PlacePod_spec x _ _ l[k] wr (aZ h hBr) HW.out;rw [hR] at KP;dsimp only at KP;have HR:=I' hR;clear hR;have HT:=I' (And.intro KP (And.intro hBr hbr));clear KP;go_wp2_with fail
    try simp only [hl0b]
    refine zU wr 14 U' U' (aj _) ?_;refine YU (fun a0 a' w'=>∃(p9:Nat) (Nj SB:Option Addr) (Nk SC:Nat) (G3:List Nat) (v0_ v1_ v2_ v3_ v4_ v5_ v6_ v7_ v8_ v9_:Value),a' = (Act.put (Act.put (Act.put (Act.put (Act.put (Act.put (Act.put (Act.put (Act.put (Act.put (Act.put (Act.put (Act.put a0 (some 31) (v0_)) (some 32) (v1_)) (some 33) (v2_)) (some 34) (v3_)) (some 35) (v4_)) (some 36) (v5_)) (some 30) (v6_)) (some 37) (v7_)) (some 38) (v8_)) (some 39) (v9_)) (some 9) (.pointer (some ⟨p9,0,none⟩))) (some 10) (.string sh)) (some 11) (.int .i64 cd))∧Below wr.heap.size wr w'∧wr.heap.size≤p9∧oG w' p9 [.slice Nj r.hosts.length Nk,.slice SB r.au.length SC,.int .i64 r.next,.int .i64 r.weights.pack,.int .i64 r.weights.spread,.int .i64 r.weights.soft]∧(∀y∈G3,y≠p9∧wr.heap.size≤y)∧Own w' wr.heap.size r [.slice Nj r.hosts.length Nk,.slice SB r.au.length SC,.int .i64 r.next,.int .i64 r.weights.pack,.int .i64 r.weights.spread,.int .i64 r.weights.soft] G3) ?_ ?_;rotate_left
    ·intro HK;have hbx:Below wr.heap.size wr wr.drew:=aA (aj _)
     refine aX 0 _ J' U' (fun _ _ d _ _ h=>by cases d <;> exact h) aud (Or.inl ⟨rfl,fun wq hq=>by
      have hcq:=(aB hq).1;go_simp
      try rfl⟩) ?_
     try simp only [Act.put,pz]
     refine aX 1 _ J' U' (fun _ _ d _ _ h=>by cases d <;> exact h) aud (Or.inl ⟨rfl,fun wq hq=>by
      have hcq:=(aB hq).1;go_simp
      try rfl⟩) ?_
     try simp only [Act.put,pz]
     refine aX 2 _ J' U' (fun _ _ d _ _ h=>by cases d <;> exact h) aud (Or.inl ⟨rfl,fun wq hq=>by
      have hcq:=(aB hq).1;go_simp
      try rfl⟩) ?_
     try simp only [Act.put,pz]
     refine aX 3 _ J' U' (fun _ _ d _ _ h=>by cases d <;> exact h) aud (Or.inl ⟨rfl,fun wq hq=>by
      have hcq:=(aB hq).1;go_simp
      try rfl⟩) ?_
     try simp only [Act.put,pz]
     refine aX 4 _ J' U' (fun _ _ d _ _ h=>by cases d <;> exact h) aud (Or.inl ⟨rfl,fun wq hq=>by
      have hcq:=(aB hq).1;go_simp
      try rfl⟩) ?_
     try simp only [Act.put,pz]
     refine D7 5 10 J' J' U' J' J' (fun K hK=>?_) (fun K hK=>?_)
     ·have KP:=PlacePod_spec x _ _ l[k] _ (aZ h (ah hBr (aA (aj _)))) HW.out;rw [HR.out] at KP;dsimp only at KP;go_simp;refine KP.mono ?_;rintro e w5 ⟨ds,G3,rfl,hOr,hb5⟩;have hRr:=hOr.rd;obtain ⟨Nj,Nk,Nl,SB,SC,SE,hck,hGr,Np,SG,SH,xE,uw,xG⟩:=aO hRr;subst hck;clear hGr hRr;have hwB:wr.heap.size≤_:=hbx.size;replace hbx:=ah hbx hb5;refine hK _ _ hbx ?_;try simp only [Act.put,pz]
      clear hK K;replace hOr:=hOr.mono (B':=wr.heap.size) hwB
      refine aX 6 _ J' U' (fun _ _ d _ _ h=>by cases d <;> exact h) aud (Or.inl ⟨rfl,fun wq hq=>by
       have hcq:=(aB hq).1;go_simp
       try rfl⟩) ?_
      try simp only [Act.put,pz]
      refine aX 7 _ J' U' (fun _ _ d _ _ h=>by cases d <;> exact h) aud (Or.inl ⟨rfl,fun wq hq=>by
       have hcq:=(aB hq).1;go_simp
       try rfl⟩) ?_
      try simp only [Act.put,pz]
      refine aX 8 _ J' U' (fun _ _ d _ _ h=>by cases d <;> exact h) aud (Or.inl ⟨rfl,fun wq hq=>by
       have hcq:=(aB hq).1;go_simp
       try rfl⟩) ?_
      try simp only [Act.put,pz]
      refine aX 9 _ J' U' (fun _ _ d _ _ h=>by cases d <;> exact h) aud (Or.inl ⟨rfl,fun wq hq=>by
       have hcq:=(aB hq).1;go_simp
       try rfl⟩) ?_
      try simp only [Act.put,pz]
      refine bP 10 J' U' J' (fun K hK=>?_);go_simp;refine hK _ _ (ak hbx _) ?_;try simp only [Act.put,pz]
      clear hK K;have hpb:wr.heap.size≤w5.heap.size:=hbx.size;have HP:oG (w5.alloc (.cells ([.slice none 0 0,.slice none 0 0,.int .i64 0,.int .i64 0,.int .i64 0,.int .i64 0]:List Value).toArray 29)) w5.heap.size [.slice none 0 0,.slice none 0 0,.int .i64 0,.int .i64 0,.int .i64 0,.int .i64 0]:=oG.new w5 [.slice none 0 0,.slice none 0 0,.int .i64 0,.int .i64 0,.int .i64 0,.int .i64 0] 29;have hbx0:=hbx;have hOr0:=hOr;have hGp:∀y∈G3,y≠w5.heap.size:=fun y hy=>by have:=hOr.lt y hy;omega
      replace hOr:=hOr.alloc (.cells ([.slice none 0 0,.slice none 0 0,.int .i64 0,.int .i64 0,.int .i64 0,.int .i64 0]:List Value).toArray 29);replace hbx:=ak hbx (.cells ([.slice none 0 0,.slice none 0 0,.int .i64 0,.int .i64 0,.int .i64 0,.int .i64 0]:List Value).toArray 29);have kl:=HP.lt;have kf:=HP.fz;have k0:=HP.cell (i:=0) (u:=.slice none 0 0) rfl;have k1:=HP.cell (i:=1) (u:=.slice none 0 0) rfl;have k2:=HP.cell (i:=2) (u:=.int .i64 0) rfl;have k3:=HP.cell (i:=3) (u:=.int .i64 0) rfl;have k4:=HP.cell (i:=4) (u:=.int .i64 0) rfl;have k5:=HP.cell (i:=5) (u:=.int .i64 0) rfl;have Iz:∀y∈G3,y≠w5.heap.size:=hGp;refine bP 11 J' U' J' (fun K hK=>?_);go_simp;refine hK _ _ avu ?_;try simp only [Act.put,pz]
      clear hK K;refine bP 12 J' U' J' (fun K hK=>?_);go_simp;refine hK _ _ avu ?_;try simp only [Act.put,pz]
      clear hK K;refine bP 13 J' U' J' (fun K hK=>?_);go_simp;refine hK _ _ avu ?_;try simp only [Act.put,pz]
      clear hK K;refine nR U' ?_;exact HK _ _ ⟨w5.heap.size,_,_,_,_,G3,_,_,_,_,_,_,_,_,_,_,aum,(ak hbx0 _),hpb,(oG.new w5 [.slice Nj r.hosts.length Nk,.slice SB r.au.length SC,.int .i64 r.next,.int .i64 r.weights.pack,.int .i64 r.weights.spread,.int .i64 r.weights.soft] 29),(fun y hy=>⟨Iz y hy,hOr.base y hy⟩),(hOr0.alloc _)⟩
     ·have KP2:=PlacePod_spec x _ _ l[k] _ (aZ h (ak (ah hBr (aA (aj _))) (.cells ([.slice none 0 0,.slice none 0 0,.int .i64 0,.int .i64 0,.int .i64 0,.int .i64 0]:List Value).toArray 29))) HW.out;rw [HR.out] at KP2;dsimp only at KP2;go_simp;refine hK _ _ (ak hbx _) ?_;try simp only [Act.put,pz]
      clear hK K;have hpb:wr.heap.size≤wr.heap.size:=hbx.size;have HP:oG (wr.drew.alloc (.cells ([.slice none 0 0,.slice none 0 0,.int .i64 0,.int .i64 0,.int .i64 0,.int .i64 0]:List Value).toArray 29)) wr.heap.size [.slice none 0 0,.slice none 0 0,.int .i64 0,.int .i64 0,.int .i64 0,.int .i64 0]:=oG.new wr.drew [.slice none 0 0,.slice none 0 0,.int .i64 0,.int .i64 0,.int .i64 0,.int .i64 0] 29;replace hbx:=ak hbx (.cells ([.slice none 0 0,.slice none 0 0,.int .i64 0,.int .i64 0,.int .i64 0,.int .i64 0]:List Value).toArray 29);refine bP 5 J' U' J' (fun K hK=>?_);have hpl:=HP.lt;go_simp;refine KP2.mono ?_;rintro e w5 ⟨ds,G3,rfl,hOr,hb5⟩;replace HP:=HP.ext hb5;have hRr:=hOr.rd;obtain ⟨Nj,Nk,Nl,SB,SC,SE,hck,hGr,Np,SG,SH,xE,uw,xG⟩:=aO hRr;subst hck;clear hGr hRr;have hwB:wr.heap.size≤_:=hbx.size;replace hbx:=ah hbx hb5;refine hK _ _ hbx ?_;try simp only [Act.put,pz]
      clear hK K;have hGp:∀y∈G3,y≠wr.heap.size:=fun y hy=>by have:=hOr.base y hy;(try simp at this);omega
      replace hOr:=hOr.mono (B':=wr.heap.size) hwB
      refine aX 6 _ J' U' (fun _ _ d _ _ h=>by cases d <;> exact h) aud (Or.inl ⟨rfl,fun wq hq=>by
       have hcq:=(aB hq).1;go_simp
       try rfl⟩) ?_
      try simp only [Act.put,pz]
      refine aX 7 _ J' U' (fun _ _ d _ _ h=>by cases d <;> exact h) aud (Or.inl ⟨rfl,fun wq hq=>by
       have hcq:=(aB hq).1;go_simp
       try rfl⟩) ?_
      try simp only [Act.put,pz]
      refine aX 8 _ J' U' (fun _ _ d _ _ h=>by cases d <;> exact h) aud (Or.inl ⟨rfl,fun wq hq=>by
       have hcq:=(aB hq).1;go_simp
       try rfl⟩) ?_
      try simp only [Act.put,pz]
      refine aX 9 _ J' U' (fun _ _ d _ _ h=>by cases d <;> exact h) aud (Or.inl ⟨rfl,fun wq hq=>by
       have hcq:=(aB hq).1;go_simp
       try rfl⟩) ?_
      try simp only [Act.put,pz]
      have kl:=HP.lt;have kf:=HP.fz;have k0:=HP.cell (i:=0) (u:=.slice none 0 0) rfl;have k1:=HP.cell (i:=1) (u:=.slice none 0 0) rfl;have k2:=HP.cell (i:=2) (u:=.int .i64 0) rfl;have k3:=HP.cell (i:=3) (u:=.int .i64 0) rfl;have k4:=HP.cell (i:=4) (u:=.int .i64 0) rfl;have k5:=HP.cell (i:=5) (u:=.int .i64 0) rfl;have Iz:∀y∈G3,y≠wr.heap.size:=hGp;refine bP 11 J' U' J' (fun K hK=>?_);go_simp;refine hK _ _ (by unfold Cls;with_reducible exact (aC (p:=⟨wr.heap.size,5,none⟩) (aC (p:=⟨wr.heap.size,4,none⟩) (aC (p:=⟨wr.heap.size,3,none⟩) (aC (p:=⟨wr.heap.size,2,none⟩) (aC (p:=⟨wr.heap.size,1,none⟩) (aC (p:=⟨wr.heap.size,0,none⟩) hbx hpb (.slice Nj r.hosts.length Nk)) hpb (.slice SB r.au.length SC)) hpb (.int .i64 r.next)) hpb (.int .i64 r.weights.pack)) hpb (.int .i64 r.weights.spread)) hpb (.int .i64 r.weights.soft))) ?_;try simp only [Act.put,pz]
      clear hK K;refine bP 12 J' U' J' (fun K hK=>?_);go_simp;refine hK _ _ (by unfold Cls;with_reducible exact (aC (p:=⟨wr.heap.size,5,none⟩) (aC (p:=⟨wr.heap.size,4,none⟩) (aC (p:=⟨wr.heap.size,3,none⟩) (aC (p:=⟨wr.heap.size,2,none⟩) (aC (p:=⟨wr.heap.size,1,none⟩) (aC (p:=⟨wr.heap.size,0,none⟩) hbx hpb (.slice Nj r.hosts.length Nk)) hpb (.slice SB r.au.length SC)) hpb (.int .i64 r.next)) hpb (.int .i64 r.weights.pack)) hpb (.int .i64 r.weights.spread)) hpb (.int .i64 r.weights.soft))) ?_;try simp only [Act.put,pz]
      clear hK K;refine bP 13 J' U' J' (fun K hK=>?_);go_simp;refine hK _ _ (by unfold Cls;with_reducible exact (aC (p:=⟨wr.heap.size,5,none⟩) (aC (p:=⟨wr.heap.size,4,none⟩) (aC (p:=⟨wr.heap.size,3,none⟩) (aC (p:=⟨wr.heap.size,2,none⟩) (aC (p:=⟨wr.heap.size,1,none⟩) (aC (p:=⟨wr.heap.size,0,none⟩) hbx hpb (.slice Nj r.hosts.length Nk)) hpb (.slice SB r.au.length SC)) hpb (.int .i64 r.next)) hpb (.int .i64 r.weights.pack)) hpb (.int .i64 r.weights.spread)) hpb (.int .i64 r.weights.soft))) ?_;try simp only [Act.put,pz]
      clear hK K;refine nR U' ?_;exact HK _ _ ⟨wr.heap.size,_,_,_,_,G3,_,_,_,_,_,_,_,_,_,_,aum,(aC (p:=⟨wr.heap.size,5,none⟩) (aC (p:=⟨wr.heap.size,4,none⟩) (aC (p:=⟨wr.heap.size,3,none⟩) (aC (p:=⟨wr.heap.size,2,none⟩) (aC (p:=⟨wr.heap.size,1,none⟩) (aC (p:=⟨wr.heap.size,0,none⟩) hbx hpb (.slice Nj r.hosts.length Nk)) hpb (.slice SB r.au.length SC)) hpb (.int .i64 r.next)) hpb (.int .i64 r.weights.pack)) hpb (.int .i64 r.weights.spread)) hpb (.int .i64 r.weights.soft)),hpb,((((((HP.put 0 (.slice Nj r.hosts.length Nk)).put 1 (.slice SB r.au.length SC)).put 2 (.int .i64 r.next)).put 3 (.int .i64 r.weights.pack)).put 4 (.int .i64 r.weights.spread)).put 5 (.int .i64 r.weights.soft)),(fun y hy=>⟨Iz y hy,hOr.base y hy⟩),(ownNeN (c:=wr.heap.size) (i:=5) (u:=.int .i64 r.weights.soft) (ownNeN (c:=wr.heap.size) (i:=4) (u:=.int .i64 r.weights.spread) (ownNeN (c:=wr.heap.size) (i:=3) (u:=.int .i64 r.weights.pack) (ownNeN (c:=wr.heap.size) (i:=2) (u:=.int .i64 r.next) (ownNeN (c:=wr.heap.size) (i:=1) (u:=.slice SB r.au.length SC) (ownNeN (c:=wr.heap.size) (i:=0) (u:=.slice Nj r.hosts.length Nk) hOr Iz) Iz) Iz) Iz) Iz) Iz)⟩
    rintro a' w9 ⟨p9,Nj,SB,Nk,SC,G3,v0_,v1_,v2_,v3_,v4_,v5_,v6_,v7_,v8_,v9_,ha,xB,hpb9,HP9,hGp9,SY⟩;subst ha;try simp only [Act.put,pz]
    clear t0 t1 t2 t3 t4 t5 tl;have hBn:=ah hBr xB;have KRr:=(KR.ext hbr).ext xB;have q9:=(xB.cell (p:=⟨b,o+k,none⟩) hbs).trans q0;have hbs9:b < w9.heap.size:=(by have:=xB.size;omega);clear q0;by_cases hz:cd = 0
    ·subst hz
     have HF:=I' (show placeNextP x = (r,l[k],sh,0) by
      have h9:=placeNextP_at (x:=x) HC.out (k:=k) (by rw [HL.out];exact hlt) (by simp only [HL.out];exact HB0.out) (by simp only [HL.out];unfold okN;rw [HR.out];rfl);simp only [HL.out,HR.out] at h9
      exact h9)
     have hne:b≠w.heap.size+1:=(by have:=hO2.base b hbG;omega);have hpne:w.heap.size+1 < p9:=(by have:=KR.lt;have:=hbr.size;omega);have HPd:=HP9.ext (aA (aj _));have x0:(fun w'=>w'.cell? ⟨p9,0,none⟩ = some (.slice Nj r.hosts.length Nk)∧w'.cell? ⟨p9,1,none⟩ = some (.slice SB r.au.length SC)∧w'.cell? ⟨p9,2,none⟩ = some (.int .i64 r.next)∧w'.cell? ⟨p9,3,none⟩ = some (.int .i64 r.weights.pack)∧w'.cell? ⟨p9,4,none⟩ = some (.int .i64 r.weights.spread)∧w'.cell? ⟨p9,5,none⟩ = some (.int .i64 r.weights.soft)∧w'.cell? ⟨b,o+k,none⟩ = some (.string l[k])) w9.drew:=⟨HPd.cell (i:=0) (u:=.slice Nj r.hosts.length Nk) rfl,HPd.cell (i:=1) (u:=.slice SB r.au.length SC) rfl,HPd.cell (i:=2) (u:=.int .i64 r.next) rfl,HPd.cell (i:=3) (u:=.int .i64 r.weights.pack) rfl,HPd.cell (i:=4) (u:=.int .i64 r.weights.spread) rfl,HPd.cell (i:=5) (u:=.int .i64 r.weights.soft) rfl,(aA (aj _)).cell (p:=⟨b,o+k,none⟩) hbs9 |>.trans q9⟩;have HO9:=I' ((show Own w9 (w.heap.size+1+1) r [.slice Nj r.hosts.length Nk,.slice SB r.au.length SC,.int .i64 r.next,.int .i64 r.weights.pack,.int .i64 r.weights.spread,.int .i64 r.weights.soft] G3 from SY.mono (by have:=KR.lt;have:=hbr.size;omega)).ext (aA (aj _)));have HBn:=I' (aA hBn);have r0:=(KRr.ext (aA (aj _))).cell (i:=0) (u:=.slice none 0 0) rfl;have r1:=(KRr.ext (aA (aj _))).cell (i:=1) (u:=.slice none 0 0) rfl;have r2:=(KRr.ext (aA (aj _))).cell (i:=2) (u:=.int .i64 0) rfl;have r3:=(KRr.ext (aA (aj _))).cell (i:=3) (u:=.int .i64 0) rfl;have r4:=(KRr.ext (aA (aj _))).cell (i:=4) (u:=.int .i64 0) rfl;have r5:=(KRr.ext (aA (aj _))).cell (i:=5) (u:=.int .i64 0) rfl;have rf:=(KRr.ext (aA (aj _))).fz;have rl:=(KRr.ext (aA (aj _))).lt;go_wp2_with fail
     refine wp_region_anyN (C:=(fun w'=>w'.cell? ⟨p9,0,none⟩ = some (.slice Nj r.hosts.length Nk)∧w'.cell? ⟨p9,1,none⟩ = some (.slice SB r.au.length SC)∧w'.cell? ⟨p9,2,none⟩ = some (.int .i64 r.next)∧w'.cell? ⟨p9,3,none⟩ = some (.int .i64 r.weights.pack)∧w'.cell? ⟨p9,4,none⟩ = some (.int .i64 r.weights.spread)∧w'.cell? ⟨p9,5,none⟩ = some (.int .i64 r.weights.soft)∧w'.cell? ⟨b,o+k,none⟩ = some (.string l[k]))) 10 U' rfl x0 ?_;generalize w9.drew = wd at *
     refine aX 0 _ J' U' (fun _ _ d _ _ h=>by cases d <;> exact h) x0 (Or.inl ⟨rfl,fun wq hq=>by
      obtain ⟨y0,y1,y2,y3,y4,y5,y6⟩:=hq;go_simp
      try rfl⟩) ?_
     try simp only [Act.put,pz]
     refine aX 1 _ J' U' (fun _ _ d _ _ h=>by cases d <;> exact h) x0 (Or.inl ⟨rfl,fun wq hq=>by
      obtain ⟨y0,y1,y2,y3,y4,y5,y6⟩:=hq;go_simp
      try rfl⟩) ?_
     try simp only [Act.put,pz]
     refine aX 2 _ J' U' (fun _ _ d _ _ h=>by cases d <;> exact h) x0 (Or.inl ⟨rfl,fun wq hq=>by
      obtain ⟨y0,y1,y2,y3,y4,y5,y6⟩:=hq;go_simp
      try rfl⟩) ?_
     try simp only [Act.put,pz]
     refine aX 3 _ J' U' (fun _ _ d _ _ h=>by cases d <;> exact h) x0 (Or.inl ⟨rfl,fun wq hq=>by
      obtain ⟨y0,y1,y2,y3,y4,y5,y6⟩:=hq;go_simp
      try rfl⟩) ?_
     try simp only [Act.put,pz]
     refine aX 4 _ J' U' (fun _ _ d _ _ h=>by cases d <;> exact h) x0 (Or.inl ⟨rfl,fun wq hq=>by
      obtain ⟨y0,y1,y2,y3,y4,y5,y6⟩:=hq;go_simp
      try rfl⟩) ?_
     try simp only [Act.put,pz]
     refine aX 5 _ J' U' (fun _ _ d _ _ h=>by cases d <;> exact h) x0 (Or.inl ⟨rfl,fun wq hq=>by
      obtain ⟨y0,y1,y2,y3,y4,y5,y6⟩:=hq;go_simp
      try rfl⟩) ?_
     try simp only [Act.put,pz]
     refine bP 6 J' U' J' (fun K hK=>?_);go_simp;have HPs:=((((((HPd.far (c:=w.heap.size+1) O' 0 (.slice Nj r.hosts.length Nk)).far (c:=w.heap.size+1) O' 1 (.slice SB r.au.length SC)).far (c:=w.heap.size+1) O' 2 (.int .i64 r.next)).far (c:=w.heap.size+1) O' 3 (.int .i64 r.weights.pack)).far (c:=w.heap.size+1) O' 4 (.int .i64 r.weights.spread)).far (c:=w.heap.size+1) O' 5 (.int .i64 r.weights.soft));have qs:=(World.cell?_of_block (a:=⟨b,o+k,none⟩) (by rw [Below.heap_setCell _ _ _ _ (by exact hne),Below.heap_setCell _ _ _ _ (by exact hne),Below.heap_setCell _ _ _ _ (by exact hne),Below.heap_setCell _ _ _ _ (by exact hne),Below.heap_setCell _ _ _ _ (by exact hne),Below.heap_setCell _ _ _ _ (by exact hne)]:((((((wd.setCell ⟨w.heap.size+1,0,none⟩ (.slice Nj r.hosts.length Nk)).setCell ⟨w.heap.size+1,1,none⟩ (.slice SB r.au.length SC)).setCell ⟨w.heap.size+1,2,none⟩ (.int .i64 r.next)).setCell ⟨w.heap.size+1,3,none⟩ (.int .i64 r.weights.pack)).setCell ⟨w.heap.size+1,4,none⟩ (.int .i64 r.weights.spread)).setCell ⟨w.heap.size+1,5,none⟩ (.int .i64 r.weights.soft)).heap[b]? = wd.heap[b]?)).trans x0.2.2.2.2.2.2;have x1:=And.intro (HPs.cell (i:=0) (u:=.slice Nj r.hosts.length Nk) rfl) (And.intro (HPs.cell (i:=1) (u:=.slice SB r.au.length SC) rfl) (And.intro (HPs.cell (i:=2) (u:=.int .i64 r.next) rfl) (And.intro (HPs.cell (i:=3) (u:=.int .i64 r.weights.pack) rfl) (And.intro (HPs.cell (i:=4) (u:=.int .i64 r.weights.spread) rfl) (And.intro (HPs.cell (i:=5) (u:=.int .i64 r.weights.soft) rfl) qs)))));refine hK _ _ x1 ?_;try simp only [Act.put,pz]
     clear hK K;refine bP 7 J' U' J' (fun K hK=>?_);go_simp;refine hK _ _ x1 ?_;try simp only [Act.put,pz]
     clear hK K;refine bP 8 J' U' J' (fun K hK=>?_);go_simp;refine hK _ _ x1 ?_;try simp only [Act.put,pz]
     clear hK K;refine bP 9 J' U' J' (fun K hK=>?_);go_simp;refine hK _ _ x1 ?_;try simp only [Act.put,pz]
     clear hK K;refine nR U' ?_;clear SY hBn KRr hBr hbr xB HP9 q9 x0 x1 HPs HPd qs;go_wp2_with fail
     try dsimp only
     iterate 60 (first | go_step | skip)
     refine bodyPost_ret (v:=.tuple #[.agg #[.slice Nj r.hosts.length Nk,.slice SB r.au.length SC,.int .i64 r.next,.int .i64 r.weights.pack,.int .i64 r.weights.spread,.int .i64 r.weights.soft],.string l[k],.string sh,.int .i64 0]) (by simp [results,Tryz.results54,go_sem, *]) rfl ?_;rw [HF.out]
     first
      | refine ⟨[.slice Nj r.hosts.length Nk,.slice SB r.au.length SC,.int .i64 r.next,.int .i64 r.weights.pack,.int .i64 r.weights.spread,.int .i64 r.weights.soft],G3,rfl,?_,?_⟩
      | refine ⟨[.slice Nj r.hosts.length Nk,.slice SB r.au.length SC,.int .i64 r.next,.int .i64 r.weights.pack,.int .i64 r.weights.spread,.int .i64 r.weights.soft],rfl,⟨G3,?_⟩,?_⟩
     ·try dsimp only
      refine Own.mono (B:=w.heap.size+1+1) ?_ O';have hO:=HO9.out;exact Zafv
     ·have hB:=HBn.out;exact (by repeat (first | with_reducible exact hB | with_reducible refine aC ?_ atX _ | with_reducible refine ak ?_ _))
    ·have HZ:=I' hz;have hzb:(cd == 0) = false:=(by simp [hz]);clear hz;go_wp2_with fail
     refine ⟨⟨k+1,O',N',I' (fun j hj hjk=>?_),ah hbr xB⟩,by simp [intOf];omega⟩;rcases Nat.lt_or_ge j k with h9 | h9
     ·exact HB0.out j hj h9
     ·have:j = k:=O';subst this;unfold okN;rw [HR.out];simp [HZ.out]
   ·have hkl:k = l.length:=O'
    have HF:=I' (show placeNextP x = (x,⟨#[]⟩,⟨#[]⟩,6) by
     have h9:=placeNextP_none (x:=x) HC.out (by simp only [HL.out];intro j hj;exact HB0.out j hj O')
     rwa [HL.out,if_neg hl0] at h9)
    replace KT:=KT.ext hbr;replace KR:=KR.ext hbr;replace KO:=KO.ext hbr;replace jX:=jX.ext hbr;clear hB;have hB:=hBr;clear hBr hkl hO2;have m0:=KO.cell (i:=0) (u:=.slice dG x.hosts.length bV) rfl;have m1:=KO.cell (i:=1) (u:=.slice dS x.au.length dJ) rfl;have m2:=KO.cell (i:=2) (u:=.int .i64 x.next) rfl;have m3:=KO.cell (i:=3) (u:=.int .i64 x.weights.pack) rfl;have m4:=KO.cell (i:=4) (u:=.int .i64 x.weights.spread) rfl;have m5:=KO.cell (i:=5) (u:=.int .i64 x.weights.soft) rfl;have ml:=KO.lt;have r0:=(KR).cell (i:=0) (u:=.slice none 0 0) rfl;have r1:=(KR).cell (i:=1) (u:=.slice none 0 0) rfl;have r2:=(KR).cell (i:=2) (u:=.int .i64 0) rfl;have r3:=(KR).cell (i:=3) (u:=.int .i64 0) rfl;have r4:=(KR).cell (i:=4) (u:=.int .i64 0) rfl;have r5:=(KR).cell (i:=5) (u:=.int .i64 0) rfl;have rf:=(KR).fz;have rl:=(KR).lt;have HO1:=I' jX;have HB1:=I' hB;clear KR KO KT jX hB;go_wp2_with fail
    try dsimp only
    iterate 60 (first | go_step | skip)
    refine bodyPost_ret (v:=.tuple #[.agg #[.slice dG x.hosts.length bV,.slice dS x.au.length dJ,.int .i64 x.next,.int .i64 x.weights.pack,.int .i64 x.weights.spread,.int .i64 x.weights.soft],.string ⟨#[]⟩,.string ⟨#[]⟩,.int .i64 6]) (by simp [results,Tryz.results54,go_sem, *]) rfl ?_;exact Zabi
end Go.Proofs.YtkjeocdobidadaaGreat
