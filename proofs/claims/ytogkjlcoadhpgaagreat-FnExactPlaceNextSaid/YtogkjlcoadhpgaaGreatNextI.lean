/- PlaceNext of the program. No condition. -/
import Derived.Test.YtogkjlcoadhpgaaGreatPlacePB
import Derived.Test.YtogkjlcoadhpgaaGreatWaitI
import Derived.Test.YtogkjlcoadhpgaaGreatCopyC
import Derived.Test.YtogkjlcoadhpgaaGreatClusterI
import Derived.Test.YtogkjlcoadhpgaaGreatShare
import Derived.Test.YtogkjlcoadhpgaaGreatRegionIx
namespace Go.Proofs.YtogkjlcoadhpgaaGreat
open Go.ChangeShapes Go.WideShapes Go.ChangeAt Go.RowKit
set_option linter.unusedVariables false
set_option linter.unusedSimpArgs false
set_option maxRecDepth 100000 in
set_option maxHeartbeats 8000000 in
theorem PlaceNext_impl (x:aU) (cs:List Value) (F:List Nat) (w:World) (h:rd w x cs F) (hw:(x.wt:Int)≤1048576) :
 Calls Tryz.prog 7 #[.agg cs.toArray] w fun e w'=>∃ds G,e = .returned (.tuple #[.agg ds.toArray,.string (placeNextP x).2.1,.string (placeNextP x).2.2.1,.int .i64 (placeNextP x).2.2.2])∧Own w' w.heap.size (placeNextP x).1 ds G∧Below w.heap.size w w':=by
 have hpl:(x.au.length:Int)≤1048576:=by have h1:=gJ Placed.wt x.au;have h2:x.wt = kL Host.wt x.hosts+kL Placed.wt x.au:=rfl;omega
 have HW:=Lib.hid hw
 have Ji:=Lib.hid hpl
 clear hw
 have hr:=h
 obtain ⟨bG,bD,fQ,dn,bW,jg,hck,qp,bQ,dM,hnext,aV,aP,aW⟩:=aO hr
 subst hck
 clear qp hr
 have KT:oG ((w.alloc (.cells ([.slice bG x.hosts.length bD,.slice dn x.au.length bW,.int .i64 x.next,.int .i64 x.weights.pack,.int .i64 x.weights.spread,.int .i64 x.weights.soft]:List Value).toArray 33)).alloc (.cells ([.slice none 0 0,.slice none 0 0,.int .i64 0,.int .i64 0,.int .i64 0,.int .i64 0]:List Value).toArray 33)) w.heap.size [.slice bG x.hosts.length bD,.slice dn x.au.length bW,.int .i64 x.next,.int .i64 x.weights.pack,.int .i64 x.weights.spread,.int .i64 x.weights.soft]:=(oG.new w [.slice bG x.hosts.length bD,.slice dn x.au.length bW,.int .i64 x.next,.int .i64 x.weights.pack,.int .i64 x.weights.spread,.int .i64 x.weights.soft] 33).ext (ak (aj _) _)
 have KR:oG ((w.alloc (.cells ([.slice bG x.hosts.length bD,.slice dn x.au.length bW,.int .i64 x.next,.int .i64 x.weights.pack,.int .i64 x.weights.spread,.int .i64 x.weights.soft]:List Value).toArray 33)).alloc (.cells ([.slice none 0 0,.slice none 0 0,.int .i64 0,.int .i64 0,.int .i64 0,.int .i64 0]:List Value).toArray 33)) (w.heap.size+1) [.slice none 0 0,.slice none 0 0,.int .i64 0,.int .i64 0,.int .i64 0,.int .i64 0]:=by have:=oG.new (w.alloc (.cells ([.slice bG x.hosts.length bD,.slice dn x.au.length bW,.int .i64 x.next,.int .i64 x.weights.pack,.int .i64 x.weights.spread,.int .i64 x.weights.soft]:List Value).toArray 33)) [.slice none 0 0,.slice none 0 0,.int .i64 0,.int .i64 0,.int .i64 0,.int .i64 0] 33;rw [World.size_alloc] at this;exact this
 have hB:Below w.heap.size w ((w.alloc (.cells ([.slice bG x.hosts.length bD,.slice dn x.au.length bW,.int .i64 x.next,.int .i64 x.weights.pack,.int .i64 x.weights.spread,.int .i64 x.weights.soft]:List Value).toArray 33)).alloc (.cells ([.slice none 0 0,.slice none 0 0,.int .i64 0,.int .i64 0,.int .i64 0,.int .i64 0]:List Value).toArray 33)):=ak (ak (aj _) _) _
 go_enter Tryz.func7,Tryz.ntmps7
 have t0:=(KT).cell (i:=0) (u:=.slice bG x.hosts.length bD) rfl
 have t1:=(KT).cell (i:=1) (u:=.slice dn x.au.length bW) rfl
 have t2:=(KT).cell (i:=2) (u:=.int .i64 x.next) rfl
 have t3:=(KT).cell (i:=3) (u:=.int .i64 x.weights.pack) rfl
 have t4:=(KT).cell (i:=4) (u:=.int .i64 x.weights.spread) rfl
 have t5:=(KT).cell (i:=5) (u:=.int .i64 x.weights.soft) rfl
 have tl:=(KT).lt
 go_wp2_with fail
 clear t0 t1 t2 t3 t4 t5 tl
 generalize ((w.alloc (.cells ([.slice bG x.hosts.length bD,.slice dn x.au.length bW,.int .i64 x.next,.int .i64 x.weights.pack,.int .i64 x.weights.spread,.int .i64 x.weights.soft]:List Value).toArray 33)).alloc (.cells ([.slice none 0 0,.slice none 0 0,.int .i64 0,.int .i64 0,.int .i64 0,.int .i64 0]:List Value).toArray 33)) = wo at *
 have KK:=qL x _ _ _ (aZ h hB) HW.out
 cases hc:iI x
 case' false =>
  rw [hc] at KK
  have HF:=Lib.hid (placeNextP_bad hc)
  clear hc
  refine KK.mono ?_
  rintro e w3 ⟨rfl,hb3⟩
  replace KT:=KT.ext hb3
  replace KR:=KR.ext hb3
  replace hB:=ah hB hb3
  clear KK hb3
  have t0:=(KT).cell (i:=0) (u:=.slice bG x.hosts.length bD) rfl
  have t1:=(KT).cell (i:=1) (u:=.slice dn x.au.length bW) rfl
  have t2:=(KT).cell (i:=2) (u:=.int .i64 x.next) rfl
  have t3:=(KT).cell (i:=3) (u:=.int .i64 x.weights.pack) rfl
  have t4:=(KT).cell (i:=4) (u:=.int .i64 x.weights.spread) rfl
  have t5:=(KT).cell (i:=5) (u:=.int .i64 x.weights.soft) rfl
  have tl:=(KT).lt
  go_wp2_with fail
  clear t0 t1 t2 t3 t4 t5 tl
  have hzk:=KR.lt
  refine (uo x _ _ _ (aZ h hB) HW.out).mono ?_
  rintro e w9 ⟨cs9,G9,rfl,SY,xB⟩
  have hR9:=SY.rd
  obtain ⟨Pe,Pg,Ph,Vo,Vp,Vq,hck,hG9,Pj,Vr,Vs,zF,wB,zG⟩:=aO hR9
  subst hck
  clear hG9 hR9
  replace KR:=KR.ext xB
  have HO9:=Lib.hid (SY.mono (B':=w.heap.size+1+1) (by omega))
  have QX:=Lib.hid (ah hB xB)
  have r0:=(KR).cell (i:=0) (u:=.slice none 0 0) rfl
  have r1:=(KR).cell (i:=1) (u:=.slice none 0 0) rfl
  have r2:=(KR).cell (i:=2) (u:=.int .i64 0) rfl
  have r3:=(KR).cell (i:=3) (u:=.int .i64 0) rfl
  have r4:=(KR).cell (i:=4) (u:=.int .i64 0) rfl
  have r5:=(KR).cell (i:=5) (u:=.int .i64 0) rfl
  have rf:=(KR).fz
  have rl:=(KR).lt
  clear KR SY xB hB
  go_wp2_with fail
  try dsimp only
  iterate 60 (first | go_step | skip)
  refine bodyPost_ret (v:=.tuple #[.agg #[.slice Pe x.hosts.length Pg,.slice Vo x.au.length Vp,.int .i64 x.next,.int .i64 x.weights.pack,.int .i64 x.weights.spread,.int .i64 x.weights.soft],.string ⟨#[]⟩,.string ⟨#[]⟩,.int .i64 1]) (by simp [results,Tryz.results7,go_sem, *]) rfl ?_
  exact Zaa6
 rw [hc] at KK
 have HC:=Lib.hid hc
 clear hc
 refine KK.mono ?_
 rintro e w3 ⟨rfl,hb3⟩
 replace KT:=KT.ext hb3
 replace KR:=KR.ext hb3
 replace hB:=ah hB hb3
 have hz3:w.heap.size+1 < w3.heap.size:=KR.lt
 clear KK hb3
 have t0:=(KT).cell (i:=0) (u:=.slice bG x.hosts.length bD) rfl
 have t1:=(KT).cell (i:=1) (u:=.slice dn x.au.length bW) rfl
 have t2:=(KT).cell (i:=2) (u:=.int .i64 x.next) rfl
 have t3:=(KT).cell (i:=3) (u:=.int .i64 x.weights.pack) rfl
 have t4:=(KT).cell (i:=4) (u:=.int .i64 x.weights.spread) rfl
 have t5:=(KT).cell (i:=5) (u:=.int .i64 x.weights.soft) rfl
 have tl:=(KT).lt
 go_wp2_with fail
 clear t0 t1 t2 t3 t4 t5 tl
 refine (abR x _ _ _ (aZ h hB) Ji.out).mono ?_
 rintro e w2 ⟨A2,c2,G2,rfl,hO2,hb2⟩
 replace KT:=KT.ext hb2
 replace KR:=KR.ext hb2
 replace hB:=ah hB hb2
 clear hb2
 have hwl:((GI x.au).length:Int)≤1048576:=by have:=ap3 x.au;omega
 have HLL:=Lib.hid (show ∃l,GI x.au = l from ⟨_,rfl⟩)
 obtain ⟨l,hl⟩:=HLL.out
 have HL:=Lib.hid hl
 rw [hl] at hO2 hwl
 rw [hl]
 clear hl HLL
 go_wp2_with fail
 go_loopw [21] (fun j wr=>∃k:Nat,k≤l.length∧j = .int .i64 (k:Int)∧Hid (∀j (hj:j < l.length),j < k→okN x l[j] = false)∧Below w2.heap.size w2 wr) (fun j _=>l.length - (intOf j).toNat)
 case atStart=>exact ⟨0,Nat.zero_le _,rfl,Lib.hid (fun j _ hj=>by omega),aj _⟩
 case round =>
  obtain ⟨k,hk,rfl,HB0,hbr⟩:=hrel
  have hBr:=ah hB hbr
  by_cases hlt:k < l.length
  ·obtain ⟨b,o,ck,Fk,hA,hbG,hbs,hrdk,_,hcells⟩:=Sl.get (hO2.ext hbr).rd hlt
   subst hA
   obtain ⟨hck,su,hsz⟩:=hrdk
   subst hck
   have q0:wr.cell? ⟨b,o+k,none⟩ = some (.string l[k]):=by have:=hcells 0 _ rfl;simpa [show Dat.size ByteArray = 1 from rfl] using this
   clear hcells su
   have t0:=(KT.ext hbr).cell (i:=0) (u:=.slice bG x.hosts.length bD) rfl
   have t1:=(KT.ext hbr).cell (i:=1) (u:=.slice dn x.au.length bW) rfl
   have t2:=(KT.ext hbr).cell (i:=2) (u:=.int .i64 x.next) rfl
   have t3:=(KT.ext hbr).cell (i:=3) (u:=.int .i64 x.weights.pack) rfl
   have t4:=(KT.ext hbr).cell (i:=4) (u:=.int .i64 x.weights.spread) rfl
   have t5:=(KT.ext hbr).cell (i:=5) (u:=.int .i64 x.weights.soft) rfl
   have tl:=(KT.ext hbr).lt
   obtain ⟨r,sh,cd,hR⟩:∃r s c,placeP x l[k] = (r,s,c):=⟨_,_,_,rfl⟩
   have KP:=PlacePod_impl x _ _ l[k] wr (aZ h hBr) HW.out
   rw [hR] at KP
   dsimp only at KP
   have HR:=Lib.hid hR
   clear hR
   go_wp2_with fail
   clear t0 t1 t2 t3 t4 t5 tl
   refine KP.mono ?_
   rintro e w5 ⟨ds,G3,rfl,hO3,hb5⟩
   have Xz:=hO3.rd
   obtain ⟨Nj,Nk,Nl,SB,SC,SE,hck,hG3,Np,SG,SH,xE,uw,xG⟩:=aO Xz
   subst hck
   clear hG3 Xz KP q0
   replace hBr:=ah hBr hb5
   have KRr:=(KR.ext hbr).ext hb5
   by_cases hz:cd = 0
   ·subst hz
    have HF:=Lib.hid (show placeNextP x = (r,l[k],sh,0) by
     have h9:=placeNextP_at (x:=x) HC.out (k:=k) (by rw [HL.out];exact hlt) (by simp only [HL.out];exact HB0.out) (by simp only [HL.out];unfold okN;rw [HR.out];rfl)
     simp only [HL.out,HR.out] at h9
     exact h9)
    have r0:=(KRr.ext (ak (aj w5) (.cells ([.slice Nj r.hosts.length Nk,.slice SB r.au.length SC,.int .i64 r.next,.int .i64 r.weights.pack,.int .i64 r.weights.spread,.int .i64 r.weights.soft]:List Value).toArray 33))).cell (i:=0) (u:=.slice none 0 0) rfl
    have r1:=(KRr.ext (ak (aj w5) (.cells ([.slice Nj r.hosts.length Nk,.slice SB r.au.length SC,.int .i64 r.next,.int .i64 r.weights.pack,.int .i64 r.weights.spread,.int .i64 r.weights.soft]:List Value).toArray 33))).cell (i:=1) (u:=.slice none 0 0) rfl
    have r2:=(KRr.ext (ak (aj w5) (.cells ([.slice Nj r.hosts.length Nk,.slice SB r.au.length SC,.int .i64 r.next,.int .i64 r.weights.pack,.int .i64 r.weights.spread,.int .i64 r.weights.soft]:List Value).toArray 33))).cell (i:=2) (u:=.int .i64 0) rfl
    have r3:=(KRr.ext (ak (aj w5) (.cells ([.slice Nj r.hosts.length Nk,.slice SB r.au.length SC,.int .i64 r.next,.int .i64 r.weights.pack,.int .i64 r.weights.spread,.int .i64 r.weights.soft]:List Value).toArray 33))).cell (i:=3) (u:=.int .i64 0) rfl
    have r4:=(KRr.ext (ak (aj w5) (.cells ([.slice Nj r.hosts.length Nk,.slice SB r.au.length SC,.int .i64 r.next,.int .i64 r.weights.pack,.int .i64 r.weights.spread,.int .i64 r.weights.soft]:List Value).toArray 33))).cell (i:=4) (u:=.int .i64 0) rfl
    have r5:=(KRr.ext (ak (aj w5) (.cells ([.slice Nj r.hosts.length Nk,.slice SB r.au.length SC,.int .i64 r.next,.int .i64 r.weights.pack,.int .i64 r.weights.spread,.int .i64 r.weights.soft]:List Value).toArray 33))).cell (i:=5) (u:=.int .i64 0) rfl
    have rf:=(KRr.ext (ak (aj w5) (.cells ([.slice Nj r.hosts.length Nk,.slice SB r.au.length SC,.int .i64 r.next,.int .i64 r.weights.pack,.int .i64 r.weights.spread,.int .i64 r.weights.soft]:List Value).toArray 33))).fz
    have rl:=(KRr.ext (ak (aj w5) (.cells ([.slice Nj r.hosts.length Nk,.slice SB r.au.length SC,.int .i64 r.next,.int .i64 r.weights.pack,.int .i64 r.weights.spread,.int .i64 r.weights.soft]:List Value).toArray 33))).lt
    have HO3:=Lib.hid (hO3.mono (B':=w.heap.size+1+1) (by have:=KR.lt;have:=hbr.size;omega))
    have HB3:=Lib.hid hBr
    clear hO3 hBr KRr hbr hb5
    go_wp2_with fail
    try dsimp only
    iterate 60 (first | go_step | skip)
    refine bodyPost_ret (v:=.tuple #[.agg #[.slice Nj r.hosts.length Nk,.slice SB r.au.length SC,.int .i64 r.next,.int .i64 r.weights.pack,.int .i64 r.weights.spread,.int .i64 r.weights.soft],.string l[k],.string sh,.int .i64 0]) (by simp [results,Tryz.results7,go_sem, *]) rfl ?_
    rw [HF.out]
    first
     | refine ⟨[.slice Nj r.hosts.length Nk,.slice SB r.au.length SC,.int .i64 r.next,.int .i64 r.weights.pack,.int .i64 r.weights.spread,.int .i64 r.weights.soft],G3,rfl,?_,?_⟩
     | refine ⟨[.slice Nj r.hosts.length Nk,.slice SB r.au.length SC,.int .i64 r.next,.int .i64 r.weights.pack,.int .i64 r.weights.spread,.int .i64 r.weights.soft],rfl,⟨G3,?_⟩,?_⟩
    ·try dsimp only
     refine Own.mono (B:=w.heap.size+1+1) ?_ (by omega)
     have hO:=HO3.out
     exact Zabm
    ·have hB:=HB3.out
     exact Zae2
   ·have HZ:=Lib.hid hz
    have hzb:(cd == 0) = false:=by simp [hz]
    clear hz
    go_wp2_with fail
    refine ⟨⟨k+1,by omega,by go_num,Lib.hid (fun j hj hjk=>?_),ak (ah hbr hb5) _⟩,by simp [intOf];omega⟩
    exact Zadw
  ·have hkl:k = l.length:=by omega
   have HK:=Lib.hid hkl
   have HN:=Lib.hid (show placeNextP x = (x,⟨#[]⟩,⟨#[]⟩,if l.length = 0 then 7 else 6) by
    have h9:=placeNextP_none (x:=x) HC.out (by simp only [HL.out];intro j hj;exact HB0.out j hj (by omega))
    rwa [HL.out] at h9)
   replace KT:=KT.ext hbr
   replace KR:=KR.ext hbr
   clear hB
   have hB:=hBr
   clear hBr hkl hO2
   by_cases hl0:l.length = 0
   ·have HF:=Lib.hid (HN.out.trans (by rw [if_pos hl0]))
    have t0:=(KT).cell (i:=0) (u:=.slice bG x.hosts.length bD) rfl
    have t1:=(KT).cell (i:=1) (u:=.slice dn x.au.length bW) rfl
    have t2:=(KT).cell (i:=2) (u:=.int .i64 x.next) rfl
    have t3:=(KT).cell (i:=3) (u:=.int .i64 x.weights.pack) rfl
    have t4:=(KT).cell (i:=4) (u:=.int .i64 x.weights.spread) rfl
    have t5:=(KT).cell (i:=5) (u:=.int .i64 x.weights.soft) rfl
    have tl:=(KT).lt
    go_wp2_with fail
    clear t0 t1 t2 t3 t4 t5 tl
    have hzk:=KR.lt
    refine (uo x _ _ _ (aZ h hB) HW.out).mono ?_
    rintro e w9 ⟨cs9,G9,rfl,SY,xB⟩
    have hR9:=SY.rd
    obtain ⟨Pe,Pg,Ph,Vo,Vp,Vq,hck,hG9,Pj,Vr,Vs,zF,wB,zG⟩:=aO hR9
    subst hck
    clear hG9 hR9
    replace KR:=KR.ext xB
    have HO9:=Lib.hid (SY.mono (B':=w.heap.size+1+1) (by omega))
    have QX:=Lib.hid (ah hB xB)
    have r0:=(KR).cell (i:=0) (u:=.slice none 0 0) rfl
    have r1:=(KR).cell (i:=1) (u:=.slice none 0 0) rfl
    have r2:=(KR).cell (i:=2) (u:=.int .i64 0) rfl
    have r3:=(KR).cell (i:=3) (u:=.int .i64 0) rfl
    have r4:=(KR).cell (i:=4) (u:=.int .i64 0) rfl
    have r5:=(KR).cell (i:=5) (u:=.int .i64 0) rfl
    have rf:=(KR).fz
    have rl:=(KR).lt
    clear KR SY xB hB
    go_wp2_with fail
    try dsimp only
    iterate 60 (first | go_step | skip)
    refine bodyPost_ret (v:=.tuple #[.agg #[.slice Pe x.hosts.length Pg,.slice Vo x.au.length Vp,.int .i64 x.next,.int .i64 x.weights.pack,.int .i64 x.weights.spread,.int .i64 x.weights.soft],.string ⟨#[]⟩,.string ⟨#[]⟩,.int .i64 7]) (by simp [results,Tryz.results7,go_sem, *]) rfl ?_
    exact Zaa6
   ·have HF:=Lib.hid (HN.out.trans (by rw [if_neg hl0]))
    have t0:=(KT).cell (i:=0) (u:=.slice bG x.hosts.length bD) rfl
    have t1:=(KT).cell (i:=1) (u:=.slice dn x.au.length bW) rfl
    have t2:=(KT).cell (i:=2) (u:=.int .i64 x.next) rfl
    have t3:=(KT).cell (i:=3) (u:=.int .i64 x.weights.pack) rfl
    have t4:=(KT).cell (i:=4) (u:=.int .i64 x.weights.spread) rfl
    have t5:=(KT).cell (i:=5) (u:=.int .i64 x.weights.soft) rfl
    have tl:=(KT).lt
    go_wp2_with fail
    clear t0 t1 t2 t3 t4 t5 tl
    have hzk:=KR.lt
    refine (uo x _ _ _ (aZ h hB) HW.out).mono ?_
    rintro e w9 ⟨cs9,G9,rfl,SY,xB⟩
    have hR9:=SY.rd
    obtain ⟨Pe,Pg,Ph,Vo,Vp,Vq,hck,hG9,Pj,Vr,Vs,zF,wB,zG⟩:=aO hR9
    subst hck
    clear hG9 hR9
    replace KR:=KR.ext xB
    have HO9:=Lib.hid (SY.mono (B':=w.heap.size+1+1) (by omega))
    have QX:=Lib.hid (ah hB xB)
    have r0:=(KR).cell (i:=0) (u:=.slice none 0 0) rfl
    have r1:=(KR).cell (i:=1) (u:=.slice none 0 0) rfl
    have r2:=(KR).cell (i:=2) (u:=.int .i64 0) rfl
    have r3:=(KR).cell (i:=3) (u:=.int .i64 0) rfl
    have r4:=(KR).cell (i:=4) (u:=.int .i64 0) rfl
    have r5:=(KR).cell (i:=5) (u:=.int .i64 0) rfl
    have rf:=(KR).fz
    have rl:=(KR).lt
    clear KR SY xB hB
    go_wp2_with fail
    try dsimp only
    iterate 60 (first | go_step | skip)
    refine bodyPost_ret (v:=.tuple #[.agg #[.slice Pe x.hosts.length Pg,.slice Vo x.au.length Vp,.int .i64 x.next,.int .i64 x.weights.pack,.int .i64 x.weights.spread,.int .i64 x.weights.soft],.string ⟨#[]⟩,.string ⟨#[]⟩,.int .i64 6]) (by simp [results,Tryz.results7,go_sem, *]) rfl ?_
    exact Zaa6
end Go.Proofs.YtogkjlcoadhpgaaGreat
