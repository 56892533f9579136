/- SubmitPod, of the program. No condition. -/
import Derived.Test.YtfdgeonannkmaaaGreatSortTolerancesI
import Derived.Test.YtfdgeonannkmaaaGreatInsOPlaced
import Derived.Test.YtfdgeonannkmaaaGreatPodNormI
import Derived.Test.YtfdgeonannkmaaaGreatClusterI
import Derived.Test.YtfdgeonannkmaaaGreatCopyC
namespace Go.Proofs.YtfdgeonannkmaaaGreat
open Go.ChangeShapes Go.WideShapes Go.ChangeAt Go.RowKit
set_option linter.unusedVariables false
set_option linter.unusedSimpArgs false
set_option maxRecDepth 100000 in
set_option maxHeartbeats 8000000 in
theorem SubmitPod_impl (x:aU) (cs:List Value) (F:List Nat) (u:nI) (us:List Value) (Fu:List Nat) (w:World) (h:rd w x cs F) (h':rd w u us Fu) (hw:(x.wt:Int)≤1048576) (hu:(u.wt:Int)≤1048576) :
 Calls Tryz.prog 10 #[.agg cs.toArray,.agg us.toArray] w fun e w'=>∃ds G,e = .returned (.tuple #[.agg ds.toArray,.int .i64 (addQ x u).2])∧Own w' w.heap.size (addQ x u).1 ds G∧Below w.heap.size w w':=by
 have hpl:(x.au.length:Int)≤1048576:=by have h1:=gJ Placed.wt x.au;have h2:x.wt = kL Host.wt x.hosts+kL Placed.wt x.au:=rfl;omega
 have HW:=Lib.hid hw
 have HU:=Lib.hid hu
 have Ji:=Lib.hid hpl
 clear hw hu
 have hr:=h
 obtain ⟨bG,bD,fQ,dn,bW,jg,hck,qp,bQ,dM,hnext,aV,aP,aW⟩:=aO hr
 subst hck
 clear qp hr
 have hr:=h'
 obtain ⟨ahE,ahF,Flabels0,alq,alr,Fneeds0,Wi,Wj,atG,hck,qp,hname0,hlabels0,hcpu0,hmem0,hrank0,hneeds0,atH⟩:=dL hr
 subst hck
 clear qp hr
 obtain ⟨n,bn,hn⟩:∃n b,podNormalR u = (n,b):=⟨_,_,rfl⟩
 go_enter Tryz.func10,Tryz.ntmps10
 cases hc:iI x
 ·have HF:=Lib.hid (show addQ x u = (x,1) by unfold addQ;rw [hc];simp)
  exact Zaa5
 cases bn
 ·have HF:=Lib.hid (show addQ x u = (x,1) by unfold addQ;rw [hc,hn];simp)
  exact Zaa5
 obtain ⟨r,hk0⟩:∃r,pK (CG n.name) x.au = r:=⟨_,rfl⟩
 by_cases hr0:0≤r
 ·have HF:=Lib.hid (show addQ x u = (x,2) by unfold addQ;rw [hc,hn,if_pos ⟨rfl,rfl⟩];simp only [hk0];rw [if_pos hr0])
  have HC:=Lib.hid hc
  have HN:=Lib.hid hn
  clear hc hn
  go_wp2_with fail
  refine (PodNormal_impl u _ _ _ (aZ h' atT) HU.out).mono ?_
  rw [HN.out]
  rintro e w1 ⟨cs1,G1,rfl,jX,hb1⟩
  obtain ⟨hc1,hf1⟩:=ay hb1
  have zO:w.heap.size < w1.heap.size:=sq hb1.size
  have CO:w.heap.size+1 < w1.heap.size:=sq hb1.size
  have air:w.heap.size+1+1 < w1.heap.size:=sq hb1.size
  have hR1:=jX.rd
  obtain ⟨dU,dV,Ba,mJ,mM,Vb,fK,fM,Fz,hck,hG1,hname1,jr,IQ,IU,Sj,Bv,qc⟩:=dL hR1
  subst hck
  clear hG1 hR1
  go_wp2_with fail
  refine (qL x _ _ _ (aZ h atT) HW.out).mono ?_
  rw [HC.out]
  rintro e w2 ⟨rfl,hb2⟩
  obtain ⟨hc2,hf2⟩:=ay hb2
  have al0:w.heap.size < w2.heap.size:=sq hb2.size
  have hz21:w.heap.size+1 < w2.heap.size:=sq hb2.size
  have hz22:w.heap.size+1+1 < w2.heap.size:=sq hb2.size
  have hz1b_2:w1.heap.size < w2.heap.size:=sq hb2.size
  have HI:=Lib.hid hk0
  clear hk0
  go_wp2_with fail
  refine (UZ x _ _ n.name _ (aZ h atT) Ji.out).mono ?_
  rw [HI.out]
  rintro e w3 ⟨rfl,hb3⟩
  obtain ⟨hc3,hf3⟩:=ay hb3
  have hz30:w.heap.size < w3.heap.size:=sq hb3.size
  have hz31:w.heap.size+1 < w3.heap.size:=sq hb3.size
  have hz32:w.heap.size+1+1 < w3.heap.size:=sq hb3.size
  have hz1b_3:w1.heap.size < w3.heap.size:=sq hb3.size
  go_wp2_with fail
  refine (uo x _ _ _ (aZ h atT) HW.out).mono ?_
  rintro e w4 ⟨cs9,G9,rfl,SY,hb4⟩
  obtain ⟨hc4,hf4⟩:=ay hb4
  have hz40:w.heap.size < w4.heap.size:=sq hb4.size
  have hz41:w.heap.size+1 < w4.heap.size:=sq hb4.size
  have hz42:w.heap.size+1+1 < w4.heap.size:=sq hb4.size
  have hR9:=SY.rd
  obtain ⟨Pe,Pg,Ph,Vo,Vp,Vq,hck,hG9,Pj,Vr,Vs,zF,wB,zG⟩:=aO hR9
  subst hck
  clear hG9 hR9
  have HO9:=Lib.hid (SY.mono (B':=w.heap.size+1+1+1) (by have:=hb3.size;(try simp at this ⊢);omega))
  clear SY
  go_wp2_with fail
  try dsimp only
  iterate 60 (first | go_step | skip)
  refine bodyPost_ret (v:=.tuple #[.agg #[.slice Pe x.hosts.length Pg,.slice Vo x.au.length Vp,.int .i64 x.next,.int .i64 x.weights.pack,.int .i64 x.weights.spread,.int .i64 x.weights.soft],.int .i64 2]) (by simp [results,Tryz.results10,go_sem, *]) rfl ?_
  exact Zaa7
 by_cases hl8:12≤x.au.length
 ·have HF:=Lib.hid (show addQ x u = (x,4) by unfold addQ;rw [hc,hn,if_pos ⟨rfl,rfl⟩];simp only [hk0];rw [if_neg hr0,if_pos (.inl hl8)])
  have HC:=Lib.hid hc
  have HN:=Lib.hid hn
  clear hc hn
  go_wp2_with fail
  refine (PodNormal_impl u _ _ _ (aZ h' atT) HU.out).mono ?_
  rw [HN.out]
  rintro e w1 ⟨cs1,G1,rfl,jX,hb1⟩
  obtain ⟨hc1,hf1⟩:=ay hb1
  have zO:w.heap.size < w1.heap.size:=sq hb1.size
  have CO:w.heap.size+1 < w1.heap.size:=sq hb1.size
  have air:w.heap.size+1+1 < w1.heap.size:=sq hb1.size
  have hR1:=jX.rd
  obtain ⟨dU,dV,Ba,mJ,mM,Vb,fK,fM,Fz,hck,hG1,hname1,jr,IQ,IU,Sj,Bv,qc⟩:=dL hR1
  subst hck
  clear hG1 hR1
  go_wp2_with fail
  refine (qL x _ _ _ (aZ h atT) HW.out).mono ?_
  rw [HC.out]
  rintro e w2 ⟨rfl,hb2⟩
  obtain ⟨hc2,hf2⟩:=ay hb2
  have al0:w.heap.size < w2.heap.size:=sq hb2.size
  have hz21:w.heap.size+1 < w2.heap.size:=sq hb2.size
  have hz22:w.heap.size+1+1 < w2.heap.size:=sq hb2.size
  have hz1b_2:w1.heap.size < w2.heap.size:=sq hb2.size
  have HI:=Lib.hid hk0
  clear hk0
  go_wp2_with fail
  refine (UZ x _ _ n.name _ (aZ h atT) Ji.out).mono ?_
  rw [HI.out]
  rintro e w3 ⟨rfl,hb3⟩
  obtain ⟨hc3,hf3⟩:=ay hb3
  have hz30:w.heap.size < w3.heap.size:=sq hb3.size
  have hz31:w.heap.size+1 < w3.heap.size:=sq hb3.size
  have hz32:w.heap.size+1+1 < w3.heap.size:=sq hb3.size
  have hz1b_3:w1.heap.size < w3.heap.size:=sq hb3.size
  go_wp2_with fail
  exact Zadw
 obtain ⟨hn1,hn2⟩:=clusterR_next hc
 by_cases hl9:1000000000≤x.next
 ·have HNE:=Lib.hid (show x.next = 1000000000 by omega)
  have HF:=Lib.hid (show addQ x u = (x,4) by unfold addQ;rw [hc,hn,if_pos ⟨rfl,rfl⟩];simp only [hk0];rw [if_neg hr0,if_pos (.inr hl9)])
  have HC:=Lib.hid hc
  have HN:=Lib.hid hn
  clear hc hn
  go_wp2_with fail
  refine (PodNormal_impl u _ _ _ (aZ h' atT) HU.out).mono ?_
  rw [HN.out]
  rintro e w1 ⟨cs1,G1,rfl,jX,hb1⟩
  obtain ⟨hc1,hf1⟩:=ay hb1
  have zO:w.heap.size < w1.heap.size:=sq hb1.size
  have CO:w.heap.size+1 < w1.heap.size:=sq hb1.size
  have air:w.heap.size+1+1 < w1.heap.size:=sq hb1.size
  have hR1:=jX.rd
  obtain ⟨dU,dV,Ba,mJ,mM,Vb,fK,fM,Fz,hck,hG1,hname1,jr,IQ,IU,Sj,Bv,qc⟩:=dL hR1
  subst hck
  clear hG1 hR1
  go_wp2_with fail
  refine (qL x _ _ _ (aZ h atT) HW.out).mono ?_
  rw [HC.out]
  rintro e w2 ⟨rfl,hb2⟩
  obtain ⟨hc2,hf2⟩:=ay hb2
  have al0:w.heap.size < w2.heap.size:=sq hb2.size
  have hz21:w.heap.size+1 < w2.heap.size:=sq hb2.size
  have hz22:w.heap.size+1+1 < w2.heap.size:=sq hb2.size
  have hz1b_2:w1.heap.size < w2.heap.size:=sq hb2.size
  have HI:=Lib.hid hk0
  clear hk0
  obtain ⟨b9,xB⟩:∃b,(x.next == 1000000000) = b:=⟨_,rfl⟩
  have QX:=Lib.hid (show b9 = true from by rw [← xB];simp [HNE.out])
  go_wp2_with fail
  refine (UZ x _ _ n.name _ (aZ h atT) Ji.out).mono ?_
  rw [HI.out]
  rintro e w3 ⟨rfl,hb3⟩
  obtain ⟨hc3,hf3⟩:=ay hb3
  have hz30:w.heap.size < w3.heap.size:=sq hb3.size
  have hz31:w.heap.size+1 < w3.heap.size:=sq hb3.size
  have hz32:w.heap.size+1+1 < w3.heap.size:=sq hb3.size
  have hz1b_3:w1.heap.size < w3.heap.size:=sq hb3.size
  go_wp2_with fail
  rotate_left
  ·(have h9:=(‹(x.au.length:Int) < 12∧b9 = false› : _).2;rw [QX.out] at h9;cases h9)
  exact Zadw
 ·have hne:¬x.next = 1000000000:=by omega
  have HF:=Lib.hid (show addQ x u = (⟨x.hosts,insAt (insPx n.name x.au) (newP x n) x.au,x.next+1,x.weights⟩,0) by unfold addQ;rw [hc,hn,if_pos ⟨rfl,rfl⟩];simp only [hk0];rw [if_neg hr0,if_neg (by omega)])
  have HC:=Lib.hid hc
  have HN:=Lib.hid hn
  clear hc hn
  go_wp2_with fail
  refine (PodNormal_impl u _ _ _ (aZ h' atT) HU.out).mono ?_
  rw [HN.out]
  rintro e w1 ⟨cs1,G1,rfl,jX,hb1⟩
  obtain ⟨hc1,hf1⟩:=ay hb1
  have zO:w.heap.size < w1.heap.size:=sq hb1.size
  have CO:w.heap.size+1 < w1.heap.size:=sq hb1.size
  have air:w.heap.size+1+1 < w1.heap.size:=sq hb1.size
  have hR1:=jX.rd
  obtain ⟨dU,dV,Ba,mJ,mM,Vb,fK,fM,Fz,hck,hG1,hname1,jr,IQ,IU,Sj,Bv,qc⟩:=dL hR1
  subst hck
  clear hG1 hR1
  go_wp2_with fail
  refine (qL x _ _ _ (aZ h atT) HW.out).mono ?_
  rw [HC.out]
  rintro e w2 ⟨rfl,hb2⟩
  obtain ⟨hc2,hf2⟩:=ay hb2
  have al0:w.heap.size < w2.heap.size:=sq hb2.size
  have hz21:w.heap.size+1 < w2.heap.size:=sq hb2.size
  have hz22:w.heap.size+1+1 < w2.heap.size:=sq hb2.size
  have hz1b_2:w1.heap.size < w2.heap.size:=sq hb2.size
  have HI:=Lib.hid hk0
  clear hk0
  have hnq:(x.next == 1000000000) = false:=by simp [hne]
  have hnr:decide (x.next = 1000000000) = false:=by simp [hne]
  go_wp2_with fail
  refine (UZ x _ _ n.name _ (aZ h atT) Ji.out).mono ?_
  rw [HI.out]
  rintro e w3 ⟨rfl,hb3⟩
  obtain ⟨hc3,hf3⟩:=ay hb3
  have hz30:w.heap.size < w3.heap.size:=sq hb3.size
  have hz31:w.heap.size+1 < w3.heap.size:=sq hb3.size
  have hz32:w.heap.size+1+1 < w3.heap.size:=sq hb3.size
  have hz1b_3:w1.heap.size < w3.heap.size:=sq hb3.size
  go_wp2_with fail
  refine (copyCluster_room x _ _ _ (aZ h atT) HW.out).mono ?_
  rintro e w4 ⟨cs9,G9,rfl,SY,hb4,hRM⟩
  obtain ⟨hc4,hf4⟩:=ay hb4
  have hz40:w.heap.size < w4.heap.size:=sq hb4.size
  have hz41:w.heap.size+1 < w4.heap.size:=sq hb4.size
  have hz42:w.heap.size+1+1 < w4.heap.size:=sq hb4.size
  have hz1b_4:w1.heap.size < w4.heap.size:=sq hb4.size
  have hR9:=SY.rd
  obtain ⟨Pe,Pg,Ph,Vo,Vp,Vq,hck,hG9,Pj,Vr,Vs,zF,wB,zG⟩:=aO hR9
  subst hck
  clear hG9 hR9
  obtain ⟨Gh,Gp,Xp,OL,hdis,hsh,hsp⟩:=SY.partsA
  obtain ⟨Ah',ch',Ap',cp',Gh',Gp',rest',he,hrh,QS⟩:=hRM
  obtain ⟨rfl,rfl⟩:Vo = Ap'∧Vp = cp':=by
   have h9:=(List.cons.inj (List.cons.inj he).2).1
   simp only [Value.slice.injEq,true_and] at h9
   exact h9
  clear he
  have hw4:w4.heap.size = w4.heap.size:=rfl
  have hz31:w1.heap.size < w3.heap.size:=hz1b_3
  have HGH:=Lib.hid (show ∀y∈Gh,w3.heap.size≤y∧y < w4.heap.size from fun y hy=>⟨Xp.base y hy,Xp.lt y hy⟩)
  have HGP:=Lib.hid (show ∀y∈Gp,w3.heap.size≤y∧y < w4.heap.size from fun y hy=>⟨OL.base y hy,OL.lt y hy⟩)
  have HG1:=Lib.hid (show ∀y∈G1,w.heap.size+1+1 < y∧y < w1.heap.size from fun y hy=>⟨by have:=jX.base y hy;(try simp at this);omega,jX.lt y hy⟩)
  have HDP:=Lib.hid hdis
  have HD1:=Lib.hid (show ∀y∈Gp,y∉G1 from fun y hy hy'=>by have:=HGP.out y hy;have:=HG1.out y hy';omega)
  have KB:oG (w4.alloc (.cells ([.slice Pe x.hosts.length Pg,.slice Vo x.au.length Vp,.int .i64 x.next,.int .i64 x.weights.pack,.int .i64 x.weights.spread,.int .i64 x.weights.soft]:List Value).toArray 39)) w4.heap.size [.slice Pe x.hosts.length Pg,.slice Vo x.au.length Vp,.int .i64 x.next,.int .i64 x.weights.pack,.int .i64 x.weights.spread,.int .i64 x.weights.soft]:=oG.new w4 [.slice Pe x.hosts.length Pg,.slice Vo x.au.length Vp,.int .i64 x.next,.int .i64 x.weights.pack,.int .i64 x.weights.spread,.int .i64 x.weights.soft] 39
  have KN:oG (w4.alloc (.cells ([.slice Pe x.hosts.length Pg,.slice Vo x.au.length Vp,.int .i64 x.next,.int .i64 x.weights.pack,.int .i64 x.weights.spread,.int .i64 x.weights.soft]:List Value).toArray 39)) w1.heap.size [.string n.name,.slice dU n.labels.length dV,.int .i64 n.cpu,.int .i64 n.mem,.int .i64 n.rank,.slice mJ n.needs.length mM,.slice fK n.tolerances.length fM]:=((((oG.new w1 [.string n.name,.slice dU n.labels.length dV,.int .i64 n.cpu,.int .i64 n.mem,.int .i64 n.rank,.slice mJ n.needs.length mM,.slice fK n.tolerances.length fM] 47).ext hb2).ext hb3).ext hb4).ext (ak (aj _) _)
  have KR0:oG (((w.alloc (.cells ([.slice bG x.hosts.length bD,.slice dn x.au.length bW,.int .i64 x.next,.int .i64 x.weights.pack,.int .i64 x.weights.spread,.int .i64 x.weights.soft]:List Value).toArray 39)).alloc (.cells ([.string u.name,.slice ahE u.labels.length ahF,.int .i64 u.cpu,.int .i64 u.mem,.int .i64 u.rank,.slice alq u.needs.length alr,.slice Wi u.tolerances.length Wj]:List Value).toArray 47)).alloc (.cells ([.slice none 0 0,.slice none 0 0,.int .i64 0,.int .i64 0,.int .i64 0,.int .i64 0]:List Value).toArray 39)) (w.heap.size+1+1) [.slice none 0 0,.slice none 0 0,.int .i64 0,.int .i64 0,.int .i64 0,.int .i64 0]:=by have:=oG.new ((w.alloc (.cells ([.slice bG x.hosts.length bD,.slice dn x.au.length bW,.int .i64 x.next,.int .i64 x.weights.pack,.int .i64 x.weights.spread,.int .i64 x.weights.soft]:List Value).toArray 39)).alloc (.cells ([.string u.name,.slice ahE u.labels.length ahF,.int .i64 u.cpu,.int .i64 u.mem,.int .i64 u.rank,.slice alq u.needs.length alr,.slice Wi u.tolerances.length Wj]:List Value).toArray 47)) [.slice none 0 0,.slice none 0 0,.int .i64 0,.int .i64 0,.int .i64 0,.int .i64 0] 39;rw [World.size_alloc,World.size_alloc] at this;exact this
  have KR:oG (w4.alloc (.cells ([.slice Pe x.hosts.length Pg,.slice Vo x.au.length Vp,.int .i64 x.next,.int .i64 x.weights.pack,.int .i64 x.weights.spread,.int .i64 x.weights.soft]:List Value).toArray 39)) (w.heap.size+1+1) [.slice none 0 0,.slice none 0 0,.int .i64 0,.int .i64 0,.int .i64 0,.int .i64 0]:=(((((KR0.ext hb1).ext (ak (aj _) _)).ext hb2).ext hb3).ext hb4).ext (ak (aj _) _)
  have KC0:oG (w.alloc (.cells ([.slice bG x.hosts.length bD,.slice dn x.au.length bW,.int .i64 x.next,.int .i64 x.weights.pack,.int .i64 x.weights.spread,.int .i64 x.weights.soft]:List Value).toArray 39)) w.heap.size [.slice bG x.hosts.length bD,.slice dn x.au.length bW,.int .i64 x.next,.int .i64 x.weights.pack,.int .i64 x.weights.spread,.int .i64 x.weights.soft]:=oG.new w [.slice bG x.hosts.length bD,.slice dn x.au.length bW,.int .i64 x.next,.int .i64 x.weights.pack,.int .i64 x.weights.spread,.int .i64 x.weights.soft] 39
  have KC:oG (w4.alloc (.cells ([.slice Pe x.hosts.length Pg,.slice Vo x.au.length Vp,.int .i64 x.next,.int .i64 x.weights.pack,.int .i64 x.weights.spread,.int .i64 x.weights.soft]:List Value).toArray 39)) w.heap.size [.slice bG x.hosts.length bD,.slice dn x.au.length bW,.int .i64 x.next,.int .i64 x.weights.pack,.int .i64 x.weights.spread,.int .i64 x.weights.soft]:=(((((((KC0.ext (ak (aj _) _)).ext (ak (aj _) _)).ext hb1).ext (ak (aj _) _)).ext hb2).ext hb3).ext hb4).ext (ak (aj _) _)
  replace jX:Own (w4.alloc (.cells ([.slice Pe x.hosts.length Pg,.slice Vo x.au.length Vp,.int .i64 x.next,.int .i64 x.weights.pack,.int .i64 x.weights.spread,.int .i64 x.weights.soft]:List Value).toArray 39)) (w.heap.size+1+1+1) n [.string n.name,.slice dU n.labels.length dV,.int .i64 n.cpu,.int .i64 n.mem,.int .i64 n.rank,.slice mJ n.needs.length mM,.slice fK n.tolerances.length fM] G1:=(((((jX.mono (by simp)).alloc _).ext hb2).ext hb3).ext hb4).alloc _
  have hOr:Own (w4.alloc (.cells ([.slice Pe x.hosts.length Pg,.slice Vo x.au.length Vp,.int .i64 x.next,.int .i64 x.weights.pack,.int .i64 x.weights.spread,.int .i64 x.weights.soft]:List Value).toArray 39)) (w.heap.size+1+1+1) (Roomy.mk x.au 82) [.slice Vo x.au.length Vp] Gp:=((OL.room QS).mono (by omega)).alloc _
  replace Xp:Own (w4.alloc (.cells ([.slice Pe x.hosts.length Pg,.slice Vo x.au.length Vp,.int .i64 x.next,.int .i64 x.weights.pack,.int .i64 x.weights.spread,.int .i64 x.weights.soft]:List Value).toArray 39)) (w.heap.size+1+1+1) x.hosts [.slice Pe x.hosts.length Pg] Gh:=(Xp.mono (by omega)).alloc _
  have hBW:Below w.heap.size w (w4.alloc (.cells ([.slice Pe x.hosts.length Pg,.slice Vo x.au.length Vp,.int .i64 x.next,.int .i64 x.weights.pack,.int .i64 x.weights.spread,.int .i64 x.weights.soft]:List Value).toArray 39)):=atT
  clear SY OL hrh QS hsh hsp hdis KR0 KC0 hc1 hc2 hc3 hc4 hf1 hf2 hf3 hf4 h h'
  go_wp2_with fail
  generalize (w4.alloc (.cells ([.slice Pe x.hosts.length Pg,.slice Vo x.au.length Vp,.int .i64 x.next,.int .i64 x.weights.pack,.int .i64 x.weights.spread,.int .i64 x.weights.soft]:List Value).toArray 39)) = wb at *
  have hlb:w4.heap.size < wb.heap.size:=KB.lt
  clear hb1 hb2 hb3 hb4
  have SLH:Sl wb x.au _ _ Gp:=hOr.rd.1
  go_loopw [9] (fun i wr=>∃(k:Nat),k≤insPx n.name x.au∧i = .int .i64 k∧Below wb.heap.size wb wr) (fun i _=>x.au.length+1 - (intOf i).toNat)
  case atStart=>exact ⟨0,Nat.zero_le _,rfl,aj _⟩
  case round =>
   obtain ⟨k,hk,rfl,hbr⟩:=hrel
   have hkl:=insPx_le n.name x.au
   have hzr:=hbr.size
   have k0:=(KB.ext hbr).cell (i:=1) (u:=.slice Vo x.au.length Vp) rfl
   have k1:=(KN.ext hbr).cell (i:=0) (u:=.string n.name) rfl
   have hlb1:w4.heap.size < wr.heap.size:=by omega
   have hlb2:w1.heap.size < wr.heap.size:=by omega
   by_cases hlt:k < x.au.length
   ·obtain ⟨b,o,ck,Fk,hA,o9,hbs,hr,hsub,hc⟩:=(SLH.ext hbr).get hlt
    subst hA
    obtain ⟨fC,fD,yD,gB,gG,AA,bT,bU,qI,hck,hF3,Dv,yE,FY,FZ,Dw,AB,qJ,aeg,Wv⟩:=kE hr
    subst hck
    have q0:wr.cell? ⟨b,o+k * 9,none⟩ = some (.string x.au[k].aS.name):=by exact hc 0 _ rfl
    clear hc hF3 hr hsub
    have hki:(k:Int) < x.au.length:=by omega
    cases hs:podLt n.name x.au[k]
    ·have HKE:=Lib.hid (insPx_of hk (fun _=>hs))
     have hs2:Op.bytesLess x.au[k].aS.name.toList n.name.toList = false:=hs
     clear hs
     go_wp2_with fail
     refine aF wr (by kernel_rfl) (by kernel_rfl) (aj _) ?_
     repeat (first
      | (apply aG
         case hw=>rfl
         simp only [Act.put,pz])
      | (apply aH
         case hw=>rfl
         case h =>
          exact Zaai
         simp only [Act.put,pz]))
     refine aN ?_
     intro wn hn
     replace hn:=hn.out
     clear q0 k0 k1
     have hke:=HKE.out
     clear HKE
     subst hke
     have hbn:Below wb.heap.size wb wn:=ah hbr hn
     have KNn:=KN.ext hbn
     have KBn:=KB.ext hbn
     have KRn:=KR.ext hbn
     have KCn:=KC.ext hbn
     have c2:=KCn.cell (i:=2) (u:=.int .i64 x.next) rfl
     have n0:=KNn.cell (i:=0) (u:=.string n.name) rfl
     have n1:=KNn.cell (i:=1) (u:=.slice dU n.labels.length dV) rfl
     have n2:=KNn.cell (i:=2) (u:=.int .i64 n.cpu) rfl
     have n3:=KNn.cell (i:=3) (u:=.int .i64 n.mem) rfl
     have n4:=KNn.cell (i:=4) (u:=.int .i64 n.rank) rfl
     have n5:=KNn.cell (i:=5) (u:=.slice mJ n.needs.length mM) rfl
     have n6:=KNn.cell (i:=6) (u:=.slice fK n.tolerances.length fM) rfl
     have b0:=KBn.cell (i:=1) (u:=.slice (some ⟨b,o,none⟩) x.au.length Vp) rfl
     have hzn:=hbn.size
     have hBn:Below w.heap.size w wn:=hBW.trans (hbn.mono (by omega))
     have HKB:=Lib.hid KBn
     have HKR:=Lib.hid KRn
     have HOr:=Lib.hid (hOr.ext hbn)
     have HOn:=Lib.hid ((jX.newP hnext).ext hbn)
     have HOp:=Lib.hid (Xp.ext hbn)
     have HBn:=Lib.hid hBn
     clear hOr jX Xp KB KN KR KC KNn KBn KRn KCn hbn hBn hBW SLH hbr hn
     go_wp2_with fail
     refine (insPlaced_own x.au (newP x n) _ _ (insPx n.name x.au) wn.heap.size (w.heap.size+1+1+1) Gp G1 _ 82 _ (HOr.out.alloc _) (HOn.out.alloc _) HD1.out (by simp;omega) (by omega) (insPx_le _ _) (heap_alloc_new _ _) (fun hm=>by have:=(HGP.out _ hm).2;omega)).mono ?_
     rintro e w6 ⟨A6,c6,F6,rfl,iD,hF6,hU6⟩
     have hz6:wn.heap.size < w6.heap.size:=sq hU6.size
     have hF6a:∀y∈F6,y≠w4.heap.size∧y∉Gh:=fun y hy=>by
      exact Zacg
     have hOp6:=hU6.own (HOp.out.alloc (.cells ([.string n.name,.slice dU n.labels.length dV,.int .i64 n.cpu,.int .i64 n.mem,.int .i64 n.rank,.slice mJ n.needs.length mM,.slice fK n.tolerances.length fM,.string ⟨#[]⟩,.int .i64 x.next]:List Value).toArray 82)) (fun y hy hy'=>HDP.out y hy hy')
     have KB6:oG w6 w4.heap.size [.slice Pe x.hosts.length Pg,.slice (some ⟨b,o,none⟩) x.au.length Vp,.int .i64 x.next,.int .i64 x.weights.pack,.int .i64 x.weights.spread,.int .i64 x.weights.soft]:=(HKB.out.ext (ak (aj _) _)).keep (hU6.block _ (by (try simp);omega) (fun hm=>by have:=HGP.out _ hm;omega))
     have KR6:oG w6 (w.heap.size+1+1) [.slice none 0 0,.slice none 0 0,.int .i64 0,.int .i64 0,.int .i64 0,.int .i64 0]:=(HKR.out.ext (ak (aj _) _)).keep (hU6.block _ (by (try simp);omega) (fun hm=>by have:=HGP.out _ hm;omega))
     have hB6:Below w.heap.size w w6:=(ak HBn.out _).trans (hU6.below (fun y hy=>by have:=HGP.out y hy;omega) (by (try simp);omega))
     have m0:=KB6.cell (i:=0) (u:=.slice Pe x.hosts.length Pg) rfl
     have m1:=KB6.cell (i:=1) (u:=.slice (some ⟨b,o,none⟩) x.au.length Vp) rfl
     exact Zaa8
    ·exact Zaec
   ·have HKE:=Lib.hid (insPx_of hk (fun h9=>absurd h9 hlt))
    have hki:¬((k:Int) < x.au.length):=by omega
    go_wp2_with fail
    refine aF wr (by kernel_rfl) (by kernel_rfl) (aj _) ?_
    repeat (first
     | (apply aG
        case hw=>rfl
        simp only [Act.put,pz])
     | (apply aH
        case hw=>rfl
        case h =>
         exact Zaai
        simp only [Act.put,pz]))
    refine aN ?_
    intro wn hn
    replace hn:=hn.out
    clear k0 k1
    have hke:=HKE.out
    clear HKE
    subst hke
    have hbn:Below wb.heap.size wb wn:=ah hbr hn
    have KNn:=KN.ext hbn
    have KBn:=KB.ext hbn
    have KRn:=KR.ext hbn
    have KCn:=KC.ext hbn
    have c2:=KCn.cell (i:=2) (u:=.int .i64 x.next) rfl
    have n0:=KNn.cell (i:=0) (u:=.string n.name) rfl
    have n1:=KNn.cell (i:=1) (u:=.slice dU n.labels.length dV) rfl
    have n2:=KNn.cell (i:=2) (u:=.int .i64 n.cpu) rfl
    have n3:=KNn.cell (i:=3) (u:=.int .i64 n.mem) rfl
    have n4:=KNn.cell (i:=4) (u:=.int .i64 n.rank) rfl
    have n5:=KNn.cell (i:=5) (u:=.slice mJ n.needs.length mM) rfl
    have n6:=KNn.cell (i:=6) (u:=.slice fK n.tolerances.length fM) rfl
    have b0:=KBn.cell (i:=1) (u:=.slice Vo x.au.length Vp) rfl
    have hzn:=hbn.size
    have hBn:Below w.heap.size w wn:=hBW.trans (hbn.mono (by omega))
    have HKB:=Lib.hid KBn
    have HKR:=Lib.hid KRn
    have HOr:=Lib.hid (hOr.ext hbn)
    have HOn:=Lib.hid ((jX.newP hnext).ext hbn)
    have HOp:=Lib.hid (Xp.ext hbn)
    have HBn:=Lib.hid hBn
    clear hOr jX Xp KB KN KR KC KNn KBn KRn KCn hbn hBn hBW SLH hbr hn
    go_wp2_with fail
    refine (insPlaced_own x.au (newP x n) _ _ (insPx n.name x.au) wn.heap.size (w.heap.size+1+1+1) Gp G1 _ 82 _ (HOr.out.alloc _) (HOn.out.alloc _) HD1.out (by simp;omega) (by omega) (insPx_le _ _) (heap_alloc_new _ _) (fun hm=>by have:=(HGP.out _ hm).2;omega)).mono ?_
    rintro e w6 ⟨A6,c6,F6,rfl,iD,hF6,hU6⟩
    have hz6:wn.heap.size < w6.heap.size:=sq hU6.size
    have hF6a:∀y∈F6,y≠w4.heap.size∧y∉Gh:=fun y hy=>by
     exact Zacg
    have hOp6:=hU6.own (HOp.out.alloc (.cells ([.string n.name,.slice dU n.labels.length dV,.int .i64 n.cpu,.int .i64 n.mem,.int .i64 n.rank,.slice mJ n.needs.length mM,.slice fK n.tolerances.length fM,.string ⟨#[]⟩,.int .i64 x.next]:List Value).toArray 82)) (fun y hy hy'=>HDP.out y hy hy')
    have KB6:oG w6 w4.heap.size [.slice Pe x.hosts.length Pg,.slice Vo x.au.length Vp,.int .i64 x.next,.int .i64 x.weights.pack,.int .i64 x.weights.spread,.int .i64 x.weights.soft]:=(HKB.out.ext (ak (aj _) _)).keep (hU6.block _ (by (try simp);omega) (fun hm=>by have:=HGP.out _ hm;omega))
    have KR6:oG w6 (w.heap.size+1+1) [.slice none 0 0,.slice none 0 0,.int .i64 0,.int .i64 0,.int .i64 0,.int .i64 0]:=(HKR.out.ext (ak (aj _) _)).keep (hU6.block _ (by (try simp);omega) (fun hm=>by have:=HGP.out _ hm;omega))
    have hB6:Below w.heap.size w w6:=(ak HBn.out _).trans (hU6.below (fun y hy=>by have:=HGP.out y hy;omega) (by (try simp);omega))
    have m0:=KB6.cell (i:=0) (u:=.slice Pe x.hosts.length Pg) rfl
    have m1:=KB6.cell (i:=1) (u:=.slice Vo x.au.length Vp) rfl
    exact Zaa8
end Go.Proofs.YtfdgeonannkmaaaGreat
