/- FnExactSubmitPod: for every cluster and pod the program's SubmitPod and the reference's answer alike, the result in memory of its own, and the program leaves the cluster and the pod as they were. No condition. -/
import Derived.Test.YtfdgeonannkmaaaGreatOpsQI
import Derived.Test.YtfdgeonannkmaaaGreatOpsQS
import Derived.Test.YtfdgeonannkmaaaGreatRegionIx
import Derived.Test.YtfdgeonannkmaaaGreatToHost
import Derived.Test.YtfdgeonannkmaaaGreatAppendAt
import Derived.Test.YtfdgeonannkmaaaGreatLaw0
import Derived.Test.YtfdgeonannkmaaaGreatMwTolerance
import Derived.StillTailTactics
namespace Go.Proofs.YtfdgeonannkmaaaGreat.fnExactSubmitPod
open Go.ChangeShapes Go.WideShapes Go.ChangeAt Go.RowKit
set_option linter.unusedVariables false
set_option linter.unusedSimpArgs false
theorem sH {α:Type} [Dat α] {w:World} {B c i:Nat} {u:Value} {x:α} {cs:List Value} {F:List Nat} (h:Own w B x cs F) (hF:∀y∈F,y≠c):Own (w.setCell ⟨c,i,none⟩ u) B x cs F :=
 h.keep (fun y hy=>Below.heap_setCell _ _ _ _ avg) aua
set_option maxRecDepth 100000 in
set_option maxHeartbeats 16000000 in
theorem walk (x:aU) (cs:List Value) (F:List Nat) (u:nI) (us:List Value) (Fu:List Nat) (w:World) (h:rd w x cs F) (h':rd w u us Fu) :
 Calls Tryz.prog 3 #[.agg cs.toArray,.agg us.toArray] w fun e w'=>e = .returned (.bool true)∧Below w.heap.size w w':=by
 by_cases hw:(x.wt:Int)≤1048576
 ·have hsz:xu x.wt 1048576 = 1048576 - x.wt:=by have:=bI x.wt 1048576;omega
  have vK:=Lib.hid hsz
  have hb0:(0:Int)≤1048576 - x.wt:=by omega
  clear hsz
  by_cases hwu:(u.wt:Int)≤1048576 - x.wt
  ·have hszu:xu u.wt (1048576 - x.wt) = 1048576 - x.wt - u.wt:=by have:=bI u.wt (1048576 - x.wt);omega
   have HSZU:=Lib.hid hszu
   have ah1:(0:Int)≤1048576 - x.wt - u.wt:=by omega
   have HWU:=Lib.hid (show (u.wt:Int)≤1048576 by omega)
   have hcx:(iw x:Int)≤6291456:=by have:=uK x;omega
   have hcu:(uM u:Int)≤6291456:=by have:=Pv u;omega
   have hcr:(iw (addQ x u).1:Int)≤16777216:=by have h1:=addQ_cnt x u;have h2:=akL (newP x (podNormalR u).1);have h3:=podNormalR_wt u;have h4:(newP x (podNormalR u).1).wt = (podNormalR u).1.wt+0:=rfl;omega
   have afR:=Lib.hid ((jI x x).2 rfl)
   have HSAMEu:=Lib.hid ((yh u u).2 rfl)
   have Du:=Lib.hid hw
   have Ob:=Lib.hid (fun cs F us Fu wq a b=>SubmitPod_spec x cs F u us Fu wq a b hw HWU.out)
   have QT:=Lib.hid (fun cs F us Fu wq a b=>SubmitPod_impl x cs F u us Fu wq a b hw HWU.out)
   clear hszu hw hwu
   generalize addQ x u = R at *
   obtain ⟨r,cd⟩:=R
   dsimp only at *
   have HSL:=Lib.hid ((jI r r).2 rfl)
   have hnn:(cd != cd) = false:=by simp
   have hr:=h
   obtain ⟨bG,bD,fQ,dn,bW,jg,hck,qp,bQ,dM,hnext,aV,aP,aW⟩:=aO hr
   subst hck
   clear qp hr
   have hr':=h'
   obtain ⟨bY,bZ,iq,eU,eX,jV,bg,bn,dK,hck,qp,jW,dA,kQ,lg,lG,iO,bK⟩:=dL hr'
   subst hck
   clear qp hr'
   go_enter Tryz.func3,Tryz.ntmps3
   go_wp2_with fail
   refine (dB x _ _ _ _ (aZ h atT) (by omega) (by omega)).mono ?_
   rw [vK.out]
   rintro e w1 ⟨rfl,hb1⟩
   obtain ⟨hc1,hf1⟩:=ay hb1
   have hB1:Below w.heap.size w w1:=ah atT hb1
   have hz0_1:w.heap.size < w1.heap.size:=sq hb1.size
   have hz1_1:w.heap.size+1 < w1.heap.size:=sq hb1.size
   go_wp2_with fail
   refine (pG u _ _ _ _ (aZ h' atT) (by omega) (by omega)).mono ?_
   rw [HSZU.out]
   rintro e w2 ⟨rfl,hb2⟩
   obtain ⟨hc2,hf2⟩:=ay hb2
   have hB2:Below w.heap.size w w2:=ah atT hb2
   have hz0_2:w.heap.size < w2.heap.size:=sq hb2.size
   have aqV:w.heap.size+1 < w2.heap.size:=sq hb2.size
   go_wp2_with fail
   refine zU w2 11 (by kernel_rfl) (by kernel_rfl) (aj _) ?_
   refine YU (fun a0 a' w'=>∃(p4:Nat) (Gz KW:Option Addr) (GH KX:Nat) (G4:List Nat) (v4_0 v4_1 v4_2 v4_3 v4_4 v4_5 v4_6 v4_7:Value),a' = (Act.put (Act.put (Act.put (Act.put (Act.put (Act.put (Act.put (Act.put (Act.put (Act.put a0 (some 28) (v4_0)) (some 29) (v4_1)) (some 30) (v4_2)) (some 31) (v4_3)) (some 32) (v4_4)) (some 27) (v4_5)) (some 33) (v4_6)) (some 34) (v4_7)) (some 6) (.pointer (some ⟨p4,0,none⟩))) (some 7) (.int .i64 cd))∧Below w2.heap.size w2 w'∧w2.heap.size≤p4∧oG w' p4 [.slice Gz r.hosts.length GH,.slice KW r.au.length KX,.int .i64 r.next,.int .i64 r.weights.pack,.int .i64 r.weights.spread,.int .i64 r.weights.soft]∧(∀y∈G4,y≠p4∧w2.heap.size≤y)∧Own w' w2.heap.size r [.slice Gz r.hosts.length GH,.slice KW r.au.length KX,.int .i64 r.next,.int .i64 r.weights.pack,.int .i64 r.weights.spread,.int .i64 r.weights.soft] G4) ?_ ?_
   rotate_left
   ·intro HK
    have hbx:Below w2.heap.size w2 w2.drew:=aA (aj _)
    refine aX 0 _ (by rfl) (by kernel_rfl) (fun _ _ d _ _ h=>by cases d <;> exact h) aud (Or.inl ⟨rfl,fun wq hq=>by
     have hcq:=(aB hq).1
     go_simp
     try rfl⟩) ?_
    try simp only [Act.put,pz]
    refine aX 2 _ (by rfl) (by kernel_rfl) (fun _ _ d _ _ h=>by cases d <;> exact h) aud (Or.inl ⟨rfl,fun wq hq=>by
     have hcq:=(aB hq).1
     go_simp
     try rfl⟩) ?_
    try simp only [Act.put,pz]
    refine D7 1 8 (by rfl) (by rfl) (by kernel_rfl) (by rfl) (by rfl) (fun K hK=>?_) (fun K hK=>?_)
    ·go_simp
     refine (bF x _ _ _ (aZ h (ah hB2 hbx)) Du.out).mono ?_
     rintro e ZF ⟨csa,Ga,rfl,Me,hb40⟩
     have hRa:=Me.rd
     obtain ⟨akB,akC,akD,aom,aon,aoo,hck,hGa,akE,aop,aoq,TA,OG,TB⟩:=aO hRa
     subst hck
     clear hGa hRa
     replace hbx:=ah hbx hb40
     refine hK _ _ hbx ?_
     try simp only [Act.put,pz]
     clear hK K
     refine D7 3 8 (by rfl) (by rfl) (by kernel_rfl) (by rfl) (by rfl) (fun K hK=>?_) (fun K hK=>?_)
     ·go_simp
      refine (kD u _ _ _ (aZ h' (ah hB2 hbx)) HWU.out).mono ?_
      rintro e Za ⟨csb,Gb,rfl,hOb,aib⟩
      replace Me:=Me.ext aib
      have hRb:=hOb.rd
      obtain ⟨Alabelsb,clabelsb,Flabelsb,Aneedsb,cneedsb,Fneedsb,Atolerancesb,ctolerancesb,Ftolerancesb,hck,hGb,hnameb,hlabelsb,hcpub,hmemb,hrankb,hneedsb,htolerancesb⟩:=dL hRb
      subst hck
      clear hGb hRb
      replace hbx:=ah hbx aib
      refine hK _ _ hbx ?_
      try simp only [Act.put,pz]
      clear hK K
      refine D7 4 8 (by rfl) (by rfl) (by kernel_rfl) (by rfl) (by rfl) (fun K hK=>?_) (fun K hK=>?_)
      ·go_simp
       refine (Ob.out _ _ _ _ _ Me.rd hOb.rd).mono ?_
       rintro e w42 ⟨_,GR,rfl,hOr,WZ⟩
       replace Me:=Me.ext WZ
       replace hOb:=hOb.ext WZ
       have hRr:=hOr.rd
       obtain ⟨kM,kN,ND,ny,nC,TD,hck,hGr,NG,TF,TG,xI,uD,xJ⟩:=aO hRr
       subst hck
       clear hGr hRr
       have hwB:w2.heap.size≤_:=hbx.size
       replace hbx:=ah hbx WZ
       refine hK _ _ hbx ?_
       try simp only [Act.put,pz]
       clear hK K
       replace hOr:=hOr.mono (B':=w2.heap.size) hwB
       refine aX 5 _ (by rfl) (by kernel_rfl) (fun _ _ d _ _ h=>by cases d <;> exact h) aud (Or.inl ⟨rfl,fun wq hq=>by
        have hcq:=(aB hq).1
        go_simp
        try rfl⟩) ?_
       try simp only [Act.put,pz]
       refine aX 6 _ (by rfl) (by kernel_rfl) (fun _ _ d _ _ h=>by cases d <;> exact h) aud (Or.inl ⟨rfl,fun wq hq=>by
        have hcq:=(aB hq).1
        go_simp
        try rfl⟩) ?_
       try simp only [Act.put,pz]
       refine aX 7 _ (by rfl) (by kernel_rfl) (fun _ _ d _ _ h=>by cases d <;> exact h) aud (Or.inl ⟨rfl,fun wq hq=>by
        have hcq:=(aB hq).1
        go_simp
        try rfl⟩) ?_
       try simp only [Act.put,pz]
       refine bP 8 (by rfl) (by kernel_rfl) (by rfl) (fun K hK=>?_)
       go_simp
       refine hK _ _ (ak hbx _) ?_
       try simp only [Act.put,pz]
       clear hK K
       have hpb:w2.heap.size≤w42.heap.size:=hbx.size
       have HP:oG (w42.alloc (.cells ([.slice none 0 0,.slice none 0 0,.int .i64 0,.int .i64 0,.int .i64 0,.int .i64 0]:List Value).toArray 39)) w42.heap.size [.slice none 0 0,.slice none 0 0,.int .i64 0,.int .i64 0,.int .i64 0,.int .i64 0]:=oG.new w42 [.slice none 0 0,.slice none 0 0,.int .i64 0,.int .i64 0,.int .i64 0,.int .i64 0] 39
       have hbx0:=hbx
       have hOr0:=hOr
       replace hbx:=ak hbx (.cells ([.slice none 0 0,.slice none 0 0,.int .i64 0,.int .i64 0,.int .i64 0,.int .i64 0]:List Value).toArray 39)
       replace Me:=Me.alloc (.cells ([.slice none 0 0,.slice none 0 0,.int .i64 0,.int .i64 0,.int .i64 0,.int .i64 0]:List Value).toArray 39)
       replace hOb:=hOb.alloc (.cells ([.slice none 0 0,.slice none 0 0,.int .i64 0,.int .i64 0,.int .i64 0,.int .i64 0]:List Value).toArray 39)
       have hGp:∀y∈GR,y≠w42.heap.size:=fun y hy=>by have:=hOr.lt y hy;omega
       replace hOr:=hOr.alloc (.cells ([.slice none 0 0,.slice none 0 0,.int .i64 0,.int .i64 0,.int .i64 0,.int .i64 0]:List Value).toArray 39)
       have kl:=HP.lt
       have kf:=HP.fz
       have k0:=HP.cell (i:=0) (u:=.slice none 0 0) rfl
       have k1:=HP.cell (i:=1) (u:=.slice none 0 0) rfl
       have k2:=HP.cell (i:=2) (u:=.int .i64 0) rfl
       have k3:=HP.cell (i:=3) (u:=.int .i64 0) rfl
       have k4:=HP.cell (i:=4) (u:=.int .i64 0) rfl
       have k5:=HP.cell (i:=5) (u:=.int .i64 0) rfl
       have Iz:∀y∈GR,y≠w42.heap.size:=hGp
       refine bP 9 (by rfl) (by kernel_rfl) (by rfl) (fun K hK=>?_)
       go_simp
       refine hK _ _ avu ?_
       try simp only [Act.put,pz]
       clear hK K
       refine bP 10 (by rfl) (by kernel_rfl) (by rfl) (fun K hK=>?_)
       go_simp
       refine hK _ _ avu ?_
       try simp only [Act.put,pz]
       clear hK K
       refine nR (by kernel_rfl) ?_
       exact HK _ _ ⟨w42.heap.size,_,_,_,_,GR,_,_,_,_,_,_,_,_,aum,(ak hbx0 _),hpb,(oG.new w42 [.slice kM r.hosts.length kN,.slice ny r.au.length nC,.int .i64 r.next,.int .i64 r.weights.pack,.int .i64 r.weights.spread,.int .i64 r.weights.soft] 39),(fun y hy=>⟨Iz y hy,hOr.base y hy⟩),(hOr0.alloc _)⟩
      ·go_simp
       refine hK _ _ (ak hbx _) ?_
       try simp only [Act.put,pz]
       clear hK K
       have hpb:w2.heap.size≤Za.heap.size:=hbx.size
       have HP:oG (Za.alloc (.cells ([.slice none 0 0,.slice none 0 0,.int .i64 0,.int .i64 0,.int .i64 0,.int .i64 0]:List Value).toArray 39)) Za.heap.size [.slice none 0 0,.slice none 0 0,.int .i64 0,.int .i64 0,.int .i64 0,.int .i64 0]:=oG.new Za [.slice none 0 0,.slice none 0 0,.int .i64 0,.int .i64 0,.int .i64 0,.int .i64 0] 39
       replace hbx:=ak hbx (.cells ([.slice none 0 0,.slice none 0 0,.int .i64 0,.int .i64 0,.int .i64 0,.int .i64 0]:List Value).toArray 39)
       replace Me:=Me.alloc (.cells ([.slice none 0 0,.slice none 0 0,.int .i64 0,.int .i64 0,.int .i64 0,.int .i64 0]:List Value).toArray 39)
       replace hOb:=hOb.alloc (.cells ([.slice none 0 0,.slice none 0 0,.int .i64 0,.int .i64 0,.int .i64 0,.int .i64 0]:List Value).toArray 39)
       refine bP 4 (by rfl) (by kernel_rfl) (by rfl) (fun K hK=>?_)
       go_simp
       have hpl42:=HP.lt
       refine (Ob.out _ _ _ _ _ Me.rd hOb.rd).mono ?_
       rintro e w42 ⟨_,GR,rfl,hOr,WZ⟩
       replace HP:=HP.ext WZ
       replace Me:=Me.ext WZ
       replace hOb:=hOb.ext WZ
       have hRr:=hOr.rd
       obtain ⟨kM,kN,ND,ny,nC,TD,hck,hGr,NG,TF,TG,xI,uD,xJ⟩:=aO hRr
       subst hck
       clear hGr hRr
       have hwB:w2.heap.size≤_:=hbx.size
       replace hbx:=ah hbx WZ
       refine hK _ _ hbx ?_
       try simp only [Act.put,pz]
       clear hK K
       have hGp:∀y∈GR,y≠Za.heap.size:=fun y hy=>by have:=hOr.base y hy;omega
       replace hOr:=hOr.mono (B':=w2.heap.size) hwB
       refine aX 5 _ (by rfl) (by kernel_rfl) (fun _ _ d _ _ h=>by cases d <;> exact h) aud (Or.inl ⟨rfl,fun wq hq=>by
        have hcq:=(aB hq).1
        go_simp
        try rfl⟩) ?_
       try simp only [Act.put,pz]
       refine aX 6 _ (by rfl) (by kernel_rfl) (fun _ _ d _ _ h=>by cases d <;> exact h) aud (Or.inl ⟨rfl,fun wq hq=>by
        have hcq:=(aB hq).1
        go_simp
        try rfl⟩) ?_
       try simp only [Act.put,pz]
       refine aX 7 _ (by rfl) (by kernel_rfl) (fun _ _ d _ _ h=>by cases d <;> exact h) aud (Or.inl ⟨rfl,fun wq hq=>by
        have hcq:=(aB hq).1
        go_simp
        try rfl⟩) ?_
       try simp only [Act.put,pz]
       have kl:=HP.lt
       have kf:=HP.fz
       have k0:=HP.cell (i:=0) (u:=.slice none 0 0) rfl
       have k1:=HP.cell (i:=1) (u:=.slice none 0 0) rfl
       have k2:=HP.cell (i:=2) (u:=.int .i64 0) rfl
       have k3:=HP.cell (i:=3) (u:=.int .i64 0) rfl
       have k4:=HP.cell (i:=4) (u:=.int .i64 0) rfl
       have k5:=HP.cell (i:=5) (u:=.int .i64 0) rfl
       have Iz:∀y∈GR,y≠Za.heap.size:=hGp
       refine bP 9 (by rfl) (by kernel_rfl) (by rfl) (fun K hK=>?_)
       go_simp
       refine hK _ _ (by unfold Cls;with_reducible exact (aC (p:=⟨Za.heap.size,5,none⟩) (aC (p:=⟨Za.heap.size,4,none⟩) (aC (p:=⟨Za.heap.size,3,none⟩) (aC (p:=⟨Za.heap.size,2,none⟩) (aC (p:=⟨Za.heap.size,1,none⟩) (aC (p:=⟨Za.heap.size,0,none⟩) hbx hpb (.slice kM r.hosts.length kN)) hpb (.slice ny r.au.length nC)) hpb (.int .i64 r.next)) hpb (.int .i64 r.weights.pack)) hpb (.int .i64 r.weights.spread)) hpb (.int .i64 r.weights.soft))) ?_
       try simp only [Act.put,pz]
       clear hK K
       refine bP 10 (by rfl) (by kernel_rfl) (by rfl) (fun K hK=>?_)
       go_simp
       refine hK _ _ (by unfold Cls;with_reducible exact (aC (p:=⟨Za.heap.size,5,none⟩) (aC (p:=⟨Za.heap.size,4,none⟩) (aC (p:=⟨Za.heap.size,3,none⟩) (aC (p:=⟨Za.heap.size,2,none⟩) (aC (p:=⟨Za.heap.size,1,none⟩) (aC (p:=⟨Za.heap.size,0,none⟩) hbx hpb (.slice kM r.hosts.length kN)) hpb (.slice ny r.au.length nC)) hpb (.int .i64 r.next)) hpb (.int .i64 r.weights.pack)) hpb (.int .i64 r.weights.spread)) hpb (.int .i64 r.weights.soft))) ?_
       try simp only [Act.put,pz]
       clear hK K
       refine nR (by kernel_rfl) ?_
       exact HK _ _ ⟨Za.heap.size,_,_,_,_,GR,_,_,_,_,_,_,_,_,aum,(aC (p:=⟨Za.heap.size,5,none⟩) (aC (p:=⟨Za.heap.size,4,none⟩) (aC (p:=⟨Za.heap.size,3,none⟩) (aC (p:=⟨Za.heap.size,2,none⟩) (aC (p:=⟨Za.heap.size,1,none⟩) (aC (p:=⟨Za.heap.size,0,none⟩) hbx hpb (.slice kM r.hosts.length kN)) hpb (.slice ny r.au.length nC)) hpb (.int .i64 r.next)) hpb (.int .i64 r.weights.pack)) hpb (.int .i64 r.weights.spread)) hpb (.int .i64 r.weights.soft)),hpb,((((((HP.put 0 (.slice kM r.hosts.length kN)).put 1 (.slice ny r.au.length nC)).put 2 (.int .i64 r.next)).put 3 (.int .i64 r.weights.pack)).put 4 (.int .i64 r.weights.spread)).put 5 (.int .i64 r.weights.soft)),(fun y hy=>⟨Iz y hy,hOr.base y hy⟩),(sH (c:=Za.heap.size) (i:=5) (u:=.int .i64 r.weights.soft) (sH (c:=Za.heap.size) (i:=4) (u:=.int .i64 r.weights.spread) (sH (c:=Za.heap.size) (i:=3) (u:=.int .i64 r.weights.pack) (sH (c:=Za.heap.size) (i:=2) (u:=.int .i64 r.next) (sH (c:=Za.heap.size) (i:=1) (u:=.slice ny r.au.length nC) (sH (c:=Za.heap.size) (i:=0) (u:=.slice kM r.hosts.length kN) hOr Iz) Iz) Iz) Iz) Iz) Iz)⟩
     ·go_simp
      refine hK _ _ (ak hbx _) ?_
      try simp only [Act.put,pz]
      clear hK K
      have hpb:w2.heap.size≤ZF.heap.size:=hbx.size
      have HP:oG (ZF.alloc (.cells ([.slice none 0 0,.slice none 0 0,.int .i64 0,.int .i64 0,.int .i64 0,.int .i64 0]:List Value).toArray 39)) ZF.heap.size [.slice none 0 0,.slice none 0 0,.int .i64 0,.int .i64 0,.int .i64 0,.int .i64 0]:=oG.new ZF [.slice none 0 0,.slice none 0 0,.int .i64 0,.int .i64 0,.int .i64 0,.int .i64 0] 39
      replace hbx:=ak hbx (.cells ([.slice none 0 0,.slice none 0 0,.int .i64 0,.int .i64 0,.int .i64 0,.int .i64 0]:List Value).toArray 39)
      replace Me:=Me.alloc (.cells ([.slice none 0 0,.slice none 0 0,.int .i64 0,.int .i64 0,.int .i64 0,.int .i64 0]:List Value).toArray 39)
      refine bP 3 (by rfl) (by kernel_rfl) (by rfl) (fun K hK=>?_)
      go_simp
      have hpl41:=HP.lt
      refine (kD u _ _ _ (aZ h' (ah hB2 hbx)) HWU.out).mono ?_
      rintro e Za ⟨csb,Gb,rfl,hOb,aib⟩
      replace HP:=HP.ext aib
      replace Me:=Me.ext aib
      have hRb:=hOb.rd
      obtain ⟨Alabelsb,clabelsb,Flabelsb,Aneedsb,cneedsb,Fneedsb,Atolerancesb,ctolerancesb,Ftolerancesb,hck,hGb,hnameb,hlabelsb,hcpub,hmemb,hrankb,hneedsb,htolerancesb⟩:=dL hRb
      subst hck
      clear hGb hRb
      replace hbx:=ah hbx aib
      refine hK _ _ hbx ?_
      try simp only [Act.put,pz]
      clear hK K
      refine bP 4 (by rfl) (by kernel_rfl) (by rfl) (fun K hK=>?_)
      go_simp
      have hpl42:=HP.lt
      refine (Ob.out _ _ _ _ _ Me.rd hOb.rd).mono ?_
      rintro e w42 ⟨_,GR,rfl,hOr,WZ⟩
      replace HP:=HP.ext WZ
      replace Me:=Me.ext WZ
      replace hOb:=hOb.ext WZ
      have hRr:=hOr.rd
      obtain ⟨kM,kN,ND,ny,nC,TD,hck,hGr,NG,TF,TG,xI,uD,xJ⟩:=aO hRr
      subst hck
      clear hGr hRr
      have hwB:w2.heap.size≤_:=hbx.size
      replace hbx:=ah hbx WZ
      refine hK _ _ hbx ?_
      try simp only [Act.put,pz]
      clear hK K
      have hGp:∀y∈GR,y≠ZF.heap.size:=fun y hy=>by have:=hOr.base y hy;omega
      replace hOr:=hOr.mono (B':=w2.heap.size) hwB
      refine aX 5 _ (by rfl) (by kernel_rfl) (fun _ _ d _ _ h=>by cases d <;> exact h) aud (Or.inl ⟨rfl,fun wq hq=>by
       have hcq:=(aB hq).1
       go_simp
       try rfl⟩) ?_
      try simp only [Act.put,pz]
      refine aX 6 _ (by rfl) (by kernel_rfl) (fun _ _ d _ _ h=>by cases d <;> exact h) aud (Or.inl ⟨rfl,fun wq hq=>by
       have hcq:=(aB hq).1
       go_simp
       try rfl⟩) ?_
      try simp only [Act.put,pz]
      refine aX 7 _ (by rfl) (by kernel_rfl) (fun _ _ d _ _ h=>by cases d <;> exact h) aud (Or.inl ⟨rfl,fun wq hq=>by
       have hcq:=(aB hq).1
       go_simp
       try rfl⟩) ?_
      try simp only [Act.put,pz]
      have kl:=HP.lt
      have kf:=HP.fz
      have k0:=HP.cell (i:=0) (u:=.slice none 0 0) rfl
      have k1:=HP.cell (i:=1) (u:=.slice none 0 0) rfl
      have k2:=HP.cell (i:=2) (u:=.int .i64 0) rfl
      have k3:=HP.cell (i:=3) (u:=.int .i64 0) rfl
      have k4:=HP.cell (i:=4) (u:=.int .i64 0) rfl
      have k5:=HP.cell (i:=5) (u:=.int .i64 0) rfl
      have Iz:∀y∈GR,y≠ZF.heap.size:=hGp
      refine bP 9 (by rfl) (by kernel_rfl) (by rfl) (fun K hK=>?_)
      go_simp
      refine hK _ _ (by unfold Cls;with_reducible exact (aC (p:=⟨ZF.heap.size,5,none⟩) (aC (p:=⟨ZF.heap.size,4,none⟩) (aC (p:=⟨ZF.heap.size,3,none⟩) (aC (p:=⟨ZF.heap.size,2,none⟩) (aC (p:=⟨ZF.heap.size,1,none⟩) (aC (p:=⟨ZF.heap.size,0,none⟩) hbx hpb (.slice kM r.hosts.length kN)) hpb (.slice ny r.au.length nC)) hpb (.int .i64 r.next)) hpb (.int .i64 r.weights.pack)) hpb (.int .i64 r.weights.spread)) hpb (.int .i64 r.weights.soft))) ?_
      try simp only [Act.put,pz]
      clear hK K
      refine bP 10 (by rfl) (by kernel_rfl) (by rfl) (fun K hK=>?_)
      go_simp
      refine hK _ _ (by unfold Cls;with_reducible exact (aC (p:=⟨ZF.heap.size,5,none⟩) (aC (p:=⟨ZF.heap.size,4,none⟩) (aC (p:=⟨ZF.heap.size,3,none⟩) (aC (p:=⟨ZF.heap.size,2,none⟩) (aC (p:=⟨ZF.heap.size,1,none⟩) (aC (p:=⟨ZF.heap.size,0,none⟩) hbx hpb (.slice kM r.hosts.length kN)) hpb (.slice ny r.au.length nC)) hpb (.int .i64 r.next)) hpb (.int .i64 r.weights.pack)) hpb (.int .i64 r.weights.spread)) hpb (.int .i64 r.weights.soft))) ?_
      try simp only [Act.put,pz]
      clear hK K
      refine nR (by kernel_rfl) ?_
      exact HK _ _ ⟨ZF.heap.size,_,_,_,_,GR,_,_,_,_,_,_,_,_,aum,(aC (p:=⟨ZF.heap.size,5,none⟩) (aC (p:=⟨ZF.heap.size,4,none⟩) (aC (p:=⟨ZF.heap.size,3,none⟩) (aC (p:=⟨ZF.heap.size,2,none⟩) (aC (p:=⟨ZF.heap.size,1,none⟩) (aC (p:=⟨ZF.heap.size,0,none⟩) hbx hpb (.slice kM r.hosts.length kN)) hpb (.slice ny r.au.length nC)) hpb (.int .i64 r.next)) hpb (.int .i64 r.weights.pack)) hpb (.int .i64 r.weights.spread)) hpb (.int .i64 r.weights.soft)),hpb,((((((HP.put 0 (.slice kM r.hosts.length kN)).put 1 (.slice ny r.au.length nC)).put 2 (.int .i64 r.next)).put 3 (.int .i64 r.weights.pack)).put 4 (.int .i64 r.weights.spread)).put 5 (.int .i64 r.weights.soft)),(fun y hy=>⟨Iz y hy,hOr.base y hy⟩),(sH (c:=ZF.heap.size) (i:=5) (u:=.int .i64 r.weights.soft) (sH (c:=ZF.heap.size) (i:=4) (u:=.int .i64 r.weights.spread) (sH (c:=ZF.heap.size) (i:=3) (u:=.int .i64 r.weights.pack) (sH (c:=ZF.heap.size) (i:=2) (u:=.int .i64 r.next) (sH (c:=ZF.heap.size) (i:=1) (u:=.slice ny r.au.length nC) (sH (c:=ZF.heap.size) (i:=0) (u:=.slice kM r.hosts.length kN) hOr Iz) Iz) Iz) Iz) Iz) Iz)⟩
    ·go_simp
     refine hK _ _ (ak hbx _) ?_
     try simp only [Act.put,pz]
     clear hK K
     have hpb:w2.heap.size≤w2.heap.size:=hbx.size
     have HP:oG (w2.drew.alloc (.cells ([.slice none 0 0,.slice none 0 0,.int .i64 0,.int .i64 0,.int .i64 0,.int .i64 0]:List Value).toArray 39)) w2.heap.size [.slice none 0 0,.slice none 0 0,.int .i64 0,.int .i64 0,.int .i64 0,.int .i64 0]:=oG.new w2.drew [.slice none 0 0,.slice none 0 0,.int .i64 0,.int .i64 0,.int .i64 0,.int .i64 0] 39
     replace hbx:=ak hbx (.cells ([.slice none 0 0,.slice none 0 0,.int .i64 0,.int .i64 0,.int .i64 0,.int .i64 0]:List Value).toArray 39)
     refine bP 1 (by rfl) (by kernel_rfl) (by rfl) (fun K hK=>?_)
     go_simp
     have hpl40:=HP.lt
     refine (bF x _ _ _ (aZ h (ah hB2 hbx)) Du.out).mono ?_
     rintro e ZF ⟨csa,Ga,rfl,Me,hb40⟩
     replace HP:=HP.ext hb40
     have hRa:=Me.rd
     obtain ⟨akB,akC,akD,aom,aon,aoo,hck,hGa,akE,aop,aoq,TA,OG,TB⟩:=aO hRa
     subst hck
     clear hGa hRa
     replace hbx:=ah hbx hb40
     refine hK _ _ hbx ?_
     try simp only [Act.put,pz]
     clear hK K
     refine bP 3 (by rfl) (by kernel_rfl) (by rfl) (fun K hK=>?_)
     go_simp
     have hpl41:=HP.lt
     refine (kD u _ _ _ (aZ h' (ah hB2 hbx)) HWU.out).mono ?_
     rintro e Za ⟨csb,Gb,rfl,hOb,aib⟩
     replace HP:=HP.ext aib
     replace Me:=Me.ext aib
     have hRb:=hOb.rd
     obtain ⟨Alabelsb,clabelsb,Flabelsb,Aneedsb,cneedsb,Fneedsb,Atolerancesb,ctolerancesb,Ftolerancesb,hck,hGb,hnameb,hlabelsb,hcpub,hmemb,hrankb,hneedsb,htolerancesb⟩:=dL hRb
     subst hck
     clear hGb hRb
     replace hbx:=ah hbx aib
     refine hK _ _ hbx ?_
     try simp only [Act.put,pz]
     clear hK K
     refine bP 4 (by rfl) (by kernel_rfl) (by rfl) (fun K hK=>?_)
     go_simp
     have hpl42:=HP.lt
     refine (Ob.out _ _ _ _ _ Me.rd hOb.rd).mono ?_
     rintro e w42 ⟨_,GR,rfl,hOr,WZ⟩
     replace HP:=HP.ext WZ
     replace Me:=Me.ext WZ
     replace hOb:=hOb.ext WZ
     have hRr:=hOr.rd
     obtain ⟨kM,kN,ND,ny,nC,TD,hck,hGr,NG,TF,TG,xI,uD,xJ⟩:=aO hRr
     subst hck
     clear hGr hRr
     have hwB:w2.heap.size≤_:=hbx.size
     replace hbx:=ah hbx WZ
     refine hK _ _ hbx ?_
     try simp only [Act.put,pz]
     clear hK K
     have hGp:∀y∈GR,y≠w2.heap.size:=fun y hy=>by have:=hOr.base y hy;omega
     replace hOr:=hOr.mono (B':=w2.heap.size) hwB
     refine aX 5 _ (by rfl) (by kernel_rfl) (fun _ _ d _ _ h=>by cases d <;> exact h) aud (Or.inl ⟨rfl,fun wq hq=>by
      have hcq:=(aB hq).1
      go_simp
      try rfl⟩) ?_
     try simp only [Act.put,pz]
     refine aX 6 _ (by rfl) (by kernel_rfl) (fun _ _ d _ _ h=>by cases d <;> exact h) aud (Or.inl ⟨rfl,fun wq hq=>by
      have hcq:=(aB hq).1
      go_simp
      try rfl⟩) ?_
     try simp only [Act.put,pz]
     refine aX 7 _ (by rfl) (by kernel_rfl) (fun _ _ d _ _ h=>by cases d <;> exact h) aud (Or.inl ⟨rfl,fun wq hq=>by
      have hcq:=(aB hq).1
      go_simp
      try rfl⟩) ?_
     try simp only [Act.put,pz]
     have kl:=HP.lt
     have kf:=HP.fz
     have k0:=HP.cell (i:=0) (u:=.slice none 0 0) rfl
     have k1:=HP.cell (i:=1) (u:=.slice none 0 0) rfl
     have k2:=HP.cell (i:=2) (u:=.int .i64 0) rfl
     have k3:=HP.cell (i:=3) (u:=.int .i64 0) rfl
     have k4:=HP.cell (i:=4) (u:=.int .i64 0) rfl
     have k5:=HP.cell (i:=5) (u:=.int .i64 0) rfl
     have Iz:∀y∈GR,y≠w2.heap.size:=hGp
     refine bP 9 (by rfl) (by kernel_rfl) (by rfl) (fun K hK=>?_)
     go_simp
     refine hK _ _ (by unfold Cls;with_reducible exact (aC (p:=⟨w2.heap.size,5,none⟩) (aC (p:=⟨w2.heap.size,4,none⟩) (aC (p:=⟨w2.heap.size,3,none⟩) (aC (p:=⟨w2.heap.size,2,none⟩) (aC (p:=⟨w2.heap.size,1,none⟩) (aC (p:=⟨w2.heap.size,0,none⟩) hbx hpb (.slice kM r.hosts.length kN)) hpb (.slice ny r.au.length nC)) hpb (.int .i64 r.next)) hpb (.int .i64 r.weights.pack)) hpb (.int .i64 r.weights.spread)) hpb (.int .i64 r.weights.soft))) ?_
     try simp only [Act.put,pz]
     clear hK K
     refine bP 10 (by rfl) (by kernel_rfl) (by rfl) (fun K hK=>?_)
     go_simp
     refine hK _ _ (by unfold Cls;with_reducible exact (aC (p:=⟨w2.heap.size,5,none⟩) (aC (p:=⟨w2.heap.size,4,none⟩) (aC (p:=⟨w2.heap.size,3,none⟩) (aC (p:=⟨w2.heap.size,2,none⟩) (aC (p:=⟨w2.heap.size,1,none⟩) (aC (p:=⟨w2.heap.size,0,none⟩) hbx hpb (.slice kM r.hosts.length kN)) hpb (.slice ny r.au.length nC)) hpb (.int .i64 r.next)) hpb (.int .i64 r.weights.pack)) hpb (.int .i64 r.weights.spread)) hpb (.int .i64 r.weights.soft))) ?_
     try simp only [Act.put,pz]
     clear hK K
     refine nR (by kernel_rfl) ?_
     exact HK _ _ ⟨w2.heap.size,_,_,_,_,GR,_,_,_,_,_,_,_,_,aum,(aC (p:=⟨w2.heap.size,5,none⟩) (aC (p:=⟨w2.heap.size,4,none⟩) (aC (p:=⟨w2.heap.size,3,none⟩) (aC (p:=⟨w2.heap.size,2,none⟩) (aC (p:=⟨w2.heap.size,1,none⟩) (aC (p:=⟨w2.heap.size,0,none⟩) hbx hpb (.slice kM r.hosts.length kN)) hpb (.slice ny r.au.length nC)) hpb (.int .i64 r.next)) hpb (.int .i64 r.weights.pack)) hpb (.int .i64 r.weights.spread)) hpb (.int .i64 r.weights.soft)),hpb,((((((HP.put 0 (.slice kM r.hosts.length kN)).put 1 (.slice ny r.au.length nC)).put 2 (.int .i64 r.next)).put 3 (.int .i64 r.weights.pack)).put 4 (.int .i64 r.weights.spread)).put 5 (.int .i64 r.weights.soft)),(fun y hy=>⟨Iz y hy,hOr.base y hy⟩),(sH (c:=w2.heap.size) (i:=5) (u:=.int .i64 r.weights.soft) (sH (c:=w2.heap.size) (i:=4) (u:=.int .i64 r.weights.spread) (sH (c:=w2.heap.size) (i:=3) (u:=.int .i64 r.weights.pack) (sH (c:=w2.heap.size) (i:=2) (u:=.int .i64 r.next) (sH (c:=w2.heap.size) (i:=1) (u:=.slice ny r.au.length nC) (sH (c:=w2.heap.size) (i:=0) (u:=.slice kM r.hosts.length kN) hOr Iz) Iz) Iz) Iz) Iz) Iz)⟩
   rintro a' w4 ⟨p4,Gz,KW,GH,KX,G4,v4_0,v4_1,v4_2,v4_3,v4_4,v4_5,v4_6,v4_7,ha,hb4,hpb4,amd,hGp4,hO4⟩
   subst ha
   try simp only [Act.put,pz]
   obtain ⟨hc4,hf4⟩:=ay hb4
   have hB4:Below w.heap.size w w4:=ah hB2 hb4
   have hz0_4:w.heap.size < w4.heap.size:=sq hb4.size
   have apm:w.heap.size+1 < w4.heap.size:=sq hb4.size
   have hlp4:p4 < w4.heap.size:=amd.lt
   have bx4_0:=amd.cell (i:=0) (u:=.slice Gz r.hosts.length GH) rfl
   have bx4_1:=amd.cell (i:=1) (u:=.slice KW r.au.length KX) rfl
   have bx4_2:=amd.cell (i:=2) (u:=.int .i64 r.next) rfl
   have bx4_3:=amd.cell (i:=3) (u:=.int .i64 r.weights.pack) rfl
   have bx4_4:=amd.cell (i:=4) (u:=.int .i64 r.weights.spread) rfl
   have bx4_5:=amd.cell (i:=5) (u:=.int .i64 r.weights.soft) rfl
   have Zn:=Lib.hid (show ∀y∈G4,w.heap.size+1 < y∧y < w4.heap.size from fun y hy=>⟨by have:=(hGp4 y hy).2;omega,hO4.lt y hy⟩)
   have hP4:w.heap.size+1 < p4:=by omega
   clear amd hGp4
   go_wp2_with fail
   refine (bF x _ _ _ (aZ h atT) Du.out).mono ?_
   rintro e w5 ⟨cs5,G5,rfl,fH,hb5⟩
   obtain ⟨hc5,hf5⟩:=ay hb5
   have Dc:Below w.heap.size w w5:=ah atT hb5
   have hz0_5:w.heap.size < w5.heap.size:=sq hb5.size
   have aiO:w.heap.size+1 < w5.heap.size:=sq hb5.size
   have apn:p4 < w5.heap.size:=sq hb5.size
   first | replace hO4:=Own.ext hO4 hb5 | replace hO4:=Own.ext (hO4.alloc _) hb5 | replace hO4:=Own.ext ((hO4.alloc _).alloc _) hb5
   have hR5:=fH.rd
   obtain ⟨Rk,Rl,apo,XG,XH,aq4,hck,hG5,apq,aq5,aq6,Zx,WG,Zy⟩:=aO hR5
   subst hck
   clear hG5 hR5
   have h45:w4.heap.size≤w5.heap.size:=sq hb5.size
   have HG5:=Lib.hid (show ∀y∈G5,w4.heap.size≤y∧y < w5.heap.size from fun y hy=>⟨by have:=fH.base y hy;(try simp at this);omega,fH.lt y hy⟩)
   go_wp2_with fail
   refine (kD u _ _ _ (aZ h' atT) HWU.out).mono ?_
   rintro e w6 ⟨cs6,G6,rfl,iD,hb6⟩
   obtain ⟨hc6,Xe⟩:=ay hb6
   have hB6:Below w.heap.size w w6:=ah atT hb6
   have hz0_6:w.heap.size < w6.heap.size:=sq hb6.size
   have aqZ:w.heap.size+1 < w6.heap.size:=sq hb6.size
   have aq0:p4 < w6.heap.size:=sq hb6.size
   have hz3_6:w5.heap.size < w6.heap.size:=sq hb6.size
   first | replace hO4:=Own.ext hO4 hb6 | replace hO4:=Own.ext (hO4.alloc _) hb6 | replace hO4:=Own.ext ((hO4.alloc _).alloc _) hb6
   first | replace fH:=Own.ext fH hb6 | replace fH:=Own.ext (fH.alloc _) hb6 | replace fH:=Own.ext ((fH.alloc _).alloc _) hb6
   have Jg:=iD.rd
   obtain ⟨agu,agv,agw,ath,ati,atj,akt,aku,akv,hck,Ug,aok,agx,arU,arV,hrank6,atl,akw⟩:=dL Jg
   subst hck
   clear Ug Jg
   have h56:w5.heap.size < w6.heap.size:=sq hb6.size
   have HG6:=Lib.hid (show ∀y∈G6,w5.heap.size < y∧y < w6.heap.size from fun y hy=>⟨by have:=iD.base y hy;(try simp at this);omega,iD.lt y hy⟩)
   go_wp2_with fail
   refine (QT.out _ _ _ _ _ (fH.alloc _).rd (iD.alloc _).rd).mono ?_
   rintro e w7 ⟨cs7,G7,rfl,iG,hb7⟩
   obtain ⟨hc7,hf7⟩:=ay hb7
   have WE:Below w.heap.size w w7:=ah atT hb7
   have hz0_7:w.heap.size < w7.heap.size:=sq hb7.size
   have aiP:w.heap.size+1 < w7.heap.size:=sq hb7.size
   have aiQ:p4 < w7.heap.size:=sq hb7.size
   have hz3_7:w5.heap.size < w7.heap.size:=sq hb7.size
   have hz4_7:w6.heap.size < w7.heap.size:=sq hb7.size
   first | replace hO4:=Own.ext hO4 hb7 | replace hO4:=Own.ext (hO4.alloc _) hb7 | replace hO4:=Own.ext ((hO4.alloc _).alloc _) hb7
   first | replace fH:=Own.ext fH hb7 | replace fH:=Own.ext (fH.alloc _) hb7 | replace fH:=Own.ext ((fH.alloc _).alloc _) hb7
   first | replace iD:=Own.ext iD hb7 | replace iD:=Own.ext (iD.alloc _) hb7 | replace iD:=Own.ext ((iD.alloc _).alloc _) hb7
   have Rj:=iG.rd
   obtain ⟨Po,Pq,ae3,Vx,Vy,ajJ,hck,hG7,ae4,ajK,ajL,Nw,JE,Ny⟩:=aO Rj
   subst hck
   clear hG7 Rj
   have h67:w6.heap.size < w7.heap.size:=sq hb7.size
   have HG7:=Lib.hid (show ∀y∈G7,w6.heap.size < y∧y < w7.heap.size from fun y hy=>⟨by have:=iG.base y hy;(try simp at this);omega,iG.lt y hy⟩)
   go_wp2_with fail
   refine (gY r r _ _ _ _ _ (iG.alloc _).rd (hO4.alloc _).rd).mono ?_
   rw [HSL.out]
   rintro e w8 ⟨rfl,hb8⟩
   obtain ⟨hc8,hf8⟩:=ay hb8
   have XA:Below w.heap.size w w8:=ah atT hb8
   have hz0_8:w.heap.size < w8.heap.size:=sq hb8.size
   have aiR:w.heap.size+1 < w8.heap.size:=sq hb8.size
   have aiS:p4 < w8.heap.size:=sq hb8.size
   have hz3_8:w5.heap.size < w8.heap.size:=sq hb8.size
   have hz4_8:w6.heap.size < w8.heap.size:=sq hb8.size
   have hz5_8:w7.heap.size < w8.heap.size:=sq hb8.size
   first | replace hO4:=Own.ext hO4 hb8 | replace hO4:=Own.ext (hO4.alloc _) hb8 | replace hO4:=Own.ext ((hO4.alloc _).alloc _) hb8
   first | replace fH:=Own.ext fH hb8 | replace fH:=Own.ext (fH.alloc _) hb8 | replace fH:=Own.ext ((fH.alloc _).alloc _) hb8
   first | replace iD:=Own.ext iD hb8 | replace iD:=Own.ext (iD.alloc _) hb8 | replace iD:=Own.ext ((iD.alloc _).alloc _) hb8
   first | replace iG:=Own.ext iG hb8 | replace iG:=Own.ext (iG.alloc _) hb8 | replace iG:=Own.ext ((iG.alloc _).alloc _) hb8
   go_wp2_with fail
   refine fV w8 2 (by kernel_rfl) (by kernel_rfl) (fun _ _ d _ _ h=>by cases d <;> exact h) (aj _) ?_
   simp only [List.take_succ_cons,List.take_zero,List.drop_succ_cons,List.drop_zero]
   iterate 2
    (apply dR
     case hy =>
      exact Zacf
     simp only [Act.put,pz])
   refine fE ?_
   refine aK rfl (fun K hK=>?_)
   go_simp
   refine (bF x _ _ _ (aZ h atT) Du.out).mono ?_
   rintro e w9 ⟨cs9,G9,rfl,SY,xB⟩
   have hR9:=SY.rd
   obtain ⟨Pe,Pg,Ph,Vo,Vp,Vq,hck,hG9,Pj,Vr,Vs,zF,wB,zG⟩:=aO hR9
   subst hck
   clear hG9 hR9
   have hbx:Below w8.heap.size w8 w9:=ah (aA (aj _)) xB
   refine hK _ _ hbx (fun _=>?_)
   try simp only [Act.put,pz]
   clear hK K
   refine aK rfl (fun K hK=>?_)
   go_simp
   refine (gY x x _ _ _ _ _ (fH.ext hbx).rd SY.rd).mono ?_
   rw [afR.out]
   rintro e w10 ⟨rfl,fP⟩
   replace hbx:=ah hbx fP
   refine hK _ _ hbx (fun _=>?_)
   try simp only [Act.put,pz]
   clear hK K
   refine aK rfl (fun K hK=>?_)
   go_simp
   refine hK _ _ hbx (fun _=>?_)
   try simp only [Act.put,pz]
   clear hK K
   refine dX ?_
   replace fP:=hbx
   clear hbx xB SY
   obtain ⟨KH,afK⟩:=ay fP
   have Qi:Below w.heap.size w w10:=ah XA fP
   have aq7:w.heap.size < w10.heap.size:=sq fP.size
   have aq8:w.heap.size+1 < w10.heap.size:=sq fP.size
   have aq9:p4 < w10.heap.size:=sq fP.size
   have ara:w5.heap.size < w10.heap.size:=sq fP.size
   have hz4_10:w6.heap.size < w10.heap.size:=sq fP.size
   have hz5_10:w7.heap.size < w10.heap.size:=sq fP.size
   first | replace hO4:=Own.ext hO4 fP | replace hO4:=Own.ext (hO4.alloc _) fP | replace hO4:=Own.ext ((hO4.alloc _).alloc _) fP
   first | replace fH:=Own.ext fH fP | replace fH:=Own.ext (fH.alloc _) fP | replace fH:=Own.ext ((fH.alloc _).alloc _) fP
   first | replace iD:=Own.ext iD fP | replace iD:=Own.ext (iD.alloc _) fP | replace iD:=Own.ext ((iD.alloc _).alloc _) fP
   first | replace iG:=Own.ext iG fP | replace iG:=Own.ext (iG.alloc _) fP | replace iG:=Own.ext ((iG.alloc _).alloc _) fP
   go_wp2_with fail
   refine fV w10 2 (by kernel_rfl) (by kernel_rfl) (fun _ _ d _ _ h=>by cases d <;> exact h) (aj _) ?_
   simp only [List.take_succ_cons,List.take_zero,List.drop_succ_cons,List.drop_zero]
   iterate 2
    (apply dR
     case hy =>
      exact Zacf
     simp only [Act.put,pz])
   refine fE ?_
   refine aK rfl (fun K hK=>?_)
   go_simp
   refine (kD u _ _ _ (aZ h' atT) HWU.out).mono ?_
   rintro e zu ⟨cs11,G11,rfl,oz,lQ⟩
   have Uj:=oz.rd
   obtain ⟨Uk,Ul,Um,XB,XC,XD,Jp,Jq,Jr,hck,acT,abH,Un,afL,afM,abI,XE,Js⟩:=dL Uj
   subst hck
   clear acT Uj
   have hbx:Below w10.heap.size w10 zu:=ah (aA (aj _)) lQ
   refine hK _ _ hbx (fun _=>?_)
   try simp only [Act.put,pz]
   clear hK K
   refine aK rfl (fun K hK=>?_)
   go_simp
   refine (yj u u _ _ _ _ _ (iD.ext hbx).rd oz.rd).mono ?_
   rw [HSAMEu.out]
   rintro e w12 ⟨rfl,iL⟩
   replace hbx:=ah hbx iL
   refine hK _ _ hbx (fun _=>?_)
   try simp only [Act.put,pz]
   clear hK K
   refine aK rfl (fun K hK=>?_)
   go_simp
   refine hK _ _ hbx (fun _=>?_)
   try simp only [Act.put,pz]
   clear hK K
   refine dX ?_
   replace iL:=hbx
   clear hbx lQ oz
   obtain ⟨hc12,afN⟩:=ay iL
   have Tc:Below w.heap.size w w12:=ah Qi iL
   have ark:w.heap.size < w12.heap.size:=sq iL.size
   have arl:w.heap.size+1 < w12.heap.size:=sq iL.size
   have arn:p4 < w12.heap.size:=sq iL.size
   have hz3_12:w5.heap.size < w12.heap.size:=sq iL.size
   have hz4_12:w6.heap.size < w12.heap.size:=sq iL.size
   have hz5_12:w7.heap.size < w12.heap.size:=sq iL.size
   first | replace hO4:=Own.ext hO4 iL | replace hO4:=Own.ext (hO4.alloc _) iL | replace hO4:=Own.ext ((hO4.alloc _).alloc _) iL
   first | replace fH:=Own.ext fH iL | replace fH:=Own.ext (fH.alloc _) iL | replace fH:=Own.ext ((fH.alloc _).alloc _) iL
   first | replace iD:=Own.ext iD iL | replace iD:=Own.ext (iD.alloc _) iL | replace iD:=Own.ext ((iD.alloc _).alloc _) iL
   first | replace iG:=Own.ext iG iL | replace iG:=Own.ext (iG.alloc _) iL | replace iG:=Own.ext ((iG.alloc _).alloc _) iL
   go_wp2_with fail
   refine (oI x _ _ _ 1 _ fH (by omega) (by omega)).mono ?_
   rintro e Hy ⟨rfl,oD,LD⟩
   have aro:∀o,Hy.cell? ⟨w.heap.size,o,none⟩ = w12.cell? ⟨w.heap.size,o,none⟩:=fun o=>World.cell?_of_block (LD.block _ (by omega) (fun hg=>by have:=HG5.out (w.heap.size) hg;omega))
   have arp:w.heap.size < Hy.heap.size:=by have:=LD.size;omega
   have arq:∀o,Hy.cell? ⟨w.heap.size+1,o,none⟩ = w12.cell? ⟨w.heap.size+1,o,none⟩:=fun o=>World.cell?_of_block (LD.block _ (by omega) (fun hg=>by have:=HG5.out (w.heap.size+1) hg;omega))
   have ars:w.heap.size+1 < Hy.heap.size:=by have:=LD.size;omega
   have aru:∀o,Hy.cell? ⟨p4,o,none⟩ = w12.cell? ⟨p4,o,none⟩:=fun o=>World.cell?_of_block (LD.block _ (by omega) (fun hg=>by have:=HG5.out (p4) hg;omega))
   have arv:p4 < Hy.heap.size:=by have:=LD.size;omega
   have hx3_13:∀o,Hy.cell? ⟨w6.heap.size,o,none⟩ = w12.cell? ⟨w6.heap.size,o,none⟩:=fun o=>World.cell?_of_block (LD.block _ (by omega) (fun hg=>by have:=HG5.out (w6.heap.size) hg;omega))
   have hz3_13:w6.heap.size < Hy.heap.size:=by have:=LD.size;omega
   have hx4_13:∀o,Hy.cell? ⟨w7.heap.size,o,none⟩ = w12.cell? ⟨w7.heap.size,o,none⟩:=fun o=>World.cell?_of_block (LD.block _ (by omega) (fun hg=>by have:=HG5.out (w7.heap.size) hg;omega))
   have hz4_13:w7.heap.size < Hy.heap.size:=by have:=LD.size;omega
   have aeo:Below w.heap.size w Hy:=Tc.trans (LD.below (fun y hy=>by have:=HG5.out y hy;omega) (by omega))
   replace hO4:=LD.own hO4 (fun y hy hg=>by have:=Zn.out y hy;have:=HG5.out y hg;omega)
   replace iD:=LD.own iD (fun y hy hg=>by have:=HG6.out y hy;have:=HG5.out y hg;omega)
   replace iG:=LD.own iG (fun y hy hg=>by have:=HG7.out y hy;have:=HG5.out y hg;omega)
   clear oD
   go_wp2_with fail
   refine (Oc u _ _ _ _ _ iD (by omega) (by omega)).mono ?_
   rintro e xA ⟨rfl,Hz,Qn⟩
   have hx0_14:∀o,xA.cell? ⟨w.heap.size,o,none⟩ = Hy.cell? ⟨w.heap.size,o,none⟩:=fun o=>World.cell?_of_block (Qn.block _ (by omega) (fun hg=>by have:=HG6.out (w.heap.size) hg;omega))
   have arw:w.heap.size < xA.heap.size:=by have:=Qn.size;omega
   have hx1_14:∀o,xA.cell? ⟨w.heap.size+1,o,none⟩ = Hy.cell? ⟨w.heap.size+1,o,none⟩:=fun o=>World.cell?_of_block (Qn.block _ (by omega) (fun hg=>by have:=HG6.out (w.heap.size+1) hg;omega))
   have arx:w.heap.size+1 < xA.heap.size:=by have:=Qn.size;omega
   have hx2_14:∀o,xA.cell? ⟨p4,o,none⟩ = Hy.cell? ⟨p4,o,none⟩:=fun o=>World.cell?_of_block (Qn.block _ (by omega) (fun hg=>by have:=HG6.out (p4) hg;omega))
   have arz:p4 < xA.heap.size:=by have:=Qn.size;omega
   have hx3_14:∀o,xA.cell? ⟨w7.heap.size,o,none⟩ = Hy.cell? ⟨w7.heap.size,o,none⟩:=fun o=>World.cell?_of_block (Qn.block _ (by omega) (fun hg=>by have:=HG6.out (w7.heap.size) hg;omega))
   have hz3_14:w7.heap.size < xA.heap.size:=by have:=Qn.size;omega
   have WY:Below w.heap.size w xA:=aeo.trans (Qn.below (fun y hy=>by have:=HG6.out y hy;omega) (by omega))
   replace hO4:=Qn.own hO4 (fun y hy hg=>by have:=Zn.out y hy;have:=HG6.out y hg;omega)
   replace iG:=Qn.own iG (fun y hy hg=>by have:=HG7.out y hy;have:=HG6.out y hg;omega)
   clear Hz
   go_wp2_with fail
   refine (gY r r _ _ _ _ _ iG.rd hO4.rd).mono ?_
   rw [HSL.out]
   rintro e Y7 ⟨rfl,EP⟩
   obtain ⟨hc15,hf15⟩:=ay EP
   have hB15:Below w.heap.size w Y7:=ah atT EP
   have hz0_15:w.heap.size < Y7.heap.size:=sq EP.size
   have hz1_15:w.heap.size+1 < Y7.heap.size:=sq EP.size
   have hz2_15:p4 < Y7.heap.size:=sq EP.size
   have hz3_15:w7.heap.size < Y7.heap.size:=sq EP.size
   first | replace hO4:=Own.ext hO4 EP | replace hO4:=Own.ext (hO4.alloc _) EP | replace hO4:=Own.ext ((hO4.alloc _).alloc _) EP
   first | replace iG:=Own.ext iG EP | replace iG:=Own.ext (iG.alloc _) EP | replace iG:=Own.ext ((iG.alloc _).alloc _) EP
   go_wp2_with fail
   refine (oI r _ _ _ 1 _ iG (by omega) (by omega)).mono ?_
   rintro e w16 ⟨rfl,hO16,hU16⟩
   have hx0_16:∀o,w16.cell? ⟨w.heap.size,o,none⟩ = Y7.cell? ⟨w.heap.size,o,none⟩:=fun o=>World.cell?_of_block (hU16.block _ (by omega) (fun hg=>by have:=HG7.out (w.heap.size) hg;omega))
   have hz0_16:w.heap.size < w16.heap.size:=by have:=hU16.size;omega
   have hx1_16:∀o,w16.cell? ⟨w.heap.size+1,o,none⟩ = Y7.cell? ⟨w.heap.size+1,o,none⟩:=fun o=>World.cell?_of_block (hU16.block _ (by omega) (fun hg=>by have:=HG7.out (w.heap.size+1) hg;omega))
   have hz1_16:w.heap.size+1 < w16.heap.size:=by have:=hU16.size;omega
   have hx2_16:∀o,w16.cell? ⟨p4,o,none⟩ = Y7.cell? ⟨p4,o,none⟩:=fun o=>World.cell?_of_block (hU16.block _ (by omega) (fun hg=>by have:=HG7.out (p4) hg;omega))
   have hz2_16:p4 < w16.heap.size:=by have:=hU16.size;omega
   have hx3_16:∀o,w16.cell? ⟨w7.heap.size,o,none⟩ = Y7.cell? ⟨w7.heap.size,o,none⟩:=fun o=>World.cell?_of_block (hU16.block _ (by omega) (fun hg=>by have:=HG7.out (w7.heap.size) hg;omega))
   have hz3_16:w7.heap.size < w16.heap.size:=by have:=hU16.size;omega
   have acV:Below w.heap.size w w16:=hB15.trans (hU16.below (fun y hy=>by have:=HG7.out y hy;omega) (by omega))
   replace hO4:=hU16.own hO4 (fun y hy hg=>by have:=Zn.out y hy;have:=HG7.out y hg;omega)
   go_wp2_with fail
   refine (uz (qF r 1) _ G7 1 _ hO16.rd (vG _ _) (by omega) au7).mono ?_
   rw [lN]
   rintro e UY ⟨rfl,Ai⟩
   obtain ⟨hc17,hf17⟩:=ay Ai
   have hB17:Below w.heap.size w UY:=ah atT Ai
   have arE:w.heap.size < UY.heap.size:=sq Ai.size
   have arF:w.heap.size+1 < UY.heap.size:=sq Ai.size
   have arG:p4 < UY.heap.size:=sq Ai.size
   have hz3_17:w7.heap.size < UY.heap.size:=sq Ai.size
   first | replace hO4:=Own.ext hO4 Ai | replace hO4:=Own.ext (hO4.alloc _) Ai | replace hO4:=Own.ext ((hO4.alloc _).alloc _) Ai
   first | replace hO16:=Own.ext hO16 Ai | replace hO16:=Own.ext (hO16.alloc _) Ai | replace hO16:=Own.ext ((hO16.alloc _).alloc _) Ai
   go_wp2_with fail
   refine zU UY 11 (by kernel_rfl) (by kernel_rfl) (aj _) ?_
   refine YU (fun a0 a' w'=>∃(p20:Nat) (Ahosts20 Apods20:Option Addr) (chosts20 cpods20:Nat) (G20:List Nat) (v20_0 v20_1 v20_2 v20_3 v20_4 v20_5 v20_6 v20_7:Value),a' = (Act.put (Act.put (Act.put (Act.put (Act.put (Act.put (Act.put (Act.put (Act.put (Act.put a0 (some 95) (v20_0)) (some 96) (v20_1)) (some 97) (v20_2)) (some 98) (v20_3)) (some 99) (v20_4)) (some 94) (v20_5)) (some 100) (v20_6)) (some 101) (v20_7)) (some 15) (.pointer (some ⟨p20,0,none⟩))) (some 16) (.int .i64 cd))∧Below UY.heap.size UY w'∧UY.heap.size≤p20∧oG w' p20 [.slice Ahosts20 r.hosts.length chosts20,.slice Apods20 r.au.length cpods20,.int .i64 r.next,.int .i64 r.weights.pack,.int .i64 r.weights.spread,.int .i64 r.weights.soft]∧(∀y∈G20,y≠p20∧UY.heap.size≤y)∧Own w' UY.heap.size r [.slice Ahosts20 r.hosts.length chosts20,.slice Apods20 r.au.length cpods20,.int .i64 r.next,.int .i64 r.weights.pack,.int .i64 r.weights.spread,.int .i64 r.weights.soft] G20) ?_ ?_
   rotate_left
   ·intro HK
    have hbx:Below UY.heap.size UY UY.drew:=aA (aj _)
    refine aX 0 _ (by rfl) (by kernel_rfl) (fun _ _ d _ _ h=>by cases d <;> exact h) aud (Or.inl ⟨rfl,fun wq hq=>by
     have hcq:=(aB hq).1
     go_simp
     try rfl⟩) ?_
    try simp only [Act.put,pz]
    refine aX 2 _ (by rfl) (by kernel_rfl) (fun _ _ d _ _ h=>by cases d <;> exact h) aud (Or.inl ⟨rfl,fun wq hq=>by
     have hcq:=(aB hq).1
     go_simp
     try rfl⟩) ?_
    try simp only [Act.put,pz]
    refine D7 1 8 (by rfl) (by rfl) (by kernel_rfl) (by rfl) (by rfl) (fun K hK=>?_) (fun K hK=>?_)
    ·go_simp
     refine (bF x _ _ _ (aZ h (ah hB17 hbx)) Du.out).mono ?_
     rintro e w200 ⟨csa,Ga,rfl,Me,hb200⟩
     have hRa:=Me.rd
     obtain ⟨akB,akC,akD,aom,aon,aoo,hck,hGa,akE,aop,aoq,TA,OG,TB⟩:=aO hRa
     subst hck
     clear hGa hRa
     replace hbx:=ah hbx hb200
     refine hK _ _ hbx ?_
     try simp only [Act.put,pz]
     clear hK K
     refine D7 3 8 (by rfl) (by rfl) (by kernel_rfl) (by rfl) (by rfl) (fun K hK=>?_) (fun K hK=>?_)
     ·go_simp
      refine (kD u _ _ _ (aZ h' (ah hB17 hbx)) HWU.out).mono ?_
      rintro e w201 ⟨csb,Gb,rfl,hOb,hb201⟩
      replace Me:=Me.ext hb201
      have hRb:=hOb.rd
      obtain ⟨Alabelsb,clabelsb,Flabelsb,Aneedsb,cneedsb,Fneedsb,Atolerancesb,ctolerancesb,Ftolerancesb,hck,hGb,hnameb,hlabelsb,hcpub,hmemb,hrankb,hneedsb,htolerancesb⟩:=dL hRb
      subst hck
      clear hGb hRb
      replace hbx:=ah hbx hb201
      refine hK _ _ hbx ?_
      try simp only [Act.put,pz]
      clear hK K
      refine D7 4 8 (by rfl) (by rfl) (by kernel_rfl) (by rfl) (by rfl) (fun K hK=>?_) (fun K hK=>?_)
      ·go_simp
       refine (QT.out _ _ _ _ _ Me.rd hOb.rd).mono ?_
       rintro e w202 ⟨_,GR,rfl,hOr,hb202⟩
       replace Me:=Me.ext hb202
       replace hOb:=hOb.ext hb202
       have hRr:=hOr.rd
       obtain ⟨kM,kN,ND,ny,nC,TD,hck,hGr,NG,TF,TG,xI,uD,xJ⟩:=aO hRr
       subst hck
       clear hGr hRr
       have hwB:UY.heap.size≤_:=hbx.size
       replace hbx:=ah hbx hb202
       refine hK _ _ hbx ?_
       try simp only [Act.put,pz]
       clear hK K
       replace hOr:=hOr.mono (B':=UY.heap.size) hwB
       refine aX 5 _ (by rfl) (by kernel_rfl) (fun _ _ d _ _ h=>by cases d <;> exact h) aud (Or.inl ⟨rfl,fun wq hq=>by
        have hcq:=(aB hq).1
        go_simp
        try rfl⟩) ?_
       try simp only [Act.put,pz]
       refine aX 6 _ (by rfl) (by kernel_rfl) (fun _ _ d _ _ h=>by cases d <;> exact h) aud (Or.inl ⟨rfl,fun wq hq=>by
        have hcq:=(aB hq).1
        go_simp
        try rfl⟩) ?_
       try simp only [Act.put,pz]
       refine aX 7 _ (by rfl) (by kernel_rfl) (fun _ _ d _ _ h=>by cases d <;> exact h) aud (Or.inl ⟨rfl,fun wq hq=>by
        have hcq:=(aB hq).1
        go_simp
        try rfl⟩) ?_
       try simp only [Act.put,pz]
       refine bP 8 (by rfl) (by kernel_rfl) (by rfl) (fun K hK=>?_)
       go_simp
       refine hK _ _ (ak hbx _) ?_
       try simp only [Act.put,pz]
       clear hK K
       have hpb:UY.heap.size≤w202.heap.size:=hbx.size
       have HP:oG (w202.alloc (.cells ([.slice none 0 0,.slice none 0 0,.int .i64 0,.int .i64 0,.int .i64 0,.int .i64 0]:List Value).toArray 39)) w202.heap.size [.slice none 0 0,.slice none 0 0,.int .i64 0,.int .i64 0,.int .i64 0,.int .i64 0]:=oG.new w202 [.slice none 0 0,.slice none 0 0,.int .i64 0,.int .i64 0,.int .i64 0,.int .i64 0] 39
       have hbx0:=hbx
       have hOr0:=hOr
       replace hbx:=ak hbx (.cells ([.slice none 0 0,.slice none 0 0,.int .i64 0,.int .i64 0,.int .i64 0,.int .i64 0]:List Value).toArray 39)
       replace Me:=Me.alloc (.cells ([.slice none 0 0,.slice none 0 0,.int .i64 0,.int .i64 0,.int .i64 0,.int .i64 0]:List Value).toArray 39)
       replace hOb:=hOb.alloc (.cells ([.slice none 0 0,.slice none 0 0,.int .i64 0,.int .i64 0,.int .i64 0,.int .i64 0]:List Value).toArray 39)
       have hGp:∀y∈GR,y≠w202.heap.size:=fun y hy=>by have:=hOr.lt y hy;omega
       replace hOr:=hOr.alloc (.cells ([.slice none 0 0,.slice none 0 0,.int .i64 0,.int .i64 0,.int .i64 0,.int .i64 0]:List Value).toArray 39)
       have kl:=HP.lt
       have kf:=HP.fz
       have k0:=HP.cell (i:=0) (u:=.slice none 0 0) rfl
       have k1:=HP.cell (i:=1) (u:=.slice none 0 0) rfl
       have k2:=HP.cell (i:=2) (u:=.int .i64 0) rfl
       have k3:=HP.cell (i:=3) (u:=.int .i64 0) rfl
       have k4:=HP.cell (i:=4) (u:=.int .i64 0) rfl
       have k5:=HP.cell (i:=5) (u:=.int .i64 0) rfl
       have Iz:∀y∈GR,y≠w202.heap.size:=hGp
       refine bP 9 (by rfl) (by kernel_rfl) (by rfl) (fun K hK=>?_)
       go_simp
       refine hK _ _ avu ?_
       try simp only [Act.put,pz]
       clear hK K
       refine bP 10 (by rfl) (by kernel_rfl) (by rfl) (fun K hK=>?_)
       go_simp
       refine hK _ _ avu ?_
       try simp only [Act.put,pz]
       clear hK K
       refine nR (by kernel_rfl) ?_
       exact HK _ _ ⟨w202.heap.size,_,_,_,_,GR,_,_,_,_,_,_,_,_,aum,(ak hbx0 _),hpb,(oG.new w202 [.slice kM r.hosts.length kN,.slice ny r.au.length nC,.int .i64 r.next,.int .i64 r.weights.pack,.int .i64 r.weights.spread,.int .i64 r.weights.soft] 39),(fun y hy=>⟨Iz y hy,hOr.base y hy⟩),(hOr0.alloc _)⟩
      ·go_simp
       refine hK _ _ (ak hbx _) ?_
       try simp only [Act.put,pz]
       clear hK K
       have hpb:UY.heap.size≤w201.heap.size:=hbx.size
       have HP:oG (w201.alloc (.cells ([.slice none 0 0,.slice none 0 0,.int .i64 0,.int .i64 0,.int .i64 0,.int .i64 0]:List Value).toArray 39)) w201.heap.size [.slice none 0 0,.slice none 0 0,.int .i64 0,.int .i64 0,.int .i64 0,.int .i64 0]:=oG.new w201 [.slice none 0 0,.slice none 0 0,.int .i64 0,.int .i64 0,.int .i64 0,.int .i64 0] 39
       replace hbx:=ak hbx (.cells ([.slice none 0 0,.slice none 0 0,.int .i64 0,.int .i64 0,.int .i64 0,.int .i64 0]:List Value).toArray 39)
       replace Me:=Me.alloc (.cells ([.slice none 0 0,.slice none 0 0,.int .i64 0,.int .i64 0,.int .i64 0,.int .i64 0]:List Value).toArray 39)
       replace hOb:=hOb.alloc (.cells ([.slice none 0 0,.slice none 0 0,.int .i64 0,.int .i64 0,.int .i64 0,.int .i64 0]:List Value).toArray 39)
       refine bP 4 (by rfl) (by kernel_rfl) (by rfl) (fun K hK=>?_)
       go_simp
       have hpl202:=HP.lt
       refine (QT.out _ _ _ _ _ Me.rd hOb.rd).mono ?_
       rintro e w202 ⟨_,GR,rfl,hOr,hb202⟩
       replace HP:=HP.ext hb202
       replace Me:=Me.ext hb202
       replace hOb:=hOb.ext hb202
       have hRr:=hOr.rd
       obtain ⟨kM,kN,ND,ny,nC,TD,hck,hGr,NG,TF,TG,xI,uD,xJ⟩:=aO hRr
       subst hck
       clear hGr hRr
       have hwB:UY.heap.size≤_:=hbx.size
       replace hbx:=ah hbx hb202
       refine hK _ _ hbx ?_
       try simp only [Act.put,pz]
       clear hK K
       have hGp:∀y∈GR,y≠w201.heap.size:=fun y hy=>by have:=hOr.base y hy;omega
       replace hOr:=hOr.mono (B':=UY.heap.size) hwB
       refine aX 5 _ (by rfl) (by kernel_rfl) (fun _ _ d _ _ h=>by cases d <;> exact h) aud (Or.inl ⟨rfl,fun wq hq=>by
        have hcq:=(aB hq).1
        go_simp
        try rfl⟩) ?_
       try simp only [Act.put,pz]
       refine aX 6 _ (by rfl) (by kernel_rfl) (fun _ _ d _ _ h=>by cases d <;> exact h) aud (Or.inl ⟨rfl,fun wq hq=>by
        have hcq:=(aB hq).1
        go_simp
        try rfl⟩) ?_
       try simp only [Act.put,pz]
       refine aX 7 _ (by rfl) (by kernel_rfl) (fun _ _ d _ _ h=>by cases d <;> exact h) aud (Or.inl ⟨rfl,fun wq hq=>by
        have hcq:=(aB hq).1
        go_simp
        try rfl⟩) ?_
       try simp only [Act.put,pz]
       have kl:=HP.lt
       have kf:=HP.fz
       have k0:=HP.cell (i:=0) (u:=.slice none 0 0) rfl
       have k1:=HP.cell (i:=1) (u:=.slice none 0 0) rfl
       have k2:=HP.cell (i:=2) (u:=.int .i64 0) rfl
       have k3:=HP.cell (i:=3) (u:=.int .i64 0) rfl
       have k4:=HP.cell (i:=4) (u:=.int .i64 0) rfl
       have k5:=HP.cell (i:=5) (u:=.int .i64 0) rfl
       have Iz:∀y∈GR,y≠w201.heap.size:=hGp
       refine bP 9 (by rfl) (by kernel_rfl) (by rfl) (fun K hK=>?_)
       go_simp
       refine hK _ _ (by unfold Cls;with_reducible exact (aC (p:=⟨w201.heap.size,5,none⟩) (aC (p:=⟨w201.heap.size,4,none⟩) (aC (p:=⟨w201.heap.size,3,none⟩) (aC (p:=⟨w201.heap.size,2,none⟩) (aC (p:=⟨w201.heap.size,1,none⟩) (aC (p:=⟨w201.heap.size,0,none⟩) hbx hpb (.slice kM r.hosts.length kN)) hpb (.slice ny r.au.length nC)) hpb (.int .i64 r.next)) hpb (.int .i64 r.weights.pack)) hpb (.int .i64 r.weights.spread)) hpb (.int .i64 r.weights.soft))) ?_
       try simp only [Act.put,pz]
       clear hK K
       refine bP 10 (by rfl) (by kernel_rfl) (by rfl) (fun K hK=>?_)
       go_simp
       refine hK _ _ (by unfold Cls;with_reducible exact (aC (p:=⟨w201.heap.size,5,none⟩) (aC (p:=⟨w201.heap.size,4,none⟩) (aC (p:=⟨w201.heap.size,3,none⟩) (aC (p:=⟨w201.heap.size,2,none⟩) (aC (p:=⟨w201.heap.size,1,none⟩) (aC (p:=⟨w201.heap.size,0,none⟩) hbx hpb (.slice kM r.hosts.length kN)) hpb (.slice ny r.au.length nC)) hpb (.int .i64 r.next)) hpb (.int .i64 r.weights.pack)) hpb (.int .i64 r.weights.spread)) hpb (.int .i64 r.weights.soft))) ?_
       try simp only [Act.put,pz]
       clear hK K
       refine nR (by kernel_rfl) ?_
       exact HK _ _ ⟨w201.heap.size,_,_,_,_,GR,_,_,_,_,_,_,_,_,aum,(aC (p:=⟨w201.heap.size,5,none⟩) (aC (p:=⟨w201.heap.size,4,none⟩) (aC (p:=⟨w201.heap.size,3,none⟩) (aC (p:=⟨w201.heap.size,2,none⟩) (aC (p:=⟨w201.heap.size,1,none⟩) (aC (p:=⟨w201.heap.size,0,none⟩) hbx hpb (.slice kM r.hosts.length kN)) hpb (.slice ny r.au.length nC)) hpb (.int .i64 r.next)) hpb (.int .i64 r.weights.pack)) hpb (.int .i64 r.weights.spread)) hpb (.int .i64 r.weights.soft)),hpb,((((((HP.put 0 (.slice kM r.hosts.length kN)).put 1 (.slice ny r.au.length nC)).put 2 (.int .i64 r.next)).put 3 (.int .i64 r.weights.pack)).put 4 (.int .i64 r.weights.spread)).put 5 (.int .i64 r.weights.soft)),(fun y hy=>⟨Iz y hy,hOr.base y hy⟩),(sH (c:=w201.heap.size) (i:=5) (u:=.int .i64 r.weights.soft) (sH (c:=w201.heap.size) (i:=4) (u:=.int .i64 r.weights.spread) (sH (c:=w201.heap.size) (i:=3) (u:=.int .i64 r.weights.pack) (sH (c:=w201.heap.size) (i:=2) (u:=.int .i64 r.next) (sH (c:=w201.heap.size) (i:=1) (u:=.slice ny r.au.length nC) (sH (c:=w201.heap.size) (i:=0) (u:=.slice kM r.hosts.length kN) hOr Iz) Iz) Iz) Iz) Iz) Iz)⟩
     ·go_simp
      refine hK _ _ (ak hbx _) ?_
      try simp only [Act.put,pz]
      clear hK K
      have hpb:UY.heap.size≤w200.heap.size:=hbx.size
      have HP:oG (w200.alloc (.cells ([.slice none 0 0,.slice none 0 0,.int .i64 0,.int .i64 0,.int .i64 0,.int .i64 0]:List Value).toArray 39)) w200.heap.size [.slice none 0 0,.slice none 0 0,.int .i64 0,.int .i64 0,.int .i64 0,.int .i64 0]:=oG.new w200 [.slice none 0 0,.slice none 0 0,.int .i64 0,.int .i64 0,.int .i64 0,.int .i64 0] 39
      replace hbx:=ak hbx (.cells ([.slice none 0 0,.slice none 0 0,.int .i64 0,.int .i64 0,.int .i64 0,.int .i64 0]:List Value).toArray 39)
      replace Me:=Me.alloc (.cells ([.slice none 0 0,.slice none 0 0,.int .i64 0,.int .i64 0,.int .i64 0,.int .i64 0]:List Value).toArray 39)
      refine bP 3 (by rfl) (by kernel_rfl) (by rfl) (fun K hK=>?_)
      go_simp
      have hpl201:=HP.lt
      refine (kD u _ _ _ (aZ h' (ah hB17 hbx)) HWU.out).mono ?_
      rintro e w201 ⟨csb,Gb,rfl,hOb,hb201⟩
      replace HP:=HP.ext hb201
      replace Me:=Me.ext hb201
      have hRb:=hOb.rd
      obtain ⟨Alabelsb,clabelsb,Flabelsb,Aneedsb,cneedsb,Fneedsb,Atolerancesb,ctolerancesb,Ftolerancesb,hck,hGb,hnameb,hlabelsb,hcpub,hmemb,hrankb,hneedsb,htolerancesb⟩:=dL hRb
      subst hck
      clear hGb hRb
      replace hbx:=ah hbx hb201
      refine hK _ _ hbx ?_
      try simp only [Act.put,pz]
      clear hK K
      refine bP 4 (by rfl) (by kernel_rfl) (by rfl) (fun K hK=>?_)
      go_simp
      have hpl202:=HP.lt
      refine (QT.out _ _ _ _ _ Me.rd hOb.rd).mono ?_
      rintro e w202 ⟨_,GR,rfl,hOr,hb202⟩
      replace HP:=HP.ext hb202
      replace Me:=Me.ext hb202
      replace hOb:=hOb.ext hb202
      have hRr:=hOr.rd
      obtain ⟨kM,kN,ND,ny,nC,TD,hck,hGr,NG,TF,TG,xI,uD,xJ⟩:=aO hRr
      subst hck
      clear hGr hRr
      have hwB:UY.heap.size≤_:=hbx.size
      replace hbx:=ah hbx hb202
      refine hK _ _ hbx ?_
      try simp only [Act.put,pz]
      clear hK K
      have hGp:∀y∈GR,y≠w200.heap.size:=fun y hy=>by have:=hOr.base y hy;omega
      replace hOr:=hOr.mono (B':=UY.heap.size) hwB
      refine aX 5 _ (by rfl) (by kernel_rfl) (fun _ _ d _ _ h=>by cases d <;> exact h) aud (Or.inl ⟨rfl,fun wq hq=>by
       have hcq:=(aB hq).1
       go_simp
       try rfl⟩) ?_
      try simp only [Act.put,pz]
      refine aX 6 _ (by rfl) (by kernel_rfl) (fun _ _ d _ _ h=>by cases d <;> exact h) aud (Or.inl ⟨rfl,fun wq hq=>by
       have hcq:=(aB hq).1
       go_simp
       try rfl⟩) ?_
      try simp only [Act.put,pz]
      refine aX 7 _ (by rfl) (by kernel_rfl) (fun _ _ d _ _ h=>by cases d <;> exact h) aud (Or.inl ⟨rfl,fun wq hq=>by
       have hcq:=(aB hq).1
       go_simp
       try rfl⟩) ?_
      try simp only [Act.put,pz]
      have kl:=HP.lt
      have kf:=HP.fz
      have k0:=HP.cell (i:=0) (u:=.slice none 0 0) rfl
      have k1:=HP.cell (i:=1) (u:=.slice none 0 0) rfl
      have k2:=HP.cell (i:=2) (u:=.int .i64 0) rfl
      have k3:=HP.cell (i:=3) (u:=.int .i64 0) rfl
      have k4:=HP.cell (i:=4) (u:=.int .i64 0) rfl
      have k5:=HP.cell (i:=5) (u:=.int .i64 0) rfl
      have Iz:∀y∈GR,y≠w200.heap.size:=hGp
      refine bP 9 (by rfl) (by kernel_rfl) (by rfl) (fun K hK=>?_)
      go_simp
      refine hK _ _ (by unfold Cls;with_reducible exact (aC (p:=⟨w200.heap.size,5,none⟩) (aC (p:=⟨w200.heap.size,4,none⟩) (aC (p:=⟨w200.heap.size,3,none⟩) (aC (p:=⟨w200.heap.size,2,none⟩) (aC (p:=⟨w200.heap.size,1,none⟩) (aC (p:=⟨w200.heap.size,0,none⟩) hbx hpb (.slice kM r.hosts.length kN)) hpb (.slice ny r.au.length nC)) hpb (.int .i64 r.next)) hpb (.int .i64 r.weights.pack)) hpb (.int .i64 r.weights.spread)) hpb (.int .i64 r.weights.soft))) ?_
      try simp only [Act.put,pz]
      clear hK K
      refine bP 10 (by rfl) (by kernel_rfl) (by rfl) (fun K hK=>?_)
      go_simp
      refine hK _ _ (by unfold Cls;with_reducible exact (aC (p:=⟨w200.heap.size,5,none⟩) (aC (p:=⟨w200.heap.size,4,none⟩) (aC (p:=⟨w200.heap.size,3,none⟩) (aC (p:=⟨w200.heap.size,2,none⟩) (aC (p:=⟨w200.heap.size,1,none⟩) (aC (p:=⟨w200.heap.size,0,none⟩) hbx hpb (.slice kM r.hosts.length kN)) hpb (.slice ny r.au.length nC)) hpb (.int .i64 r.next)) hpb (.int .i64 r.weights.pack)) hpb (.int .i64 r.weights.spread)) hpb (.int .i64 r.weights.soft))) ?_
      try simp only [Act.put,pz]
      clear hK K
      refine nR (by kernel_rfl) ?_
      exact HK _ _ ⟨w200.heap.size,_,_,_,_,GR,_,_,_,_,_,_,_,_,aum,(aC (p:=⟨w200.heap.size,5,none⟩) (aC (p:=⟨w200.heap.size,4,none⟩) (aC (p:=⟨w200.heap.size,3,none⟩) (aC (p:=⟨w200.heap.size,2,none⟩) (aC (p:=⟨w200.heap.size,1,none⟩) (aC (p:=⟨w200.heap.size,0,none⟩) hbx hpb (.slice kM r.hosts.length kN)) hpb (.slice ny r.au.length nC)) hpb (.int .i64 r.next)) hpb (.int .i64 r.weights.pack)) hpb (.int .i64 r.weights.spread)) hpb (.int .i64 r.weights.soft)),hpb,((((((HP.put 0 (.slice kM r.hosts.length kN)).put 1 (.slice ny r.au.length nC)).put 2 (.int .i64 r.next)).put 3 (.int .i64 r.weights.pack)).put 4 (.int .i64 r.weights.spread)).put 5 (.int .i64 r.weights.soft)),(fun y hy=>⟨Iz y hy,hOr.base y hy⟩),(sH (c:=w200.heap.size) (i:=5) (u:=.int .i64 r.weights.soft) (sH (c:=w200.heap.size) (i:=4) (u:=.int .i64 r.weights.spread) (sH (c:=w200.heap.size) (i:=3) (u:=.int .i64 r.weights.pack) (sH (c:=w200.heap.size) (i:=2) (u:=.int .i64 r.next) (sH (c:=w200.heap.size) (i:=1) (u:=.slice ny r.au.length nC) (sH (c:=w200.heap.size) (i:=0) (u:=.slice kM r.hosts.length kN) hOr Iz) Iz) Iz) Iz) Iz) Iz)⟩
    ·go_simp
     refine hK _ _ (ak hbx _) ?_
     try simp only [Act.put,pz]
     clear hK K
     have hpb:UY.heap.size≤UY.heap.size:=hbx.size
     have HP:oG (UY.drew.alloc (.cells ([.slice none 0 0,.slice none 0 0,.int .i64 0,.int .i64 0,.int .i64 0,.int .i64 0]:List Value).toArray 39)) UY.heap.size [.slice none 0 0,.slice none 0 0,.int .i64 0,.int .i64 0,.int .i64 0,.int .i64 0]:=oG.new UY.drew [.slice none 0 0,.slice none 0 0,.int .i64 0,.int .i64 0,.int .i64 0,.int .i64 0] 39
     replace hbx:=ak hbx (.cells ([.slice none 0 0,.slice none 0 0,.int .i64 0,.int .i64 0,.int .i64 0,.int .i64 0]:List Value).toArray 39)
     refine bP 1 (by rfl) (by kernel_rfl) (by rfl) (fun K hK=>?_)
     go_simp
     have hpl200:=HP.lt
     refine (bF x _ _ _ (aZ h (ah hB17 hbx)) Du.out).mono ?_
     rintro e w200 ⟨csa,Ga,rfl,Me,hb200⟩
     replace HP:=HP.ext hb200
     have hRa:=Me.rd
     obtain ⟨akB,akC,akD,aom,aon,aoo,hck,hGa,akE,aop,aoq,TA,OG,TB⟩:=aO hRa
     subst hck
     clear hGa hRa
     replace hbx:=ah hbx hb200
     refine hK _ _ hbx ?_
     try simp only [Act.put,pz]
     clear hK K
     refine bP 3 (by rfl) (by kernel_rfl) (by rfl) (fun K hK=>?_)
     go_simp
     have hpl201:=HP.lt
     refine (kD u _ _ _ (aZ h' (ah hB17 hbx)) HWU.out).mono ?_
     rintro e w201 ⟨csb,Gb,rfl,hOb,hb201⟩
     replace HP:=HP.ext hb201
     replace Me:=Me.ext hb201
     have hRb:=hOb.rd
     obtain ⟨Alabelsb,clabelsb,Flabelsb,Aneedsb,cneedsb,Fneedsb,Atolerancesb,ctolerancesb,Ftolerancesb,hck,hGb,hnameb,hlabelsb,hcpub,hmemb,hrankb,hneedsb,htolerancesb⟩:=dL hRb
     subst hck
     clear hGb hRb
     replace hbx:=ah hbx hb201
     refine hK _ _ hbx ?_
     try simp only [Act.put,pz]
     clear hK K
     refine bP 4 (by rfl) (by kernel_rfl) (by rfl) (fun K hK=>?_)
     go_simp
     have hpl202:=HP.lt
     refine (QT.out _ _ _ _ _ Me.rd hOb.rd).mono ?_
     rintro e w202 ⟨_,GR,rfl,hOr,hb202⟩
     replace HP:=HP.ext hb202
     replace Me:=Me.ext hb202
     replace hOb:=hOb.ext hb202
     have hRr:=hOr.rd
     obtain ⟨kM,kN,ND,ny,nC,TD,hck,hGr,NG,TF,TG,xI,uD,xJ⟩:=aO hRr
     subst hck
     clear hGr hRr
     have hwB:UY.heap.size≤_:=hbx.size
     replace hbx:=ah hbx hb202
     refine hK _ _ hbx ?_
     try simp only [Act.put,pz]
     clear hK K
     have hGp:∀y∈GR,y≠UY.heap.size:=fun y hy=>by have:=hOr.base y hy;omega
     replace hOr:=hOr.mono (B':=UY.heap.size) hwB
     refine aX 5 _ (by rfl) (by kernel_rfl) (fun _ _ d _ _ h=>by cases d <;> exact h) aud (Or.inl ⟨rfl,fun wq hq=>by
      have hcq:=(aB hq).1
      go_simp
      try rfl⟩) ?_
     try simp only [Act.put,pz]
     refine aX 6 _ (by rfl) (by kernel_rfl) (fun _ _ d _ _ h=>by cases d <;> exact h) aud (Or.inl ⟨rfl,fun wq hq=>by
      have hcq:=(aB hq).1
      go_simp
      try rfl⟩) ?_
     try simp only [Act.put,pz]
     refine aX 7 _ (by rfl) (by kernel_rfl) (fun _ _ d _ _ h=>by cases d <;> exact h) aud (Or.inl ⟨rfl,fun wq hq=>by
      have hcq:=(aB hq).1
      go_simp
      try rfl⟩) ?_
     try simp only [Act.put,pz]
     have kl:=HP.lt
     have kf:=HP.fz
     have k0:=HP.cell (i:=0) (u:=.slice none 0 0) rfl
     have k1:=HP.cell (i:=1) (u:=.slice none 0 0) rfl
     have k2:=HP.cell (i:=2) (u:=.int .i64 0) rfl
     have k3:=HP.cell (i:=3) (u:=.int .i64 0) rfl
     have k4:=HP.cell (i:=4) (u:=.int .i64 0) rfl
     have k5:=HP.cell (i:=5) (u:=.int .i64 0) rfl
     have Iz:∀y∈GR,y≠UY.heap.size:=hGp
     refine bP 9 (by rfl) (by kernel_rfl) (by rfl) (fun K hK=>?_)
     go_simp
     refine hK _ _ (by unfold Cls;with_reducible exact (aC (p:=⟨UY.heap.size,5,none⟩) (aC (p:=⟨UY.heap.size,4,none⟩) (aC (p:=⟨UY.heap.size,3,none⟩) (aC (p:=⟨UY.heap.size,2,none⟩) (aC (p:=⟨UY.heap.size,1,none⟩) (aC (p:=⟨UY.heap.size,0,none⟩) hbx hpb (.slice kM r.hosts.length kN)) hpb (.slice ny r.au.length nC)) hpb (.int .i64 r.next)) hpb (.int .i64 r.weights.pack)) hpb (.int .i64 r.weights.spread)) hpb (.int .i64 r.weights.soft))) ?_
     try simp only [Act.put,pz]
     clear hK K
     refine bP 10 (by rfl) (by kernel_rfl) (by rfl) (fun K hK=>?_)
     go_simp
     refine hK _ _ (by unfold Cls;with_reducible exact (aC (p:=⟨UY.heap.size,5,none⟩) (aC (p:=⟨UY.heap.size,4,none⟩) (aC (p:=⟨UY.heap.size,3,none⟩) (aC (p:=⟨UY.heap.size,2,none⟩) (aC (p:=⟨UY.heap.size,1,none⟩) (aC (p:=⟨UY.heap.size,0,none⟩) hbx hpb (.slice kM r.hosts.length kN)) hpb (.slice ny r.au.length nC)) hpb (.int .i64 r.next)) hpb (.int .i64 r.weights.pack)) hpb (.int .i64 r.weights.spread)) hpb (.int .i64 r.weights.soft))) ?_
     try simp only [Act.put,pz]
     clear hK K
     refine nR (by kernel_rfl) ?_
     exact HK _ _ ⟨UY.heap.size,_,_,_,_,GR,_,_,_,_,_,_,_,_,aum,(aC (p:=⟨UY.heap.size,5,none⟩) (aC (p:=⟨UY.heap.size,4,none⟩) (aC (p:=⟨UY.heap.size,3,none⟩) (aC (p:=⟨UY.heap.size,2,none⟩) (aC (p:=⟨UY.heap.size,1,none⟩) (aC (p:=⟨UY.heap.size,0,none⟩) hbx hpb (.slice kM r.hosts.length kN)) hpb (.slice ny r.au.length nC)) hpb (.int .i64 r.next)) hpb (.int .i64 r.weights.pack)) hpb (.int .i64 r.weights.spread)) hpb (.int .i64 r.weights.soft)),hpb,((((((HP.put 0 (.slice kM r.hosts.length kN)).put 1 (.slice ny r.au.length nC)).put 2 (.int .i64 r.next)).put 3 (.int .i64 r.weights.pack)).put 4 (.int .i64 r.weights.spread)).put 5 (.int .i64 r.weights.soft)),(fun y hy=>⟨Iz y hy,hOr.base y hy⟩),(sH (c:=UY.heap.size) (i:=5) (u:=.int .i64 r.weights.soft) (sH (c:=UY.heap.size) (i:=4) (u:=.int .i64 r.weights.spread) (sH (c:=UY.heap.size) (i:=3) (u:=.int .i64 r.weights.pack) (sH (c:=UY.heap.size) (i:=2) (u:=.int .i64 r.next) (sH (c:=UY.heap.size) (i:=1) (u:=.slice ny r.au.length nC) (sH (c:=UY.heap.size) (i:=0) (u:=.slice kM r.hosts.length kN) hOr Iz) Iz) Iz) Iz) Iz) Iz)⟩
   rintro a' w20 ⟨p20,Ahosts20,Apods20,chosts20,cpods20,G20,v20_0,v20_1,v20_2,v20_3,v20_4,v20_5,v20_6,v20_7,ha,agn,hpb20,HBX20,hGp20,aaA⟩
   subst ha
   try simp only [Act.put,pz]
   obtain ⟨hc20,hf20⟩:=ay agn
   have hB20:Below w.heap.size w w20:=ah hB17 agn
   have hz0_20:w.heap.size < w20.heap.size:=sq agn.size
   have hz1_20:w.heap.size+1 < w20.heap.size:=sq agn.size
   have hz2_20:p4 < w20.heap.size:=sq agn.size
   have hz3_20:w7.heap.size < w20.heap.size:=sq agn.size
   first | replace hO4:=Own.ext hO4 agn | replace hO4:=Own.ext (hO4.alloc _) agn | replace hO4:=Own.ext ((hO4.alloc _).alloc _) agn
   first | replace hO16:=Own.ext hO16 agn | replace hO16:=Own.ext (hO16.alloc _) agn | replace hO16:=Own.ext ((hO16.alloc _).alloc _) agn
   have hlp20:p20 < w20.heap.size:=HBX20.lt
   have bx20_0:=HBX20.cell (i:=0) (u:=.slice Ahosts20 r.hosts.length chosts20) rfl
   have bx20_1:=HBX20.cell (i:=1) (u:=.slice Apods20 r.au.length cpods20) rfl
   have bx20_2:=HBX20.cell (i:=2) (u:=.int .i64 r.next) rfl
   have bx20_3:=HBX20.cell (i:=3) (u:=.int .i64 r.weights.pack) rfl
   have bx20_4:=HBX20.cell (i:=4) (u:=.int .i64 r.weights.spread) rfl
   have bx20_5:=HBX20.cell (i:=5) (u:=.int .i64 r.weights.soft) rfl
   go_wp2_with fail
   refine (gY r r _ _ _ _ _ aaA.rd hO4.rd).mono ?_
   rw [HSL.out]
   rintro e w21 ⟨rfl,AP⟩
   obtain ⟨hc21,hf21⟩:=ay AP
   have hB21:Below w.heap.size w w21:=ah atT AP
   have hz0_21:w.heap.size < w21.heap.size:=sq AP.size
   have hz1_21:w.heap.size+1 < w21.heap.size:=sq AP.size
   have hz2_21:p4 < w21.heap.size:=sq AP.size
   have hz3_21:w7.heap.size < w21.heap.size:=sq AP.size
   first | replace hO4:=Own.ext hO4 AP | replace hO4:=Own.ext (hO4.alloc _) AP | replace hO4:=Own.ext ((hO4.alloc _).alloc _) AP
   first | replace hO16:=Own.ext hO16 AP | replace hO16:=Own.ext (hO16.alloc _) AP | replace hO16:=Own.ext ((hO16.alloc _).alloc _) AP
   first | replace aaA:=Own.ext aaA AP | replace aaA:=Own.ext (aaA.alloc _) AP | replace aaA:=Own.ext ((aaA.alloc _).alloc _) AP
   go_wp2_with fail
   refine (uz (qF r 1) _ G7 1 _ hO16.rd (vG _ _) (by omega) au7).mono ?_
   rw [lN]
   rintro e w22 ⟨rfl,yZ⟩
   obtain ⟨hc22,hf22⟩:=ay yZ
   have hB22:Below w.heap.size w w22:=ah atT yZ
   have hz0_22:w.heap.size < w22.heap.size:=sq yZ.size
   have hz1_22:w.heap.size+1 < w22.heap.size:=sq yZ.size
   have hz2_22:p4 < w22.heap.size:=sq yZ.size
   have hz3_22:w7.heap.size < w22.heap.size:=sq yZ.size
   first | replace hO4:=Own.ext hO4 yZ | replace hO4:=Own.ext (hO4.alloc _) yZ | replace hO4:=Own.ext ((hO4.alloc _).alloc _) yZ
   first | replace hO16:=Own.ext hO16 yZ | replace hO16:=Own.ext (hO16.alloc _) yZ | replace hO16:=Own.ext ((hO16.alloc _).alloc _) yZ
   first | replace aaA:=Own.ext aaA yZ | replace aaA:=Own.ext (aaA.alloc _) yZ | replace aaA:=Own.ext ((aaA.alloc _).alloc _) yZ
   go_wp2
   go_ret
   exact ⟨rfl,hB22⟩
  ·have hszu:xu u.wt (1048576 - x.wt) = -1:=by have:=bI u.wt (1048576 - x.wt);omega
   have HSZU:=Lib.hid hszu
   clear hszu hwu
   have hr:=h
   obtain ⟨bG,bD,fQ,dn,bW,jg,hck,qp,bQ,dM,hnext,aV,aP,aW⟩:=aO hr
   subst hck
   clear qp hr
   have hr':=h'
   obtain ⟨bY,bZ,iq,eU,eX,jV,bg,bn,dK,hck,qp,jW,dA,kQ,lg,lG,iO,bK⟩:=dL hr'
   subst hck
   clear qp hr'
   go_enter Tryz.func3,Tryz.ntmps3
   go_wp2_with fail
   refine (dB x _ _ _ _ (aZ h atT) (by omega) (by omega)).mono ?_
   rw [vK.out]
   rintro e w1 ⟨rfl,hb1⟩
   obtain ⟨hc1,hf1⟩:=ay hb1
   have hz1:w.heap.size+1 < w1.heap.size:=sq hb1.size
   have hy1:w.heap.size < w1.heap.size:=by omega
   go_wp2_with fail
   refine (pG u _ _ _ _ (aZ h' atT) (by omega) (by omega)).mono ?_
   rw [HSZU.out]
   rintro e w2 ⟨rfl,hb2⟩
   go_wp2
   go_ret
   exact ⟨rfl,atT⟩
 ·have hsz:xu x.wt 1048576 = -1:=by have:=bI x.wt 1048576;omega
  have vK:=Lib.hid hsz
  clear hsz hw
  have hr:=h
  obtain ⟨bG,bD,fQ,dn,bW,jg,hck,qp,bQ,dM,hnext,aV,aP,aW⟩:=aO hr
  subst hck
  clear qp hr
  have hr':=h'
  obtain ⟨bY,bZ,iq,eU,eX,jV,bg,bn,dK,hck,qp,jW,dA,kQ,lg,lG,iO,bK⟩:=dL hr'
  subst hck
  clear qp hr'
  go_enter Tryz.func3,Tryz.ntmps3
  go_wp2_with fail
  refine (dB x _ _ _ _ (aZ h atT) (by omega) (by omega)).mono ?_
  rw [vK.out]
  rintro e w1 ⟨rfl,hb1⟩
  go_wp2
  go_ret
  exact ⟨rfl,atT⟩
set_option maxRecDepth 100000 in
theorem gX {H:Type} {enc:TypeId × Value→H} (W:World) (base:Nat) (args:Array Value) (ds:List (DataW H)) (p:List MemPlace)
 (hval:∀(j:Nat) t v,Tryz.f3.params[j]? = some t→args[j]? = some v→Value.okWide Tryz.prog W .any base t v)
 (hA:DataW.TrodAll enc Tryz.prog W 0 (fun _=>true) true Tryz.f3.params.toList args.toList ds p) (hlt:∀x∈p,x.block < W.heap.size) :
 Calls Tryz.prog 3 args W fun e W'=>e = .returned (.bool true)∧Below W.heap.size W W':=by
 rw [Tryz.params3] at hA hval
 obtain ⟨v0,JM,d0,ds0,p0,q0,hargs,rfl,rfl,h0,r0⟩:=trodAll_cons hA
 obtain ⟨v1,vs1,d1,ds1,p1,q1,rfl,rfl,rfl,h1,r1⟩:=trodAll_cons r0
 obtain ⟨rfl,rfl,rfl⟩:=trodAll_nil r1
 obtain rfl:args = #[v0,v1]:=by cases args;simp_all
 have hv0:=hval 0 27 v0 rfl rfl
 obtain ⟨cs,rfl,_⟩:=okWide_struct Tryz.underlying27 hv0
 clear hv0
 have hv1:=hval 1 32 v1 rfl rfl
 obtain ⟨us,rfl,_⟩:=okWide_struct Tryz.underlying32 hv1
 clear hv1
 obtain ⟨fuel,hf⟩:=h0
 obtain ⟨x,F,hr⟩:=kR H enc W 0 fuel _ _ _ _ hf
 obtain ⟨fuel2,hf2⟩:=h1
 obtain ⟨u,Fu,hr2⟩:=Aw H enc W 0 fuel2 _ _ _ _ hf2
 exact walk x cs.toList F u us.toList Fu W hr hr2
theorem own:ownKnob Tryz.prog.godebug = none:=by kernel_rfl
theorem laid:laidOutB Tryz.prog = true:=by kernel_rfl
theorem readable:∀t∈Tryz.f3.params.toList,Tryz.prog.readableRec t = true∧t < Tryz.prog.types.size:=by
 have h:(Tryz.f3.params.toList.all fun t=>Tryz.prog.readableRec t&&decide (t < Tryz.prog.types.size)) = true:=by kernel_rfl
 intro t ht
 have:=List.all_eq_true.1 h t ht
 simpa using this
theorem fF {H:Type} {enc:TypeId × Value→H} {W:World} {args:List Value} {ds:List (DataW H)} {p:List MemPlace}
 (h:DataW.TrodAll enc Tryz.prog W 0 (fun _=>true) true Tryz.f3.params.toList args ds p):∃d0 d1,ds = [d0,d1]:=by
 rw [Tryz.params3] at h
 obtain ⟨v0,JM,d0,ds0,p0,q0,_,rfl,_,_,r0⟩:=trodAll_cons h
 obtain ⟨v1,vs1,d1,ds1,p1,q1,_,rfl,_,_,r1⟩:=trodAll_cons r0
 obtain ⟨_,rfl,_⟩:=trodAll_nil r1
 exact ⟨d0,d1,rfl⟩
set_option maxRecDepth 100000 in
theorem lifted (os:Os) (started:os.Started) (H:Type) (enc:TypeId × Value→H) :
 ReturnsInHanded {} Tryz.checked os 3 .any (Rows.fnExactSubmitPodSpec.pre6 enc Tryz.prog Tryz.f3 Rows.fnExactSubmitPodRow.domain false) (Rows.fnExactSubmitPodSpec.post enc Tryz.prog Tryz.f3 false true false false):=by
 refine returnsInHanded_of_change (C:=Tryz.checked) own started (by kernel_rfl) Tryz.func3
  (ChangeSpec.witness6 (enc:=enc) (C:=Tryz.checked) false ⟨#[],#[.agg #[.slice none 0 0,.slice none 0 0,.int .i64 0,.int .i64 0,.int .i64 0,.int .i64 0],.agg #[.string ⟨#[]⟩,.slice none 0 0,.int .i64 0,.int .i64 0,.int .i64 0,.slice none 0 0,.slice none 0 0]],[]⟩ 8 (by kernel_rfl) (by kernel_rfl) (by kernel_rfl) (by kernel_rfl)) ?_
 intro W base args ds gs before hval0 hW hcnd _
 have hlt:∀x∈before,x.block < W.heap.size:=fun x hx=>hW.lt x hx
 have hW':=hW
 obtain ⟨p,q,hA,hV,rfl,_,_⟩:=hW'
 exact (gX W base args ds p hval0 hA (fun x hx=>hlt x (List.mem_append_left _ hx))).mono fun e W' ⟨he,hb⟩ =>
  ⟨_,he,nO laid readable rfl Tryz.underlying4 rfl auo hW hb⟩
theorem over:Rows.fnExactSubmitPodRow.holds Tryz.pinned (OpenSpec.ofChange Rows.fnExactSubmitPodSpec) :=
 OpenClaim.holds_of_wide 3 Tryz.f3 rfl rfl rfl rfl rfl rfl rfl ⟨rfl,rfl,rfl,rfl,rfl⟩ rfl rfl rfl rfl rfl (by kernel_rfl) Tryz.func3 (by kernel_rfl)
  (of_decide_eq_true (by kernel_rfl)) auf
  (fun os started H enc _=>lifted os started H enc)
theorem proved:Rows.FnExactSubmitPodSaid :=
 over
#print axioms proved
end Go.Proofs.YtfdgeonannkmaaaGreat.fnExactSubmitPod
