/- PlacePod, of the reference. No condition. -/
import Derived.Test.YtogkjlcoadhpgaaGreatPlacePB
import Derived.Test.YtogkjlcoadhpgaaGreatClusterS
import Derived.Test.YtogkjlcoadhpgaaGreatShare
namespace Go.Proofs.YtogkjlcoadhpgaaGreat
open Go.ChangeShapes Go.WideShapes Go.ChangeAt Go.RowKit
set_option linter.unusedVariables false
set_option linter.unusedSimpArgs false
theorem ownNeQ {α:Type} [Dat α] {w:World} {B c i:Nat} {u:Value} {x:α} {cs:List Value} {F:List Nat} (h:Own w B x cs F) (hF:∀y∈F,y≠c):Own (w.setCell ⟨c,i,none⟩ u) B x cs F :=
 h.keep (fun y hy=>Below.heap_setCell _ _ _ _ avg) aua
set_option maxRecDepth 100000 in
set_option maxHeartbeats 8000000 in
theorem PlacePod_spec (x:aU) (cs:List Value) (F:List Nat) (nm:ByteArray) (w:World) (h:rd w x cs F) (hw:(x.wt:Int)≤1048576) :
 Calls Tryz.prog 16 #[.agg cs.toArray,.string nm] w fun e w'=>∃ds G,e = .returned (.tuple #[.agg ds.toArray,.string (placeP x nm).2.1,.int .i64 (placeP x nm).2.2])∧Own w' w.heap.size (placeP x nm).1 ds G∧Below w.heap.size w w':=by
 have hwx:x.wt = kL Host.wt x.hosts+kL Placed.wt x.au:=rfl
 have hpl:(x.au.length:Int)≤1048576:=by have h1:=gJ Placed.wt x.au;omega
 have HWQ:=Lib.hid (fun k (hk:k < x.au.length)=>(show (nI.wt x.au[k].aS:Int)≤1048576 by have:=rM (f:=Placed.wt) hk;have e:Placed.wt x.au[k] = nI.wt x.au[k].aS+x.au[k].on.size:=rfl;omega))
 have HW:=Lib.hid hw
 have Ji:=Lib.hid hpl
 clear hw hwx
 have hr:=h
 obtain ⟨bG,bD,fQ,dn,bW,jg,hck,qp,bQ,dM,hnext,aV,aP,aW⟩:=aO hr
 subst hck
 clear qp hr
 have hil:=Nc (p:=CG nm) x.au
 obtain ⟨r,hr0⟩:∃r,pK (CG nm) x.au = r:=⟨_,rfl⟩
 have HR:=Lib.hid hr0
 rw [hr0] at hil
 clear hr0
 have KT:=(oG.new w [.slice bG x.hosts.length bD,.slice dn x.au.length bW,.int .i64 x.next,.int .i64 x.weights.pack,.int .i64 x.weights.spread,.int .i64 x.weights.soft] 33).ext (ak (aj _) (.cells ([.slice none 0 0,.slice none 0 0,.int .i64 0,.int .i64 0,.int .i64 0,.int .i64 0]:List Value).toArray 33))
 have KR:oG ((w.alloc (.cells ([.slice bG x.hosts.length bD,.slice dn x.au.length bW,.int .i64 x.next,.int .i64 x.weights.pack,.int .i64 x.weights.spread,.int .i64 x.weights.soft]:List Value).toArray 33)).alloc (.cells ([.slice none 0 0,.slice none 0 0,.int .i64 0,.int .i64 0,.int .i64 0,.int .i64 0]:List Value).toArray 33)) (w.heap.size+1) [.slice none 0 0,.slice none 0 0,.int .i64 0,.int .i64 0,.int .i64 0,.int .i64 0]:=by have:=oG.new (w.alloc (.cells ([.slice bG x.hosts.length bD,.slice dn x.au.length bW,.int .i64 x.next,.int .i64 x.weights.pack,.int .i64 x.weights.spread,.int .i64 x.weights.soft]:List Value).toArray 33)) [.slice none 0 0,.slice none 0 0,.int .i64 0,.int .i64 0,.int .i64 0,.int .i64 0] 33;rw [World.size_alloc] at this;exact this
 go_enter Tryz.func16,Tryz.ntmps16
 go_wp2_with fail
 refine (BO x _ _ _ (aZ h (ak (ak (aj _) _) _)) HW.out).mono ?_
 rintro e w1 ⟨cs1,G1,rfl,hO,hb1⟩
 have hR1:=hO.rd
 obtain ⟨dG,bV,xq,dS,dJ,Bz,hck,hG1,oO,tq,wI,iV,gI,iW⟩:=aO hR1
 subst hck
 clear hG1 hR1
 have HG1:=Lib.hid (show ∀y∈G1,y < w1.heap.size from hO.lt)
 replace hO:=hO.mono (B':=w.heap.size+1+1) (by simp)
 have hB:Below w.heap.size w w1:=ah (ak (ak (aj _) _) _) hb1
 have hz1:w.heap.size+1 < w1.heap.size:=by have:=hb1.size;simp at this;omega
 replace KT:=KT.ext hb1
 replace KR:=KR.ext hb1
 have KB:=oG.new w1 [.slice dG x.hosts.length bV,.slice dS x.au.length dJ,.int .i64 x.next,.int .i64 x.weights.pack,.int .i64 x.weights.spread,.int .i64 x.weights.soft] 33
 have hA:Below w1.heap.size w1 (w1.alloc (.cells ([.slice dG x.hosts.length bV,.slice dS x.au.length dJ,.int .i64 x.next,.int .i64 x.weights.pack,.int .i64 x.weights.spread,.int .i64 x.weights.soft]:List Value).toArray 33)):=ak (aj _) _
 have hzb:w1.heap.size < (w1.alloc (.cells ([.slice dG x.hosts.length bV,.slice dS x.au.length dJ,.int .i64 x.next,.int .i64 x.weights.pack,.int .i64 x.weights.spread,.int .i64 x.weights.soft]:List Value).toArray 33)).heap.size:=by rw [World.size_alloc];omega
 replace KT:=KT.ext hA
 replace KR:=KR.ext hA
 replace hO:=hO.ext hA
 replace hB:=ah hB hA
 clear hA hb1
 have t0:=KT.cell (i:=0) (u:=.slice bG x.hosts.length bD) rfl
 have t1:=KT.cell (i:=1) (u:=.slice dn x.au.length bW) rfl
 have t2:=KT.cell (i:=2) (u:=.int .i64 x.next) rfl
 have t3:=KT.cell (i:=3) (u:=.int .i64 x.weights.pack) rfl
 have t4:=KT.cell (i:=4) (u:=.int .i64 x.weights.spread) rfl
 have t5:=KT.cell (i:=5) (u:=.int .i64 x.weights.soft) rfl
 have tl:=KT.lt
 go_wp2_with fail
 clear t0 t1 t2 t3 t4 t5 tl
 have KO:=qM x _ _ _ (aZ h hB) HW.out
 cases hc:iI x
 case' false =>
  rw [hc] at KO
  have HF:=Lib.hid (placeP_bad (nm:=nm) hc)
  clear hc
  refine KO.mono ?_
  rintro e w3 ⟨rfl,hb3⟩
  replace KT:=KT.ext hb3
  replace KB:=KB.ext hb3
  replace KR:=KR.ext hb3
  replace hO:=hO.ext hb3
  replace hB:=ah hB hb3
  replace hzb:=Nat.lt_of_lt_of_le hzb (Below.size hb3)
  clear KO hb3
  have m0:=KB.cell (i:=0) (u:=.slice dG x.hosts.length bV) rfl
  have m1:=KB.cell (i:=1) (u:=.slice dS x.au.length dJ) rfl
  have m2:=KB.cell (i:=2) (u:=.int .i64 x.next) rfl
  have m3:=KB.cell (i:=3) (u:=.int .i64 x.weights.pack) rfl
  have m4:=KB.cell (i:=4) (u:=.int .i64 x.weights.spread) rfl
  have m5:=KB.cell (i:=5) (u:=.int .i64 x.weights.soft) rfl
  have ml:=KB.lt
  have r0:=KR.cell (i:=0) (u:=.slice none 0 0) rfl
  have r1:=KR.cell (i:=1) (u:=.slice none 0 0) rfl
  have r2:=KR.cell (i:=2) (u:=.int .i64 0) rfl
  have r3:=KR.cell (i:=3) (u:=.int .i64 0) rfl
  have r4:=KR.cell (i:=4) (u:=.int .i64 0) rfl
  have r5:=KR.cell (i:=5) (u:=.int .i64 0) rfl
  have rf:=KR.fz
  have rl:=KR.lt
  have HO:=Lib.hid hO
  have HB:=Lib.hid hB
  clear hO hB KB KR KT
  go_wp2_with fail
  try dsimp only
  iterate 60 (first | go_step | skip)
  refine bodyPost_ret (v:=.tuple #[.agg #[.slice dG x.hosts.length bV,.slice dS x.au.length dJ,.int .i64 x.next,.int .i64 x.weights.pack,.int .i64 x.weights.spread,.int .i64 x.weights.soft],.string ⟨#[]⟩,.int .i64 1]) (by simp [results,Tryz.results16,go_sem, *]) rfl ?_
  exact Zaas
 rw [hc] at KO
 have HC:=Lib.hid hc
 clear hc
 refine KO.mono ?_
 rintro e w3 ⟨rfl,hb3⟩
 replace KT:=KT.ext hb3
 replace KB:=KB.ext hb3
 replace KR:=KR.ext hb3
 replace hO:=hO.ext hb3
 replace hB:=ah hB hb3
 replace hzb:=Nat.lt_of_lt_of_le hzb (Below.size hb3)
 clear KO hb3
 have t0:=KT.cell (i:=0) (u:=.slice bG x.hosts.length bD) rfl
 have t1:=KT.cell (i:=1) (u:=.slice dn x.au.length bW) rfl
 have t2:=KT.cell (i:=2) (u:=.int .i64 x.next) rfl
 have t3:=KT.cell (i:=3) (u:=.int .i64 x.weights.pack) rfl
 have t4:=KT.cell (i:=4) (u:=.int .i64 x.weights.spread) rfl
 have t5:=KT.cell (i:=5) (u:=.int .i64 x.weights.soft) rfl
 have tl:=KT.lt
 go_wp2_with fail
 clear t0 t1 t2 t3 t4 t5 tl
 have KP:=aaj x _ _ nm _ (aZ h hB) Ji.out
 rw [HR.out] at KP
 refine KP.mono ?_
 clear KP
 rintro e w2 ⟨rfl,hb2⟩
 replace KT:=KT.ext hb2
 replace KB:=KB.ext hb2
 replace KR:=KR.ext hb2
 replace hO:=hO.ext hb2
 replace hB:=ah hB hb2
 replace hzb:=Nat.lt_of_lt_of_le hzb (Below.size hb2)
 by_cases hng:r < 0
 case' pos =>
  have HF:=Lib.hid (placeP_none (nm:=nm) HC.out (by rw [HR.out];exact hng))
  have m0:=KB.cell (i:=0) (u:=.slice dG x.hosts.length bV) rfl
  have m1:=KB.cell (i:=1) (u:=.slice dS x.au.length dJ) rfl
  have m2:=KB.cell (i:=2) (u:=.int .i64 x.next) rfl
  have m3:=KB.cell (i:=3) (u:=.int .i64 x.weights.pack) rfl
  have m4:=KB.cell (i:=4) (u:=.int .i64 x.weights.spread) rfl
  have m5:=KB.cell (i:=5) (u:=.int .i64 x.weights.soft) rfl
  have ml:=KB.lt
  have r0:=KR.cell (i:=0) (u:=.slice none 0 0) rfl
  have r1:=KR.cell (i:=1) (u:=.slice none 0 0) rfl
  have r2:=KR.cell (i:=2) (u:=.int .i64 0) rfl
  have r3:=KR.cell (i:=3) (u:=.int .i64 0) rfl
  have r4:=KR.cell (i:=4) (u:=.int .i64 0) rfl
  have r5:=KR.cell (i:=5) (u:=.int .i64 0) rfl
  have rf:=KR.fz
  have rl:=KR.lt
  have HO:=Lib.hid hO
  have HB:=Lib.hid hB
  clear hO hB KB KR KT
  go_wp2_with fail
  try dsimp only
  iterate 60 (first | go_step | skip)
  refine bodyPost_ret (v:=.tuple #[.agg #[.slice dG x.hosts.length bV,.slice dS x.au.length dJ,.int .i64 x.next,.int .i64 x.weights.pack,.int .i64 x.weights.spread,.int .i64 x.weights.soft],.string ⟨#[]⟩,.int .i64 3]) (by simp [results,Tryz.results16,go_sem, *]) rfl ?_
  exact Zaas
 obtain ⟨k,hk0⟩:∃k:Nat,r = k:=⟨r.toNat,by omega⟩
 have hk:k < x.au.length:=by omega
 have HP:=Lib.hid (placeP_at (nm:=nm) HC.out (HR.out.trans hk0) hk)
 subst hk0
 have hWK:=HWQ.out k hk
 obtain ⟨b,o,ck,Fk,hA,o9,hbs,hr,hsub,hcc⟩:=Sl.get (α:=Placed) dM hk
 subst hA
 have hr2:=hr
 obtain ⟨c1,c2,F1,F2,hce,_,QS,_,_,_,_,hce2,_,⟨hon0,_,hon⟩,⟨hsq0,_,Ue⟩⟩:=hr2
 have abj:=QS
 obtain ⟨jM,jO,sN,Aneeds3,cneeds3,Fneeds3,Atolerances3,ctolerances3,Ftolerances3,hckp,hFp,zM,qY,Gt,Gw,hrank3,hneeds3,htolerances3⟩:=dL abj
 subst hon0 hsq0 hce2 hckp hce
 clear hFp abj hsub
 have q0:w2.cell? ⟨b,o+k * 9,none⟩ = some (.string x.au[k].aS.name):=((ay hB).1 b _ hbs).trans (by exact hcc 0 _ rfl)
 have q1:w2.cell? ⟨b,o+k * 9+1,none⟩ = some (.slice jM x.au[k].aS.labels.length jO):=((ay hB).1 b _ hbs).trans (by rw [Nat.add_assoc];exact hcc 1 _ rfl)
 have q2:w2.cell? ⟨b,o+k * 9+2,none⟩ = some (.int .i64 x.au[k].aS.cpu):=((ay hB).1 b _ hbs).trans (by rw [Nat.add_assoc];exact hcc 2 _ rfl)
 have q3:w2.cell? ⟨b,o+k * 9+3,none⟩ = some (.int .i64 x.au[k].aS.mem):=((ay hB).1 b _ hbs).trans (by rw [Nat.add_assoc];exact hcc 3 _ rfl)
 have q4:w2.cell? ⟨b,o+k * 9+4,none⟩ = some (.int .i64 x.au[k].aS.rank):=((ay hB).1 b _ hbs).trans (by rw [Nat.add_assoc];exact hcc 4 _ rfl)
 have q5:w2.cell? ⟨b,o+k * 9+5,none⟩ = some (.slice Aneeds3 x.au[k].aS.needs.length cneeds3):=((ay hB).1 b _ hbs).trans (by rw [Nat.add_assoc];exact hcc 5 _ rfl)
 have q6:w2.cell? ⟨b,o+k * 9+6,none⟩ = some (.slice Atolerances3 x.au[k].aS.tolerances.length ctolerances3):=((ay hB).1 b _ hbs).trans (by rw [Nat.add_assoc];exact hcc 6 _ rfl)
 have q7:w2.cell? ⟨b,o+k * 9+7,none⟩ = some (.string x.au[k].on):=((ay hB).1 b _ hbs).trans (by rw [Nat.add_assoc];exact hcc 7 _ rfl)
 have q8:w2.cell? ⟨b,o+k * 9+8,none⟩ = some (.int .i64 x.au[k].seq):=((ay hB).1 b _ hbs).trans (by rw [Nat.add_assoc];exact hcc 8 _ rfl)
 have qb:=Nat.lt_of_lt_of_le hbs hB.size
 have t0:=KT.cell (i:=0) (u:=.slice bG x.hosts.length bD) rfl
 have t1:=KT.cell (i:=1) (u:=.slice (some ⟨b,o,none⟩) x.au.length bW) rfl
 have t2:=KT.cell (i:=2) (u:=.int .i64 x.next) rfl
 have t3:=KT.cell (i:=3) (u:=.int .i64 x.weights.pack) rfl
 have t4:=KT.cell (i:=4) (u:=.int .i64 x.weights.spread) rfl
 have t5:=KT.cell (i:=5) (u:=.int .i64 x.weights.soft) rfl
 have tl:=KT.lt
 by_cases anH:0 < x.au[k].on.size
 case' pos =>
  have hne:=Y3 anH
  have hne2:(x.au[k].on.toList != []) = true:=by rw [bne,hne];rfl
  have HF:=Lib.hid (HP.out.trans (show placeQ x k x.au[k] = (x,⟨#[]⟩,5) by unfold placeQ;exact if_neg (by omega)))
  clear anH
  have m0:=KB.cell (i:=0) (u:=.slice dG x.hosts.length bV) rfl
  have m1:=KB.cell (i:=1) (u:=.slice dS x.au.length dJ) rfl
  have m2:=KB.cell (i:=2) (u:=.int .i64 x.next) rfl
  have m3:=KB.cell (i:=3) (u:=.int .i64 x.weights.pack) rfl
  have m4:=KB.cell (i:=4) (u:=.int .i64 x.weights.spread) rfl
  have m5:=KB.cell (i:=5) (u:=.int .i64 x.weights.soft) rfl
  have ml:=KB.lt
  have r0:=KR.cell (i:=0) (u:=.slice none 0 0) rfl
  have r1:=KR.cell (i:=1) (u:=.slice none 0 0) rfl
  have r2:=KR.cell (i:=2) (u:=.int .i64 0) rfl
  have r3:=KR.cell (i:=3) (u:=.int .i64 0) rfl
  have r4:=KR.cell (i:=4) (u:=.int .i64 0) rfl
  have r5:=KR.cell (i:=5) (u:=.int .i64 0) rfl
  have rf:=KR.fz
  have rl:=KR.lt
  have HO:=Lib.hid hO
  have HB:=Lib.hid hB
  clear hO hB KB KR KT
  go_wp2_with fail
  try dsimp only
  iterate 60 (first | go_step | skip)
  refine bodyPost_ret (v:=.tuple #[.agg #[.slice dG x.hosts.length bV,.slice dS x.au.length dJ,.int .i64 x.next,.int .i64 x.weights.pack,.int .i64 x.weights.spread,.int .i64 x.weights.soft],.string ⟨#[]⟩,.int .i64 5]) (by simp [results,Tryz.results16,go_sem, *]) rfl ?_
  exact Zaas
 have hoe:x.au[k].on = ⟨#[]⟩:=Y4 (by omega)
 have HP2:=Lib.hid (HP.out.trans (show placeQ x k x.au[k] = (if afg x x.au[k].aS = true then (⟨x.hosts,x.au.set k ⟨x.au[k].aS,aff x x.au[k].aS,x.au[k].seq⟩,x.next,x.weights⟩,aff x x.au[k].aS,0) else (x,⟨#[]⟩,6)) by unfold placeQ;exact if_pos (by rw [hoe];rfl)))
 rw [hoe] at q7
 clear hoe anH
 have hBS:=bestS_le x x.au[k].aS HW.out
 go_wp2_with fail
 have KBH:=Lib.hid (fun wq (hq:Below w.heap.size w wq)=>ahX x x.au[k].aS _ _ _ _ wq (aZ h hq) (aZ QS hq) HW.out hWK)
 cases hbb:afg x x.au[k].aS
 all_goals
  rw [hbb] at KBH HP2
  clear hbb
  refine aF _ (by kernel_rfl) (by kernel_rfl) (aj _) ?_
  repeat (first
   | (apply aG
      case hw=>rfl
      simp only [Act.put,pz])
   | (apply aH
      case hw=>rfl
      case h =>
       exact Zaci
      simp only [Act.put,pz]))
  refine aN ?_
  intro wn hn
  replace hn:=hn.out
  replace KT:=KT.ext hn
  replace KB:=KB.ext hn
  replace KR:=KR.ext hn
  replace hO:=hO.ext hn
  replace hB:=ah hB hn
  replace hzb:=Nat.lt_of_lt_of_le hzb (Below.size hn)
  clear q0 q1 q2 q3 q4 q5 q6 q7 q8 qb t0 t1 t2 t3 t4 t5 tl
 ·have HF:=Lib.hid (show placeP x nm = (x,⟨#[]⟩,6) from HP2.out.trans (if_neg (by simp)))
  have m0:=KB.cell (i:=0) (u:=.slice dG x.hosts.length bV) rfl
  have m1:=KB.cell (i:=1) (u:=.slice dS x.au.length dJ) rfl
  have m2:=KB.cell (i:=2) (u:=.int .i64 x.next) rfl
  have m3:=KB.cell (i:=3) (u:=.int .i64 x.weights.pack) rfl
  have m4:=KB.cell (i:=4) (u:=.int .i64 x.weights.spread) rfl
  have m5:=KB.cell (i:=5) (u:=.int .i64 x.weights.soft) rfl
  have ml:=KB.lt
  have r0:=KR.cell (i:=0) (u:=.slice none 0 0) rfl
  have r1:=KR.cell (i:=1) (u:=.slice none 0 0) rfl
  have r2:=KR.cell (i:=2) (u:=.int .i64 0) rfl
  have r3:=KR.cell (i:=3) (u:=.int .i64 0) rfl
  have r4:=KR.cell (i:=4) (u:=.int .i64 0) rfl
  have r5:=KR.cell (i:=5) (u:=.int .i64 0) rfl
  have rf:=KR.fz
  have rl:=KR.lt
  have HO:=Lib.hid hO
  have HB:=Lib.hid hB
  clear hO hB KB KR KT
  go_wp2_with fail
  try dsimp only
  iterate 60 (first | go_step | skip)
  refine bodyPost_ret (v:=.tuple #[.agg #[.slice dG x.hosts.length bV,.slice dS x.au.length dJ,.int .i64 x.next,.int .i64 x.weights.pack,.int .i64 x.weights.spread,.int .i64 x.weights.soft],.string ⟨#[]⟩,.int .i64 6]) (by simp [results,Tryz.results16,go_sem, *]) rfl ?_
  exact Zaas
 ·have HF:=Lib.hid (show placeP x nm = (⟨x.hosts,x.au.set k ⟨x.au[k].aS,aff x x.au[k].aS,x.au[k].seq⟩,x.next,x.weights⟩,aff x x.au[k].aS,0) from HP2.out.trans (if_pos rfl))
  clear HP2 KBH
  obtain ⟨s,hs⟩:∃s,aff x x.au[k].aS = s:=⟨_,rfl⟩
  rw [hs] at HF hBS
  try rw [hs]
  clear hs
  have hlt1:∀y∈G1,y < w1.heap.size:=HG1.out
  have hbase:=hO.base
  obtain ⟨Gh,Gp,Xp,OL,hdis,hsh,hsp⟩:=hO.partsP
  obtain ⟨b2,o2,ck2,Fk2,hA2,hbF2,abT,hbn2,hE0,hE,hback⟩:=Own.elt OL hk
  subst hA2
  have hgb:w.heap.size+1 < b2∧b2 < w1.heap.size:=⟨by have:=OL.base b2 hbF2;omega,hlt1 b2 (hsp b2 hbF2)⟩
  obtain ⟨hgb1,hgb2⟩:=hgb
  have hE0r:=hE0.rd
  have hlk:ck2.length = 9:=Dat.len hE0r
  obtain ⟨d1,d2,J1,J2,hde,_,hdp,_,_,_,_,hde2,_,⟨hdo0,_,_⟩,⟨hds0,_,_⟩⟩:=hE0r
  have hd7:ck2[7]? = some (.string x.au[k].on):=by
   subst hde hde2 hdo0 hds0
   have:d1.length = 7:=Dat.len hdp
   rw [List.getElem?_append_right (by omega),this];rfl
  have e7:=hE.at_ (j:=7) (q:=o2+k * 9+7) rfl (u:=.string x.au[k].on) hd7
  have ef:=hE.plain.frozen
  have el:=hE.plain.lt
  have hE2:=hE.set (j:=7) (q:=o2+k * 9+7) (by omega) rfl (.string s)
  have hO2:=(hE0.onP s at6).keep (w':=World.setCell _ ⟨b2,o2+k * 9+7,none⟩ (.string s)) (fun y hy=>Below.heap_setCell _ _ _ _ (by dsimp only;rintro rfl;exact hbn2 hy)) aua
  have hOp2:=hback _ _ _ hO2 hE2
  have hOh2:=ownNeQ (c:=b2) (i:=o2+k * 9+7) (u:=.string s) Xp (fun y hy e=>hdis y hy (by rw [e];exact hbF2))
  have hOW:=Own.wholeP hOh2 hOp2 hdis hnext aV aP aW
  have KB2:=KB.far (c:=b2) (by omega) (o2+k * 9+7) (.string s)
  have KR2:=KR.far (c:=b2) (by omega) (o2+k * 9+7) (.string s)
  have hB2:=aC hB (p:=⟨b2,o2+k * 9+7,none⟩) atX (.string s)
  have b1:=KB.cell (i:=1) (u:=.slice (some ⟨b2,o2,none⟩) x.au.length dJ) rfl
  have bl:=KB.lt
  clear KB KR hB hO Xp OL hE hE0 hback hO2 hE2 hOp2 hOh2 hdp KT
  have KB:=KB2
  have KR:=KR2
  have hB:=hB2
  have hO:=hOW
  have KT:=True.intro
  have m0:=KB.cell (i:=0) (u:=.slice dG x.hosts.length bV) rfl
  have m1:=KB.cell (i:=1) (u:=.slice (some ⟨b2,o2,none⟩) x.au.length dJ) rfl
  have m2:=KB.cell (i:=2) (u:=.int .i64 x.next) rfl
  have m3:=KB.cell (i:=3) (u:=.int .i64 x.weights.pack) rfl
  have m4:=KB.cell (i:=4) (u:=.int .i64 x.weights.spread) rfl
  have m5:=KB.cell (i:=5) (u:=.int .i64 x.weights.soft) rfl
  have ml:=KB.lt
  have r0:=KR.cell (i:=0) (u:=.slice none 0 0) rfl
  have r1:=KR.cell (i:=1) (u:=.slice none 0 0) rfl
  have r2:=KR.cell (i:=2) (u:=.int .i64 0) rfl
  have r3:=KR.cell (i:=3) (u:=.int .i64 0) rfl
  have r4:=KR.cell (i:=4) (u:=.int .i64 0) rfl
  have r5:=KR.cell (i:=5) (u:=.int .i64 0) rfl
  have rf:=KR.fz
  have rl:=KR.lt
  have HO:=Lib.hid hO
  have HB:=Lib.hid hB
  clear hO hB KB KR KT KB2 KR2 hB2 hOW
  go_wp2_with fail
  try dsimp only
  iterate 60 (first | go_step | skip)
  refine bodyPost_ret (v:=.tuple #[.agg #[.slice dG x.hosts.length bV,.slice (some ⟨b2,o2,none⟩) x.au.length dJ,.int .i64 x.next,.int .i64 x.weights.pack,.int .i64 x.weights.spread,.int .i64 x.weights.soft],.string s,.int .i64 0]) (by simp [results,Tryz.results16,go_sem, *]) rfl ?_
  exact Zaeq
end Go.Proofs.YtogkjlcoadhpgaaGreat
