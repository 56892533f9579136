/- HostNormal of the reference. No condition. -/
import Derived.Test.YthjdahommnnliaaGreatSortTaintsP
import Derived.Test.YthjdahommnnliaaGreatMkBase
import Derived.Test.YthjdahommnnliaaGreatCopyH
import Derived.Test.YthjdahommnnliaaGreatSortLabelsS
import Derived.Test.YthjdahommnnliaaGreatSortTaintsS
import Derived.Deep.CutRange
namespace Go.Proofs.YthjdahommnnliaaGreat
open Go.ChangeShapes Go.WideShapes Go.ChangeAt Go.RowKit
set_option linter.unusedVariables false
set_option linter.unusedSimpArgs false
set_option maxRecDepth 100000 in
set_option maxHeartbeats 8000000 in
theorem HostNormal_spec (x:Host) (cs:List Value) (F:List Nat) (w:World) (h:rd w x cs F) (hw:(x.wt:Int)≤1048576) :
 Calls Tryz.prog 37 #[.agg cs.toArray] w fun e w'=>∃ds G,e = .returned (.tuple #[.agg ds.toArray,.bool (hostNormalR x).2])∧Own w' w.heap.size (hostNormalR x).1 ds G∧Below w.heap.size w w':=by
 have h0:=h
 obtain ⟨gu,gy,jw,kJ,kK,qU,hck,qp,hname,dO,vg,hmem,uI,jq⟩:=iy h
 subst hck
 clear qp h
 have HX:=Lib.hid h0
 have Du:=Lib.hid hw
 clear h0
 have hwx:x.wt = x.name.size+kL Label.wt x.labels+kL iU.wt x.aT:=rfl
 have hl1:(x.labels.length:Int)≤1048576:=by have:=gJ Label.wt x.labels;omega
 have hl2:(x.aT.length:Int)≤1048576:=by have:=gJ iU.wt x.aT;omega
 have hm1:∀l∈x.labels,(l.key.size:Int)≤1048576∧(l.value.size:Int)≤1048576:=fun l hl=>by have h9:=Bq (f:=Label.wt) hl;have h8:Label.wt l = l.key.size+l.value.size:=rfl;omega
 have hm2:∀l∈x.aT,(l.key.size:Int)≤1048576∧(l.value.size:Int)≤1048576:=fun l hl=>by have h9:=Bq (f:=iU.wt) hl;have h8:iU.wt l = l.key.size+l.value.size:=rfl;omega
 have S0:Cq3 w (((w.alloc (.cells #[.string x.name,.slice gu x.labels.length gy,.int .i64 x.cpu,.int .i64 x.mem,.int .i64 x.slots,.slice kJ x.aT.length kK] 40)).alloc (.cells #[.string ⟨#[]⟩,.slice none 0 0,.int .i64 0,.int .i64 0,.int .i64 0,.slice none 0 0] 40)).alloc (.cells #[.string x.name,.slice gu x.labels.length gy,.int .i64 x.cpu,.int .i64 x.mem,.int .i64 x.slots,.slice kJ x.aT.length kK] 40)) [.string x.name,.slice gu x.labels.length gy,.int .i64 x.cpu,.int .i64 x.mem,.int .i64 x.slots,.slice kJ x.aT.length kK] [.string ⟨#[]⟩,.slice none 0 0,.int .i64 0,.int .i64 0,.int .i64 0,.slice none 0 0] [.string x.name,.slice gu x.labels.length gy,.int .i64 x.cpu,.int .i64 x.mem,.int .i64 x.slots,.slice kJ x.aT.length kK]:=Cq3.new w _ _ _ 40 40 40
 obtain ⟨v0,hW0⟩:∃v0,(((w.alloc (.cells #[.string x.name,.slice gu x.labels.length gy,.int .i64 x.cpu,.int .i64 x.mem,.int .i64 x.slots,.slice kJ x.aT.length kK] 40)).alloc (.cells #[.string ⟨#[]⟩,.slice none 0 0,.int .i64 0,.int .i64 0,.int .i64 0,.slice none 0 0] 40)).alloc (.cells #[.string x.name,.slice gu x.labels.length gy,.int .i64 x.cpu,.int .i64 x.mem,.int .i64 x.slots,.slice kJ x.aT.length kK] 40)) = v0:=⟨_,rfl⟩
 rw [hW0] at S0
 have HW0:=Lib.hid hW0
 have i1:=S0.box.cell (i:=1) (u:=.slice gu x.labels.length gy) rfl
 have j1:=S0.ob.lt
 clear hW0 hw hwx
 go_enter Tryz.func37,Tryz.ntmps37
 go_wp2_with fail
 rw [HW0.out]
 clear HW0
 refine (SortLabels_spec x.labels _ _ _ v0 (dO.ext S0.below) hl1 hm1).mono ?_
 obtain ⟨L1,b1,e1⟩:∃L b,sortLabelsR x.labels = (L,b):=⟨_,_,rfl⟩
 rw [e1]
 have E1:=Lib.hid e1
 clear e1 i1
 rintro e w1 ⟨A1,c1,G1,rfl,jX,hb1⟩
 have T1:=S0.ext hb1
 replace jX:=jX.mono (B':=w.heap.size+1+1+1) (by omega)
 obtain ⟨z1,hz1⟩:∃z,z = w1.heap.size:=⟨_,rfl⟩
 have anS:=Lib.hid (show ∀b∈G1,b < z1 from fun b hb=>by rw [hz1];exact jX.lt b hb)
 have hzz1:w.heap.size+1+1+1≤z1:=by have:=hb1.size;omega
 clear hb1
 have i2:=T1.box.cell (i:=5) (u:=.slice kJ x.aT.length kK) rfl
 have j2:=T1.ob.lt
 go_wp2_with fail
 clear S0
 refine (SortTaints_spec x.aT _ _ _ w1 (jq.ext T1.below) hl2 hm2).mono ?_
 obtain ⟨L2,b2,e2⟩:∃L b,sortTaintsR x.aT = (L,b):=⟨_,_,rfl⟩
 rw [e2]
 have E2:=Lib.hid e2
 clear e2 i2
 rintro e w2 ⟨A2,c2,G2,rfl,hO2,hb2⟩
 have T2:=T1.ext hb2
 replace hO2:=hO2.mono (B':=z1) (by have:=hz1;omega)
 replace jX:=jX.ext hb2
 obtain ⟨z2,hz2⟩:∃z,z = w2.heap.size:=⟨_,rfl⟩
 have HLT2:=Lib.hid (show ∀b∈G2,b < z2 from fun b hb=>by rw [hz2];exact hO2.lt b hb)
 have hzz2:z1≤z2:=by have:=hb2.size;omega
 clear hb2
 have k1:=T2.ob.cell (i:=1) (u:=.slice gu x.labels.length gy) rfl
 have f1:=T2.ob.fz 1
 have S1:=T2.put 1 (.slice A1 L1.length c1)
 replace jX:=jX.setCell (p:=⟨w.heap.size+1+1,1,none⟩) atX (.slice A1 L1.length c1)
 replace hO2:=hO2.setCell (p:=⟨w.heap.size+1+1,1,none⟩) atX (.slice A1 L1.length c1)
 have k2:=T2.ob.cell (i:=5) (u:=.slice kJ x.aT.length kK) rfl
 have f2:=T2.ob.fz 5
 have S2:=S1.put 5 (.slice A2 L2.length c2)
 replace jX:=jX.setCell (p:=⟨w.heap.size+1+1,5,none⟩) atX (.slice A2 L2.length c2)
 replace hO2:=hO2.setCell (p:=⟨w.heap.size+1+1,5,none⟩) atX (.slice A2 L2.length c2)
 have l9:=T2.ob.lt
 go_upto_region 6 with fail
 obtain ⟨v2,hv⟩:∃v,((w2.setCell ⟨w.heap.size+1+1,1,none⟩ (.slice A1 L1.length c1)).setCell ⟨w.heap.size+1+1,5,none⟩ (.slice A2 L2.length c2)) = v:=⟨_,rfl⟩
 have hs:v2.heap.size = z2:=by rw [← hv,hz2];simp [World.setCell]
 rw [hv] at S2 jX hO2
 try rw [hv]
 clear hv T2 k1 f1 k2 f2 l9 hz2
 have hz2:=hs
 clear hs
 have HOWN:=Lib.hid (show Own v2 (w.heap.size+1+1+1) (⟨x.name,L1,x.cpu,x.mem,x.slots,L2⟩:Host) [.string x.name,.slice A1 L1.length c1,.int .i64 x.cpu,.int .i64 x.mem,.int .i64 x.slots,.slice A2 L2.length c2] (G1++G2) from by
  refine Own.up (B':=w.heap.size+1+1+1) (fun x:Host=>(x.name,x.labels,x.cpu,x.mem,x.slots,x.aT)) ?_ (Nat.le_refl _)
  refine Own.cons (c1:=[.string x.name]) (rdStr _ x.name (rV hname)) ?_
  refine Own.pair (B2:=z1) (c1:=[.slice A1 L1.length c1]) (F1:=G1) jX ?_ (by omega) anS.out
  refine Own.cons (c1:=[.int .i64 x.cpu]) (jL _ x.cpu vg) ?_
  refine Own.cons (c1:=[.int .i64 x.mem]) (jL _ x.mem hmem) ?_
  refine Own.cons (c1:=[.int .i64 x.slots]) (jL _ x.slots uI) ?_
  exact hO2)
 have HN:=Lib.hid (show hostN x = ⟨x.name,L1,x.cpu,x.mem,x.slots,L2⟩ by unfold hostN;rw [E1.out,E2.out])
 have HR:=Lib.hid (show hostNormalR x = if b1 = true∧b2 = true∧Aj (hostN x) = true then (hostN x,true) else (x,false) by unfold hostNormalR;rw [E1.out,E2.out])
 have HS:=Lib.hid S2
 have HYW:=Lib.hid (show ((hostN x).wt:Int)≤1048576 by have:=hostN_wt x;have:=Du.out;omega)
 clear jX hO2 S2
 have q_:=HS.out.ob.lt
 have p0:=HS.out.box.cell (i:=0) (u:=.string x.name) rfl
 have p1:=HS.out.box.cell (i:=1) (u:=.slice gu x.labels.length gy) rfl
 have p2:=HS.out.box.cell (i:=2) (u:=.int .i64 x.cpu) rfl
 have p3:=HS.out.box.cell (i:=3) (u:=.int .i64 x.mem) rfl
 have p4:=HS.out.box.cell (i:=4) (u:=.int .i64 x.slots) rfl
 have p5:=HS.out.box.cell (i:=5) (u:=.slice kJ x.aT.length kK) rfl
 cases b1 with
 | false =>
   have HRN:=Lib.hid (show hostNormalR x = (x,false) by rw [HR.out];exact if_neg (by rintro ⟨hh,_⟩;cases hh))
   exact Zaa5
 | true =>
   cases b2 with
   | false =>
     have HRN:=Lib.hid (show hostNormalR x = (x,false) by rw [HR.out];exact if_neg (by rintro ⟨_,hh,_⟩;cases hh))
     exact Zaa5
   | true =>
     have HYN:=HN
     cases hr:Aj (hostN x) with
     | false =>
       have HOK:=Lib.hid hr
       have q0:=HS.out.ob.cell (i:=0) (u:=.string x.name) rfl
       have q1:=HS.out.ob.cell (i:=1) (u:=.slice A1 L1.length c1) rfl
       have q2:=HS.out.ob.cell (i:=2) (u:=.int .i64 x.cpu) rfl
       have q3:=HS.out.ob.cell (i:=3) (u:=.int .i64 x.mem) rfl
       have q4:=HS.out.ob.cell (i:=4) (u:=.int .i64 x.slots) rfl
       have q5:=HS.out.ob.cell (i:=5) (u:=.slice A2 L2.length c2) rfl
       go_wp2_with fail
       refine (tZ (⟨x.name,L1,x.cpu,x.mem,x.slots,L2⟩:Host) _ _ v2 HOWN.out.rd (by have:=HYW.out;rw [HN.out] at this;exact this)).mono ?_
       rw [← HN.out,HOK.out]
       rintro e w7 ⟨rfl,hb7⟩
       have HS7:=Lib.hid (HS.out.ext hb7)
       have HOWN7:=Lib.hid (HOWN.out.ext hb7)
       clear p0 p1 p2 p3 p4 p5 q0 q1 q2 q3 q4 q5 q_ hb7
       have HRN:=Lib.hid (show hostNormalR x = (x,false) by rw [HR.out];exact if_neg (by rintro ⟨_,_,hh⟩;rw [HOK.out] at hh;cases hh))
       have rr:=HS7.out.box.lt
       have p0:=HS7.out.box.cell (i:=0) (u:=.string x.name) rfl
       have p1:=HS7.out.box.cell (i:=1) (u:=.slice gu x.labels.length gy) rfl
       have p2:=HS7.out.box.cell (i:=2) (u:=.int .i64 x.cpu) rfl
       have p3:=HS7.out.box.cell (i:=3) (u:=.int .i64 x.mem) rfl
       have p4:=HS7.out.box.cell (i:=4) (u:=.int .i64 x.slots) rfl
       have p5:=HS7.out.box.cell (i:=5) (u:=.slice kJ x.aT.length kK) rfl
       go_wp2_with fail
       refine (alT x _ _ w7 (rd_extN HX.out HS7.out.below) hl1 hl2).mono ?_
       rintro e w8 ⟨ds8,G8,rfl,sV,hb8⟩
       have T8:=HS7.out.ext hb8
       have SY:=sV
       obtain ⟨Alabels9,clabels9,Flabels9,Ataints9,ctaints9,Ftaints9,hck9,hF9,hname9,hlabels9,hcpu9,hmem9,hslots9,htaints9⟩:=iy sV.rd
       subst hck9
       clear hF9 sV
       have r0:=T8.rb.cell (i:=0) (u:=.string ⟨#[]⟩) rfl
       have r1:=T8.rb.cell (i:=1) (u:=.slice none 0 0) rfl
       have r2:=T8.rb.cell (i:=2) (u:=.int .i64 0) rfl
       have r3:=T8.rb.cell (i:=3) (u:=.int .i64 0) rfl
       have r4:=T8.rb.cell (i:=4) (u:=.int .i64 0) rfl
       have r5:=T8.rb.cell (i:=5) (u:=.slice none 0 0) rfl
       have rf:=T8.rb.fz
       have rl:=T8.rb.lt
       have HO9:=Lib.hid SY
       have HT8:=Lib.hid T8
       have hzw:w.heap.size+1 < w7.heap.size:=HS7.out.rb.lt
       clear SY T8 hb8
       go_wp2_with fail
       try dsimp only
       iterate 60 (first | go_step | skip)
       refine bodyPost_ret (v:=.tuple #[.agg #[.string x.name,.slice Alabels9 x.labels.length clabels9,.int .i64 x.cpu,.int .i64 x.mem,.int .i64 x.slots,.slice Ataints9 x.aT.length ctaints9],.bool false]) (by simp [results,Tryz.results37,go_sem, *]) rfl ⟨[.string x.name,.slice Alabels9 x.labels.length clabels9,.int .i64 x.cpu,.int .i64 x.mem,.int .i64 x.slots,.slice Ataints9 x.aT.length ctaints9],G8,by rw [HRN.out];try rfl,?_,?_⟩
       ·rw [HRN.out]
        refine Own.mono (B:=w7.heap.size) ?_ (by omega)
        exact Zabd
       ·exact Zad0
     | true =>
       have HOK:=Lib.hid hr
       have q0:=HS.out.ob.cell (i:=0) (u:=.string x.name) rfl
       have q1:=HS.out.ob.cell (i:=1) (u:=.slice A1 L1.length c1) rfl
       have q2:=HS.out.ob.cell (i:=2) (u:=.int .i64 x.cpu) rfl
       have q3:=HS.out.ob.cell (i:=3) (u:=.int .i64 x.mem) rfl
       have q4:=HS.out.ob.cell (i:=4) (u:=.int .i64 x.slots) rfl
       have q5:=HS.out.ob.cell (i:=5) (u:=.slice A2 L2.length c2) rfl
       go_wp2_with fail
       refine (tZ (⟨x.name,L1,x.cpu,x.mem,x.slots,L2⟩:Host) _ _ v2 HOWN.out.rd (by have:=HYW.out;rw [HN.out] at this;exact this)).mono ?_
       rw [← HN.out,HOK.out]
       rintro e w7 ⟨rfl,hb7⟩
       have HS7:=Lib.hid (HS.out.ext hb7)
       have HOWN7:=Lib.hid (HOWN.out.ext hb7)
       clear p0 p1 p2 p3 p4 p5 q0 q1 q2 q3 q4 q5 q_ hb7
       have HRY:=Lib.hid (show hostNormalR x = (hostN x,true) by rw [HR.out];exact if_pos (by simp [HOK.out]))
       have q0:=HS7.out.ob.cell (i:=0) (u:=.string x.name) rfl
       have q1:=HS7.out.ob.cell (i:=1) (u:=.slice A1 L1.length c1) rfl
       have q2:=HS7.out.ob.cell (i:=2) (u:=.int .i64 x.cpu) rfl
       have q3:=HS7.out.ob.cell (i:=3) (u:=.int .i64 x.mem) rfl
       have q4:=HS7.out.ob.cell (i:=4) (u:=.int .i64 x.slots) rfl
       have q5:=HS7.out.ob.cell (i:=5) (u:=.slice A2 L2.length c2) rfl
       have r0:=HS7.out.rb.cell (i:=0) (u:=.string ⟨#[]⟩) rfl
       have r1:=HS7.out.rb.cell (i:=1) (u:=.slice none 0 0) rfl
       have r2:=HS7.out.rb.cell (i:=2) (u:=.int .i64 0) rfl
       have r3:=HS7.out.rb.cell (i:=3) (u:=.int .i64 0) rfl
       have r4:=HS7.out.rb.cell (i:=4) (u:=.int .i64 0) rfl
       have r5:=HS7.out.rb.cell (i:=5) (u:=.slice none 0 0) rfl
       have rf:=HS7.out.rb.fz
       have rl:=HS7.out.rb.lt
       have ql:=HS7.out.ob.lt
       go_wp2_with fail
       try dsimp only
       iterate 60 (first | go_step | skip)
       refine bodyPost_ret (v:=.tuple #[.agg #[.string x.name,.slice A1 L1.length c1,.int .i64 x.cpu,.int .i64 x.mem,.int .i64 x.slots,.slice A2 L2.length c2],.bool true]) (by simp [results,Tryz.results37,go_sem, *]) rfl ⟨[.string x.name,.slice A1 L1.length c1,.int .i64 x.cpu,.int .i64 x.mem,.int .i64 x.slots,.slice A2 L2.length c2],G1++G2,by rw [HRY.out];try rfl,?_,?_⟩
       ·exact Zacq
       ·exact (by repeat (first | with_reducible exact HS7.out.below | with_reducible refine aC ?_ atX _))
end Go.Proofs.YthjdahommnnliaaGreat
