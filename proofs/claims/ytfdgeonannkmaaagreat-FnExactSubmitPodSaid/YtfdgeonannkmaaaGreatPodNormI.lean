/- PodNormal of the program. No condition. -/
import Derived.Test.YtfdgeonannkmaaaGreatMark
import Derived.Test.YtfdgeonannkmaaaGreatCopyH
import Derived.Test.YtfdgeonannkmaaaGreatSortNeedsI
import Derived.Test.YtfdgeonannkmaaaGreatSortTolerancesI
import Derived.Deep.CutRange
namespace Go.Proofs.YtfdgeonannkmaaaGreat
open Go.ChangeShapes Go.WideShapes Go.ChangeAt Go.RowKit
set_option linter.unusedVariables false
set_option linter.unusedSimpArgs false
set_option maxRecDepth 100000 in
set_option maxHeartbeats 8000000 in
theorem PodNormal_impl (x:nI) (cs:List Value) (F:List Nat) (w:World) (h:rd w x cs F) (hw:(x.wt:Int)≤1048576) :
 Calls Tryz.prog 38 #[.agg cs.toArray] w fun e w'=>∃ds G,e = .returned (.tuple #[.agg ds.toArray,.bool (podNormalR x).2])∧Own w' w.heap.size (podNormalR x).1 ds G∧Below w.heap.size w w':=by
 have h0:=h
 obtain ⟨gu,gy,jw,oh,nT,wG,fA,fB,jY,hck,qp,hname,dO,vg,hmem,BJ,mX,eG⟩:=dL h
 subst hck
 clear qp h
 have HX:=Lib.hid h0
 have Du:=Lib.hid hw
 clear h0
 have hwx:x.wt = x.name.size+kL Label.wt x.labels+kL Need.wt x.needs+kL bH.wt x.tolerances:=rfl
 have hl1:(x.labels.length:Int)≤1048576:=by have:=gJ Label.wt x.labels;omega
 have hl2:(x.needs.length:Int)≤1048576:=by have:=gJ Need.wt x.needs;omega
 have hl3:(x.tolerances.length:Int)≤1048576:=by have:=gJ bH.wt x.tolerances;omega
 have hm1:∀l∈x.labels,(l.key.size:Int)≤1048576∧(l.value.size:Int)≤1048576:=fun l hl=>by have h9:=Bq (f:=Label.wt) hl;have h8:Label.wt l = l.key.size+l.value.size:=rfl;omega
 have hm2:∀l∈x.needs,(l.wt:Int)≤1048576:=fun l hl=>by have:=Bq (f:=Need.wt) hl;omega
 have hm3:∀l∈x.tolerances,(l.key.size:Int)≤1048576∧(l.value.size:Int)≤1048576:=fun l hl=>by have h9:=Bq (f:=bH.wt) hl;have h8:bH.wt l = l.key.size+l.value.size:=rfl;omega
 have hv:∀y∈x.needs,(y.values.length:Int)≤1048576:=fun l hl=>by have h9:=Bq (f:=Need.wt) hl;have:=gJ ByteArray.size l.values;have h8:Need.wt l = l.key.size+kL ByteArray.size l.values:=rfl;omega
 have S0:Cq3 w (((w.alloc (.cells #[.string x.name,.slice gu x.labels.length gy,.int .i64 x.cpu,.int .i64 x.mem,.int .i64 x.rank,.slice oh x.needs.length nT,.slice fA x.tolerances.length fB] 47)).alloc (.cells #[.string ⟨#[]⟩,.slice none 0 0,.int .i64 0,.int .i64 0,.int .i64 0,.slice none 0 0,.slice none 0 0] 47)).alloc (.cells #[.string x.name,.slice gu x.labels.length gy,.int .i64 x.cpu,.int .i64 x.mem,.int .i64 x.rank,.slice oh x.needs.length nT,.slice fA x.tolerances.length fB] 47)) [.string x.name,.slice gu x.labels.length gy,.int .i64 x.cpu,.int .i64 x.mem,.int .i64 x.rank,.slice oh x.needs.length nT,.slice fA x.tolerances.length fB] [.string ⟨#[]⟩,.slice none 0 0,.int .i64 0,.int .i64 0,.int .i64 0,.slice none 0 0,.slice none 0 0] [.string x.name,.slice gu x.labels.length gy,.int .i64 x.cpu,.int .i64 x.mem,.int .i64 x.rank,.slice oh x.needs.length nT,.slice fA x.tolerances.length fB]:=Cq3.new w _ _ _ 47 47 47
 obtain ⟨v0,hW0⟩:∃v0,(((w.alloc (.cells #[.string x.name,.slice gu x.labels.length gy,.int .i64 x.cpu,.int .i64 x.mem,.int .i64 x.rank,.slice oh x.needs.length nT,.slice fA x.tolerances.length fB] 47)).alloc (.cells #[.string ⟨#[]⟩,.slice none 0 0,.int .i64 0,.int .i64 0,.int .i64 0,.slice none 0 0,.slice none 0 0] 47)).alloc (.cells #[.string x.name,.slice gu x.labels.length gy,.int .i64 x.cpu,.int .i64 x.mem,.int .i64 x.rank,.slice oh x.needs.length nT,.slice fA x.tolerances.length fB] 47)) = v0:=⟨_,rfl⟩
 rw [hW0] at S0
 have HW0:=Lib.hid hW0
 have i1:=S0.box.cell (i:=1) (u:=.slice gu x.labels.length gy) rfl
 have j1:=S0.ob.lt
 clear hW0 hw hwx
 go_enter Tryz.func38,Tryz.ntmps38
 go_wp2_with fail
 rw [HW0.out]
 clear HW0
 refine (SortLabels_impl x.labels _ _ _ v0 (dO.ext S0.below) hl1 hm1).mono ?_
 obtain ⟨L1,b1,e1⟩:∃L b,sortLabelsR x.labels = (L,b):=⟨_,_,rfl⟩
 rw [e1]
 have E1:=Lib.hid e1
 clear e1 i1
 rintro e w1 ⟨A1,c1,G1,rfl,jX,hb1⟩
 have T1:=S0.ext hb1
 replace jX:=jX.mono (B':=w.heap.size+1+1+1) (by omega)
 obtain ⟨z1,hz1⟩:∃z,z = w1.heap.size:=⟨_,rfl⟩
 have anS:=Lib.hid (show ∀b∈G1,b < z1 from fun b hb=>by rw [hz1];exact jX.lt b hb)
 have hzz1:w.heap.size+1+1+1≤z1:=by have:=hb1.size;omega
 clear hb1
 have k9:=T1.ob.cell (i:=1) (u:=.slice gu x.labels.length gy) rfl
 have f9:=T1.ob.fz 1
 have l9:=T1.ob.lt
 have S1:=T1.put 1 (.slice A1 L1.length c1)
 replace jX:=jX.setCell (p:=⟨w.heap.size+1+1,1,none⟩) atX (.slice A1 L1.length c1)
 have i2:=S1.box.cell (i:=5) (u:=.slice oh x.needs.length nT) rfl
 go_wp2_with fail
 obtain ⟨v1,hv⟩:∃v,w1.setCell ⟨w.heap.size+1+1,1,none⟩ (.slice A1 L1.length c1) = v:=⟨_,rfl⟩
 have hs:v1.heap.size = z1:=by rw [← hv,hz1];simp [World.setCell]
 rw [hv] at S1 jX i2
 try rw [hv]
 have j2:=S1.ob.lt
 clear hv T1 k9 f9 l9 hz1 S0
 have hz1:=hs
 clear hs
 refine (SortNeeds_impl x.needs _ _ _ v1 (mX.ext S1.below) hl2 hm2).mono ?_
 obtain ⟨L2,b2,e2⟩:∃L b,sortNeedsR x.needs = (L,b):=⟨_,_,rfl⟩
 rw [e2]
 have E2:=Lib.hid e2
 clear e2 i2
 rintro e w2 ⟨A2,c2,G2,rfl,hO2,hb2⟩
 have T2:=S1.ext hb2
 replace hO2:=hO2.mono (B':=z1) (by have:=hz1;omega)
 replace jX:=jX.ext hb2
 obtain ⟨z2,hz2⟩:∃z,z = w2.heap.size:=⟨_,rfl⟩
 have HLT2:=Lib.hid (show ∀b∈G2,b < z2 from fun b hb=>by rw [hz2];exact hO2.lt b hb)
 have hzz2:z1≤z2:=by have:=hb2.size;omega
 clear hb2
 have k9:=T2.ob.cell (i:=5) (u:=.slice oh x.needs.length nT) rfl
 have f9:=T2.ob.fz 5
 have l9:=T2.ob.lt
 have S2:=T2.put 5 (.slice A2 L2.length c2)
 replace jX:=jX.setCell (p:=⟨w.heap.size+1+1,5,none⟩) atX (.slice A2 L2.length c2)
 replace hO2:=hO2.setCell (p:=⟨w.heap.size+1+1,5,none⟩) atX (.slice A2 L2.length c2)
 have i3:=S2.box.cell (i:=6) (u:=.slice fA x.tolerances.length fB) rfl
 go_wp2_with fail
 obtain ⟨v2,hv⟩:∃v,w2.setCell ⟨w.heap.size+1+1,5,none⟩ (.slice A2 L2.length c2) = v:=⟨_,rfl⟩
 have hs:v2.heap.size = z2:=by rw [← hv,hz2];simp [World.setCell]
 rw [hv] at S2 jX hO2 i3
 try rw [hv]
 have j3:=S2.ob.lt
 clear hv T2 k9 f9 l9 hz2 S1
 have hz2:=hs
 clear hs
 refine (SortTolerances_impl x.tolerances _ _ _ v2 (eG.ext S2.below) hl3 hm3).mono ?_
 obtain ⟨L3,b3,e3⟩:∃L b,sortTolsR x.tolerances = (L,b):=⟨_,_,rfl⟩
 rw [e3]
 have E3:=Lib.hid e3
 clear e3 i3
 rintro e w3 ⟨A3,c3,G3,rfl,hO3,hb3⟩
 have T3:=S2.ext hb3
 replace hO3:=hO3.mono (B':=z2) (by have:=hz2;omega)
 replace jX:=jX.ext hb3
 replace hO2:=hO2.ext hb3
 obtain ⟨z3,hz3⟩:∃z,z = w3.heap.size:=⟨_,rfl⟩
 have HLT3:=Lib.hid (show ∀b∈G3,b < z3 from fun b hb=>by rw [hz3];exact hO3.lt b hb)
 have hzz3:z2≤z3:=by have:=hb3.size;omega
 clear hb3
 have k9:=T3.ob.cell (i:=6) (u:=.slice fA x.tolerances.length fB) rfl
 have f9:=T3.ob.fz 6
 have l9:=T3.ob.lt
 have S3:=T3.put 6 (.slice A3 L3.length c3)
 replace jX:=jX.setCell (p:=⟨w.heap.size+1+1,6,none⟩) atX (.slice A3 L3.length c3)
 replace hO2:=hO2.setCell (p:=⟨w.heap.size+1+1,6,none⟩) atX (.slice A3 L3.length c3)
 replace hO3:=hO3.setCell (p:=⟨w.heap.size+1+1,6,none⟩) atX (.slice A3 L3.length c3)
 go_upto_region 6 with fail
 obtain ⟨v3,hv⟩:∃v,w3.setCell ⟨w.heap.size+1+1,6,none⟩ (.slice A3 L3.length c3) = v:=⟨_,rfl⟩
 have hs:v3.heap.size = z3:=by rw [← hv,hz3];simp [World.setCell]
 rw [hv] at S3 jX hO2 hO3
 try rw [hv]
 have j4:=S3.ob.lt
 clear hv T3 k9 f9 l9 hz3 S2
 have hz3:=hs
 clear hs
 have HOWN:=Lib.hid (show Own v3 (w.heap.size+1+1+1) (⟨x.name,L1,x.cpu,x.mem,x.rank,L2,L3⟩:nI) [.string x.name,.slice A1 L1.length c1,.int .i64 x.cpu,.int .i64 x.mem,.int .i64 x.rank,.slice A2 L2.length c2,.slice A3 L3.length c3] (G1++(G2++G3)) from by
  refine Own.up (B':=w.heap.size+1+1+1) (fun x:nI=>(x.name,x.labels,x.cpu,x.mem,x.rank,x.needs,x.tolerances)) ?_ (Nat.le_refl _)
  refine Own.cons (c1:=[.string x.name]) (rdStr _ x.name (rV hname)) ?_
  refine Own.pair (B2:=z1) (c1:=[.slice A1 L1.length c1]) (F1:=G1) jX ?_ (by omega) anS.out
  refine Own.cons (c1:=[.int .i64 x.cpu]) (jL _ x.cpu vg) ?_
  refine Own.cons (c1:=[.int .i64 x.mem]) (jL _ x.mem hmem) ?_
  refine Own.cons (c1:=[.int .i64 x.rank]) (jL _ x.rank BJ) ?_
  refine Own.pair (B2:=z2) (c1:=[.slice A2 L2.length c2]) (F1:=G2) hO2 ?_ (by omega) HLT2.out
  exact hO3)
 have HN:=Lib.hid (show podN x = ⟨x.name,L1,x.cpu,x.mem,x.rank,L2,L3⟩ by unfold podN;rw [E1.out,E2.out,E3.out])
 have HR:=Lib.hid (show podNormalR x = if b1 = true∧b2 = true∧b3 = true∧GU (podN x) = true then (podN x,true) else (x,false) by unfold podNormalR;rw [E1.out,E2.out,E3.out])
 have HS:=Lib.hid S3
 have HYW:=Lib.hid (show ((podN x).wt:Int)≤1048576 by have:=podN_wt x;have:=Du.out;omega)
 clear jX hO2 hO3 S3
 have q_:=HS.out.ob.lt
 have p0:=HS.out.box.cell (i:=0) (u:=.string x.name) rfl
 have p1:=HS.out.box.cell (i:=1) (u:=.slice gu x.labels.length gy) rfl
 have p2:=HS.out.box.cell (i:=2) (u:=.int .i64 x.cpu) rfl
 have p3:=HS.out.box.cell (i:=3) (u:=.int .i64 x.mem) rfl
 have p4:=HS.out.box.cell (i:=4) (u:=.int .i64 x.rank) rfl
 have p5:=HS.out.box.cell (i:=5) (u:=.slice oh x.needs.length nT) rfl
 have p6:=HS.out.box.cell (i:=6) (u:=.slice fA x.tolerances.length fB) rfl
 cases b1 with
 | false =>
   have HRN:=Lib.hid (show podNormalR x = (x,false) by rw [HR.out];exact if_neg (by rintro ⟨hh,_⟩;cases hh))
   exact Zaau
 | true =>
   cases b2 with
   | false =>
     have HRN:=Lib.hid (show podNormalR x = (x,false) by rw [HR.out];exact if_neg (by rintro ⟨_,hh,_⟩;cases hh))
     exact Zaau
   | true =>
     cases b3 with
     | false =>
       have HRN:=Lib.hid (show podNormalR x = (x,false) by rw [HR.out];exact if_neg (by rintro ⟨_,_,hh,_⟩;cases hh))
       exact Zaau
     | true =>
       have HYN:=HN
       cases hr:GU (podN x) with
       | false =>
         have HOK:=Lib.hid hr
         have q0:=HS.out.ob.cell (i:=0) (u:=.string x.name) rfl
         have q1:=HS.out.ob.cell (i:=1) (u:=.slice A1 L1.length c1) rfl
         have q2:=HS.out.ob.cell (i:=2) (u:=.int .i64 x.cpu) rfl
         have q3:=HS.out.ob.cell (i:=3) (u:=.int .i64 x.mem) rfl
         have q4:=HS.out.ob.cell (i:=4) (u:=.int .i64 x.rank) rfl
         have q5:=HS.out.ob.cell (i:=5) (u:=.slice A2 L2.length c2) rfl
         have q6:=HS.out.ob.cell (i:=6) (u:=.slice A3 L3.length c3) rfl
         go_wp2_with fail
         refine (wH (⟨x.name,L1,x.cpu,x.mem,x.rank,L2,L3⟩:nI) _ _ v3 HOWN.out.rd (by have:=HYW.out;rw [HN.out] at this;exact this)).mono ?_
         rw [← HN.out,HOK.out]
         rintro e w7 ⟨rfl,hb7⟩
         have HS7:=Lib.hid (HS.out.ext hb7)
         have HOWN7:=Lib.hid (HOWN.out.ext hb7)
         clear p0 p1 p2 p3 p4 p5 p6 q0 q1 q2 q3 q4 q5 q6 q_ hb7
         have HRN:=Lib.hid (show podNormalR x = (x,false) by rw [HR.out];exact if_neg (by rintro ⟨_,_,_,hh⟩;rw [HOK.out] at hh;cases hh))
         have rr:=HS7.out.box.lt
         have p0:=HS7.out.box.cell (i:=0) (u:=.string x.name) rfl
         have p1:=HS7.out.box.cell (i:=1) (u:=.slice gu x.labels.length gy) rfl
         have p2:=HS7.out.box.cell (i:=2) (u:=.int .i64 x.cpu) rfl
         have p3:=HS7.out.box.cell (i:=3) (u:=.int .i64 x.mem) rfl
         have p4:=HS7.out.box.cell (i:=4) (u:=.int .i64 x.rank) rfl
         have p5:=HS7.out.box.cell (i:=5) (u:=.slice oh x.needs.length nT) rfl
         have p6:=HS7.out.box.cell (i:=6) (u:=.slice fA x.tolerances.length fB) rfl
         go_wp2_with fail
         refine (alS x _ _ w7 (rd_extN HX.out HS7.out.below) hl1 hl2 hl3 hv).mono ?_
         rintro e w8 ⟨ds8,G8,rfl,sV,hb8⟩
         have T8:=HS7.out.ext hb8
         have SY:=sV
         obtain ⟨Alabels9,clabels9,Flabels9,Aneeds9,cneeds9,Fneeds9,Atolerances9,ctolerances9,Ftolerances9,hck9,hF9,hname9,hlabels9,hcpu9,hmem9,hrank9,hneeds9,htolerances9⟩:=dL sV.rd
         subst hck9
         clear hF9 sV
         have r0:=T8.rb.cell (i:=0) (u:=.string ⟨#[]⟩) rfl
         have r1:=T8.rb.cell (i:=1) (u:=.slice none 0 0) rfl
         have r2:=T8.rb.cell (i:=2) (u:=.int .i64 0) rfl
         have r3:=T8.rb.cell (i:=3) (u:=.int .i64 0) rfl
         have r4:=T8.rb.cell (i:=4) (u:=.int .i64 0) rfl
         have r5:=T8.rb.cell (i:=5) (u:=.slice none 0 0) rfl
         have r6:=T8.rb.cell (i:=6) (u:=.slice none 0 0) rfl
         have rf:=T8.rb.fz
         have rl:=T8.rb.lt
         have HO9:=Lib.hid SY
         have HT8:=Lib.hid T8
         have hzw:w.heap.size+1 < w7.heap.size:=HS7.out.rb.lt
         clear SY T8 hb8
         go_wp2_with fail
         try dsimp only
         iterate 60 (first | go_step | skip)
         refine bodyPost_ret (v:=.tuple #[.agg #[.string x.name,.slice Alabels9 x.labels.length clabels9,.int .i64 x.cpu,.int .i64 x.mem,.int .i64 x.rank,.slice Aneeds9 x.needs.length cneeds9,.slice Atolerances9 x.tolerances.length ctolerances9],.bool false]) (by simp [results,Tryz.results38,go_sem, *]) rfl ⟨[.string x.name,.slice Alabels9 x.labels.length clabels9,.int .i64 x.cpu,.int .i64 x.mem,.int .i64 x.rank,.slice Aneeds9 x.needs.length cneeds9,.slice Atolerances9 x.tolerances.length ctolerances9],G8,by rw [HRN.out];try rfl,?_,?_⟩
         ·rw [HRN.out]
          refine Own.mono (B:=w7.heap.size) ?_ (by omega)
          exact Zabc
         ·exact Zaem
       | true =>
         have HOK:=Lib.hid hr
         have q0:=HS.out.ob.cell (i:=0) (u:=.string x.name) rfl
         have q1:=HS.out.ob.cell (i:=1) (u:=.slice A1 L1.length c1) rfl
         have q2:=HS.out.ob.cell (i:=2) (u:=.int .i64 x.cpu) rfl
         have q3:=HS.out.ob.cell (i:=3) (u:=.int .i64 x.mem) rfl
         have q4:=HS.out.ob.cell (i:=4) (u:=.int .i64 x.rank) rfl
         have q5:=HS.out.ob.cell (i:=5) (u:=.slice A2 L2.length c2) rfl
         have q6:=HS.out.ob.cell (i:=6) (u:=.slice A3 L3.length c3) rfl
         go_wp2_with fail
         refine (wH (⟨x.name,L1,x.cpu,x.mem,x.rank,L2,L3⟩:nI) _ _ v3 HOWN.out.rd (by have:=HYW.out;rw [HN.out] at this;exact this)).mono ?_
         rw [← HN.out,HOK.out]
         rintro e w7 ⟨rfl,hb7⟩
         have HS7:=Lib.hid (HS.out.ext hb7)
         have HOWN7:=Lib.hid (HOWN.out.ext hb7)
         clear p0 p1 p2 p3 p4 p5 p6 q0 q1 q2 q3 q4 q5 q6 q_ hb7
         have HRY:=Lib.hid (show podNormalR x = (podN x,true) by rw [HR.out];exact if_pos (by simp [HOK.out]))
         have q0:=HS7.out.ob.cell (i:=0) (u:=.string x.name) rfl
         have q1:=HS7.out.ob.cell (i:=1) (u:=.slice A1 L1.length c1) rfl
         have q2:=HS7.out.ob.cell (i:=2) (u:=.int .i64 x.cpu) rfl
         have q3:=HS7.out.ob.cell (i:=3) (u:=.int .i64 x.mem) rfl
         have q4:=HS7.out.ob.cell (i:=4) (u:=.int .i64 x.rank) rfl
         have q5:=HS7.out.ob.cell (i:=5) (u:=.slice A2 L2.length c2) rfl
         have q6:=HS7.out.ob.cell (i:=6) (u:=.slice A3 L3.length c3) rfl
         have r0:=HS7.out.rb.cell (i:=0) (u:=.string ⟨#[]⟩) rfl
         have r1:=HS7.out.rb.cell (i:=1) (u:=.slice none 0 0) rfl
         have r2:=HS7.out.rb.cell (i:=2) (u:=.int .i64 0) rfl
         have r3:=HS7.out.rb.cell (i:=3) (u:=.int .i64 0) rfl
         have r4:=HS7.out.rb.cell (i:=4) (u:=.int .i64 0) rfl
         have r5:=HS7.out.rb.cell (i:=5) (u:=.slice none 0 0) rfl
         have r6:=HS7.out.rb.cell (i:=6) (u:=.slice none 0 0) rfl
         have rf:=HS7.out.rb.fz
         have rl:=HS7.out.rb.lt
         have ql:=HS7.out.ob.lt
         go_wp2_with fail
         try dsimp only
         iterate 60 (first | go_step | skip)
         refine bodyPost_ret (v:=.tuple #[.agg #[.string x.name,.slice A1 L1.length c1,.int .i64 x.cpu,.int .i64 x.mem,.int .i64 x.rank,.slice A2 L2.length c2,.slice A3 L3.length c3],.bool true]) (by simp [results,Tryz.results38,go_sem, *]) rfl ⟨[.string x.name,.slice A1 L1.length c1,.int .i64 x.cpu,.int .i64 x.mem,.int .i64 x.rank,.slice A2 L2.length c2,.slice A3 L3.length c3],G1++(G2++G3),by rw [HRY.out];try rfl,?_,?_⟩
         ·exact Zac1
         ·exact (by repeat (first | with_reducible exact HS7.out.below | with_reducible refine aC ?_ atX _))
end Go.Proofs.YtfdgeonannkmaaaGreat
