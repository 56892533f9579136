/- copyHost, copyPod, of the program; l17Host, l17Pod, of the reference. No condition. -/
import Derived.Test.YtkjeocdobidadaaGreatStabM
namespace Go.Proofs.YtkjeocdobidadaaGreat
open Go.ChangeShapes Go.WideShapes Go.ChangeAt Go.RowKit
set_option linter.unusedVariables false
set_option linter.unusedSimpArgs false
set_option maxHeartbeats 4000000
set_option maxRecDepth 100000
theorem OU (W:World) (e:TypeId) (size N:Nat) (hN:W.heap.size = N):(W.alloc (.cells #[] e)).ownsRow N e size (.slice (some ⟨N,0,none⟩) 0 0) 0 []:=by
 subst hN;exact World.ownsRow_made W #[] 0 (Nat.le_refl _) (Nat.zero_le _) S'
structure Cp (w wk:World) (cs zs:List Value):Prop where
 box:oG wk w.heap.size cs
 rb:oG wk (w.heap.size+1) zs
 below:Below w.heap.size w wk
section
variable {w wk w':World} {cs zs:List Value}
theorem Cp.new (w:World) (cs zs:List Value) (t t2:TypeId):Cp w ((w.alloc (.cells cs.toArray t)).alloc (.cells zs.toArray t2)) cs zs :=
 ⟨(oG.new w cs t).ext (ak (aj _) _),(by have:=oG.new (w.alloc (.cells cs.toArray t)) zs t2;rw [World.size_alloc] at this;exact this),ak (ak (aj _) _) _⟩
theorem Cp.ext (h:Cp w wk cs zs) (hb:Below wk.heap.size wk w'):Cp w w' cs zs:=⟨h.box.ext hb,h.rb.ext hb,ah h.below hb⟩
theorem Cp.put (h:Cp w wk cs zs) (i:Nat) (u:Value):Cp w (wk.setCell ⟨w.heap.size,i,none⟩ u) (cs.set i u) zs:=⟨h.box.put i u,h.rb.far O' i u,aC h.below (Nat.le_refl _) u⟩
theorem Cp.lt (h:Cp w wk cs zs):w.heap.size+1 < wk.heap.size:=h.rb.lt
end
theorem alT (x:Host) (cs:List Value) (F:List Nat) (w:World) (h:rd w x cs F) (hl1:(x.labels.length:Int)≤1048576) (hl2:(x.aT.length:Int)≤1048576) :
 Calls Tryz.prog 106 #[.agg cs.toArray] w fun e w'=>∃cs F,e = .returned (.agg cs.toArray)∧Own w' w.heap.size x cs F∧Below w.heap.size w w':=by
 obtain ⟨gu,gy,jw,kJ,kK,qU,hck,qp,hname,dO,vg,hmem,uI,jq⟩:=iy h;subst hck;clear qp h;go_enter Tryz.func106,Tryz.ntmps106;have S0:=Cp.new w [.string x.name,.slice gu x.labels.length gy,.int .i64 x.cpu,.int .i64 x.mem,.int .i64 x.slots,.slice kJ x.aT.length kK] [.string ⟨#[]⟩,.slice none 0 0,.int .i64 0,.int .i64 0,.int .i64 0,.slice none 0 0] 42 42;have HM1:=I' (OU ((w.alloc (.cells ([.string x.name,.slice gu x.labels.length gy,.int .i64 x.cpu,.int .i64 x.mem,.int .i64 x.slots,.slice kJ x.aT.length kK]:List Value).toArray 42)).alloc (.cells ([.string ⟨#[]⟩,.slice none 0 0,.int .i64 0,.int .i64 0,.int .i64 0,.slice none 0 0]:List Value).toArray 42)) 107 2 (w.heap.size+1+1) aua)
 go_wp2_with (
 first
  | (at_builtin
     refine rW (o:=⟨some 6,_,_,_,_,_⟩) afn J' J' _ _ J' _ (w.heap.size+1+1) _ 0 [] HM1.out J' x.labels gu gy _ (dO.ext (ak S0.below _)) J' O' O' aua ?_;intro v1 w1 ds1 E1 ajt aiI hown1 hg1 hat1;go_must (obtain ⟨A1,c1,hv1⟩:=mY hown1)
     go_must (subst hv1)
     go_must (simp only [Nat.zero_add,List.nil_append] at hown1)
     go_must (have hb1:Below (w.heap.size+1+1) ((w.alloc (.cells ([.string x.name,.slice gu x.labels.length gy,.int .i64 x.cpu,.int .i64 x.mem,.int .i64 x.slots,.slice kJ x.aT.length kK]:List Value).toArray 42)).alloc (.cells ([.string ⟨#[]⟩,.slice none 0 0,.int .i64 0,.int .i64 0,.int .i64 0,.slice none 0 0]:List Value).toArray 42)) w1:=lS HM1.out hg1 ((Below.refl _ _).alloc aua _) aua)
     go_must (have S1':=Cp.ext S0 (hb1.mono aua))
     go_must (have hrd1:jo w1 x.labels ds1 E1:=ajt.frame (fun b hb=>hg1.block b (ajt.lt b hb) (fun e=>by have h1:=dO.lt b (aiI b hb);have h2:=S0.below.size;simp [Value.ownBlock,World.setCell] at e h2;omega)) hg1.size)
     go_must (obtain ⟨A0,c0,G1,hv0,jX⟩:=Own.of_flat acO hown1 hrd1)
     go_must (simp only [Value.slice.injEq,true_and] at hv0)
     go_must (obtain ⟨rfl,rfl⟩:=hv0)
     go_must (have k1:=S1'.box.cell (i:=1) (u:=.slice gu x.labels.length gy) rfl)
     go_must (have f1:=S1'.box.fz 1)
     go_must (have l1:=S1'.box.lt)
     go_must (have anS:=I' (show ∀b∈G1,b < w1.heap.size from jX.lt))
     go_must (have S1:=S1'.put 1 (.slice A1 x.labels.length c1))
     go_must (replace jX:=jX.setCell (p:=⟨w.heap.size,1,none⟩) av3 (.slice A1 x.labels.length c1))
     go_must (have m1:=S1.box.cell (i:=5) (u:=.slice kJ x.aT.length kK) rfl)
     go_must (have z1:=S1'.lt)
     go_must (have HM2:=I' (OU (w1.setCell ⟨w.heap.size,1,none⟩ (.slice A1 x.labels.length c1)) 151 3 (w1.heap.size) aua)))
  | (at_builtin
     refine rW (o:=⟨some 11,_,_,_,_,_⟩) alP J' J' _ _ J' _ (w1.heap.size) _ 0 [] HM2.out J' x.aT kJ kK _ (jq.ext (ak S1.below _)) J' O' O' aua ?_;intro v2 w2 ds2 E2 hrc2 hsub2 hown2 hg2 anT;go_must (obtain ⟨A2,c2,hv2⟩:=mY hown2)
     go_must (subst hv2)
     go_must (simp only [Nat.zero_add,List.nil_append] at hown2)
     go_must (have hb2:Below (w1.heap.size) (w1.setCell ⟨w.heap.size,1,none⟩ (.slice A1 x.labels.length c1)) w2:=lS HM2.out hg2 ((Below.refl _ _).alloc aua _) aua)
     go_must (have S2':=Cp.ext S1 (hb2.mono aua))
     go_must (have hrd2:jo w2 x.aT ds2 E2:=hrc2.frame (fun b hb=>hg2.block b (hrc2.lt b hb) (fun e=>by have h1:=jq.lt b (hsub2 b hb);have h2:=S1.below.size;simp [Value.ownBlock,World.setCell] at e h2;omega)) hg2.size)
     go_must (obtain ⟨A0,c0,G2,hv0,hO2⟩:=Own.of_flat aiH hown2 hrd2)
     go_must (simp only [Value.slice.injEq,true_and] at hv0)
     go_must (obtain ⟨rfl,rfl⟩:=hv0)
     go_must (have k2:=S2'.box.cell (i:=5) (u:=.slice kJ x.aT.length kK) rfl)
     go_must (have f2:=S2'.box.fz 5)
     go_must (have l2:=S2'.box.lt)
     go_must (have S2:=S2'.put 5 (.slice A2 x.aT.length c2))
     go_must (replace jX:=jX.ext (hb2.mono aua))
     go_must (replace jX:=jX.setCell (p:=⟨w.heap.size,5,none⟩) au4 (.slice A2 x.aT.length c2))
     go_must (replace hO2:=hO2.setCell (p:=⟨w.heap.size,5,none⟩) au4 (.slice A2 x.aT.length c2))
     go_must (have q0:=S2.box.cell (i:=0) (u:=.string x.name) rfl)
     go_must (have q1:=S2.box.cell (i:=1) (u:=.slice A1 x.labels.length c1) rfl)
     go_must (have q2:=S2.box.cell (i:=2) (u:=.int .i64 x.cpu) rfl)
     go_must (have q3:=S2.box.cell (i:=3) (u:=.int .i64 x.mem) rfl)
     go_must (have q4:=S2.box.cell (i:=4) (u:=.int .i64 x.slots) rfl)
     go_must (have q5:=S2.box.cell (i:=5) (u:=.slice A2 x.aT.length c2) rfl)
     go_must (have r0:=S2.rb.cell (i:=0) (u:=.string ⟨#[]⟩) rfl)
     go_must (have r1:=S2.rb.cell (i:=1) (u:=.slice none 0 0) rfl)
     go_must (have r2:=S2.rb.cell (i:=2) (u:=.int .i64 0) rfl)
     go_must (have r3:=S2.rb.cell (i:=3) (u:=.int .i64 0) rfl)
     go_must (have r4:=S2.rb.cell (i:=4) (u:=.int .i64 0) rfl)
     go_must (have r5:=S2.rb.cell (i:=5) (u:=.slice none 0 0) rfl)
     go_must (have rf:=S2.rb.fz)
     go_must (have rl:=S2.rb.lt)
     go_must (have z2:=S2'.lt)
     go_must (have y2:w1.heap.size≤w2.heap.size:=by have:=hb2.size;(try simp [World.setCell] at this);omega)))
 have HO1:=I' jX;have RZ:=I' hO2;have HS:=I' S2;clear jX hO2 S1 S1' S2 S2' S0;try dsimp only
 iterate 200 (first | go_step | skip)
 refine bodyPost_ret (v:=.agg #[.string x.name,.slice A1 x.labels.length c1,.int .i64 x.cpu,.int .i64 x.mem,.int .i64 x.slots,.slice A2 x.aT.length c2]) (by simp [results,Tryz.results106,go_sem, *]) rfl ⟨[.string x.name,.slice A1 x.labels.length c1,.int .i64 x.cpu,.int .i64 x.mem,.int .i64 x.slots,.slice A2 x.aT.length c2],(G1++G2),rfl,?_,?_⟩;rotate_left
 ·exact au5
 refine Own.up (B':=w.heap.size+1+1) (fun x:Host=>(x.name,x.labels,x.cpu,x.mem,x.slots,x.aT)) ?_ O';refine Own.cons (c1:=[.string x.name]) (rdStr _ x.name (rV hname)) ?_;refine Own.pair (B2:=w1.heap.size) (c1:=[.slice A1 x.labels.length c1]) (F1:=G1) ?_ ?_ O' anS.out
 ·exact av4
 refine Own.cons (c1:=[.int .i64 x.cpu]) (jL _ x.cpu vg) ?_;refine Own.cons (c1:=[.int .i64 x.mem]) (jL _ x.mem hmem) ?_;refine Own.cons (c1:=[.int .i64 x.slots]) (jL _ x.slots uI) ?_;exact av5
theorem anU (x:nI) (cs:List Value) (F:List Nat) (w:World) (h:rd w x cs F) (hl1:(x.labels.length:Int)≤1048576) (hl2:(x.needs.length:Int)≤1048576) (hl3:(x.tolerances.length:Int)≤1048576) (hv:∀y∈x.needs,(y.values.length:Int)≤1048576) :
 Calls Tryz.prog 77 #[.agg cs.toArray] w fun e w'=>∃cs F,e = .returned (.agg cs.toArray)∧Own w' w.heap.size x cs F∧Below w.heap.size w w':=by
 have HV:=I' hv;clear hv;obtain ⟨gu,gy,jw,oh,nT,wG,fA,fB,jY,hck,qp,hname,dO,vg,hmem,BJ,mX,eG⟩:=dL h;subst hck;clear qp h;go_enter Tryz.func77,Tryz.ntmps77;have S0:=Cp.new w [.string x.name,.slice gu x.labels.length gy,.int .i64 x.cpu,.int .i64 x.mem,.int .i64 x.rank,.slice oh x.needs.length nT,.slice fA x.tolerances.length fB] [.string ⟨#[]⟩,.slice none 0 0,.int .i64 0,.int .i64 0,.int .i64 0,.slice none 0 0,.slice none 0 0] 39 39;have HM1:=I' (OU ((w.alloc (.cells ([.string x.name,.slice gu x.labels.length gy,.int .i64 x.cpu,.int .i64 x.mem,.int .i64 x.rank,.slice oh x.needs.length nT,.slice fA x.tolerances.length fB]:List Value).toArray 39)).alloc (.cells ([.string ⟨#[]⟩,.slice none 0 0,.int .i64 0,.int .i64 0,.int .i64 0,.slice none 0 0,.slice none 0 0]:List Value).toArray 39)) 107 2 (w.heap.size+1+1) aua)
 go_wp2_with (
  at_builtin
  refine rW (o:=⟨some 6,_,_,_,_,_⟩) afn J' J' _ _ J' _ (w.heap.size+1+1) _ 0 [] HM1.out J' x.labels gu gy _ (dO.ext (ak S0.below _)) J' O' O' aua ?_;intro v1 w1 ds1 E1 ajt aiI hown1 hg1 hat1;go_must (obtain ⟨A1,c1,hv1⟩:=mY hown1)
  go_must (subst hv1)
  go_must (simp only [Nat.zero_add,List.nil_append] at hown1)
  go_must (have hb1:Below (w.heap.size+1+1) ((w.alloc (.cells ([.string x.name,.slice gu x.labels.length gy,.int .i64 x.cpu,.int .i64 x.mem,.int .i64 x.rank,.slice oh x.needs.length nT,.slice fA x.tolerances.length fB]:List Value).toArray 39)).alloc (.cells ([.string ⟨#[]⟩,.slice none 0 0,.int .i64 0,.int .i64 0,.int .i64 0,.slice none 0 0,.slice none 0 0]:List Value).toArray 39)) w1:=lS HM1.out hg1 ((Below.refl _ _).alloc aua _) aua)
  go_must (have S1':=Cp.ext S0 (hb1.mono aua))
  go_must (have hrd1:jo w1 x.labels ds1 E1:=ajt.frame (fun b hb=>hg1.block b (ajt.lt b hb) (fun e=>by have h1:=dO.lt b (aiI b hb);have h2:=S0.below.size;simp [Value.ownBlock,World.setCell] at e h2;omega)) hg1.size)
  go_must (obtain ⟨A0,c0,G1,hv0,jX⟩:=Own.of_flat acO hown1 hrd1)
  go_must (simp only [Value.slice.injEq,true_and] at hv0)
  go_must (obtain ⟨rfl,rfl⟩:=hv0)
  go_must (have k1:=S1'.box.cell (i:=1) (u:=.slice gu x.labels.length gy) rfl)
  go_must (have f1:=S1'.box.fz 1)
  go_must (have l1:=S1'.box.lt)
  go_must (have anS:=I' (show ∀b∈G1,b < w1.heap.size from jX.lt))
  go_must (have S1:=S1'.put 1 (.slice A1 x.labels.length c1))
  go_must (replace jX:=jX.setCell (p:=⟨w.heap.size,1,none⟩) av3 (.slice A1 x.labels.length c1))
  go_must (have m1:=S1.box.cell (i:=5) (u:=.slice oh x.needs.length nT) rfl)
  go_must (have z1:=S1'.lt))
 go_wp2_with fail
 refine (alR x.needs _ _ _ _ (mX.ext S1.below) hl2 HV.out).mono ?_;rintro e w2 ⟨A2,c2,G2,rfl,hO2,hb2⟩;have S2':=S1.ext hb2;replace hO2:=hO2.mono (B':=w1.heap.size) avq;have k2:=S2'.box.cell (i:=5) (u:=.slice oh x.needs.length nT) rfl;have f2:=S2'.box.fz 5;have l2:=S2'.box.lt;have HLT2:=I' (show ∀b∈G2,b < w2.heap.size from hO2.lt);have S2:=S2'.put 5 (.slice A2 x.needs.length c2);replace jX:=jX.ext hb2;replace jX:=jX.setCell (p:=⟨w.heap.size,5,none⟩) au4 (.slice A2 x.needs.length c2);replace hO2:=hO2.setCell (p:=⟨w.heap.size,5,none⟩) au4 (.slice A2 x.needs.length c2);have m2:=S2.box.cell (i:=6) (u:=.slice fA x.tolerances.length fB) rfl;have z2:=S2'.lt;have y2:w1.heap.size≤w2.heap.size:=by have:=hb2.size;(try simp [World.setCell] at this);omega
 have HM3:=I' (OU (w2.setCell ⟨w.heap.size,5,none⟩ (.slice A2 x.needs.length c2)) 148 4 (w2.heap.size) aua)
 go_wp2_with (
  at_builtin
  refine rW (o:=⟨some 15,_,_,_,_,_⟩) abo J' J' _ _ J' _ (w2.heap.size) _ 0 [] HM3.out J' x.tolerances fA fB _ (eG.ext (ak S2.below _)) J' O' O' aua ?_;intro v3 w3 ds3 E3 hrc3 NW hown3 hg3 hat3;go_must (obtain ⟨A3,c3,hv3⟩:=mY hown3)
  go_must (subst hv3)
  go_must (simp only [Nat.zero_add,List.nil_append] at hown3)
  go_must (have hb3:Below (w2.heap.size) (w2.setCell ⟨w.heap.size,5,none⟩ (.slice A2 x.needs.length c2)) w3:=lS HM3.out hg3 ((Below.refl _ _).alloc aua _) aua)
  go_must (have S3':=Cp.ext S2 (hb3.mono aua))
  go_must (have hrd3:jo w3 x.tolerances ds3 E3:=hrc3.frame (fun b hb=>hg3.block b (hrc3.lt b hb) (fun e=>by have h1:=eG.lt b (NW b hb);have h2:=S2.below.size;simp [Value.ownBlock,World.setCell] at e h2;omega)) hg3.size)
  go_must (obtain ⟨A0,c0,G3,hv0,hO3⟩:=Own.of_flat Zk hown3 hrd3)
  go_must (simp only [Value.slice.injEq,true_and] at hv0)
  go_must (obtain ⟨rfl,rfl⟩:=hv0)
  go_must (have k3:=S3'.box.cell (i:=6) (u:=.slice fA x.tolerances.length fB) rfl)
  go_must (have f3:=S3'.box.fz 6)
  go_must (have l3:=S3'.box.lt)
  go_must (have S3:=S3'.put 6 (.slice A3 x.tolerances.length c3))
  go_must (replace jX:=jX.ext (hb3.mono aua))
  go_must (replace hO2:=hO2.ext (hb3.mono aua))
  go_must (replace jX:=jX.setCell (p:=⟨w.heap.size,6,none⟩) avr (.slice A3 x.tolerances.length c3))
  go_must (replace hO2:=hO2.setCell (p:=⟨w.heap.size,6,none⟩) avr (.slice A3 x.tolerances.length c3))
  go_must (replace hO3:=hO3.setCell (p:=⟨w.heap.size,6,none⟩) avr (.slice A3 x.tolerances.length c3))
  go_must (have q0:=S3.box.cell (i:=0) (u:=.string x.name) rfl)
  go_must (have q1:=S3.box.cell (i:=1) (u:=.slice A1 x.labels.length c1) rfl)
  go_must (have q2:=S3.box.cell (i:=2) (u:=.int .i64 x.cpu) rfl)
  go_must (have q3:=S3.box.cell (i:=3) (u:=.int .i64 x.mem) rfl)
  go_must (have q4:=S3.box.cell (i:=4) (u:=.int .i64 x.rank) rfl)
  go_must (have q5:=S3.box.cell (i:=5) (u:=.slice A2 x.needs.length c2) rfl)
  go_must (have q6:=S3.box.cell (i:=6) (u:=.slice A3 x.tolerances.length c3) rfl)
  go_must (have r0:=S3.rb.cell (i:=0) (u:=.string ⟨#[]⟩) rfl)
  go_must (have r1:=S3.rb.cell (i:=1) (u:=.slice none 0 0) rfl)
  go_must (have r2:=S3.rb.cell (i:=2) (u:=.int .i64 0) rfl)
  go_must (have r3:=S3.rb.cell (i:=3) (u:=.int .i64 0) rfl)
  go_must (have r4:=S3.rb.cell (i:=4) (u:=.int .i64 0) rfl)
  go_must (have r5:=S3.rb.cell (i:=5) (u:=.slice none 0 0) rfl)
  go_must (have r6:=S3.rb.cell (i:=6) (u:=.slice none 0 0) rfl)
  go_must (have rf:=S3.rb.fz)
  go_must (have rl:=S3.rb.lt)
  go_must (have z3:=S3'.lt)
  go_must (have y3:w2.heap.size≤w3.heap.size:=by have:=hb3.size;(try simp [World.setCell] at this);omega))
 have HO1:=I' jX;have RZ:=I' hO2;have HO3:=I' hO3;have HS:=I' S3;clear jX hO2 hO3 S1 S1' S2 S2' S3 S3' S0;try dsimp only
 iterate 200 (first | go_step | skip)
 refine bodyPost_ret (v:=.agg #[.string x.name,.slice A1 x.labels.length c1,.int .i64 x.cpu,.int .i64 x.mem,.int .i64 x.rank,.slice A2 x.needs.length c2,.slice A3 x.tolerances.length c3]) (by simp [results,Tryz.results77,go_sem, *]) rfl ⟨[.string x.name,.slice A1 x.labels.length c1,.int .i64 x.cpu,.int .i64 x.mem,.int .i64 x.rank,.slice A2 x.needs.length c2,.slice A3 x.tolerances.length c3],(G1++(G2++G3)),rfl,?_,?_⟩;rotate_left
 ·exact au5
 refine Own.up (B':=w.heap.size+1+1) (fun x:nI=>(x.name,x.labels,x.cpu,x.mem,x.rank,x.needs,x.tolerances)) ?_ O';refine Own.cons (c1:=[.string x.name]) (rdStr _ x.name (rV hname)) ?_;refine Own.pair (B2:=w1.heap.size) (c1:=[.slice A1 x.labels.length c1]) (F1:=G1) ?_ ?_ O' anS.out
 ·exact av4
 refine Own.cons (c1:=[.int .i64 x.cpu]) (jL _ x.cpu vg) ?_;refine Own.cons (c1:=[.int .i64 x.mem]) (jL _ x.mem hmem) ?_;refine Own.cons (c1:=[.int .i64 x.rank]) (jL _ x.rank BJ) ?_;refine Own.pair (B2:=w2.heap.size) (c1:=[.slice A2 x.needs.length c2]) (F1:=G2) ?_ ?_ O' HLT2.out
 ·exact av5
 exact (by repeat (first | with_reducible exact HO3.out | with_reducible refine Own.setCell ?_ auR _))
end Go.Proofs.YtkjeocdobidadaaGreat
