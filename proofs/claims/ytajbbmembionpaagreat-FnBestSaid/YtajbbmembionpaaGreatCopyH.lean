/- copyHost, copyPod, of the program; l17Host, l17Pod, of the reference. No condition. -/
import Derived.Test.YtajbbmembionpaaGreatRoomK
import Derived.Test.YtajbbmembionpaaGreatRegionCut
namespace Go.Proofs.YtajbbmembionpaaGreat
open Go.ChangeShapes Go.WideShapes Go.ChangeAt Go.RowKit
set_option linter.unusedVariables false
set_option linter.unusedSimpArgs false
set_option maxHeartbeats 4000000
set_option maxRecDepth 100000
theorem OU (W:World) (e:TypeId) (size N:Nat) (hN:W.heap.size = N):(W.alloc (.cells #[] e)).ownsRow N e size (.slice (some ⟨N,0,none⟩) 0 0) 0 []:=by
 subst hN;exact World.ownsRow_made W #[] 0 (Nat.le_refl _) (Nat.zero_le _) S'
structure Cp (w wk:World) (cs zs:List Value):Prop where
 box:oG wk w.heap.size cs
 rb:oG wk (w.heap.size+1) zs
 below:Below w.heap.size w wk
section
variable {w wk w':World} {cs zs:List Value}
theorem Cp.new (w:World) (cs zs:List Value) (t t2:TypeId):Cp w ((w.alloc (.cells cs.toArray t)).alloc (.cells zs.toArray t2)) cs zs :=
 ⟨(oG.new w cs t).ext (ak (aj _) _),(by have:=oG.new (w.alloc (.cells cs.toArray t)) zs t2;rw [World.size_alloc] at this;exact this),ak (ak (aj _) _) _⟩
theorem Cp.ext (h:Cp w wk cs zs) (hb:Below wk.heap.size wk w'):Cp w w' cs zs:=⟨h.box.ext hb,h.rb.ext hb,ah h.below hb⟩
theorem Cp.put (h:Cp w wk cs zs) (i:Nat) (u:Value):Cp w (wk.setCell ⟨w.heap.size,i,none⟩ u) (cs.set i u) zs:=⟨h.box.put i u,h.rb.bj J i u,aC h.below (Nat.le_refl _) u⟩
theorem Cp.lt (h:Cp w wk cs zs):w.heap.size+1 < wk.heap.size:=h.rb.lt
end
theorem Oc (x:aM) (cs:List Value) (F:List Nat) (w:World) (h:rd w x cs F) (iY:(x.labels.length:Int)≤1048576) (cK:(x.aT.length:Int)≤1048576) :
 Calls Tryz.prog 91 #[.agg cs.toArray] w fun e w'=>∃cs F,e = .returned (.agg cs.toArray)∧am w' w.heap.size x cs F∧Below w.heap.size w w':=by
 obtain ⟨gu,gy,jw,kJ,kK,qU,aw,qp,hname,dO,vg,cF,uI,jq⟩:=iy h;subst aw;clear qp h;go_enter Tryz.func91,Tryz.ntmps91;have S0:=Cp.new w [.string x.name,.slice gu x.labels.length gy,.int .i64 x.av,.int .i64 x.mem,.int .i64 x.slots,.slice kJ x.aT.length kK] [.string ⟨#[]⟩,.slice none 0 0,.int .i64 0,.int .i64 0,.int .i64 0,.slice none 0 0] 47 47;have I6:=I (OU ((w.alloc (.cells ([.string x.name,.slice gu x.labels.length gy,.int .i64 x.av,.int .i64 x.mem,.int .i64 x.slots,.slice kJ x.aT.length kK]:List Value).toArray 47)).alloc (.cells ([.string ⟨#[]⟩,.slice none 0 0,.int .i64 0,.int .i64 0,.int .i64 0,.slice none 0 0]:List Value).toArray 47)) 67 2 (w.heap.size+1+1) eI)
 go_wp2_with (
 first
  | (at_builtin
     refine rW (o:=⟨some 6,_,_,_,_,_⟩) VM O O _ _ O _ (w.heap.size+1+1) _ 0 [] I6.out O x.labels gu gy _ (dO.ext (ak S0.below _)) O J J eI ?_;intro v1 w1 PG E1 I7 PH jN kz PI;go_must (obtain ⟨A1,c1,tI⟩:=mY jN)
     go_must (subst tI)
     go_must (simp only [Nat.zero_add,List.nil_append] at jN)
     go_must (have bo:Below (w.heap.size+1+1) ((w.alloc (.cells ([.string x.name,.slice gu x.labels.length gy,.int .i64 x.av,.int .i64 x.mem,.int .i64 x.slots,.slice kJ x.aT.length kK]:List Value).toArray 47)).alloc (.cells ([.string ⟨#[]⟩,.slice none 0 0,.int .i64 0,.int .i64 0,.int .i64 0,.slice none 0 0]:List Value).toArray 47)) w1:=lS I6.out kz ((Below.refl _ _).alloc eI _) eI)
     go_must (have oV:=Cp.ext S0 (bo.mono eI))
     go_must (have AD:jo w1 x.labels PG E1:=I7.frame (fun b hb=>kz.block b (I7.lt b hb) (fun e=>by have h1:=dO.lt b (PH b hb);have h2:=S0.below.size;simp [Value.ownBlock,World.setCell] at e h2;omega)) kz.size)
     go_must (obtain ⟨A0,c0,G1,f9,jX⟩:=am.of_flat VN jN AD)
     go_must (simp only [Value.slice.injEq,true_and] at f9)
     go_must (obtain ⟨rfl,rfl⟩:=f9)
     go_must (have k1:=oV.box.cell (i:=1) (u:=.slice gu x.labels.length gy) rfl)
     go_must (have f1:=oV.box.fz 1)
     go_must (have l1:=oV.box.lt)
     go_must (have AE:=I (show ∀b∈G1,b < w1.heap.size from jX.lt))
     go_must (have S1:=oV.put 1 (.slice A1 x.labels.length c1))
     go_must (replace jX:=jX.setCell (p:=⟨w.heap.size,1,none⟩) Um (.slice A1 x.labels.length c1))
     go_must (have m1:=S1.box.cell (i:=5) (u:=.slice kJ x.aT.length kK) rfl)
     go_must (have z1:=oV.lt)
     go_must (have VS:=I (OU (w1.setCell ⟨w.heap.size,1,none⟩ (.slice A1 x.labels.length c1)) 126 3 (w1.heap.size) eI)))
  | (at_builtin
     refine rW (o:=⟨some 11,_,_,_,_,_⟩) alP O O _ _ O _ (w1.heap.size) _ 0 [] VS.out O x.aT kJ kK _ (jq.ext (ak S1.below _)) O J J eI ?_;intro v2 w2 PE E2 qt oY ej ev MI;go_must (obtain ⟨A2,c2,gF⟩:=mY ej)
     go_must (subst gF)
     go_must (simp only [Nat.zero_add,List.nil_append] at ej)
     go_must (have ap:Below (w1.heap.size) (w1.setCell ⟨w.heap.size,1,none⟩ (.slice A1 x.labels.length c1)) w2:=lS VS.out ev ((Below.refl _ _).alloc eI _) eI)
     go_must (have oT:=Cp.ext S1 (ap.mono eI))
     go_must (have PJ:jo w2 x.aT PE E2:=qt.frame (fun b hb=>ev.block b (qt.lt b hb) (fun e=>by have h1:=jq.lt b (oY b hb);have h2:=S1.below.size;simp [Value.ownBlock,World.setCell] at e h2;omega)) ev.size)
     go_must (obtain ⟨A0,c0,G2,f9,bE⟩:=am.of_flat aiH ej PJ)
     go_must (simp only [Value.slice.injEq,true_and] at f9)
     go_must (obtain ⟨rfl,rfl⟩:=f9)
     go_must (have k2:=oT.box.cell (i:=5) (u:=.slice kJ x.aT.length kK) rfl)
     go_must (have f2:=oT.box.fz 5)
     go_must (have l2:=oT.box.lt)
     go_must (have S2:=oT.put 5 (.slice A2 x.aT.length c2))
     go_must (replace jX:=jX.ext (ap.mono eI))
     go_must (replace jX:=jX.setCell (p:=⟨w.heap.size,5,none⟩) Mh (.slice A2 x.aT.length c2))
     go_must (replace bE:=bE.setCell (p:=⟨w.heap.size,5,none⟩) Mh (.slice A2 x.aT.length c2))
     go_must (have q0:=S2.box.cell (i:=0) (u:=.string x.name) rfl)
     go_must (have q1:=S2.box.cell (i:=1) (u:=.slice A1 x.labels.length c1) rfl)
     go_must (have q2:=S2.box.cell (i:=2) (u:=.int .i64 x.av) rfl)
     go_must (have q3:=S2.box.cell (i:=3) (u:=.int .i64 x.mem) rfl)
     go_must (have q4:=S2.box.cell (i:=4) (u:=.int .i64 x.slots) rfl)
     go_must (have q5:=S2.box.cell (i:=5) (u:=.slice A2 x.aT.length c2) rfl)
     go_must (have r0:=S2.rb.cell (i:=0) (u:=.string ⟨#[]⟩) rfl)
     go_must (have r1:=S2.rb.cell (i:=1) (u:=.slice none 0 0) rfl)
     go_must (have r2:=S2.rb.cell (i:=2) (u:=.int .i64 0) rfl)
     go_must (have r3:=S2.rb.cell (i:=3) (u:=.int .i64 0) rfl)
     go_must (have r4:=S2.rb.cell (i:=4) (u:=.int .i64 0) rfl)
     go_must (have r5:=S2.rb.cell (i:=5) (u:=.slice none 0 0) rfl)
     go_must (have rf:=S2.rb.fz)
     go_must (have rl:=S2.rb.lt)
     go_must (have z2:=oT.lt)
     go_must (have y2:w1.heap.size≤w2.heap.size:=by have:=ap.size;(try simp [World.setCell] at this);omega)))
 have gb:=I jX;have RZ:=I bE;have HS:=I S2;clear jX bE S1 oV S2 oT S0;try dsimp only
 iterate 200 (first | go_step | skip)
 refine bodyPost_ret (v:=.agg #[.string x.name,.slice A1 x.labels.length c1,.int .i64 x.av,.int .i64 x.mem,.int .i64 x.slots,.slice A2 x.aT.length c2]) (by simp [results,Tryz.results91,go_sem, *]) rfl ⟨[.string x.name,.slice A1 x.labels.length c1,.int .i64 x.av,.int .i64 x.mem,.int .i64 x.slots,.slice A2 x.aT.length c2],(G1++G2),rfl,?_,?_⟩;rotate_left
 ·exact OI
 refine am.up (B':=w.heap.size+1+1) (fun x:aM=>(x.name,x.labels,x.av,x.mem,x.slots,x.aT)) ?_ J;refine am.cons (c1:=[.string x.name]) (rdStr _ x.name (rV hname)) ?_;refine am.pair (B2:=w1.heap.size) (c1:=[.slice A1 x.labels.length c1]) (F1:=G1) ?_ ?_ J AE.out
 ·exact Un
 refine am.cons (c1:=[.int .i64 x.av]) (jL _ x.av vg) ?_;refine am.cons (c1:=[.int .i64 x.mem]) (jL _ x.mem cF) ?_;refine am.cons (c1:=[.int .i64 x.slots]) (jL _ x.slots uI) ?_;exact Uo
theorem N3 (x:nI) (cs:List Value) (F:List Nat) (w:World) (h:rd w x cs F) (iY:(x.labels.length:Int)≤1048576) (cK:(x.ag.length:Int)≤1048576) (tx:(x.ae.length:Int)≤1048576) (hv:∀y∈x.ag,(y.values.length:Int)≤1048576) :
 Calls Tryz.prog 40 #[.agg cs.toArray] w fun e w'=>∃cs F,e = .returned (.agg cs.toArray)∧am w' w.heap.size x cs F∧Below w.heap.size w w':=by
 have HV:=I hv;clear hv;obtain ⟨gu,gy,jw,oh,nT,wG,fA,fB,jY,aw,qp,hname,dO,vg,cF,BJ,mX,eG⟩:=dL h;subst aw;clear qp h;go_enter Tryz.func40,Tryz.ntmps40;have S0:=Cp.new w [.string x.name,.slice gu x.labels.length gy,.int .i64 x.av,.int .i64 x.mem,.int .i64 x.ar,.slice oh x.ag.length nT,.slice fA x.ae.length fB] [.string ⟨#[]⟩,.slice none 0 0,.int .i64 0,.int .i64 0,.int .i64 0,.slice none 0 0,.slice none 0 0] 35 35;have I6:=I (OU ((w.alloc (.cells ([.string x.name,.slice gu x.labels.length gy,.int .i64 x.av,.int .i64 x.mem,.int .i64 x.ar,.slice oh x.ag.length nT,.slice fA x.ae.length fB]:List Value).toArray 35)).alloc (.cells ([.string ⟨#[]⟩,.slice none 0 0,.int .i64 0,.int .i64 0,.int .i64 0,.slice none 0 0,.slice none 0 0]:List Value).toArray 35)) 67 2 (w.heap.size+1+1) eI)
 go_wp2_with (
  at_builtin
  refine rW (o:=⟨some 6,_,_,_,_,_⟩) VM O O _ _ O _ (w.heap.size+1+1) _ 0 [] I6.out O x.labels gu gy _ (dO.ext (ak S0.below _)) O J J eI ?_;intro v1 w1 PG E1 I7 PH jN kz PI;go_must (obtain ⟨A1,c1,tI⟩:=mY jN)
  go_must (subst tI)
  go_must (simp only [Nat.zero_add,List.nil_append] at jN)
  go_must (have bo:Below (w.heap.size+1+1) ((w.alloc (.cells ([.string x.name,.slice gu x.labels.length gy,.int .i64 x.av,.int .i64 x.mem,.int .i64 x.ar,.slice oh x.ag.length nT,.slice fA x.ae.length fB]:List Value).toArray 35)).alloc (.cells ([.string ⟨#[]⟩,.slice none 0 0,.int .i64 0,.int .i64 0,.int .i64 0,.slice none 0 0,.slice none 0 0]:List Value).toArray 35)) w1:=lS I6.out kz ((Below.refl _ _).alloc eI _) eI)
  go_must (have oV:=Cp.ext S0 (bo.mono eI))
  go_must (have AD:jo w1 x.labels PG E1:=I7.frame (fun b hb=>kz.block b (I7.lt b hb) (fun e=>by have h1:=dO.lt b (PH b hb);have h2:=S0.below.size;simp [Value.ownBlock,World.setCell] at e h2;omega)) kz.size)
  go_must (obtain ⟨A0,c0,G1,f9,jX⟩:=am.of_flat VN jN AD)
  go_must (simp only [Value.slice.injEq,true_and] at f9)
  go_must (obtain ⟨rfl,rfl⟩:=f9)
  go_must (have k1:=oV.box.cell (i:=1) (u:=.slice gu x.labels.length gy) rfl)
  go_must (have f1:=oV.box.fz 1)
  go_must (have l1:=oV.box.lt)
  go_must (have AE:=I (show ∀b∈G1,b < w1.heap.size from jX.lt))
  go_must (have S1:=oV.put 1 (.slice A1 x.labels.length c1))
  go_must (replace jX:=jX.setCell (p:=⟨w.heap.size,1,none⟩) Um (.slice A1 x.labels.length c1))
  go_must (have m1:=S1.box.cell (i:=5) (u:=.slice oh x.ag.length nT) rfl)
  go_must (have z1:=oV.lt))
 go_wp2_with fail
 refine (MR x.ag _ _ _ _ (mX.ext S1.below) cK HV.out).mono ?_;rintro e w2 ⟨A2,c2,G2,rfl,bE,ap⟩;have oT:=S1.ext ap;replace bE:=bE.mono (B':=w1.heap.size) avq;have k2:=oT.box.cell (i:=5) (u:=.slice oh x.ag.length nT) rfl;have f2:=oT.box.fz 5;have l2:=oT.box.lt;have vc:=I (show ∀b∈G2,b < w2.heap.size from bE.lt);have S2:=oT.put 5 (.slice A2 x.ag.length c2);replace jX:=jX.ext ap;replace jX:=jX.setCell (p:=⟨w.heap.size,5,none⟩) Mh (.slice A2 x.ag.length c2);replace bE:=bE.setCell (p:=⟨w.heap.size,5,none⟩) Mh (.slice A2 x.ag.length c2);have m2:=S2.box.cell (i:=6) (u:=.slice fA x.ae.length fB) rfl;have z2:=oT.lt;have y2:w1.heap.size≤w2.heap.size:=by have:=ap.size;(try simp [World.setCell] at this);omega
 have VV:=I (OU (w2.setCell ⟨w.heap.size,5,none⟩ (.slice A2 x.ag.length c2)) 117 4 (w2.heap.size) eI)
 go_wp2_with (
  at_builtin
  refine rW (o:=⟨some 15,_,_,_,_,_⟩) abo O O _ _ O _ (w2.heap.size) _ 0 [] VV.out O x.ae fA fB _ (eG.ext (ak S2.below _)) O J J eI ?_;intro v3 w3 ds3 E3 I8 NW en o7 vb;go_must (obtain ⟨A3,c3,kX⟩:=mY en)
  go_must (subst kX)
  go_must (simp only [Nat.zero_add,List.nil_append] at en)
  go_must (have aR:Below (w2.heap.size) (w2.setCell ⟨w.heap.size,5,none⟩ (.slice A2 x.ag.length c2)) w3:=lS VV.out o7 ((Below.refl _ _).alloc eI _) eI)
  go_must (have zZ:=Cp.ext S2 (aR.mono eI))
  go_must (have PK:jo w3 x.ae ds3 E3:=I8.frame (fun b hb=>o7.block b (I8.lt b hb) (fun e=>by have h1:=eG.lt b (NW b hb);have h2:=S2.below.size;simp [Value.ownBlock,World.setCell] at e h2;omega)) o7.size)
  go_must (obtain ⟨A0,c0,G3,f9,hO3⟩:=am.of_flat Zk en PK)
  go_must (simp only [Value.slice.injEq,true_and] at f9)
  go_must (obtain ⟨rfl,rfl⟩:=f9)
  go_must (have k3:=zZ.box.cell (i:=6) (u:=.slice fA x.ae.length fB) rfl)
  go_must (have f3:=zZ.box.fz 6)
  go_must (have l3:=zZ.box.lt)
  go_must (have S3:=zZ.put 6 (.slice A3 x.ae.length c3))
  go_must (replace jX:=jX.ext (aR.mono eI))
  go_must (replace bE:=bE.ext (aR.mono eI))
  go_must (replace jX:=jX.setCell (p:=⟨w.heap.size,6,none⟩) OK (.slice A3 x.ae.length c3))
  go_must (replace bE:=bE.setCell (p:=⟨w.heap.size,6,none⟩) OK (.slice A3 x.ae.length c3))
  go_must (replace hO3:=hO3.setCell (p:=⟨w.heap.size,6,none⟩) OK (.slice A3 x.ae.length c3))
  go_must (have q0:=S3.box.cell (i:=0) (u:=.string x.name) rfl)
  go_must (have q1:=S3.box.cell (i:=1) (u:=.slice A1 x.labels.length c1) rfl)
  go_must (have q2:=S3.box.cell (i:=2) (u:=.int .i64 x.av) rfl)
  go_must (have q3:=S3.box.cell (i:=3) (u:=.int .i64 x.mem) rfl)
  go_must (have q4:=S3.box.cell (i:=4) (u:=.int .i64 x.ar) rfl)
  go_must (have q5:=S3.box.cell (i:=5) (u:=.slice A2 x.ag.length c2) rfl)
  go_must (have q6:=S3.box.cell (i:=6) (u:=.slice A3 x.ae.length c3) rfl)
  go_must (have r0:=S3.rb.cell (i:=0) (u:=.string ⟨#[]⟩) rfl)
  go_must (have r1:=S3.rb.cell (i:=1) (u:=.slice none 0 0) rfl)
  go_must (have r2:=S3.rb.cell (i:=2) (u:=.int .i64 0) rfl)
  go_must (have r3:=S3.rb.cell (i:=3) (u:=.int .i64 0) rfl)
  go_must (have r4:=S3.rb.cell (i:=4) (u:=.int .i64 0) rfl)
  go_must (have r5:=S3.rb.cell (i:=5) (u:=.slice none 0 0) rfl)
  go_must (have r6:=S3.rb.cell (i:=6) (u:=.slice none 0 0) rfl)
  go_must (have rf:=S3.rb.fz)
  go_must (have rl:=S3.rb.lt)
  go_must (have z3:=zZ.lt)
  go_must (have y3:w2.heap.size≤w3.heap.size:=by have:=aR.size;(try simp [World.setCell] at this);omega))
 have gb:=I jX;have RZ:=I bE;have gz:=I hO3;have HS:=I S3;clear jX bE hO3 S1 oV S2 oT S3 zZ S0;try dsimp only
 iterate 200 (first | go_step | skip)
 refine bodyPost_ret (v:=.agg #[.string x.name,.slice A1 x.labels.length c1,.int .i64 x.av,.int .i64 x.mem,.int .i64 x.ar,.slice A2 x.ag.length c2,.slice A3 x.ae.length c3]) (by simp [results,Tryz.results40,go_sem, *]) rfl ⟨[.string x.name,.slice A1 x.labels.length c1,.int .i64 x.av,.int .i64 x.mem,.int .i64 x.ar,.slice A2 x.ag.length c2,.slice A3 x.ae.length c3],(G1++(G2++G3)),rfl,?_,?_⟩;rotate_left
 ·exact OI
 refine am.up (B':=w.heap.size+1+1) (fun x:nI=>(x.name,x.labels,x.av,x.mem,x.ar,x.ag,x.ae)) ?_ J;refine am.cons (c1:=[.string x.name]) (rdStr _ x.name (rV hname)) ?_;refine am.pair (B2:=w1.heap.size) (c1:=[.slice A1 x.labels.length c1]) (F1:=G1) ?_ ?_ J AE.out
 ·exact Un
 refine am.cons (c1:=[.int .i64 x.av]) (jL _ x.av vg) ?_;refine am.cons (c1:=[.int .i64 x.mem]) (jL _ x.mem cF) ?_;refine am.cons (c1:=[.int .i64 x.ar]) (jL _ x.ar BJ) ?_;refine am.pair (B2:=w2.heap.size) (c1:=[.slice A2 x.ag.length c2]) (F1:=G2) ?_ ?_ J vc.out
 ·exact Uo
 exact (by repeat (first | with_reducible exact gz.out | with_reducible refine am.setCell ?_ OH _))
structure Cc (w wk:World) (cs zs os:List Value):Prop where
 box:oG wk w.heap.size cs
 rb:oG wk (w.heap.size+1) zs
 ob:oG wk (w.heap.size+1+1) os
 below:Below w.heap.size w wk
section
variable {w wk w':World} {cs zs os:List Value}
theorem Cc.new (w:World) (cs zs os:List Value) (t:TypeId):Cc w (((w.alloc (.cells cs.toArray t)).alloc (.cells zs.toArray t)).alloc (.cells os.toArray t)) cs zs os :=
 have h:=(Cp.new w cs zs t t).ext (ak (aj _) (.cells os.toArray t))
 ⟨h.box,h.rb,(by have:=oG.new ((w.alloc (.cells cs.toArray t)).alloc (.cells zs.toArray t)) os t;rw [World.size_alloc,World.size_alloc] at this;exact this),h.below⟩
theorem Cc.ext (h:Cc w wk cs zs os) (hb:Below wk.heap.size wk w'):Cc w w' cs zs os:=⟨h.box.ext hb,h.rb.ext hb,h.ob.ext hb,ah h.below hb⟩
theorem Cc.put (h:Cc w wk cs zs os) (i:Nat) (u:Value):Cc w (wk.setCell ⟨w.heap.size+1+1,i,none⟩ u) cs zs (os.set i u):=⟨h.box.bj J i u,h.rb.bj J i u,h.ob.put i u,aC h.below bA u⟩
theorem Cc.bj (h:Cc w wk cs zs os) {c:Nat} (hc:w.heap.size+1+1 < c) (i:Nat) (u:Value):Cc w (wk.setCell ⟨c,i,none⟩ u) cs zs os:=⟨h.box.bj J i u,h.rb.bj J i u,h.ob.bj J i u,aC h.below bA u⟩
theorem Cc.lt (h:Cc w wk cs zs os):w.heap.size+1+1 < wk.heap.size:=h.ob.lt
theorem Cc.grown {row:Option Nat} (h:Cc w wk cs zs os) (hg:wk.grownBy w' row) (hr:∀q,row = some q→w.heap.size+1+1 < q):Cc w w' cs zs os :=
 ⟨h.box.keep (hg.block _ h.box.lt Mg),h.rb.keep (hg.block _ h.rb.lt Mg),h.ob.keep (hg.block _ h.ob.lt Mg),
  ⟨hg.os.trans h.below.os,hg.tape.trans h.below.tape,hg.output.trans h.below.output,Nat.le_trans h.below.size hg.size,fun i hi=>(hg.block i avs Mg).trans (h.below.block i hi)⟩⟩
end
theorem oG.grown {w w':World} {g:Nat} {cs:List Value} {row:Option Nat} (h:oG w g cs) (hg:w.grownBy w' row) (hr:∀q,row = some q→q≠g):oG w' g cs:=h.keep (hg.block _ h.lt (fun e=>hr g e.symm rfl))
theorem am.aju {α:Type} [ba α] {w w':World} {B B2:Nat} {x:α} {cs:List Value} {F:List Nat} {row:Option Nat} (h:am w B x cs F) (hg:w.grownBy w' row) (hF:∀y∈F,y < B2) (hr:∀q,row = some q→B2≤q):am w' B x cs F :=
 h.keep (fun y hy=>hg.block y (h.lt y hy) awM) hg.size
theorem am.apg {w:World} {B:Nat} {p:nI} {nm:ByteArray} {n:Int} {ps:List Value} {G:List Nat} (h:am w B p ps G) (h1:nm.size≤maxLen) (h2:bp n):am w B (⟨p,nm,n⟩:af) (ps++[.string nm,.int .i64 n]) G:=by
 refine am.up (B':=B) (fun x:af=>(x.aS,x.on,x.seq)) ?_ (Nat.le_refl _);have h3:am w (B+w.heap.size) (nm,n) ([.string nm]++[.int .i64 n]) []:=am.cons (rdStr w nm (rV h1)) (am.flat (jL w n h2));have h4:=am.pair h h3 J (fun b hb=>by have:=h.lt b hb;omega);simpa using h4
theorem am.alU {w:World} {B B3 B4:Nat} {H:List aM} {P:List af} {n p q f:Int} {Ah Ap:Option Addr} {ch cp:Nat} {Gh Gp:List Nat} (h:am w B3 H [.slice Ah H.length ch] Gh) (k:am w B4 P [.slice Ap P.length cp] Gp) (hB:B≤B3) (wD:B3≤B4) (hG:∀y∈Gh,y < B4) (hn:bp n) (hp:bp p) (hq:bp q) (hf:bp f) :
 am w B (⟨H,P,n,⟨p,q,f⟩⟩:aU) [.slice Ah H.length ch,.slice Ap P.length cp,.int .i64 n,.int .i64 p,.int .i64 q,.int .i64 f] (Gh++Gp):=by
 refine am.up (B':=B3) (fun x:aU=>(x.aa,x.au,x.next,x.weights)) ?_ hB;have h5:am w (B4+w.heap.size) (⟨p,q,f⟩:rZ) ([.int .i64 p]++([.int .i64 q]++[.int .i64 f])) []:=by refine am.up (B':=B4+w.heap.size) (fun x:rZ=>(x.pack,x.spread,x.soft)) ?_ (Nat.le_refl _);exact am.cons (jL w p hp) (am.cons (jL w q hq) (am.flat (jL w f hf)))
 have h6:=am.cons (jL w n hn) h5;have h7:=am.pair h (am.pair k h6 J (fun b hb=>by have:=k.lt b hb;omega)) wD hG;simpa using h7
theorem apR:(Tryz.prog.info? 47).map (fun i=>(i.zero,i.size,i.bytes)) = some (some ((.agg #[.string ⟨#[]⟩,.slice none 0 0,.int .i64 0,.int .i64 0,.int .i64 0,.slice none 0 0])),6,88):=by kernel_rfl
theorem PT:DL Tryz.prog 24 47 ((.agg #[.string ⟨#[]⟩,.slice none 0 0,.int .i64 0,.int .i64 0,.int .i64 0,.slice none 0 0])) 6 88:=⟨Tryz.underlying24,apR,rfl,J⟩
theorem alV:(Tryz.prog.info? 53).map (fun i=>(i.zero,i.size,i.bytes)) = some (some ((.agg #[.string ⟨#[]⟩,.slice none 0 0,.int .i64 0,.int .i64 0,.int .i64 0,.slice none 0 0,.slice none 0 0,.string ⟨#[]⟩,.int .i64 0])),9,136):=by kernel_rfl
theorem YH:DL Tryz.prog 25 53 ((.agg #[.string ⟨#[]⟩,.slice none 0 0,.int .i64 0,.int .i64 0,.int .i64 0,.slice none 0 0,.slice none 0 0,.string ⟨#[]⟩,.int .i64 0])) 9 136:=⟨Tryz.underlying25,alV,rfl,J⟩
theorem adD (x:aU) (hw:(x.wt:Int)≤1048576):(x.aa.length:Int)≤1048576∧(x.au.length:Int)≤1048576∧Hid (∀h∈x.aa,(h.labels.length:Int)≤1048576∧(h.aT.length:Int)≤1048576) ∧
 Hid (∀p∈x.au,(p.aS.labels.length:Int)≤1048576∧(p.aS.ag.length:Int)≤1048576∧(p.aS.ae.length:Int)≤1048576∧∀y∈p.aS.ag,(y.values.length:Int)≤1048576):=by
 have gE:x.wt = kL aM.wt x.aa+kL af.wt x.au:=rfl;have h1:=gJ aM.wt x.aa;have h2:=gJ af.wt x.au;refine ⟨J,J,I fun h hh=>?_,I fun p hp=>?_⟩
 ·have h3:h.name.size+kL ao.wt h.labels+kL iU.wt h.aT≤kL aM.wt x.aa:=Bq (f:=aM.wt) hh;have h4:=gJ ao.wt h.labels;have h5:=gJ iU.wt h.aT;constructor <;> omega
 ·have h3:(p.aS.name.size+kL ao.wt p.aS.labels+kL aD.wt p.aS.ag+kL bH.wt p.aS.ae)+p.on.size≤kL af.wt x.au:=Bq (f:=af.wt) hp;have h4:=gJ ao.wt p.aS.labels;have h5:=gJ aD.wt p.aS.ag;have h6:=gJ bH.wt p.aS.ae;refine ⟨J,J,J,fun y hy=>?_⟩;have h7:y.key.size+kL ByteArray.size y.values≤kL aD.wt p.aS.ag:=Bq (f:=aD.wt) hy;have h8:=gJ ByteArray.size y.values;omega
end Go.Proofs.YtajbbmembionpaaGreat
