/- copyHost, copyPod, of the program; l17Host, l17Pod, of the reference. No condition. -/
import Derived.Test.YtajbbmembionpaaGreatRoomK
namespace Go.Proofs.YtajbbmembionpaaGreat
open Go.ChangeShapes Go.WideShapes Go.ChangeAt Go.RowKit
set_option linter.unusedVariables false
set_option linter.unusedSimpArgs false
set_option maxHeartbeats 4000000
set_option maxRecDepth 100000
theorem OU (W:World) (e:TypeId) (size N:Nat) (hN:W.heap.size = N):(W.alloc (.cells #[] e)).ownsRow N e size (.slice (some ⟨N,0,none⟩) 0 0) 0 []:=by
 subst hN;exact World.ownsRow_made W #[] 0 (Nat.le_refl _) (Nat.zero_le _) S'
structure Cp (w wk:World) (cs zs:List Value):Prop where
 cM:oG wk w.heap.size cs
 rb:oG wk (w.heap.size+1) zs
 aD:Below w.heap.size w wk
section
variable {w wk w':World} {cs zs:List Value}
theorem Cp.new (w:World) (cs zs:List Value) (t t2:TypeId):Cp w ((w.alloc (.cells cs.toArray t)).alloc (.cells zs.toArray t2)) cs zs :=
 ⟨(oG.new w cs t).ext (ak (aj _) _),(by have:=oG.new (w.alloc (.cells cs.toArray t)) zs t2;rw [World.size_alloc] at this;exact this),ak (ak (aj _) _) _⟩
theorem Cp.ext (h:Cp w wk cs zs) (X:Below wk.heap.size wk w'):Cp w w' cs zs:=⟨h.cM.ext X,h.rb.ext X,ah h.aD X⟩
theorem Cp.put (h:Cp w wk cs zs) (i:Nat) (u:Value):Cp w (wk.setCell ⟨w.heap.size,i,none⟩ u) (cs.set i u) zs:=⟨h.cM.put i u,h.rb.bj J i u,aC h.aD (Nat.le_refl _) u⟩
theorem Cp.lt (h:Cp w wk cs zs):w.heap.size+1 < wk.heap.size:=h.rb.lt
end
theorem Lj (x:ba) (cs:List Value) (F:List Nat) (w:World) (h:rd w x cs F) (mP:(x.labels.length:Int)≤1048576) (dp:(x.aT.length:Int)≤1048576) :
 Calls Tryz.prog 91 #[.agg cs.toArray] w fun e w'=>∃cs F,e = .returned (.agg cs.toArray)∧am w' w.heap.size x cs F∧Below w.heap.size w w':=by
 obtain ⟨gu,gy,jw,kJ,kK,qU,aE,qp,hname,dO,vg,cB,uI,jq⟩:=iy h;subst aE;clear qp h;go_enter Tryz.func91,Tryz.ntmps91;have S0:=Cp.new w [.string x.name,.slice gu x.labels.length gy,.int .i64 x.az,.int .i64 x.mem,.int .i64 x.av,.slice kJ x.aT.length kK] [.string ⟨#[]⟩,.slice none 0 0,.int .i64 0,.int .i64 0,.int .i64 0,.slice none 0 0] 47 47;have yp:=I (OU ((w.alloc (.cells ([.string x.name,.slice gu x.labels.length gy,.int .i64 x.az,.int .i64 x.mem,.int .i64 x.av,.slice kJ x.aT.length kK]:List Value).toArray 47)).alloc (.cells ([.string ⟨#[]⟩,.slice none 0 0,.int .i64 0,.int .i64 0,.int .i64 0,.slice none 0 0]:List Value).toArray 47)) 67 2 (w.heap.size+1+1) eC)
 go_wp2_with (
 first
  | (at_builtin
     refine rW (o:=⟨some 6,_,_,_,_,_⟩) Re O O _ _ O _ (w.heap.size+1+1) _ 0 [] yp.out O x.labels gu gy _ (dO.ext (ak S0.aD _)) O J J eC ?_;intro v1 w1 Mj E1 E9 Mk i' kp Ml;go_must (obtain ⟨A1,c1,ss⟩:=mY i')
     go_must (subst ss)
     go_must (simp only [Nat.zero_add,List.nil_append] at i')
     go_must (have bo:Below (w.heap.size+1+1) ((w.alloc (.cells ([.string x.name,.slice gu x.labels.length gy,.int .i64 x.az,.int .i64 x.mem,.int .i64 x.av,.slice kJ x.aT.length kK]:List Value).toArray 47)).alloc (.cells ([.string ⟨#[]⟩,.slice none 0 0,.int .i64 0,.int .i64 0,.int .i64 0,.slice none 0 0]:List Value).toArray 47)) w1:=lS yp.out kp ((Below.refl _ _).alloc eC _) eC)
     go_must (have nS:=Cp.ext S0 (bo.mono eC))
     go_must (have yq:jo w1 x.labels Mj E1:=E9.frame (fun b X=>kp.block b (E9.lt b X) (fun e=>by have h1:=dO.lt b (Mk b X);have h2:=S0.aD.size;simp [Value.ownBlock,World.setCell] at e h2;omega)) kp.size)
     go_must (obtain ⟨A0,c0,G1,fW,jX⟩:=am.cZ Rf i' yq)
     go_must (simp only [Value.slice.injEq,true_and] at fW)
     go_must (obtain ⟨rfl,rfl⟩:=fW)
     go_must (have k1:=nS.cM.cell (i:=1) (u:=.slice gu x.labels.length gy) rfl)
     go_must (have f1:=nS.cM.fz 1)
     go_must (have l1:=nS.cM.lt)
     go_must (have yr:=I (show ∀b∈G1,b < w1.heap.size from jX.lt))
     go_must (have S1:=nS.put 1 (.slice A1 x.labels.length c1))
     go_must (replace jX:=jX.setCell (p:=⟨w.heap.size,1,none⟩) Qk (.slice A1 x.labels.length c1))
     go_must (have m1:=S1.cM.cell (i:=5) (u:=.slice kJ x.aT.length kK) rfl)
     go_must (have z1:=nS.lt)
     go_must (have JU:=I (OU (w1.setCell ⟨w.heap.size,1,none⟩ (.slice A1 x.labels.length c1)) 126 3 (w1.heap.size) eC)))
  | (at_builtin
     refine rW (o:=⟨some 11,_,_,_,_,_⟩) Xy O O _ _ O _ (w1.heap.size) _ 0 [] JU.out O x.aT kJ kK _ (jq.ext (ak S1.aD _)) O J J eC ?_;intro v2 w2 Mh E2 pq nX et eA JN;go_must (obtain ⟨A2,c2,gn⟩:=mY et)
     go_must (subst gn)
     go_must (simp only [Nat.zero_add,List.nil_append] at et)
     go_must (have ar:Below (w1.heap.size) (w1.setCell ⟨w.heap.size,1,none⟩ (.slice A1 x.labels.length c1)) w2:=lS JU.out eA ((Below.refl _ _).alloc eC _) eC)
     go_must (have nQ:=Cp.ext S1 (ar.mono eC))
     go_must (have Mm:jo w2 x.aT Mh E2:=pq.frame (fun b X=>eA.block b (pq.lt b X) (fun e=>by have h1:=jq.lt b (nX b X);have h2:=S1.aD.size;simp [Value.ownBlock,World.setCell] at e h2;omega)) eA.size)
     go_must (obtain ⟨A0,c0,G2,fW,bI⟩:=am.cZ Xz et Mm)
     go_must (simp only [Value.slice.injEq,true_and] at fW)
     go_must (obtain ⟨rfl,rfl⟩:=fW)
     go_must (have k2:=nQ.cM.cell (i:=5) (u:=.slice kJ x.aT.length kK) rfl)
     go_must (have f2:=nQ.cM.fz 5)
     go_must (have l2:=nQ.cM.lt)
     go_must (have S2:=nQ.put 5 (.slice A2 x.aT.length c2))
     go_must (replace jX:=jX.ext (ar.mono eC))
     go_must (replace jX:=jX.setCell (p:=⟨w.heap.size,5,none⟩) I6 (.slice A2 x.aT.length c2))
     go_must (replace bI:=bI.setCell (p:=⟨w.heap.size,5,none⟩) I6 (.slice A2 x.aT.length c2))
     go_must (have q0:=S2.cM.cell (i:=0) (u:=.string x.name) rfl)
     go_must (have q1:=S2.cM.cell (i:=1) (u:=.slice A1 x.labels.length c1) rfl)
     go_must (have q2:=S2.cM.cell (i:=2) (u:=.int .i64 x.az) rfl)
     go_must (have q3:=S2.cM.cell (i:=3) (u:=.int .i64 x.mem) rfl)
     go_must (have q4:=S2.cM.cell (i:=4) (u:=.int .i64 x.av) rfl)
     go_must (have q5:=S2.cM.cell (i:=5) (u:=.slice A2 x.aT.length c2) rfl)
     go_must (have r0:=S2.rb.cell (i:=0) (u:=.string ⟨#[]⟩) rfl)
     go_must (have r1:=S2.rb.cell (i:=1) (u:=.slice none 0 0) rfl)
     go_must (have r2:=S2.rb.cell (i:=2) (u:=.int .i64 0) rfl)
     go_must (have r3:=S2.rb.cell (i:=3) (u:=.int .i64 0) rfl)
     go_must (have r4:=S2.rb.cell (i:=4) (u:=.int .i64 0) rfl)
     go_must (have r5:=S2.rb.cell (i:=5) (u:=.slice none 0 0) rfl)
     go_must (have rf:=S2.rb.fz)
     go_must (have rl:=S2.rb.lt)
     go_must (have z2:=nQ.lt)
     go_must (have y2:w1.heap.size≤w2.heap.size:=by have:=ar.size;(try simp [World.setCell] at this);omega)))
 have fL:=I jX;have RZ:=I bI;have HS:=I S2;clear jX bI S1 nS S2 nQ S0;try dsimp only
 iterate 200 (first | go_step | skip)
 refine bodyPost_ret (v:=.agg #[.string x.name,.slice A1 x.labels.length c1,.int .i64 x.az,.int .i64 x.mem,.int .i64 x.av,.slice A2 x.aT.length c2]) (by simp [results,Tryz.results91,go_sem, *]) rfl ⟨[.string x.name,.slice A1 x.labels.length c1,.int .i64 x.az,.int .i64 x.mem,.int .i64 x.av,.slice A2 x.aT.length c2],(G1++G2),rfl,?_,?_⟩;rotate_left
 ·exact Ly
 refine am.up (B':=w.heap.size+1+1) (fun x:ba=>(x.name,x.labels,x.az,x.mem,x.av,x.aT)) ?_ J;refine am.cons (c1:=[.string x.name]) (dE _ x.name (rV hname)) ?_;refine am.ez (B2:=w1.heap.size) (c1:=[.slice A1 x.labels.length c1]) (F1:=G1) ?_ ?_ J yr.out
 ·exact Ql
 refine am.cons (c1:=[.int .i64 x.az]) (jL _ x.az vg) ?_;refine am.cons (c1:=[.int .i64 x.mem]) (jL _ x.mem cB) ?_;refine am.cons (c1:=[.int .i64 x.av]) (jL _ x.av uI) ?_;exact Qm
theorem Ld (x:nI) (cs:List Value) (F:List Nat) (w:World) (h:rd w x cs F) (mP:(x.labels.length:Int)≤1048576) (dp:(x.ai.length:Int)≤1048576) (xd:(x.ae.length:Int)≤1048576) (hv:∀y∈x.ai,(y.values.length:Int)≤1048576) :
 Calls Tryz.prog 40 #[.agg cs.toArray] w fun e w'=>∃cs F,e = .returned (.agg cs.toArray)∧am w' w.heap.size x cs F∧Below w.heap.size w w':=by
 have HV:=I hv;clear hv;obtain ⟨gu,gy,jw,oh,nT,wG,fA,fB,jY,aE,qp,hname,dO,vg,cB,BJ,mX,eG⟩:=dL h;subst aE;clear qp h;go_enter Tryz.func40,Tryz.ntmps40;have S0:=Cp.new w [.string x.name,.slice gu x.labels.length gy,.int .i64 x.az,.int .i64 x.mem,.int .i64 x.aw,.slice oh x.ai.length nT,.slice fA x.ae.length fB] [.string ⟨#[]⟩,.slice none 0 0,.int .i64 0,.int .i64 0,.int .i64 0,.slice none 0 0,.slice none 0 0] 35 35;have yp:=I (OU ((w.alloc (.cells ([.string x.name,.slice gu x.labels.length gy,.int .i64 x.az,.int .i64 x.mem,.int .i64 x.aw,.slice oh x.ai.length nT,.slice fA x.ae.length fB]:List Value).toArray 35)).alloc (.cells ([.string ⟨#[]⟩,.slice none 0 0,.int .i64 0,.int .i64 0,.int .i64 0,.slice none 0 0,.slice none 0 0]:List Value).toArray 35)) 67 2 (w.heap.size+1+1) eC)
 go_wp2_with (
  at_builtin
  refine rW (o:=⟨some 6,_,_,_,_,_⟩) Re O O _ _ O _ (w.heap.size+1+1) _ 0 [] yp.out O x.labels gu gy _ (dO.ext (ak S0.aD _)) O J J eC ?_;intro v1 w1 Mj E1 E9 Mk i' kp Ml;go_must (obtain ⟨A1,c1,ss⟩:=mY i')
  go_must (subst ss)
  go_must (simp only [Nat.zero_add,List.nil_append] at i')
  go_must (have bo:Below (w.heap.size+1+1) ((w.alloc (.cells ([.string x.name,.slice gu x.labels.length gy,.int .i64 x.az,.int .i64 x.mem,.int .i64 x.aw,.slice oh x.ai.length nT,.slice fA x.ae.length fB]:List Value).toArray 35)).alloc (.cells ([.string ⟨#[]⟩,.slice none 0 0,.int .i64 0,.int .i64 0,.int .i64 0,.slice none 0 0,.slice none 0 0]:List Value).toArray 35)) w1:=lS yp.out kp ((Below.refl _ _).alloc eC _) eC)
  go_must (have nS:=Cp.ext S0 (bo.mono eC))
  go_must (have yq:jo w1 x.labels Mj E1:=E9.frame (fun b X=>kp.block b (E9.lt b X) (fun e=>by have h1:=dO.lt b (Mk b X);have h2:=S0.aD.size;simp [Value.ownBlock,World.setCell] at e h2;omega)) kp.size)
  go_must (obtain ⟨A0,c0,G1,fW,jX⟩:=am.cZ Rf i' yq)
  go_must (simp only [Value.slice.injEq,true_and] at fW)
  go_must (obtain ⟨rfl,rfl⟩:=fW)
  go_must (have k1:=nS.cM.cell (i:=1) (u:=.slice gu x.labels.length gy) rfl)
  go_must (have f1:=nS.cM.fz 1)
  go_must (have l1:=nS.cM.lt)
  go_must (have yr:=I (show ∀b∈G1,b < w1.heap.size from jX.lt))
  go_must (have S1:=nS.put 1 (.slice A1 x.labels.length c1))
  go_must (replace jX:=jX.setCell (p:=⟨w.heap.size,1,none⟩) Qk (.slice A1 x.labels.length c1))
  go_must (have m1:=S1.cM.cell (i:=5) (u:=.slice oh x.ai.length nT) rfl)
  go_must (have z1:=nS.lt))
 go_wp2_with fail
 refine (JT x.ai _ _ _ _ (mX.ext S1.aD) dp HV.out).mono ?_;rintro e w2 ⟨A2,c2,G2,rfl,bI,ar⟩;have nQ:=S1.ext ar;replace bI:=bI.mono (B':=w1.heap.size) Vw;have k2:=nQ.cM.cell (i:=5) (u:=.slice oh x.ai.length nT) rfl;have f2:=nQ.cM.fz 5;have l2:=nQ.cM.lt;have tF:=I (show ∀b∈G2,b < w2.heap.size from bI.lt);have S2:=nQ.put 5 (.slice A2 x.ai.length c2);replace jX:=jX.ext ar;replace jX:=jX.setCell (p:=⟨w.heap.size,5,none⟩) I6 (.slice A2 x.ai.length c2);replace bI:=bI.setCell (p:=⟨w.heap.size,5,none⟩) I6 (.slice A2 x.ai.length c2);have m2:=S2.cM.cell (i:=6) (u:=.slice fA x.ae.length fB) rfl;have z2:=nQ.lt;have y2:w1.heap.size≤w2.heap.size:=by have:=ar.size;(try simp [World.setCell] at this);omega
 have J0:=I (OU (w2.setCell ⟨w.heap.size,5,none⟩ (.slice A2 x.ai.length c2)) 117 4 (w2.heap.size) eC)
 go_wp2_with (
  at_builtin
  refine rW (o:=⟨some 15,_,_,_,_,_⟩) XD O O _ _ O _ (w2.heap.size) _ 0 [] J0.out O x.ae fA fB _ (eG.ext (ak S2.aD _)) O J J eC ?_;intro v3 w3 XI E3 E' NW dl l6 qu;go_must (obtain ⟨A3,c3,jx⟩:=mY dl)
  go_must (subst jx)
  go_must (simp only [Nat.zero_add,List.nil_append] at dl)
  go_must (have bb:Below (w2.heap.size) (w2.setCell ⟨w.heap.size,5,none⟩ (.slice A2 x.ai.length c2)) w3:=lS J0.out l6 ((Below.refl _ _).alloc eC _) eC)
  go_must (have ya:=Cp.ext S2 (bb.mono eC))
  go_must (have Mn:jo w3 x.ae XI E3:=E'.frame (fun b X=>l6.block b (E'.lt b X) (fun e=>by have h1:=eG.lt b (NW b X);have h2:=S2.aD.size;simp [Value.ownBlock,World.setCell] at e h2;omega)) l6.size)
  go_must (obtain ⟨A0,c0,G3,fW,hO3⟩:=am.cZ Zk dl Mn)
  go_must (simp only [Value.slice.injEq,true_and] at fW)
  go_must (obtain ⟨rfl,rfl⟩:=fW)
  go_must (have k3:=ya.cM.cell (i:=6) (u:=.slice fA x.ae.length fB) rfl)
  go_must (have f3:=ya.cM.fz 6)
  go_must (have l3:=ya.cM.lt)
  go_must (have S3:=ya.put 6 (.slice A3 x.ae.length c3))
  go_must (replace jX:=jX.ext (bb.mono eC))
  go_must (replace bI:=bI.ext (bb.mono eC))
  go_must (replace jX:=jX.setCell (p:=⟨w.heap.size,6,none⟩) LA (.slice A3 x.ae.length c3))
  go_must (replace bI:=bI.setCell (p:=⟨w.heap.size,6,none⟩) LA (.slice A3 x.ae.length c3))
  go_must (replace hO3:=hO3.setCell (p:=⟨w.heap.size,6,none⟩) LA (.slice A3 x.ae.length c3))
  go_must (have q0:=S3.cM.cell (i:=0) (u:=.string x.name) rfl)
  go_must (have q1:=S3.cM.cell (i:=1) (u:=.slice A1 x.labels.length c1) rfl)
  go_must (have q2:=S3.cM.cell (i:=2) (u:=.int .i64 x.az) rfl)
  go_must (have q3:=S3.cM.cell (i:=3) (u:=.int .i64 x.mem) rfl)
  go_must (have q4:=S3.cM.cell (i:=4) (u:=.int .i64 x.aw) rfl)
  go_must (have q5:=S3.cM.cell (i:=5) (u:=.slice A2 x.ai.length c2) rfl)
  go_must (have q6:=S3.cM.cell (i:=6) (u:=.slice A3 x.ae.length c3) rfl)
  go_must (have r0:=S3.rb.cell (i:=0) (u:=.string ⟨#[]⟩) rfl)
  go_must (have r1:=S3.rb.cell (i:=1) (u:=.slice none 0 0) rfl)
  go_must (have r2:=S3.rb.cell (i:=2) (u:=.int .i64 0) rfl)
  go_must (have r3:=S3.rb.cell (i:=3) (u:=.int .i64 0) rfl)
  go_must (have r4:=S3.rb.cell (i:=4) (u:=.int .i64 0) rfl)
  go_must (have r5:=S3.rb.cell (i:=5) (u:=.slice none 0 0) rfl)
  go_must (have r6:=S3.rb.cell (i:=6) (u:=.slice none 0 0) rfl)
  go_must (have rf:=S3.rb.fz)
  go_must (have rl:=S3.rb.lt)
  go_must (have z3:=ya.lt)
  go_must (have y3:w2.heap.size≤w3.heap.size:=by have:=bb.size;(try simp [World.setCell] at this);omega))
 have fL:=I jX;have RZ:=I bI;have gf:=I hO3;have HS:=I S3;clear jX bI hO3 S1 nS S2 nQ S3 ya S0;try dsimp only
 iterate 200 (first | go_step | skip)
 refine bodyPost_ret (v:=.agg #[.string x.name,.slice A1 x.labels.length c1,.int .i64 x.az,.int .i64 x.mem,.int .i64 x.aw,.slice A2 x.ai.length c2,.slice A3 x.ae.length c3]) (by simp [results,Tryz.results40,go_sem, *]) rfl ⟨[.string x.name,.slice A1 x.labels.length c1,.int .i64 x.az,.int .i64 x.mem,.int .i64 x.aw,.slice A2 x.ai.length c2,.slice A3 x.ae.length c3],(G1++(G2++G3)),rfl,?_,?_⟩;rotate_left
 ·exact Ly
 refine am.up (B':=w.heap.size+1+1) (fun x:nI=>(x.name,x.labels,x.az,x.mem,x.aw,x.ai,x.ae)) ?_ J;refine am.cons (c1:=[.string x.name]) (dE _ x.name (rV hname)) ?_;refine am.ez (B2:=w1.heap.size) (c1:=[.slice A1 x.labels.length c1]) (F1:=G1) ?_ ?_ J yr.out
 ·exact Ql
 refine am.cons (c1:=[.int .i64 x.az]) (jL _ x.az vg) ?_;refine am.cons (c1:=[.int .i64 x.mem]) (jL _ x.mem cB) ?_;refine am.cons (c1:=[.int .i64 x.aw]) (jL _ x.aw BJ) ?_;refine am.ez (B2:=w2.heap.size) (c1:=[.slice A2 x.ai.length c2]) (F1:=G2) ?_ ?_ J tF.out
 ·exact Qm
 exact (by repeat (first | with_reducible exact gf.out | with_reducible refine am.setCell ?_ Lx _))
end Go.Proofs.YtajbbmembionpaaGreat
