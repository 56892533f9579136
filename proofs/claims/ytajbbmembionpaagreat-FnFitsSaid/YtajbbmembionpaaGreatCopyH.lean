/- copyHost, copyPod, of the program; l17Host, l17Pod, of the reference. No condition. -/
import Derived.Test.YtajbbmembionpaaGreatStabM
import Derived.Test.YtajbbmembionpaaGreatRegionCut
import Derived.Shelf.Spec.SlicesInsert
import Derived.Lib.AppendZerosOnto
import Derived.Shelf.GgSortFunc.RowK
namespace Go.Proofs.YtajbbmembionpaaGreat
open Go.ChangeShapes Go.WideShapes Go.ChangeAt Go.RowKit
set_option linter.unusedVariables false
set_option linter.unusedSimpArgs false
set_option maxHeartbeats 4000000
set_option maxRecDepth 100000
theorem OU (W:World) (e:TypeId) (size N:Nat) (hN:W.heap.size = N):(W.alloc (.cells #[] e)).ownsRow N e size (.slice (some ⟨N,0,none⟩) 0 0) 0 []:=by
 subst hN;exact World.ownsRow_made W #[] 0 (Nat.le_refl _) (Nat.zero_le _) S'
structure Cp (w wk:World) (cs zs:List Value):Prop where
 cS:oG wk w.heap.size cs
 rb:oG wk (w.heap.size+1) zs
 aE:Below w.heap.size w wk
section
variable {w wk w':World} {cs zs:List Value}
theorem Cp.new (w:World) (cs zs:List Value) (t t2:TypeId):Cp w ((w.alloc (.cells cs.toArray t)).alloc (.cells zs.toArray t2)) cs zs :=
 ⟨(oG.new w cs t).ext (ak (aj _) _),(by have:=oG.new (w.alloc (.cells cs.toArray t)) zs t2;rw [World.size_alloc] at this;exact this),ak (ak (aj _) _) _⟩
theorem Cp.ext (h:Cp w wk cs zs) (U:Below wk.heap.size wk w'):Cp w w' cs zs:=⟨h.cS.ext U,h.rb.ext U,ah h.aE U⟩
theorem Cp.put (h:Cp w wk cs zs) (i:Nat) (u:Value):Cp w (wk.setCell ⟨w.heap.size,i,none⟩ u) (cs.set i u) zs:=⟨h.cS.put i u,h.rb.bj J i u,aC h.aE (Nat.le_refl _) u⟩
theorem Cp.lt (h:Cp w wk cs zs):w.heap.size+1 < wk.heap.size:=h.rb.lt
end
theorem Mo (x:aR) (cs:List Value) (F:List Nat) (w:World) (h:rd w x cs F) (mE:(x.labels.length:Int)≤1048576) (dv:(x.aT.length:Int)≤1048576) :
 Calls Tryz.prog 91 #[.agg cs.toArray] w fun e w'=>∃cs F,e = .returned (.agg cs.toArray)∧am w' w.heap.size x cs F∧Below w.heap.size w w':=by
 obtain ⟨gu,gy,jw,kJ,kK,qU,aD,qp,hname,dO,vg,cG,uI,jq⟩:=iy h;subst aD;clear qp h;go_enter Tryz.func91,Tryz.ntmps91;have S0:=Cp.new w [.string x.name,.slice gu x.labels.length gy,.int .i64 x.az,.int .i64 x.mem,.int .i64 x.ax,.slice kJ x.aT.length kK] [.string ⟨#[]⟩,.slice none 0 0,.int .i64 0,.int .i64 0,.int .i64 0,.slice none 0 0] 47 47;have FT:=I (OU ((w.alloc (.cells ([.string x.name,.slice gu x.labels.length gy,.int .i64 x.az,.int .i64 x.mem,.int .i64 x.ax,.slice kJ x.aT.length kK]:List Value).toArray 47)).alloc (.cells ([.string ⟨#[]⟩,.slice none 0 0,.int .i64 0,.int .i64 0,.int .i64 0,.slice none 0 0]:List Value).toArray 47)) 67 2 (w.heap.size+1+1) ew)
 go_wp2_with (
 first
  | (at_builtin
     refine rW (o:=⟨some 6,_,_,_,_,_⟩) S5 M M _ _ M _ (w.heap.size+1+1) _ 0 [] FT.out M x.labels gu gy _ (dO.ext (ak S0.aE _)) M J J ew ?_;intro v1 w1 NA E1 FU NB jb pu NE;go_must (obtain ⟨A1,c1,r8⟩:=mY jb)
     go_must (subst r8)
     go_must (simp only [Nat.zero_add,List.nil_append] at jb)
     go_must (have bp:Below (w.heap.size+1+1) ((w.alloc (.cells ([.string x.name,.slice gu x.labels.length gy,.int .i64 x.az,.int .i64 x.mem,.int .i64 x.ax,.slice kJ x.aT.length kK]:List Value).toArray 47)).alloc (.cells ([.string ⟨#[]⟩,.slice none 0 0,.int .i64 0,.int .i64 0,.int .i64 0,.slice none 0 0]:List Value).toArray 47)) w1:=lS FT.out pu ((Below.refl _ _).alloc ew _) ew)
     go_must (have nG:=Cp.ext S0 (bp.mono ew))
     go_must (have yt:jo w1 x.labels NA E1:=FU.frame (fun b U=>pu.block b (FU.lt b U) (fun e=>by have Z:=dO.lt b (NB b U);have h2:=S0.aE.size;simp [Value.ownBlock,World.setCell] at e h2;omega)) pu.size)
     go_must (obtain ⟨A0,c0,G1,gm,jX⟩:=am.de S6 jb yt)
     go_must (simp only [Value.slice.injEq,true_and] at gm)
     go_must (obtain ⟨rfl,rfl⟩:=gm)
     go_must (have k1:=nG.cS.cell (i:=1) (u:=.slice gu x.labels.length gy) rfl)
     go_must (have f1:=nG.cS.fz 1)
     go_must (have l1:=nG.cS.lt)
     go_must (have yv:=I (show ∀b∈G1,b < w1.heap.size from jX.lt))
     go_must (have S1:=nG.put 1 (.slice A1 x.labels.length c1))
     go_must (replace jX:=jX.setCell (p:=⟨w.heap.size,1,none⟩) RU (.slice A1 x.labels.length c1))
     go_must (have m1:=S1.cS.cell (i:=5) (u:=.slice kJ x.aT.length kK) rfl)
     go_must (have z1:=nG.lt)
     go_must (have S7:=I (OU (w1.setCell ⟨w.heap.size,1,none⟩ (.slice A1 x.labels.length c1)) 126 3 (w1.heap.size) ew)))
  | (at_builtin
     refine rW (o:=⟨some 11,_,_,_,_,_⟩) Z8 M M _ _ M _ (w1.heap.size) _ 0 [] S7.out M x.aT kJ kK _ (jq.ext (ak S1.aE _)) M J J ew ?_;intro v2 w2 Ny E2 pl nJ dB fe K8;go_must (obtain ⟨A2,c2,gj⟩:=mY dB)
     go_must (subst gj)
     go_must (simp only [Nat.zero_add,List.nil_append] at dB)
     go_must (have aq:Below (w1.heap.size) (w1.setCell ⟨w.heap.size,1,none⟩ (.slice A1 x.labels.length c1)) w2:=lS S7.out fe ((Below.refl _ _).alloc ew _) ew)
     go_must (have nF:=Cp.ext S1 (aq.mono ew))
     go_must (have NF:jo w2 x.aT Ny E2:=pl.frame (fun b U=>fe.block b (pl.lt b U) (fun e=>by have Z:=jq.lt b (nJ b U);have h2:=S1.aE.size;simp [Value.ownBlock,World.setCell] at e h2;omega)) fe.size)
     go_must (obtain ⟨A0,c0,G2,gm,bM⟩:=am.de Z9 dB NF)
     go_must (simp only [Value.slice.injEq,true_and] at gm)
     go_must (obtain ⟨rfl,rfl⟩:=gm)
     go_must (have k2:=nF.cS.cell (i:=5) (u:=.slice kJ x.aT.length kK) rfl)
     go_must (have f2:=nF.cS.fz 5)
     go_must (have l2:=nF.cS.lt)
     go_must (have S2:=nF.put 5 (.slice A2 x.aT.length c2))
     go_must (replace jX:=jX.ext (aq.mono ew))
     go_must (replace jX:=jX.setCell (p:=⟨w.heap.size,5,none⟩) Kx (.slice A2 x.aT.length c2))
     go_must (replace bM:=bM.setCell (p:=⟨w.heap.size,5,none⟩) Kx (.slice A2 x.aT.length c2))
     go_must (have q0:=S2.cS.cell (i:=0) (u:=.string x.name) rfl)
     go_must (have q1:=S2.cS.cell (i:=1) (u:=.slice A1 x.labels.length c1) rfl)
     go_must (have q2:=S2.cS.cell (i:=2) (u:=.int .i64 x.az) rfl)
     go_must (have q3:=S2.cS.cell (i:=3) (u:=.int .i64 x.mem) rfl)
     go_must (have q4:=S2.cS.cell (i:=4) (u:=.int .i64 x.ax) rfl)
     go_must (have q5:=S2.cS.cell (i:=5) (u:=.slice A2 x.aT.length c2) rfl)
     go_must (have r0:=S2.rb.cell (i:=0) (u:=.string ⟨#[]⟩) rfl)
     go_must (have r1:=S2.rb.cell (i:=1) (u:=.slice none 0 0) rfl)
     go_must (have r2:=S2.rb.cell (i:=2) (u:=.int .i64 0) rfl)
     go_must (have r3:=S2.rb.cell (i:=3) (u:=.int .i64 0) rfl)
     go_must (have r4:=S2.rb.cell (i:=4) (u:=.int .i64 0) rfl)
     go_must (have r5:=S2.rb.cell (i:=5) (u:=.slice none 0 0) rfl)
     go_must (have rf:=S2.rb.fz)
     go_must (have rl:=S2.rb.lt)
     go_must (have z2:=nF.lt)
     go_must (have y2:w1.heap.size≤w2.heap.size:=by have:=aq.size;(try simp [World.setCell] at this);omega)))
 have fT:=I jX;have RZ:=I bM;have HS:=I S2;clear jX bM S1 nG S2 nF S0;try dsimp only
 iterate 200 (first | go_step | skip)
 refine bodyPost_ret (v:=.agg #[.string x.name,.slice A1 x.labels.length c1,.int .i64 x.az,.int .i64 x.mem,.int .i64 x.ax,.slice A2 x.aT.length c2]) (by simp [results,Tryz.results91,go_sem, *]) rfl ⟨[.string x.name,.slice A1 x.labels.length c1,.int .i64 x.az,.int .i64 x.mem,.int .i64 x.ax,.slice A2 x.aT.length c2],(G1++G2),rfl,?_,?_⟩;rotate_left
 ·exact ME
 refine am.up (B':=w.heap.size+1+1) (fun x:aR=>(x.name,x.labels,x.az,x.mem,x.ax,x.aT)) ?_ J;refine am.cons (c1:=[.string x.name]) (ed _ x.name (rV hname)) ?_;refine am.eD (B2:=w1.heap.size) (c1:=[.slice A1 x.labels.length c1]) (F1:=G1) ?_ ?_ J yv.out
 ·exact RW
 refine am.cons (c1:=[.int .i64 x.az]) (jL _ x.az vg) ?_;refine am.cons (c1:=[.int .i64 x.mem]) (jL _ x.mem cG) ?_;refine am.cons (c1:=[.int .i64 x.ax]) (jL _ x.ax uI) ?_;exact RY
theorem Mj (x:nI) (cs:List Value) (F:List Nat) (w:World) (h:rd w x cs F) (mE:(x.labels.length:Int)≤1048576) (dv:(x.ai.length:Int)≤1048576) (xd:(x.ae.length:Int)≤1048576) (hv:∀y∈x.ai,(y.values.length:Int)≤1048576) :
 Calls Tryz.prog 40 #[.agg cs.toArray] w fun e w'=>∃cs F,e = .returned (.agg cs.toArray)∧am w' w.heap.size x cs F∧Below w.heap.size w w':=by
 have HV:=I hv;clear hv;obtain ⟨gu,gy,jw,oh,nT,wG,fA,fB,jY,aD,qp,hname,dO,vg,cG,BJ,mX,eG⟩:=dL h;subst aD;clear qp h;go_enter Tryz.func40,Tryz.ntmps40;have S0:=Cp.new w [.string x.name,.slice gu x.labels.length gy,.int .i64 x.az,.int .i64 x.mem,.int .i64 x.aw,.slice oh x.ai.length nT,.slice fA x.ae.length fB] [.string ⟨#[]⟩,.slice none 0 0,.int .i64 0,.int .i64 0,.int .i64 0,.slice none 0 0,.slice none 0 0] 35 35;have FT:=I (OU ((w.alloc (.cells ([.string x.name,.slice gu x.labels.length gy,.int .i64 x.az,.int .i64 x.mem,.int .i64 x.aw,.slice oh x.ai.length nT,.slice fA x.ae.length fB]:List Value).toArray 35)).alloc (.cells ([.string ⟨#[]⟩,.slice none 0 0,.int .i64 0,.int .i64 0,.int .i64 0,.slice none 0 0,.slice none 0 0]:List Value).toArray 35)) 67 2 (w.heap.size+1+1) ew)
 go_wp2_with (
  at_builtin
  refine rW (o:=⟨some 6,_,_,_,_,_⟩) S5 M M _ _ M _ (w.heap.size+1+1) _ 0 [] FT.out M x.labels gu gy _ (dO.ext (ak S0.aE _)) M J J ew ?_;intro v1 w1 NA E1 FU NB jb pu NE;go_must (obtain ⟨A1,c1,r8⟩:=mY jb)
  go_must (subst r8)
  go_must (simp only [Nat.zero_add,List.nil_append] at jb)
  go_must (have bp:Below (w.heap.size+1+1) ((w.alloc (.cells ([.string x.name,.slice gu x.labels.length gy,.int .i64 x.az,.int .i64 x.mem,.int .i64 x.aw,.slice oh x.ai.length nT,.slice fA x.ae.length fB]:List Value).toArray 35)).alloc (.cells ([.string ⟨#[]⟩,.slice none 0 0,.int .i64 0,.int .i64 0,.int .i64 0,.slice none 0 0,.slice none 0 0]:List Value).toArray 35)) w1:=lS FT.out pu ((Below.refl _ _).alloc ew _) ew)
  go_must (have nG:=Cp.ext S0 (bp.mono ew))
  go_must (have yt:jo w1 x.labels NA E1:=FU.frame (fun b U=>pu.block b (FU.lt b U) (fun e=>by have Z:=dO.lt b (NB b U);have h2:=S0.aE.size;simp [Value.ownBlock,World.setCell] at e h2;omega)) pu.size)
  go_must (obtain ⟨A0,c0,G1,gm,jX⟩:=am.de S6 jb yt)
  go_must (simp only [Value.slice.injEq,true_and] at gm)
  go_must (obtain ⟨rfl,rfl⟩:=gm)
  go_must (have k1:=nG.cS.cell (i:=1) (u:=.slice gu x.labels.length gy) rfl)
  go_must (have f1:=nG.cS.fz 1)
  go_must (have l1:=nG.cS.lt)
  go_must (have yv:=I (show ∀b∈G1,b < w1.heap.size from jX.lt))
  go_must (have S1:=nG.put 1 (.slice A1 x.labels.length c1))
  go_must (replace jX:=jX.setCell (p:=⟨w.heap.size,1,none⟩) RU (.slice A1 x.labels.length c1))
  go_must (have m1:=S1.cS.cell (i:=5) (u:=.slice oh x.ai.length nT) rfl)
  go_must (have z1:=nG.lt))
 go_wp2_with fail
 refine (Lf x.ai _ _ _ _ (mX.ext S1.aE) dv HV.out).mono ?_;rintro e w2 ⟨A2,c2,G2,rfl,bM,aq⟩;have nF:=S1.ext aq;replace bM:=bM.mono (B':=w1.heap.size) Yf;have k2:=nF.cS.cell (i:=5) (u:=.slice oh x.ai.length nT) rfl;have f2:=nF.cS.fz 5;have l2:=nF.cS.lt;have tk:=I (show ∀b∈G2,b < w2.heap.size from bM.lt);have S2:=nF.put 5 (.slice A2 x.ai.length c2);replace jX:=jX.ext aq;replace jX:=jX.setCell (p:=⟨w.heap.size,5,none⟩) Kx (.slice A2 x.ai.length c2);replace bM:=bM.setCell (p:=⟨w.heap.size,5,none⟩) Kx (.slice A2 x.ai.length c2);have m2:=S2.cS.cell (i:=6) (u:=.slice fA x.ae.length fB) rfl;have z2:=nF.lt;have y2:w1.heap.size≤w2.heap.size:=by have:=aq.size;(try simp [World.setCell] at this);omega
 have S8:=I (OU (w2.setCell ⟨w.heap.size,5,none⟩ (.slice A2 x.ai.length c2)) 117 4 (w2.heap.size) ew)
 go_wp2_with (
  at_builtin
  refine rW (o:=⟨some 15,_,_,_,_,_⟩) abo M M _ _ M _ (w2.heap.size) _ 0 [] S8.out M x.ae fA fB _ (eG.ext (ak S2.aE _)) M J J ew ?_;intro v3 w3 ds3 E3 FV NW ep nW tj;go_must (obtain ⟨A3,c3,kk⟩:=mY ep)
  go_must (subst kk)
  go_must (simp only [Nat.zero_add,List.nil_append] at ep)
  go_must (have bd:Below (w2.heap.size) (w2.setCell ⟨w.heap.size,5,none⟩ (.slice A2 x.ai.length c2)) w3:=lS S8.out nW ((Below.refl _ _).alloc ew _) ew)
  go_must (have ye:=Cp.ext S2 (bd.mono ew))
  go_must (have NH:jo w3 x.ae ds3 E3:=FV.frame (fun b U=>nW.block b (FV.lt b U) (fun e=>by have Z:=eG.lt b (NW b U);have h2:=S2.aE.size;simp [Value.ownBlock,World.setCell] at e h2;omega)) nW.size)
  go_must (obtain ⟨A0,c0,G3,gm,hO3⟩:=am.de Zk ep NH)
  go_must (simp only [Value.slice.injEq,true_and] at gm)
  go_must (obtain ⟨rfl,rfl⟩:=gm)
  go_must (have k3:=ye.cS.cell (i:=6) (u:=.slice fA x.ae.length fB) rfl)
  go_must (have f3:=ye.cS.fz 6)
  go_must (have l3:=ye.cS.lt)
  go_must (have S3:=ye.put 6 (.slice A3 x.ae.length c3))
  go_must (replace jX:=jX.ext (bd.mono ew))
  go_must (replace bM:=bM.ext (bd.mono ew))
  go_must (replace jX:=jX.setCell (p:=⟨w.heap.size,6,none⟩) MH (.slice A3 x.ae.length c3))
  go_must (replace bM:=bM.setCell (p:=⟨w.heap.size,6,none⟩) MH (.slice A3 x.ae.length c3))
  go_must (replace hO3:=hO3.setCell (p:=⟨w.heap.size,6,none⟩) MH (.slice A3 x.ae.length c3))
  go_must (have q0:=S3.cS.cell (i:=0) (u:=.string x.name) rfl)
  go_must (have q1:=S3.cS.cell (i:=1) (u:=.slice A1 x.labels.length c1) rfl)
  go_must (have q2:=S3.cS.cell (i:=2) (u:=.int .i64 x.az) rfl)
  go_must (have q3:=S3.cS.cell (i:=3) (u:=.int .i64 x.mem) rfl)
  go_must (have q4:=S3.cS.cell (i:=4) (u:=.int .i64 x.aw) rfl)
  go_must (have q5:=S3.cS.cell (i:=5) (u:=.slice A2 x.ai.length c2) rfl)
  go_must (have q6:=S3.cS.cell (i:=6) (u:=.slice A3 x.ae.length c3) rfl)
  go_must (have r0:=S3.rb.cell (i:=0) (u:=.string ⟨#[]⟩) rfl)
  go_must (have r1:=S3.rb.cell (i:=1) (u:=.slice none 0 0) rfl)
  go_must (have r2:=S3.rb.cell (i:=2) (u:=.int .i64 0) rfl)
  go_must (have r3:=S3.rb.cell (i:=3) (u:=.int .i64 0) rfl)
  go_must (have r4:=S3.rb.cell (i:=4) (u:=.int .i64 0) rfl)
  go_must (have r5:=S3.rb.cell (i:=5) (u:=.slice none 0 0) rfl)
  go_must (have r6:=S3.rb.cell (i:=6) (u:=.slice none 0 0) rfl)
  go_must (have rf:=S3.rb.fz)
  go_must (have rl:=S3.rb.lt)
  go_must (have z3:=ye.lt)
  go_must (have y3:w2.heap.size≤w3.heap.size:=by have:=bd.size;(try simp [World.setCell] at this);omega))
 have fT:=I jX;have RZ:=I bM;have gc:=I hO3;have HS:=I S3;clear jX bM hO3 S1 nG S2 nF S3 ye S0;try dsimp only
 iterate 200 (first | go_step | skip)
 refine bodyPost_ret (v:=.agg #[.string x.name,.slice A1 x.labels.length c1,.int .i64 x.az,.int .i64 x.mem,.int .i64 x.aw,.slice A2 x.ai.length c2,.slice A3 x.ae.length c3]) (by simp [results,Tryz.results40,go_sem, *]) rfl ⟨[.string x.name,.slice A1 x.labels.length c1,.int .i64 x.az,.int .i64 x.mem,.int .i64 x.aw,.slice A2 x.ai.length c2,.slice A3 x.ae.length c3],(G1++(G2++G3)),rfl,?_,?_⟩;rotate_left
 ·exact ME
 refine am.up (B':=w.heap.size+1+1) (fun x:nI=>(x.name,x.labels,x.az,x.mem,x.aw,x.ai,x.ae)) ?_ J;refine am.cons (c1:=[.string x.name]) (ed _ x.name (rV hname)) ?_;refine am.eD (B2:=w1.heap.size) (c1:=[.slice A1 x.labels.length c1]) (F1:=G1) ?_ ?_ J yv.out
 ·exact RW
 refine am.cons (c1:=[.int .i64 x.az]) (jL _ x.az vg) ?_;refine am.cons (c1:=[.int .i64 x.mem]) (jL _ x.mem cG) ?_;refine am.cons (c1:=[.int .i64 x.aw]) (jL _ x.aw BJ) ?_;refine am.eD (B2:=w2.heap.size) (c1:=[.slice A2 x.ai.length c2]) (F1:=G2) ?_ ?_ J tk.out
 ·exact RY
 exact (by repeat (first | with_reducible exact gc.out | with_reducible refine am.setCell ?_ MD _))
structure Cc (w wk:World) (cs zs os:List Value):Prop where
 cS:oG wk w.heap.size cs
 rb:oG wk (w.heap.size+1) zs
 ob:oG wk (w.heap.size+1+1) os
 aE:Below w.heap.size w wk
section
variable {w wk w':World} {cs zs os:List Value}
theorem Cc.new (w:World) (cs zs os:List Value) (t:TypeId):Cc w (((w.alloc (.cells cs.toArray t)).alloc (.cells zs.toArray t)).alloc (.cells os.toArray t)) cs zs os :=
 have h:=(Cp.new w cs zs t t).ext (ak (aj _) (.cells os.toArray t))
 ⟨h.cS,h.rb,(by have:=oG.new ((w.alloc (.cells cs.toArray t)).alloc (.cells zs.toArray t)) os t;rw [World.size_alloc,World.size_alloc] at this;exact this),h.aE⟩
theorem Cc.ext (h:Cc w wk cs zs os) (U:Below wk.heap.size wk w'):Cc w w' cs zs os:=⟨h.cS.ext U,h.rb.ext U,h.ob.ext U,ah h.aE U⟩
theorem Cc.put (h:Cc w wk cs zs os) (i:Nat) (u:Value):Cc w (wk.setCell ⟨w.heap.size+1+1,i,none⟩ u) cs zs (os.set i u):=⟨h.cS.bj J i u,h.rb.bj J i u,h.ob.put i u,aC h.aE bC u⟩
theorem Cc.bj (h:Cc w wk cs zs os) {c:Nat} (hc:w.heap.size+1+1 < c) (i:Nat) (u:Value):Cc w (wk.setCell ⟨c,i,none⟩ u) cs zs os:=⟨h.cS.bj J i u,h.rb.bj J i u,h.ob.bj J i u,aC h.aE bC u⟩
theorem Cc.lt (h:Cc w wk cs zs os):w.heap.size+1+1 < wk.heap.size:=h.ob.lt
theorem Cc.grown {row:Option Nat} (h:Cc w wk cs zs os) (hg:wk.grownBy w' row) (hr:∀q,row = some q→w.heap.size+1+1 < q):Cc w w' cs zs os :=
 ⟨h.cS.bm (hg.block _ h.cS.lt Kw),h.rb.bm (hg.block _ h.rb.lt Kw),h.ob.bm (hg.block _ h.ob.lt Kw),
  ⟨hg.os.trans h.aE.os,hg.tape.trans h.aE.tape,hg.output.trans h.aE.output,Nat.le_trans h.aE.size hg.size,fun i hi=>(hg.block i Yg Kw).trans (h.aE.block i hi)⟩⟩
end
theorem oG.grown {w w':World} {g:Nat} {cs:List Value} {row:Option Nat} (h:oG w g cs) (hg:w.grownBy w' row) (hr:∀q,row = some q→q≠g):oG w' g cs:=h.bm (hg.block _ h.lt (fun e=>hr g e.symm rfl))
theorem am.aju {α:Type} [bb α] {w w':World} {B B2:Nat} {x:α} {cs:List Value} {F:List Nat} {row:Option Nat} (h:am w B x cs F) (hg:w.grownBy w' row) (hF:∀y∈F,y < B2) (hr:∀q,row = some q→B2≤q):am w' B x cs F :=
 h.bm (fun y hy=>hg.block y (h.lt y hy) Yq) hg.size
theorem am.apg {w:World} {B:Nat} {p:nI} {nm:ByteArray} {n:Int} {ps:List Value} {G:List Nat} (h:am w B p ps G) (Z:nm.size≤maxLen) (h2:bt n):am w B (⟨p,nm,n⟩:ag) (ps++[.string nm,.int .i64 n]) G:=by
 refine am.up (B':=B) (fun x:ag=>(x.aS,x.on,x.seq)) ?_ (Nat.le_refl _);have h3:am w (B+w.heap.size) (nm,n) ([.string nm]++[.int .i64 n]) []:=am.cons (ed w nm (rV Z)) (am.cQ (jL w n h2));have h4:=am.eD h h3 J (fun b U=>by have:=h.lt b U;omega);simpa using h4
theorem am.alU {w:World} {B B3 B4:Nat} {H:List aR} {P:List ag} {n p q f:Int} {Ah Ap:Option Addr} {ch cp:Nat} {Gh Gp:List Nat} (h:am w B3 H [.slice Ah H.length ch] Gh) (k:am w B4 P [.slice Ap P.length cp] Gp) (hB:B≤B3) (uP:B3≤B4) (hG:∀y∈Gh,y < B4) (X:bt n) (hp:bt p) (hq:bt q) (hf:bt f) :
 am w B (⟨H,P,n,⟨p,q,f⟩⟩:aU) [.slice Ah H.length ch,.slice Ap P.length cp,.int .i64 n,.int .i64 p,.int .i64 q,.int .i64 f] (Gh++Gp):=by
 refine am.up (B':=B3) (fun x:aU=>(x.V,x.O,x.next,x.weights)) ?_ hB;have h5:am w (B4+w.heap.size) (⟨p,q,f⟩:rZ) ([.int .i64 p]++([.int .i64 q]++[.int .i64 f])) []:=by refine am.up (B':=B4+w.heap.size) (fun x:rZ=>(x.pack,x.af,x.an)) ?_ (Nat.le_refl _);exact am.cons (jL w p hp) (am.cons (jL w q hq) (am.cQ (jL w f hf)))
 have h6:=am.cons (jL w n X) h5;have h7:=am.eD h (am.eD k h6 J (fun b U=>by have:=k.lt b U;omega)) uP hG;simpa using h7
theorem apR:(Tryz.prog.info? 47).map (fun i=>(i.zero,i.size,i.bytes)) = some (some ((.agg #[.string ⟨#[]⟩,.slice none 0 0,.int .i64 0,.int .i64 0,.int .i64 0,.slice none 0 0])),6,88):=by kernel_rfl
theorem NX:DL Tryz.prog 24 47 ((.agg #[.string ⟨#[]⟩,.slice none 0 0,.int .i64 0,.int .i64 0,.int .i64 0,.slice none 0 0])) 6 88:=⟨Tryz.underlying24,apR,rfl,J⟩
theorem alV:(Tryz.prog.info? 53).map (fun i=>(i.zero,i.size,i.bytes)) = some (some ((.agg #[.string ⟨#[]⟩,.slice none 0 0,.int .i64 0,.int .i64 0,.int .i64 0,.slice none 0 0,.slice none 0 0,.string ⟨#[]⟩,.int .i64 0])),9,136):=by kernel_rfl
theorem YH:DL Tryz.prog 25 53 ((.agg #[.string ⟨#[]⟩,.slice none 0 0,.int .i64 0,.int .i64 0,.int .i64 0,.slice none 0 0,.slice none 0 0,.string ⟨#[]⟩,.int .i64 0])) 9 136:=⟨Tryz.underlying25,alV,rfl,J⟩
theorem adD (x:aU) (hw:(x.wt:Int)≤1048576):(x.V.length:Int)≤1048576∧(x.O.length:Int)≤1048576∧Hid (∀h∈x.V,(h.labels.length:Int)≤1048576∧(h.aT.length:Int)≤1048576) ∧
 Hid (∀p∈x.O,(p.aS.labels.length:Int)≤1048576∧(p.aS.ai.length:Int)≤1048576∧(p.aS.ae.length:Int)≤1048576∧∀y∈p.aS.ai,(y.values.length:Int)≤1048576):=by
 have gv:x.wt = kL aR.wt x.V+kL ag.wt x.O:=rfl;have Z:=gJ aR.wt x.V;have h2:=gJ ag.wt x.O;refine ⟨J,J,I fun h hh=>?_,I fun p hp=>?_⟩
 ·have h3:h.name.size+kL ao.wt h.labels+kL iU.wt h.aT≤kL aR.wt x.V:=Bq (f:=aR.wt) hh;have h4:=gJ ao.wt h.labels;have h5:=gJ iU.wt h.aT;constructor <;> omega
 ·have h3:(p.aS.name.size+kL ao.wt p.aS.labels+kL aL.wt p.aS.ai+kL bH.wt p.aS.ae)+p.on.size≤kL ag.wt x.O:=Bq (f:=ag.wt) hp;have h4:=gJ ao.wt p.aS.labels;have h5:=gJ aL.wt p.aS.ai;have h6:=gJ bH.wt p.aS.ae;refine ⟨J,J,J,fun y hy=>?_⟩;have h7:y.key.size+kL ByteArray.size y.values≤kL aL.wt p.aS.ai:=Bq (f:=aL.wt) hy;have h8:=gJ ByteArray.size y.values;omega
def kX (r:Eb):zm:=(r.name,r.aw,r.seq)
theorem anC:(Tryz.prog.info? 9).map (fun i=>(i.zero,i.size,i.bytes)) = some (some (.string ⟨#[]⟩),1,16):=by kernel_rfl
theorem ajn:DL Tryz.prog 40 9 (.string ⟨#[]⟩) 1 16:=⟨Tryz.underlying40,anC,rfl,J⟩
theorem Ve (w:World):∀ys:List ByteArray,(∀y∈ys,y.size≤maxLen)→jo w ys (ys.map Value.string) []
 | [],_=>⟨rfl,rfl⟩
 | y :: ys,h=>⟨[.string y],ys.map Value.string,[],[],rfl,rfl,⟨rfl,rfl,h y (List.mem_cons_self ..)⟩,Ve w ys fun z hz=>h z (List.mem_cons_of_mem _ hz)⟩
theorem adz {w:World} {B e B':Nat} {v:Value} {xs:List ByteArray} {n:Nat} (h:w.ownsRow B e 1 v n (xs.map Value.string)) (X:n = xs.length) (hB:B'≤B) (hz:∀y∈xs,y.size≤maxLen) :
 ∃A c G,v = .slice A xs.length c∧am w B' xs [.slice A xs.length c] G:=by
 subst X;exact am.oJ (e:=e) (ds:=xs.map Value.string) (F:=[]) (vP h hB) ⟨Ve w _ hz,List.nodup_nil,(fun b U=>by cases U),(fun b U=>by cases U)⟩ (fun g _ hm=>by cases hm)
theorem asU:(Tryz.prog.info? 3).map (fun i=>(i.zero,i.size,i.bytes)) = some (some (.int .i64 0),1,8):=by kernel_rfl
theorem BB:DL Tryz.prog 42 3 (.int .i64 0) 1 8:=⟨Tryz.underlying42,asU,rfl,J⟩
theorem asV {a b:Bool} (h:a = b):Ending.returned (.bool a) = .returned (.bool b):=by rw [h]
theorem XV (x y:Eb) (w:World) :
 Calls Tryz.prog 160 #[.agg #[.string x.name,.slice x.la x.ln x.lc,.int .i64 x.az,.int .i64 x.mem,.int .i64 x.aw,.slice x.na x.nn x.nc,.slice x.ta x.tn x.tc,.string x.on,.int .i64 x.seq],.agg #[.string y.name,.slice y.la y.ln y.lc,.int .i64 y.az,.int .i64 y.mem,.int .i64 y.aw,.slice y.na y.nn y.nc,.slice y.ta y.tn y.tc,.string y.on,.int .i64 y.seq]] w fun e w'=>e = .returned (.bool (kS o8 (kX x) (kX y)))∧Below w.heap.size w w':=by
 have av:=alD (kX x) (kX y);have e1:(kX x).2.1 = x.aw:=rfl;have e2:(kX y).2.1 = y.aw:=rfl;have e3:(kX x).2.2 = x.seq:=rfl;have e4:(kX y).2.2 = y.seq:=rfl;rw [e1,e2,e3,e4] at av;clear e1 e2 e3 e4;generalize kS o8 (kX x) (kX y) = L at *;cases Z:decide (y.aw < x.aw) <;> cases h2:(x.aw == y.aw) <;> cases h3:decide (x.seq < y.seq)
 all_goals
  have HL:=I av;have H1:=I Z;have H2:=I h2;have H3:=I h3;clear av;go_enter Tryz.func160,Tryz.ntmps160;go_wp2;go_ret
  refine ⟨asV ?_,ak (ak (aj _) _) _⟩;have a1:=H1.out;have a2:=H2.out;have a3:=H3.out;have a4:=HL.out;simp at a1 a2 a3;cases L
  ·simp at a4 ⊢;try omega
  ·simp at a4 ⊢;try omega
def oa (ps:List ag) (i:Nat):zm:=match ps[i]? with | some p=>Hv p | none=>(⟨#[]⟩,0,0)
theorem LJ {ps:List ag} {i:Nat} (h:i < ps.length):oa ps i = Hv ps[i]:=by unfold oa;rw [List.getElem?_eq_getElem h]
theorem Pd {w:World} {ps:List ag} {A:Option Addr} {c:Nat} {F:List Nat} (h:Sl w ps A c F) (bX:0 < ps.length):∃b o,A = some ⟨b,o,none⟩∧b < w.heap.size ∧
 ∀z (hz:z < ps.length),∃r:Eb,kX r = Hv ps[z]∧r.on = ps[z].on∧r.name.size≤maxLen∧∀j u,(tH r)[j]? = some u→w.cell? ⟨b,o+z * 9+j,none⟩ = some u:=by
 obtain ⟨b,o,_,_,hA,_,hbs,_⟩:=Sl.get (α:=ag) h bX;subst hA;refine ⟨b,o,rfl,hbs,fun z hz=>?_⟩;obtain ⟨b',o',ck,Fk,hA,o9,_,hr,bA,hc⟩:=Sl.get (α:=ag) h hz;simp only [Option.some.injEq,Addr.mk.injEq,and_true] at hA;obtain ⟨rfl,rfl⟩:=hA;obtain ⟨c1,c2,F1,F2,rfl,rfl,QS,_,_,_,_,rfl,rfl,⟨rfl,rfl,gO⟩,⟨rfl,rfl,hseq⟩⟩:=hr;obtain ⟨Al,cl,Fl,An,cn,Fn,At,ct,Ft,aD,su,hpn,_⟩:=dL QS;subst aD;refine ⟨⟨ps[z].aS.name,Al,ps[z].aS.labels.length,cl,ps[z].aS.az,ps[z].aS.mem,ps[z].aS.aw,An,ps[z].aS.ai.length,cn,At,ps[z].aS.ae.length,ct,ps[z].on,ps[z].seq⟩,rfl,rfl,hpn,fun j u hu=>?_⟩;have:=hc j u hu;rw [show o+(z * bb.size ag+j) = o+z * 9+j from by show o+(z * 9+j) = _;omega] at this;exact this
def eH {α:Type} (i:Nat) (x:α) (xs:List α):List α:=xs.take i++x :: xs.drop i
theorem xe {α:Type} (i:Nat) (x:α) (xs:List α):(eH i x xs).length = xs.length+1:=by simp [eH];omega
theorem aY.ins {α:Type} [bb α] {w:World} {B:Nat} {xs:List α} {x:α} {ds cs:List Value} {F G:List Nat} (h:aY w B xs ds F) (hx:am w B x cs G) (hd:∀y∈F,y∉G) (i:Nat) (hi:i≤xs.length) :
 ∃F',aY w B (eH i x xs) (ds.take (i * bb.size α)++(cs++ds.drop (i * bb.size α))) F'∧(∀y∈F',y∈F∨y∈G):=by
 obtain ⟨hr,X,U,hp⟩:=h;rw [← List.take_append_drop i xs] at hr;obtain ⟨d1,d2,F1,F2,rfl,rfl,Z,h2⟩:=jo.fJ hr;have hl:d1.length = i * bb.size α:=by rw [Z.len,List.length_take,Nat.min_eq_left hi]
 rw [← hl,List.take_left,List.drop_left];have Nf:=List.nodup_append.1 X;have bA:∀y∈F1++(G++F2),y∈F1++F2∨y∈G:=fun y hy=>by
  simp only [List.mem_append] at hy ⊢;rcases hy with hy | hy | hy <;> simp [hy]
 refine ⟨F1++(G++F2),⟨Z.append ⟨cs,d2,G,F2,rfl,rfl,hx.rd,h2⟩,?_,fun y hy=>?_,fun y hy=>?_⟩,bA⟩
 ·rw [List.nodup_append,List.nodup_append];refine ⟨Nf.1,⟨hx.nodup,Nf.2.1,fun a ha b eo e=>hd b (List.mem_append_right _ eo) (e ▸ ha)⟩,fun a ha b eo e=>?_⟩;rcases List.mem_append.1 eo with eo | eo
  ·exact hd a (List.mem_append_left _ ha) (e ▸ eo)
  ·exact Nf.2.2 a ha b eo e
 ·rcases bA y hy with hy | hy
  ·exact U y hy
  ·exact hx.base y hy
 ·rcases bA y hy with hy | hy
  ·exact hp y hy
  ·exact hx.plain y hy
theorem am.Km {α:Type} [bb α] {w:World} {B:Nat} {xs:List α} {ds:List Value} {F:List Nat} {e:TypeId} {v:Value} (h0:w.ownsRow B e (bb.size α) v xs.length ds) (h:aY w B xs ds F) (bX:∀g,v.ownBlock = some g→g∉F):∃A c G,v = .slice A xs.length c∧am w B xs [.slice A xs.length c] G∧∀y∈G,y∈F∨v.ownBlock = some y:=by
 exact Da
theorem Z5:(Tryz.prog.info? 47).map (fun i=>(i.zero,i.size,i.bytes)) = some (some (.agg #[.string ⟨#[]⟩,.slice none 0 0,.int .i64 0,.int .i64 0,.int .i64 0,.slice none 0 0]),6,88):=by kernel_rfl
theorem mD:DL Tryz.prog 24 47 (.agg #[.string ⟨#[]⟩,.slice none 0 0,.int .i64 0,.int .i64 0,.int .i64 0,.slice none 0 0]) 6 88:=⟨Tryz.underlying24,Z5,rfl,J⟩
theorem aCp:(Tryz.prog.info? 53).map (fun i=>(i.zero,i.size,i.bytes)) = some (some (.agg #[.string ⟨#[]⟩,.slice none 0 0,.int .i64 0,.int .i64 0,.int .i64 0,.slice none 0 0,.slice none 0 0,.string ⟨#[]⟩,.int .i64 0]),9,136):=by kernel_rfl
theorem mC:DL Tryz.prog 25 53 (.agg #[.string ⟨#[]⟩,.slice none 0 0,.int .i64 0,.int .i64 0,.int .i64 0,.slice none 0 0,.slice none 0 0,.string ⟨#[]⟩,.int .i64 0]) 9 136:=⟨Tryz.underlying25,aCp,rfl,J⟩
def gM (x:ao):List Value:=[.string x.key,.string x.value]
def gn (x:iU):List Value:=[.string x.key,.string x.value,.int .i64 x.ap]
def gf (x:bH):List Value:=[.string x.key,.bool x.equal,.string x.value,.int .i64 x.ap]
section
variable {β:Type} {row:β→List Value} {S:Nat}
theorem r9 (hS:∀x,(row x).length = S):∀(D:List β) (k:Nat) (x:β),D[k]? = some x→∀(j:Nat) (u:Value),(row x)[j]? = some u→(D.flatMap row)[k * S+j]? = some u
 | [],_,_,h,_,_,_=>by simp at h
 | r :: rs,0,x,h,j,u,hj=>by
   simp at h;subst h;rw [List.flatMap_cons,Nat.zero_mul,Nat.zero_add,List.getElem?_append_left (List.getElem?_eq_some_iff.1 hj).1];exact hj
 | r :: rs,k+1,x,h,j,u,hj=>by
   rw [List.getElem?_cons_succ] at h;have hr:=hS r;have hk:(k+1) * S+j = k * S+j+S:=(by rw [Nat.succ_mul];omega);rw [List.flatMap_cons,List.getElem?_append_right J,hr,show (k+1) * S+j - S = k * S+j by omega];exact r9 hS rs k x h j u hj
theorem kC (hS:∀x,(row x).length = S):∀D:List β,(D.flatMap row).length = D.length * S
 | []=>by simp
 | r :: rs=>by rw [List.flatMap_cons,List.length_append,hS,kC hS rs,List.length_cons,Nat.succ_mul];omega
theorem mI (Z:∀x,∀u∈row x,u.oneCell' = true) (D:List β):∀u∈D.flatMap row,u.oneCell' = true:=fun u hu=>by
 obtain ⟨x,_,hx⟩:=List.mem_flatMap.1 hu;exact Z x u hx
theorem NI [bb β] {w:World} {B e g ar:Nat} (hd:bb.size β = S) (D:List β) (h:w.ownsRow B e S (.slice (some ⟨g,0,none⟩) D.length ar) D.length (D.flatMap row)) (hr:∀x∈D,rd w x (row x) []):∃A c G,Value.slice (some ⟨g,0,none⟩) D.length ar = .slice A D.length c∧am w B D [.slice A D.length c] G:=by
 subst hd;have dz:∀D:List β,(∀x∈D,rd w x (row x) [])→jo w D (D.flatMap row) []:=fun D=>by
  induction D with
  | nil=>intro _;exact ⟨rfl,rfl⟩
  | cons x D ih=>intro hD;exact ⟨row x,D.flatMap row,[],[],rfl,rfl,hD x (List.mem_cons_self ..),ih fun y hy=>hD y (List.mem_cons_of_mem _ hy)⟩
 exact Ex
end
theorem ux (x:ao):∀u∈gM x,u.oneCell' = true:=by intro u hu;simp only [gM,List.mem_cons,List.not_mem_nil,or_false] at hu;rcases hu with rfl | rfl <;> rfl
theorem uv (x:iU):∀u∈gn x,u.oneCell' = true:=by intro u hu;simp only [gn,List.mem_cons,List.not_mem_nil,or_false] at hu;rcases hu with rfl | rfl | rfl <;> rfl
theorem uu (x:bH):∀u∈gf x,u.oneCell' = true:=by intro u hu;simp only [gf,List.mem_cons,List.not_mem_nil,or_false] at hu;rcases hu with rfl | rfl | rfl | rfl <;> rfl
end Go.Proofs.YtajbbmembionpaaGreat
