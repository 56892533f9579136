/- copyHost, copyPod, of the program; l17Host, l17Pod, of the reference. No condition. -/
import Derived.Test.YtdegaofigemegaaGreatDraw0
import Derived.Shelf.SlSortCmp.NoneTotal
namespace Go.Proofs.YtdegaofigemegaaGreat
open Go.ChangeShapes Go.WideShapes Go.ChangeAt Go.RowKit
set_option linter.unusedVariables false
set_option linter.unusedSimpArgs false
set_option maxHeartbeats 4000000
set_option maxRecDepth 100000
theorem OU (W:World) (e:TypeId) (size N:Nat) (hN:W.heap.size = N):(W.alloc (.cells #[] e)).ownsRow N e size (.slice (some ⟨N,0,none⟩) 0 0) 0 []:=by
 subst hN;exact World.ownsRow_made W #[] 0 (Nat.le_refl _) (Nat.zero_le _) S'
structure Cp (w wk:World) (cs zs:List Value):Prop where
 box:oG wk w.heap.size cs
 rb:oG wk (w.heap.size+1) zs
 below:Below w.heap.size w wk
section
variable {w wk w':World} {cs zs:List Value}
theorem Cp.new (w:World) (cs zs:List Value) (t t2:TypeId):Cp w ((w.alloc (.cells cs.toArray t)).alloc (.cells zs.toArray t2)) cs zs :=
 ⟨(oG.new w cs t).ext (ak (aj _) _),(by have:=oG.new (w.alloc (.cells cs.toArray t)) zs t2;rw [World.size_alloc] at this;exact this),ak (ak (aj _) _) _⟩
theorem Cp.ext (h:Cp w wk cs zs) (hb:Below wk.heap.size wk w'):Cp w w' cs zs:=⟨h.box.ext hb,h.rb.ext hb,ah h.below hb⟩
theorem Cp.put (h:Cp w wk cs zs) (i:Nat) (u:Value):Cp w (wk.setCell ⟨w.heap.size,i,none⟩ u) (cs.set i u) zs:=⟨h.box.put i u,h.rb.bL J i u,aC h.below (Nat.le_refl _) u⟩
theorem Cp.lt (h:Cp w wk cs zs):w.heap.size+1 < wk.heap.size:=h.rb.lt
end
theorem Tr (x:ba) (cs:List Value) (F:List Nat) (w:World) (h:rd w x cs F) (fu:(x.labels.length:Int)<=1048576) (cA:(x.aT.length:Int)<=1048576) :
 Calls Tryz.prog 36 #[.agg cs.toArray] w λe w'=>∃cs F,e = .returned (.agg cs.toArray)/\ai w' w.heap.size x cs F/\Below w.heap.size w w':=by
 obtain ⟨gu,gy,jw,kJ,kK,qU,ar,qp,hname,dO,vg,b8,uI,jq⟩:=iy h;subst ar;clear qp h;go_enter Tryz.func36,Tryz.ntmps36;have S0:=Cp.new w [.string x.name,.slice gu x.labels.length gy,.int .i64 x.aq,.int .i64 x.mem,.int .i64 x.slots,.slice kJ x.aT.length kK] [.string ⟨#[]⟩,.slice none 0 0,.int .i64 0,.int .i64 0,.int .i64 0,.slice none 0 0] 38 38;go_wp2_with fail
 refine (Xo x.labels _ _ _ _ (dO.ext S0.below) fu).mono ?_;rintro e w1 ⟨A1,c1,G1,rfl,jX,aR⟩;have jx:=S0.ext aR;replace jX:=jX.mono (B':=w.heap.size+1+1) Io;have k1:=jx.box.cell (i:=1) (u:=.slice gu x.labels.length gy) rfl;have f1:=jx.box.fz 1;have l1:=jx.box.lt;have p':=I (show ∀b∈G1,b < w1.heap.size from jX.lt);have S1:=jx.put 1 (.slice A1 x.labels.length c1);replace jX:=jX.setCell (p:=⟨w.heap.size,1,none⟩) Rv (.slice A1 x.labels.length c1);have m1:=S1.box.cell (i:=5) (u:=.slice kJ x.aT.length kK) rfl;have z1:=jx.lt;go_wp2_with fail
 refine (R6 x.aT _ _ _ _ (jq.ext S1.below) cA).mono ?_;rintro e w2 ⟨A2,c2,G2,rfl,bj,am⟩;have ju:=S1.ext am;replace bj:=bj.mono (B':=w1.heap.size) Io;have k2:=ju.box.cell (i:=5) (u:=.slice kJ x.aT.length kK) rfl;have f2:=ju.box.fz 5;have l2:=ju.box.lt;have S2:=ju.put 5 (.slice A2 x.aT.length c2);replace jX:=jX.ext am;replace jX:=jX.setCell (p:=⟨w.heap.size,5,none⟩) AT (.slice A2 x.aT.length c2);replace bj:=bj.setCell (p:=⟨w.heap.size,5,none⟩) AT (.slice A2 x.aT.length c2);obtain ⟨q0,q1,q2,q3,q4,q5⟩:=cK S2.box;obtain ⟨r0,r1,r2,r3,r4,r5⟩:=cK S2.rb;have rf:=S2.rb.fz;have rl:=S2.rb.lt;have z2:=ju.lt;have y2:w1.heap.size<=w2.heap.size:=by have:=am.size;(try simp [World.setCell] at this);omega
 have iY:=I jX;have RZ:=I bj;have HS:=I S2;clear jX bj S1 jx S2 ju S0;try dsimp only
 iterate 200 (first | go_step | skip)
 refine bodyPost_ret (v:=.agg #[.string x.name,.slice A1 x.labels.length c1,.int .i64 x.aq,.int .i64 x.mem,.int .i64 x.slots,.slice A2 x.aT.length c2]) (by simp [results,Tryz.results36,go_sem, *]) rfl ⟨[.string x.name,.slice A1 x.labels.length c1,.int .i64 x.aq,.int .i64 x.mem,.int .i64 x.slots,.slice A2 x.aT.length c2],(G1++G2),rfl,?_,?_⟩;rotate_left
 ·exact Im
 refine ai.up (B':=w.heap.size+1+1) (λx:ba=>(x.name,x.labels,x.aq,x.mem,x.slots,x.aT)) ?_ J;refine ai.cons (c1:=[.string x.name]) (rdStr _ x.name (rV hname)) ?_;refine ai.pair (B2:=w1.heap.size) (c1:=[.slice A1 x.labels.length c1]) (F1:=G1) ?_ ?_ J p'.out
 ·exact Ry
 refine ai.cons (c1:=[.int .i64 x.aq]) (jL _ x.aq vg) ?_;refine ai.cons (c1:=[.int .i64 x.mem]) (jL _ x.mem b8) ?_;refine ai.cons (c1:=[.int .i64 x.slots]) (jL _ x.slots uI) ?_;exact Rz
theorem Tl (x:nI) (cs:List Value) (F:List Nat) (w:World) (h:rd w x cs F) (fu:(x.labels.length:Int)<=1048576) (cA:(x.af.length:Int)<=1048576) (nU:(x.ae.length:Int)<=1048576) (hv:∀y∈x.af,(y.values.length:Int)<=1048576) :
 Calls Tryz.prog 37 #[.agg cs.toArray] w λe w'=>∃cs F,e = .returned (.agg cs.toArray)/\ai w' w.heap.size x cs F/\Below w.heap.size w w':=by
 have HV:=I hv;clear hv;obtain ⟨gu,gy,jw,oh,nT,wG,fA,fB,jY,ar,qp,hname,dO,vg,b8,BJ,mX,eG⟩:=dL h;subst ar;clear qp h;go_enter Tryz.func37,Tryz.ntmps37;have S0:=Cp.new w [.string x.name,.slice gu x.labels.length gy,.int .i64 x.aq,.int .i64 x.mem,.int .i64 x.av,.slice oh x.af.length nT,.slice fA x.ae.length fB] [.string ⟨#[]⟩,.slice none 0 0,.int .i64 0,.int .i64 0,.int .i64 0,.slice none 0 0,.slice none 0 0] 35 35;go_wp2_with fail
 refine (Xo x.labels _ _ _ _ (dO.ext S0.below) fu).mono ?_;rintro e w1 ⟨A1,c1,G1,rfl,jX,aR⟩;have jx:=S0.ext aR;replace jX:=jX.mono (B':=w.heap.size+1+1) Io;have k1:=jx.box.cell (i:=1) (u:=.slice gu x.labels.length gy) rfl;have f1:=jx.box.fz 1;have l1:=jx.box.lt;have p':=I (show ∀b∈G1,b < w1.heap.size from jX.lt);have S1:=jx.put 1 (.slice A1 x.labels.length c1);replace jX:=jX.setCell (p:=⟨w.heap.size,1,none⟩) Rv (.slice A1 x.labels.length c1);have m1:=S1.box.cell (i:=5) (u:=.slice oh x.af.length nT) rfl;have z1:=jx.lt;go_wp2_with fail
 refine (Of x.af _ _ _ _ (mX.ext S1.below) cA HV.out).mono ?_;rintro e w2 ⟨A2,c2,G2,rfl,bj,am⟩;have ju:=S1.ext am;replace bj:=bj.mono (B':=w1.heap.size) Io;have k2:=ju.box.cell (i:=5) (u:=.slice oh x.af.length nT) rfl;have f2:=ju.box.fz 5;have l2:=ju.box.lt;have nz:=I (show ∀b∈G2,b < w2.heap.size from bj.lt);have S2:=ju.put 5 (.slice A2 x.af.length c2);replace jX:=jX.ext am;replace jX:=jX.setCell (p:=⟨w.heap.size,5,none⟩) AT (.slice A2 x.af.length c2);replace bj:=bj.setCell (p:=⟨w.heap.size,5,none⟩) AT (.slice A2 x.af.length c2);have m2:=S2.box.cell (i:=6) (u:=.slice fA x.ae.length fB) rfl;have z2:=ju.lt;have y2:w1.heap.size<=w2.heap.size:=by have:=am.size;(try simp [World.setCell] at this);omega
 go_wp2_with fail
 refine (R7 x.ae _ _ _ _ (eG.ext S2.below) nU).mono ?_;rintro e w3 ⟨A3,c3,G3,rfl,hO3,az⟩;have ry:=S2.ext az;replace hO3:=hO3.mono (B':=w2.heap.size) Io;have k3:=ry.box.cell (i:=6) (u:=.slice fA x.ae.length fB) rfl;have f3:=ry.box.fz 6;have l3:=ry.box.lt;have S3:=ry.put 6 (.slice A3 x.ae.length c3);replace jX:=jX.ext az;replace bj:=bj.ext az;replace jX:=jX.setCell (p:=⟨w.heap.size,6,none⟩) Ip (.slice A3 x.ae.length c3);replace bj:=bj.setCell (p:=⟨w.heap.size,6,none⟩) Ip (.slice A3 x.ae.length c3);replace hO3:=hO3.setCell (p:=⟨w.heap.size,6,none⟩) Ip (.slice A3 x.ae.length c3);obtain ⟨q0,q1,q2,q3,q4,q5,q6⟩:=lB S3.box;obtain ⟨r0,r1,r2,r3,r4,r5,r6⟩:=lB S3.rb;have rf:=S3.rb.fz;have rl:=S3.rb.lt;have z3:=ry.lt;have y3:w2.heap.size<=w3.heap.size:=by have:=az.size;(try simp [World.setCell] at this);omega
 have iY:=I jX;have RZ:=I bj;have gN:=I hO3;have HS:=I S3;clear jX bj hO3 S1 jx S2 ju S3 ry S0;try dsimp only
 iterate 200 (first | go_step | skip)
 refine bodyPost_ret (v:=.agg #[.string x.name,.slice A1 x.labels.length c1,.int .i64 x.aq,.int .i64 x.mem,.int .i64 x.av,.slice A2 x.af.length c2,.slice A3 x.ae.length c3]) (by simp [results,Tryz.results37,go_sem, *]) rfl ⟨[.string x.name,.slice A1 x.labels.length c1,.int .i64 x.aq,.int .i64 x.mem,.int .i64 x.av,.slice A2 x.af.length c2,.slice A3 x.ae.length c3],(G1++(G2++G3)),rfl,?_,?_⟩;rotate_left
 ·exact Im
 refine ai.up (B':=w.heap.size+1+1) (λx:nI=>(x.name,x.labels,x.aq,x.mem,x.av,x.af,x.ae)) ?_ J;refine ai.cons (c1:=[.string x.name]) (rdStr _ x.name (rV hname)) ?_;refine ai.pair (B2:=w1.heap.size) (c1:=[.slice A1 x.labels.length c1]) (F1:=G1) ?_ ?_ J p'.out
 ·exact Ry
 refine ai.cons (c1:=[.int .i64 x.aq]) (jL _ x.aq vg) ?_;refine ai.cons (c1:=[.int .i64 x.mem]) (jL _ x.mem b8) ?_;refine ai.cons (c1:=[.int .i64 x.av]) (jL _ x.av BJ) ?_;refine ai.pair (B2:=w2.heap.size) (c1:=[.slice A2 x.af.length c2]) (F1:=G2) ?_ ?_ J nz.out
 ·exact Rz
 exact (by repeat (first | with_reducible exact gN.out | with_reducible refine ai.setCell ?_ Rp _))
theorem Tq (x:ba) (cs:List Value) (F:List Nat) (w:World) (h:rd w x cs F) (fu:(x.labels.length:Int)<=1048576) (cA:(x.aT.length:Int)<=1048576) :
 Calls Tryz.prog 90 #[.agg cs.toArray] w λe w'=>∃cs F,e = .returned (.agg cs.toArray)/\ai w' w.heap.size x cs F/\Below w.heap.size w w':=by
 obtain ⟨gu,gy,jw,kJ,kK,qU,ar,qp,hname,dO,vg,b8,uI,jq⟩:=iy h;subst ar;clear qp h;go_enter Tryz.func90,Tryz.ntmps90;have S0:=Cp.new w [.string x.name,.slice gu x.labels.length gy,.int .i64 x.aq,.int .i64 x.mem,.int .i64 x.slots,.slice kJ x.aT.length kK] [.string ⟨#[]⟩,.slice none 0 0,.int .i64 0,.int .i64 0,.int .i64 0,.slice none 0 0] 38 38;have Oh:=I (OU ((w.alloc (.cells ([.string x.name,.slice gu x.labels.length gy,.int .i64 x.aq,.int .i64 x.mem,.int .i64 x.slots,.slice kJ x.aT.length kK]:List Value).toArray 38)).alloc (.cells ([.string ⟨#[]⟩,.slice none 0 0,.int .i64 0,.int .i64 0,.int .i64 0,.slice none 0 0]:List Value).toArray 38)) 113 2 (w.heap.size+1+1) fw)
 go_wp2_with (
 first
  | (at_builtin
     refine rW (o:=⟨some 6,_,_,_,_,_⟩) Vv J' J' _ _ J' _ (w.heap.size+1+1) _ 0 [] Oh.out J' x.labels gu gy _ (dO.ext (ak S0.below _)) J' J J fw ?_;intro v1 w1 VB E1 Oi VC lO tE VD;go_must (obtain ⟨A1,c1,hv1⟩:=mY lO)
     go_must (subst hv1)
     go_must (simp only [Nat.zero_add,List.nil_append] at lO)
     go_must (have aR:Below (w.heap.size+1+1) ((w.alloc (.cells ([.string x.name,.slice gu x.labels.length gy,.int .i64 x.aq,.int .i64 x.mem,.int .i64 x.slots,.slice kJ x.aT.length kK]:List Value).toArray 38)).alloc (.cells ([.string ⟨#[]⟩,.slice none 0 0,.int .i64 0,.int .i64 0,.int .i64 0,.slice none 0 0]:List Value).toArray 38)) w1:=lS Oh.out tE ((Below.refl _ _).alloc fw _) fw)
     go_must (have jx:=Cp.ext S0 (aR.mono fw))
     go_must (have Fh:jo w1 x.labels VB E1:=Oi.frame (λb hb=>tE.block b (Oi.lt b hb) (λe=>by have h1:=dO.lt b (VC b hb);have h2:=S0.below.size;simp [Value.ownBlock,World.setCell] at e h2;omega)) tE.size)
     go_must (obtain ⟨A0,c0,G1,ic,jX⟩:=ai.of_flat Vw lO Fh)
     go_must (simp only [Value.slice.injEq,true_and] at ic)
     go_must (obtain ⟨rfl,rfl⟩:=ic)
     go_must (have k1:=jx.box.cell (i:=1) (u:=.slice gu x.labels.length gy) rfl)
     go_must (have f1:=jx.box.fz 1)
     go_must (have l1:=jx.box.lt)
     go_must (have p':=I (show ∀b∈G1,b < w1.heap.size from jX.lt))
     go_must (have S1:=jx.put 1 (.slice A1 x.labels.length c1))
     go_must (replace jX:=jX.setCell (p:=⟨w.heap.size,1,none⟩) Rv (.slice A1 x.labels.length c1))
     go_must (have m1:=S1.box.cell (i:=5) (u:=.slice kJ x.aT.length kK) rfl)
     go_must (have z1:=jx.lt)
     go_must (have HM2:=I (OU (w1.setCell ⟨w.heap.size,1,none⟩ (.slice A1 x.labels.length c1)) 116 3 (w1.heap.size) fw)))
  | (at_builtin
     refine rW (o:=⟨some 11,_,_,_,_,_⟩) alP J' J' _ _ J' _ (w1.heap.size) _ 0 [] HM2.out J' x.aT kJ kK _ (jq.ext (ak S1.below _)) J' J J fw ?_;intro v2 w2 Vz E2 tm mN eP fT RY;go_must (obtain ⟨A2,c2,eO⟩:=mY eP)
     go_must (subst eO)
     go_must (simp only [Nat.zero_add,List.nil_append] at eP)
     go_must (have am:Below (w1.heap.size) (w1.setCell ⟨w.heap.size,1,none⟩ (.slice A1 x.labels.length c1)) w2:=lS HM2.out fT ((Below.refl _ _).alloc fw _) fw)
     go_must (have ju:=Cp.ext S1 (am.mono fw))
     go_must (have VE:jo w2 x.aT Vz E2:=tm.frame (λb hb=>fT.block b (tm.lt b hb) (λe=>by have h1:=jq.lt b (mN b hb);have h2:=S1.below.size;simp [Value.ownBlock,World.setCell] at e h2;omega)) fT.size)
     go_must (obtain ⟨A0,c0,G2,ic,bj⟩:=ai.of_flat aiH eP VE)
     go_must (simp only [Value.slice.injEq,true_and] at ic)
     go_must (obtain ⟨rfl,rfl⟩:=ic)
     go_must (have k2:=ju.box.cell (i:=5) (u:=.slice kJ x.aT.length kK) rfl)
     go_must (have f2:=ju.box.fz 5)
     go_must (have l2:=ju.box.lt)
     go_must (have S2:=ju.put 5 (.slice A2 x.aT.length c2))
     go_must (replace jX:=jX.ext (am.mono fw))
     go_must (replace jX:=jX.setCell (p:=⟨w.heap.size,5,none⟩) AT (.slice A2 x.aT.length c2))
     go_must (replace bj:=bj.setCell (p:=⟨w.heap.size,5,none⟩) AT (.slice A2 x.aT.length c2))
     go_must (have q0:=S2.box.cell (i:=0) (u:=.string x.name) rfl)
     go_must (have q1:=S2.box.cell (i:=1) (u:=.slice A1 x.labels.length c1) rfl)
     go_must (have q2:=S2.box.cell (i:=2) (u:=.int .i64 x.aq) rfl)
     go_must (have q3:=S2.box.cell (i:=3) (u:=.int .i64 x.mem) rfl)
     go_must (have q4:=S2.box.cell (i:=4) (u:=.int .i64 x.slots) rfl)
     go_must (have q5:=S2.box.cell (i:=5) (u:=.slice A2 x.aT.length c2) rfl)
     go_must (have r0:=S2.rb.cell (i:=0) (u:=.string ⟨#[]⟩) rfl)
     go_must (have r1:=S2.rb.cell (i:=1) (u:=.slice none 0 0) rfl)
     go_must (have r2:=S2.rb.cell (i:=2) (u:=.int .i64 0) rfl)
     go_must (have r3:=S2.rb.cell (i:=3) (u:=.int .i64 0) rfl)
     go_must (have r4:=S2.rb.cell (i:=4) (u:=.int .i64 0) rfl)
     go_must (have r5:=S2.rb.cell (i:=5) (u:=.slice none 0 0) rfl)
     go_must (have rf:=S2.rb.fz)
     go_must (have rl:=S2.rb.lt)
     go_must (have z2:=ju.lt)
     go_must (have y2:w1.heap.size<=w2.heap.size:=by have:=am.size;(try simp [World.setCell] at this);omega)))
 have iY:=I jX;have RZ:=I bj;have HS:=I S2;clear jX bj S1 jx S2 ju S0;try dsimp only
 iterate 200 (first | go_step | skip)
 refine bodyPost_ret (v:=.agg #[.string x.name,.slice A1 x.labels.length c1,.int .i64 x.aq,.int .i64 x.mem,.int .i64 x.slots,.slice A2 x.aT.length c2]) (by simp [results,Tryz.results90,go_sem, *]) rfl ⟨[.string x.name,.slice A1 x.labels.length c1,.int .i64 x.aq,.int .i64 x.mem,.int .i64 x.slots,.slice A2 x.aT.length c2],(G1++G2),rfl,?_,?_⟩;rotate_left
 ·exact Im
 refine ai.up (B':=w.heap.size+1+1) (λx:ba=>(x.name,x.labels,x.aq,x.mem,x.slots,x.aT)) ?_ J;refine ai.cons (c1:=[.string x.name]) (rdStr _ x.name (rV hname)) ?_;refine ai.pair (B2:=w1.heap.size) (c1:=[.slice A1 x.labels.length c1]) (F1:=G1) ?_ ?_ J p'.out
 ·exact Ry
 refine ai.cons (c1:=[.int .i64 x.aq]) (jL _ x.aq vg) ?_;refine ai.cons (c1:=[.int .i64 x.mem]) (jL _ x.mem b8) ?_;refine ai.cons (c1:=[.int .i64 x.slots]) (jL _ x.slots uI) ?_;exact Rz
theorem Tk (x:nI) (cs:List Value) (F:List Nat) (w:World) (h:rd w x cs F) (fu:(x.labels.length:Int)<=1048576) (cA:(x.af.length:Int)<=1048576) (nU:(x.ae.length:Int)<=1048576) (hv:∀y∈x.af,(y.values.length:Int)<=1048576) :
 Calls Tryz.prog 91 #[.agg cs.toArray] w λe w'=>∃cs F,e = .returned (.agg cs.toArray)/\ai w' w.heap.size x cs F/\Below w.heap.size w w':=by
 have HV:=I hv;clear hv;obtain ⟨gu,gy,jw,oh,nT,wG,fA,fB,jY,ar,qp,hname,dO,vg,b8,BJ,mX,eG⟩:=dL h;subst ar;clear qp h;go_enter Tryz.func91,Tryz.ntmps91;have S0:=Cp.new w [.string x.name,.slice gu x.labels.length gy,.int .i64 x.aq,.int .i64 x.mem,.int .i64 x.av,.slice oh x.af.length nT,.slice fA x.ae.length fB] [.string ⟨#[]⟩,.slice none 0 0,.int .i64 0,.int .i64 0,.int .i64 0,.slice none 0 0,.slice none 0 0] 35 35;have Oh:=I (OU ((w.alloc (.cells ([.string x.name,.slice gu x.labels.length gy,.int .i64 x.aq,.int .i64 x.mem,.int .i64 x.av,.slice oh x.af.length nT,.slice fA x.ae.length fB]:List Value).toArray 35)).alloc (.cells ([.string ⟨#[]⟩,.slice none 0 0,.int .i64 0,.int .i64 0,.int .i64 0,.slice none 0 0,.slice none 0 0]:List Value).toArray 35)) 113 2 (w.heap.size+1+1) fw)
 go_wp2_with (
  at_builtin
  refine rW (o:=⟨some 6,_,_,_,_,_⟩) Vv J' J' _ _ J' _ (w.heap.size+1+1) _ 0 [] Oh.out J' x.labels gu gy _ (dO.ext (ak S0.below _)) J' J J fw ?_;intro v1 w1 VB E1 Oi VC lO tE VD;go_must (obtain ⟨A1,c1,hv1⟩:=mY lO)
  go_must (subst hv1)
  go_must (simp only [Nat.zero_add,List.nil_append] at lO)
  go_must (have aR:Below (w.heap.size+1+1) ((w.alloc (.cells ([.string x.name,.slice gu x.labels.length gy,.int .i64 x.aq,.int .i64 x.mem,.int .i64 x.av,.slice oh x.af.length nT,.slice fA x.ae.length fB]:List Value).toArray 35)).alloc (.cells ([.string ⟨#[]⟩,.slice none 0 0,.int .i64 0,.int .i64 0,.int .i64 0,.slice none 0 0,.slice none 0 0]:List Value).toArray 35)) w1:=lS Oh.out tE ((Below.refl _ _).alloc fw _) fw)
  go_must (have jx:=Cp.ext S0 (aR.mono fw))
  go_must (have Fh:jo w1 x.labels VB E1:=Oi.frame (λb hb=>tE.block b (Oi.lt b hb) (λe=>by have h1:=dO.lt b (VC b hb);have h2:=S0.below.size;simp [Value.ownBlock,World.setCell] at e h2;omega)) tE.size)
  go_must (obtain ⟨A0,c0,G1,ic,jX⟩:=ai.of_flat Vw lO Fh)
  go_must (simp only [Value.slice.injEq,true_and] at ic)
  go_must (obtain ⟨rfl,rfl⟩:=ic)
  go_must (have k1:=jx.box.cell (i:=1) (u:=.slice gu x.labels.length gy) rfl)
  go_must (have f1:=jx.box.fz 1)
  go_must (have l1:=jx.box.lt)
  go_must (have p':=I (show ∀b∈G1,b < w1.heap.size from jX.lt))
  go_must (have S1:=jx.put 1 (.slice A1 x.labels.length c1))
  go_must (replace jX:=jX.setCell (p:=⟨w.heap.size,1,none⟩) Rv (.slice A1 x.labels.length c1))
  go_must (have m1:=S1.box.cell (i:=5) (u:=.slice oh x.af.length nT) rfl)
  go_must (have z1:=jx.lt))
 go_wp2_with fail
 refine (R8 x.af _ _ _ _ (mX.ext S1.below) cA HV.out).mono ?_;rintro e w2 ⟨A2,c2,G2,rfl,bj,am⟩;have ju:=S1.ext am;replace bj:=bj.mono (B':=w1.heap.size) Io;have k2:=ju.box.cell (i:=5) (u:=.slice oh x.af.length nT) rfl;have f2:=ju.box.fz 5;have l2:=ju.box.lt;have nz:=I (show ∀b∈G2,b < w2.heap.size from bj.lt);have S2:=ju.put 5 (.slice A2 x.af.length c2);replace jX:=jX.ext am;replace jX:=jX.setCell (p:=⟨w.heap.size,5,none⟩) AT (.slice A2 x.af.length c2);replace bj:=bj.setCell (p:=⟨w.heap.size,5,none⟩) AT (.slice A2 x.af.length c2);have m2:=S2.box.cell (i:=6) (u:=.slice fA x.ae.length fB) rfl;have z2:=ju.lt;have y2:w1.heap.size<=w2.heap.size:=by have:=am.size;(try simp [World.setCell] at this);omega
 have HM3:=I (OU (w2.setCell ⟨w.heap.size,5,none⟩ (.slice A2 x.af.length c2)) 120 4 (w2.heap.size) fw)
 go_wp2_with (
  at_builtin
  refine rW (o:=⟨some 15,_,_,_,_,_⟩) abo J' J' _ _ J' _ (w2.heap.size) _ 0 [] HM3.out J' x.ae fA fB _ (eG.ext (ak S2.below _)) J' J J fw ?_;intro v3 w3 ds3 E3 Oj NW ew rN zf;go_must (obtain ⟨A3,c3,mK⟩:=mY ew)
  go_must (subst mK)
  go_must (simp only [Nat.zero_add,List.nil_append] at ew)
  go_must (have az:Below (w2.heap.size) (w2.setCell ⟨w.heap.size,5,none⟩ (.slice A2 x.af.length c2)) w3:=lS HM3.out rN ((Below.refl _ _).alloc fw _) fw)
  go_must (have ry:=Cp.ext S2 (az.mono fw))
  go_must (have VF:jo w3 x.ae ds3 E3:=Oj.frame (λb hb=>rN.block b (Oj.lt b hb) (λe=>by have h1:=eG.lt b (NW b hb);have h2:=S2.below.size;simp [Value.ownBlock,World.setCell] at e h2;omega)) rN.size)
  go_must (obtain ⟨A0,c0,G3,ic,hO3⟩:=ai.of_flat Zk ew VF)
  go_must (simp only [Value.slice.injEq,true_and] at ic)
  go_must (obtain ⟨rfl,rfl⟩:=ic)
  go_must (have k3:=ry.box.cell (i:=6) (u:=.slice fA x.ae.length fB) rfl)
  go_must (have f3:=ry.box.fz 6)
  go_must (have l3:=ry.box.lt)
  go_must (have S3:=ry.put 6 (.slice A3 x.ae.length c3))
  go_must (replace jX:=jX.ext (az.mono fw))
  go_must (replace bj:=bj.ext (az.mono fw))
  go_must (replace jX:=jX.setCell (p:=⟨w.heap.size,6,none⟩) Ip (.slice A3 x.ae.length c3))
  go_must (replace bj:=bj.setCell (p:=⟨w.heap.size,6,none⟩) Ip (.slice A3 x.ae.length c3))
  go_must (replace hO3:=hO3.setCell (p:=⟨w.heap.size,6,none⟩) Ip (.slice A3 x.ae.length c3))
  go_must (have q0:=S3.box.cell (i:=0) (u:=.string x.name) rfl)
  go_must (have q1:=S3.box.cell (i:=1) (u:=.slice A1 x.labels.length c1) rfl)
  go_must (have q2:=S3.box.cell (i:=2) (u:=.int .i64 x.aq) rfl)
  go_must (have q3:=S3.box.cell (i:=3) (u:=.int .i64 x.mem) rfl)
  go_must (have q4:=S3.box.cell (i:=4) (u:=.int .i64 x.av) rfl)
  go_must (have q5:=S3.box.cell (i:=5) (u:=.slice A2 x.af.length c2) rfl)
  go_must (have q6:=S3.box.cell (i:=6) (u:=.slice A3 x.ae.length c3) rfl)
  go_must (have r0:=S3.rb.cell (i:=0) (u:=.string ⟨#[]⟩) rfl)
  go_must (have r1:=S3.rb.cell (i:=1) (u:=.slice none 0 0) rfl)
  go_must (have r2:=S3.rb.cell (i:=2) (u:=.int .i64 0) rfl)
  go_must (have r3:=S3.rb.cell (i:=3) (u:=.int .i64 0) rfl)
  go_must (have r4:=S3.rb.cell (i:=4) (u:=.int .i64 0) rfl)
  go_must (have r5:=S3.rb.cell (i:=5) (u:=.slice none 0 0) rfl)
  go_must (have r6:=S3.rb.cell (i:=6) (u:=.slice none 0 0) rfl)
  go_must (have rf:=S3.rb.fz)
  go_must (have rl:=S3.rb.lt)
  go_must (have z3:=ry.lt)
  go_must (have y3:w2.heap.size<=w3.heap.size:=by have:=az.size;(try simp [World.setCell] at this);omega))
 have iY:=I jX;have RZ:=I bj;have gN:=I hO3;have HS:=I S3;clear jX bj hO3 S1 jx S2 ju S3 ry S0;try dsimp only
 iterate 200 (first | go_step | skip)
 refine bodyPost_ret (v:=.agg #[.string x.name,.slice A1 x.labels.length c1,.int .i64 x.aq,.int .i64 x.mem,.int .i64 x.av,.slice A2 x.af.length c2,.slice A3 x.ae.length c3]) (by simp [results,Tryz.results91,go_sem, *]) rfl ⟨[.string x.name,.slice A1 x.labels.length c1,.int .i64 x.aq,.int .i64 x.mem,.int .i64 x.av,.slice A2 x.af.length c2,.slice A3 x.ae.length c3],(G1++(G2++G3)),rfl,?_,?_⟩;rotate_left
 ·exact Im
 refine ai.up (B':=w.heap.size+1+1) (λx:nI=>(x.name,x.labels,x.aq,x.mem,x.av,x.af,x.ae)) ?_ J;refine ai.cons (c1:=[.string x.name]) (rdStr _ x.name (rV hname)) ?_;refine ai.pair (B2:=w1.heap.size) (c1:=[.slice A1 x.labels.length c1]) (F1:=G1) ?_ ?_ J p'.out
 ·exact Ry
 refine ai.cons (c1:=[.int .i64 x.aq]) (jL _ x.aq vg) ?_;refine ai.cons (c1:=[.int .i64 x.mem]) (jL _ x.mem b8) ?_;refine ai.cons (c1:=[.int .i64 x.av]) (jL _ x.av BJ) ?_;refine ai.pair (B2:=w2.heap.size) (c1:=[.slice A2 x.af.length c2]) (F1:=G2) ?_ ?_ J nz.out
 ·exact Rz
 exact (by repeat (first | with_reducible exact gN.out | with_reducible refine ai.setCell ?_ Rp _))
section
variable {β:Type} {row:β->List Value} {S:Nat}
def nt (row:β->List Value) (S:Nat) (w:World) (b o:Nat) (D:List β):Prop:=∀k x,D[k]? = some x->∀j u,(row x)[j]? = some u->w.cell? ⟨b,o+k * S+j,none⟩ = some u
theorem nt.put {w:World} {b o:Nat} {D:List β} (h:nt row S w b o D) (hS:∀x,(row x).length = S) {i:Nat} (hi:i < D.length) (y:β):nt row S (w.setCells b (o+i * S) (row y)) b o (D.set i y):=by
 intro k x hk j u hj;have oM:j < S:=by rw [<- hS x];exact (List.getElem?_eq_some_iff.1 hj).1
 have hex:∀q,q < (row y).length->(w.cell? ⟨b,o+i * S+q,none⟩).isSome = true:=λq hq=>by
  rw [hS] at hq;have hx:=h i D[i] (List.getElem?_eq_getElem hi) q ((row D[i])[q]'(by rw [hS];exact hq)) (List.getElem?_eq_getElem _);rw [hx];rfl
 by_cases od:i = k
 ·subst od;rw [List.getElem?_set_self hi] at hk;obtain rfl:=Option.some.inj hk;have:=World.cell?_setCells_in b (row y) (o+i * S) w hex j (by rw [hS];exact oM);rw [this,<- hj];exact (List.getElem?_eq_getElem _).symm
 ·rw [List.getElem?_set_ne od] at hk;rw [World.cell?_setCells_out b _ _ _ _ (λ_ _=>?_)]
  ·exact h k x hk j u hj
  ·dsimp only;rw [hS];rcases Nat.lt_or_gt_of_ne od with h1 | h1
   ·right;have:(i+1) * S<=k * S:=Nat.mul_le_mul_right _ h1;rw [Nat.succ_mul] at this;omega
   ·left;have:(k+1) * S<=i * S:=Nat.mul_le_mul_right _ h1;rw [Nat.succ_mul] at this;omega
theorem nt.at_ {w:World} {b o:Nat} {D:List β} (h:nt row S w b o D) {k:Nat} (hk:k < D.length) {j:Nat} {u:Value} (hj:(row D[k])[j]? = some u):w.cell? ⟨b,o+k * S+j,none⟩ = some u:=h k D[k] (List.getElem?_eq_getElem hk) j u hj
theorem nt.keep {w w':World} {b o:Nat} {D:List β} (h:nt row S w b o D) (hk:w'.heap[b]? = w.heap[b]?):nt row S w' b o D:=λk x hx j u hj=>(World.cell?_of_block hk).trans (h k x hx j u hj)
theorem nt.ext {w w':World} {b o:Nat} {D:List β} (h:nt row S w b o D) (hb:b < w.heap.size) (he:Below w.heap.size w w'):nt row S w' b o D:=h.keep (he.block b hb)
def WQ (D:List β) (i j:Nat):List β:=match D[i]?,D[j]? with | some x,some y=>(D.set i y).set j x | _,_=>D
theorem asA {D:List β} {i j:Nat} (hi:i < D.length) (hj:j < D.length):WQ D i j = (D.set i D[j]).set j D[i]:=by unfold WQ;rw [List.getElem?_eq_getElem hi,List.getElem?_eq_getElem hj]
structure jJ (row:β->List Value) (S:Nat) (w0 w:World) (b o:Nat) (D:List β):Prop where
 tab:nt row S w b o D
 plain:Plain w b
 ce:nN [b] w0 w
theorem jJ.ext {w0 w w':World} {b o:Nat} {D:List β} (h:jJ row S w0 w b o D) (he:Below w.heap.size w w'):jJ row S w0 w' b o D :=
 ⟨h.tab.ext h.plain.lt he,by obtain ⟨ds,t,hp⟩:=h.plain;exact ⟨ds,t,(he.block b h.plain.lt).trans hp⟩,h.ce.trans (nN.lq _ he)⟩
theorem jJ.put {w0 w:World} {b o:Nat} {D:List β} (h:jJ row S w0 w b o D) (hS:∀x,(row x).length = S) {i:Nat} (hi:i < D.length) (y:β):jJ row S w0 (w.setCells b (o+i * S) (row y)) b o (D.set i y):=by
 refine ⟨h.tab.put hS hi y,EK b _ _ _ h.plain,?_⟩;have e:=F8 b (row y) (o+i * S) w;exact h.ce.trans ⟨e.1,e.2.1,e.2.2,by rw [bk];exact Nat.le_refl _,λk _ hk=>vV b Ih _ _ _⟩
theorem jJ.swap {w0 w:World} {b o:Nat} {D:List β} (h:jJ row S w0 w b o D) (hS:∀x,(row x).length = S) {i j:Nat} (hi:i < D.length) (hj:j < D.length) :
 jJ row S w0 ((w.setCells b (o+i * S) (row D[j])).setCells b (o+j * S) (row D[i])) b o (WQ D i j):=by
 rw [asA hi hj];exact (h.put hS hi D[j]).put hS (by rw [List.length_set];exact hj) D[i]
theorem lk (A B:List β) (x y:β) (n:Nat) (hn:A.length = n):(A++x :: B).set n y = A++y :: B:=by
 subst hn;rw [List.set_append_right _ _ (Nat.le_refl _),Nat.sub_self,List.set_cons_zero]
theorem am1 (p u m v q:List β) (k:Nat) (hk:k < u.length) (hl:u.length = v.length) :
 WQ (p++(v.take k++(u.drop k++(m++(u.take k++(v.drop k++q)))))) (p.length+k) (p.length+u.length+m.length+k) = p++(v.take (k+1)++(u.drop (k+1)++(m++(u.take (k+1)++(v.drop (k+1)++q))))):=by
 have Hj:k < v.length:=by omega
 have e1:(v.take k).length = k:=by rw [List.length_take];omega
 have e2:(u.take k).length = k:=by rw [List.length_take];omega
 obtain ⟨a,ha⟩:∃a,u[k] = a:=⟨_,rfl⟩;obtain ⟨c,hc⟩:∃c,v[k] = c:=⟨_,rfl⟩;have du:u.drop k = a :: u.drop (k+1):=by rw [<- ha];exact (List.getElem_cons_drop ..).symm
 have dv:v.drop k = c :: v.drop (k+1):=by rw [<- hc];exact (List.getElem_cons_drop ..).symm
 have tu:u.take (k+1) = u.take k++[a]:=by rw [<- ha];exact List.take_succ_eq_append_getElem hk
 have tv:v.take (k+1) = v.take k++[c]:=by rw [<- hc];exact List.take_succ_eq_append_getElem Hj
 have lu:(u.drop (k+1)).length = u.length - (k+1):=by rw [List.length_drop]
 rw [du,dv,tu,tv];have gi:(p++(v.take k++(a :: u.drop (k+1)++(m++(u.take k++(c :: v.drop (k+1)++q))))))[p.length+k]? = some a:=by rw [List.getElem?_append_right J,List.getElem?_append_right J];simp [e1]
 have gj:(p++(v.take k++(a :: u.drop (k+1)++(m++(u.take k++(c :: v.drop (k+1)++q))))))[p.length+u.length+m.length+k]? = some c:=by rw [List.getElem?_append_right J,List.getElem?_append_right J,List.getElem?_append_right (by simp;omega),List.getElem?_append_right (by simp;omega),List.getElem?_append_right (by simp;omega),e1,e2];simp only [List.length_cons,lu,List.cons_append];rw [show p.length+u.length+m.length+k - p.length - k - (u.length - (k+1)+1) - m.length - k = 0 by omega];rfl
 unfold WQ;rw [gi,gj];dsimp only;have s1:(p++(v.take k++(a :: u.drop (k+1)++(m++(u.take k++(c :: v.drop (k+1)++q)))))).set (p.length+k) c = p++(v.take k++(c :: u.drop (k+1)++(m++(u.take k++(c :: v.drop (k+1)++q))))):=by
  have h:=lk (p++v.take k) (u.drop (k+1)++(m++(u.take k++(c :: v.drop (k+1)++q)))) a c (p.length+k) (by rw [List.length_append,e1]);simpa only [List.append_assoc,List.cons_append] using h
 have s2:(p++(v.take k++(c :: u.drop (k+1)++(m++(u.take k++(c :: v.drop (k+1)++q)))))).set (p.length+u.length+m.length+k) a = p++(v.take k++(c :: u.drop (k+1)++(m++(u.take k++(a :: v.drop (k+1)++q))))):=by have h:=lk (p++(v.take k++(c :: u.drop (k+1)++(m++u.take k)))) (v.drop (k+1)++q) c a (p.length+u.length+m.length+k) (by simp only [List.length_append,List.length_cons,e1,e2,lu];omega);simpa only [List.append_assoc,List.cons_append] using h
 rw [s1,s2];simp only [List.append_assoc,List.cons_append,List.nil_append]
theorem am2 (p u m v q:List β) (k:Nat) (hk:k < u.length) (hl:u.length = v.length):(p++(v.take k++(u.drop k++(m++(u.take k++(v.drop k++q))))))[p.length+k]? = some u[k]:=by
 have e1:(v.take k).length = k:=by rw [List.length_take];omega
 rw [List.getElem?_append_right J,List.getElem?_append_right J,e1,show p.length+k - p.length - k = 0 by omega,List.getElem?_append_left Iq,List.getElem?_drop,Nat.add_zero];exact List.getElem?_eq_getElem hk
theorem ajg (p u m v q:List β) (k:Nat) (hk:k < v.length) (hl:u.length = v.length):(p++(v.take k++(u.drop k++(m++(u.take k++(v.drop k++q))))))[p.length+u.length+m.length+k]? = some v[k]:=by
 have e1:(v.take k).length = k:=by rw [List.length_take];omega
 have e2:(u.take k).length = k:=by rw [List.length_take];omega
 have e3:(u.drop k).length = u.length - k:=List.length_drop
 rw [List.getElem?_append_right J,List.getElem?_append_right J,List.getElem?_append_right J,List.getElem?_append_right J,List.getElem?_append_right J,e1,e2,e3,
   show p.length+u.length+m.length+k - p.length - k - (u.length - k) - m.length - k = 0 by omega,List.getElem?_append_left Iq,List.getElem?_drop,Nat.add_zero]
 exact List.getElem?_eq_getElem hk
theorem jJ.swap_ {w0 w:World} {b o:Nat} {D:List β} (h:jJ row S w0 w b o D) (hS:∀x,(row x).length = S) {i j:Nat} {x y:β} (hi:D[i]? = some x) (hj:D[j]? = some y) :
 jJ row S w0 ((w.setCells b (o+i * S) (row y)).setCells b (o+j * S) (row x)) b o (WQ D i j):=by
 obtain ⟨EQ,rfl⟩:=List.getElem?_eq_some_iff.1 hi;obtain ⟨RQ,rfl⟩:=List.getElem?_eq_some_iff.1 hj;exact h.swap hS EQ RQ
end
def kS {β:Type} (cv:β->β->Int) (x y:β):Bool:=decide (cv x y < 0)
section
variable {β:Type} {lt:β->β->Bool}
theorem b4.at_ {l:List β} (h:b4 lt l) {t u:Nat} (htu:t < u) (hu:u < l.length):lt l[u] (l[t]'J) = false :=
 List.pairwise_iff_getElem.1 h t u J hu htu
theorem ad5 {l:List β} {k:Nat} {z:β} (h:z∈l.take k):∃t,∃ht:t < l.length,t < k/\l[t] = z:=by
 obtain ⟨t,ht,e⟩:=List.mem_iff_getElem.1 h;rw [List.length_take] at ht;exact ⟨t,J,J,by rw [<- e,List.getElem_take]⟩
theorem ad6 {l:List β} {k:Nat} {z:β} (h:z∈l.drop k):∃t,∃ht:t < l.length,k<=t/\l[t] = z:=by
 obtain ⟨t,ht,e⟩:=List.mem_iff_getElem.1 h;rw [List.length_drop] at ht;exact ⟨k+t,J,J,by rw [<- e,List.getElem_drop]⟩
theorem acA (W:dz lt) {r:List β} (hr:b4 lt r) {x:β} {k:Nat} (hk:k < r.length) (h:lt r[k] x = true):∀y∈r.take (k+1),lt y x = true:=by
 intro y hy;obtain ⟨t,ht,tz,rfl⟩:=ad5 hy;rcases Nat.lt_or_ge t k with h1 | h1
 ·exact W.right (hr.at_ h1 hk) h
 ·obtain rfl:t = k:=by omega
  exact h
theorem ad7 (W:dz lt) {r:List β} (hr:b4 lt r) {x:β} {k:Nat} (hk:k < r.length) (h:lt r[k] x = false):∀y∈r.drop k,lt y x = false:=by
 intro y hy;obtain ⟨t,ht,tz,rfl⟩:=ad6 hy;rcases Nat.lt_or_ge k t with h1 | h1
 ·exact W.neg _ _ _ (hr.at_ h1 ht) h
 ·obtain rfl:t = k:=by omega
  exact h
theorem acB (W:dz lt) {l:List β} (hl:b4 lt l) {y:β} {k:Nat} (hk:k < l.length) (h:lt y l[k] = false):∀x∈l.take (k+1),lt y x = false:=by
 intro x hx;obtain ⟨t,ht,tz,rfl⟩:=ad5 hx;rcases Nat.lt_or_ge t k with h1 | h1
 ·exact W.neg _ _ _ h (hl.at_ h1 hk)
 ·obtain rfl:t = k:=by omega
  exact h
theorem Z9 (W:dz lt) {l:List β} (hl:b4 lt l) {y:β} {k:Nat} (hk:k < l.length) (h:lt y l[k] = true):∀x∈l.drop k,lt y x = true:=by
 intro x hx;obtain ⟨t,ht,tz,rfl⟩:=ad6 hx;rcases Nat.lt_or_ge k t with h1 | h1
 ·exact W.left h (hl.at_ h1 ht)
 ·obtain rfl:t = k:=by omega
  exact h
theorem Yw {x:β} {r:List β} {k:Nat} (h1:∀y∈r.take k,lt y x = true) (h2:∀y∈r.drop k,lt y x = false):fO lt [x] r = r.take k++x :: r.drop k:=by
 have:=aeO h1 h2;rwa [List.take_append_drop] at this
theorem WR {y:β} {l:List β} {k:Nat} (h1:∀x∈l.take k,lt y x = false) (h2:∀x∈l.drop k,lt y x = true):fO lt l [y] = l.take k++y :: l.drop k:=by
 have:=UU h1 h2;rwa [List.take_append_drop] at this
theorem ali (W:dz lt) {l r:List β} (hl:b4 lt l) (hr:b4 lt r) {d s lo hi:Nat} (mU:lo = 0∨lo+r.length = d) (Cs:hi = l.length∨hi = d) (h1:lo<=s) (h2:s<=hi) (hd:s<=d) (nu:s<=l.length)
 (p1:s = lo∨∃x y,l[s - 1]? = some x/\r[d - s]? = some y/\lt y x = false) (p2:s = hi∨∃x y,l[s]? = some x/\r[d - 1 - s]? = some y/\lt y x = true) :
 fO lt l r = fO lt (l.take s) (r.take (d - s))++fO lt (l.drop s) (r.drop (d - s)):=by
 rw [<- aql W (l1:=l.take s) (l2:=l.drop s) (r1:=r.take (d - s)) (r2:=r.drop (d - s))]
 ·rw [List.take_append_drop,List.take_append_drop]
 ·rw [List.take_append_drop];exact hl
 ·rw [List.take_append_drop];exact hr
 ·by_cases e:s = hi
  ·rcases Cs with h | h
   ·right;left;rw [List.drop_eq_nil_iff];omega
   ·left;rw [show d - s = 0 by omega];rfl
  ·obtain ⟨x,y,hx,hy,ap⟩:=p2.resolve_left e;obtain ⟨xr,rfl⟩:=List.getElem?_eq_some_iff.1 hx;obtain ⟨Bk,rfl⟩:=List.getElem?_eq_some_iff.1 hy;by_cases e2:s = d
   ·left;rw [show d - s = 0 by omega];rfl
   ·right;right;refine ⟨r.take (d - 1 - s),_,_,l.drop (s+1),?_,(List.getElem_cons_drop xr).symm,ap⟩;rw [<- List.take_succ_eq_append_getElem Bk];congr 1;omega
 ·by_cases e:s = lo
  ·rcases mU with h | h
   ·left;rw [show s = 0 by omega];rfl
   ·right;left;rw [List.drop_eq_nil_iff];omega
  ·obtain ⟨x,y,hx,hy,ap⟩:=p1.resolve_left e;obtain ⟨xr,rfl⟩:=List.getElem?_eq_some_iff.1 hx;obtain ⟨Bk,rfl⟩:=List.getElem?_eq_some_iff.1 hy;right;right;refine ⟨l.take (s - 1),_,_,r.drop (d - s+1),?_,(List.getElem_cons_drop Bk).symm,ap⟩;rw [<- List.take_succ_eq_append_getElem xr];congr 1;omega
theorem am3 {s:Nat} (hs:0 < s):∀(n:Nat) (xs:List β),xs.length<=n->(runs lt s xs).length = xs.length:=by
 intro n;induction n with
 | zero =>intro xs h;have:xs = []:=List.eq_nil_of_length_eq_zero J;subst this;rw [amZ]
 | succ n ih =>
   intro xs h;rcases Nat.lt_or_ge s xs.length with h1 | h1
   ·rw [Ky hs,List.length_append,rD,ih (xs.drop s) Iq,List.length_take,List.length_drop,List.length_nil];omega
   ·rw [zo h1,rD,List.length_nil];omega
theorem wY (p s r:List β) (x y:β) {n:Nat} (hn:p.length+s.length = n):(p++(s++(x :: y :: r)))[n]? = some x:=by
 subst hn;rw [List.getElem?_append_right J,List.getElem?_append_right J,show p.length+s.length - p.length - s.length = 0 by omega];rfl
theorem wZ (p s r:List β) (x y:β) {n:Nat} (hn:p.length+s.length = n):(p++(s++(x :: y :: r)))[n+1]? = some y:=by
 subst hn;rw [List.getElem?_append_right J,List.getElem?_append_right J,show p.length+s.length+1 - p.length - s.length = 1 by omega];rfl
theorem asB (p s r:List β) (x z:β) {n:Nat} (hn:p.length+s.length = n):(p++(s++(x :: r))).set n z = p++(s++(z :: r)):=by
 have:=lk (p++s) r x z n (by rw [List.length_append,hn]);simpa only [List.append_assoc] using this
theorem apF (p s r:List β) (x y z:β) {n:Nat} (hn:p.length+s.length = n):(p++(s++(x :: y :: r))).set (n+1) z = p++(s++(x :: z :: r)):=by
 have:=lk (p++(s++[x])) r y z (n+1) (by simp only [List.length_append,List.length_cons,List.length_nil];omega);simpa only [List.append_assoc,List.cons_append,List.nil_append] using this
theorem ajh (p s r:List β) (x y:β) {n:Nat} (hn:p.length+s.length = n):WQ (p++(s++(x :: y :: r))) n (n+1) = p++(s++(y :: x :: r)):=by
 unfold WQ;rw [wY p s r x y hn,wZ p s r x y hn];dsimp only;rw [asB p s _ x y hn,apF p s r y y x hn]
theorem V7 (p s r:List β) (x y:β) {n:Nat} (hn:p.length+s.length = n):WQ (p++(s++(x :: y :: r))) (n+1) n = p++(s++(y :: x :: r)):=by
 unfold WQ;rw [wY p s r x y hn,wZ p s r x y hn];dsimp only;rw [apF p s r x y x hn,asB p s _ x y hn]
end
structure Eb where
 name:ByteArray
 la:Option Addr
 ln:Nat
 lc:Nat
 aq:Int
 mem:Int
 av:Int
 na:Option Addr
 nn:Nat
 nc:Nat
 ta:Option Addr
 tn:Nat
 tc:Nat
 on:ByteArray
 seq:Int
def tH (x:Eb):List Value:=[.string x.name,.slice x.la x.ln x.lc,.int .i64 x.aq,.int .i64 x.mem,.int .i64 x.av,.slice x.na x.nn x.nc,.slice x.ta x.tn x.tc,.string x.on,.int .i64 x.seq]
section
end
abbrev FO:=ByteArray × Int × Int
def wkI (a b:FO):List Int:=[Lib.compareInt b.2.1 a.2.1,Lib.compareInt a.2.2 b.2.2]
def sP (a b:FO):Int:=Qa (wkI a b)
def Px (p:ag):FO:=(p.aS.name,p.aS.av,p.seq)
def kF (ps:List ag):List FO:=(ps.filter λp=>p.on.toList == []).map Px
def GI (ps:List ag):List ByteArray:=(bd (kS sP) [] (kF ps)).map λk=>k.1
theorem alD (a b:FO):kS sP a b = true↔b.2.1 < a.2.1∨(a.2.1 = b.2.1/\a.2.2 < b.2.2):=by
 unfold kS sP wkI Qa Qa;rw [decide_eq_true_eq];unfold Lib.compareInt;by_cases h1:b.2.1 < a.2.1
 ·simp [h1]
 ·by_cases h2:a.2.1 < b.2.1
  ·simp [h1,h2];omega
  ·have h3:a.2.1 = b.2.1:=J;simp [h3,Qa];by_cases h4:a.2.2 < b.2.2
   ·simp [h4]
   ·by_cases h5:b.2.2 < a.2.2
    ·simp [h4,h5]
    ·simp [h4,h5]
theorem anD {ps:List ag} {k:Nat} (h:k < ps.length) (hp:(ps[k].on.toList == []) = true):kF (ps.take (k+1)) = kF (ps.take k)++[Px ps[k]]:=by
 have e:List.filter (λp:ag=>p.on.toList == []) [ps[k]] = [ps[k]]:=List.filter_eq_self.2 λa ha=>by rw [List.mem_singleton.1 ha];exact hp
 unfold kF;rw [List.take_succ_eq_append_getElem h,List.filter_append,List.map_append,e];rfl
theorem apO {ps:List ag} {k:Nat} (h:k < ps.length) (hp:(ps[k].on.toList == []) = false):kF (ps.take (k+1)) = kF (ps.take k):=by
 have e:List.filter (λp:ag=>p.on.toList == []) [ps[k]] = []:=List.filter_eq_nil_iff.2 λa ha=>by rw [List.mem_singleton.1 ha,hp];simp
 unfold kF;rw [List.take_succ_eq_append_getElem h,List.filter_append,List.map_append,e];simp
theorem anF (ps:List ag):(kF ps).length<=ps.length:=by unfold kF;rw [List.length_map];exact List.length_filter_le _ _
theorem ap3 (ps:List ag):(GI ps).length<=ps.length:=by unfold GI;rw [List.length_map,rD];have:=anF ps;simp;omega
structure El (T:Type) where
 x:T
 cs:List Value
 F:List Nat
section
variable {T:Type}
theorem aDY {S:Nat} : ∀(D:List (El T)),(∀e∈D,e.cs.length = S)->∀(k:Nat) (e:El T),D[k]? = some e->∀(j:Nat) (u:Value),e.cs[j]? = some u->(D.flatMap El.cs)[k * S+j]? = some u
 | [],_,_,_,h,_,_,_=>by simp at h
 | r :: rs,hl,0,e,h,j,u,hj=>by
   exact Mo
 | r :: rs,hl,k+1,e,h,j,u,hj=>by
   rw [List.getElem?_cons_succ] at h;have hr:=hl r (List.mem_cons_self ..);have hk:(k+1) * S+j = k * S+j+S:=(by rw [Nat.succ_mul];omega);rw [List.flatMap_cons,List.getElem?_append_right J,hr,show (k+1) * S+j - S = k * S+j by omega];exact aDY rs (λe' he=>hl e' (List.mem_cons_of_mem _ he)) k e h j u hj
theorem aDZ {S:Nat} {w:World} {g:Nat} : ∀(D:List (El T)) (o:Nat),(∀e∈D,e.cs.length = S)->nt El.cs S w g o D->∀(j:Nat) (u:Value),(D.flatMap El.cs)[j]? = some u->w.cell? ⟨g,o+j,none⟩ = some u
 | [],_,_,_,j,u,hj=>by simp at hj
 | r :: rs,o,hl,ht,j,u,hj=>by
   have hr:=hl r (List.mem_cons_self ..);rw [List.flatMap_cons] at hj;by_cases ap:j < S
   ·rw [List.getElem?_append_left J] at hj;have:=ht 0 r rfl j u hj;rwa [Nat.zero_mul,Nat.add_zero] at this
   ·rw [List.getElem?_append_right J,hr] at hj
    have:=aDZ rs (o+S) (λe' he=>hl e' (List.mem_cons_of_mem _ he)) (λk e he j' u' RP=>by
     have:=ht (k+1) e (by rw [List.getElem?_cons_succ];exact he) j' u' RP
     rwa [show o+(k+1) * S+j' = o+S+k * S+j' by rw [Nat.succ_mul];omega] at this) (j - S) u hj
    rwa [show o+S+(j - S) = o+j by omega] at this
end
section
variable {T:Type} [ax T] {w w':World} {B g o c:Nat} {D D':List (El T)}
theorem jo.els {w:World} : ∀{xs:List T} {ds:List Value} {G:List Nat},jo w xs ds G->∃D:List (El T),D.map El.x = xs/\D.flatMap El.cs = ds/\D.flatMap El.F = G/\∀e∈D,rd w e.x e.cs e.F
 | [],_,_,⟨rfl,rfl⟩=>⟨[],rfl,rfl,rfl,λe he=>by cases he⟩
 | x :: xs,_,_,⟨c1,c2,F1,F2,rfl,rfl,h1,h2⟩=>by
   obtain ⟨D,rfl,rfl,rfl,hD⟩:=jo.els h2;refine ⟨⟨x,c1,F1⟩ :: D,rfl,rfl,rfl,λe he=>?_⟩;rcases List.mem_cons.1 he with rfl | he
   ·exact h1
   ·exact hD e he
theorem ayy {w:World} : ∀{D:List (El T)},(∀e∈D,rd w e.x e.cs e.F)->jo w (D.map El.x) (D.flatMap El.cs) (D.flatMap El.F)
 | [],_=>⟨rfl,rfl⟩
 | e :: D,h=>⟨e.cs,_,e.F,_,rfl,rfl,h e (List.mem_cons_self ..),ayy λe' he=>h e' (List.mem_cons_of_mem _ he)⟩
structure mB (w:World) (B g o:Nat) (D:List (El T)):Prop where
 rd:∀e∈D,rd w e.x e.cs e.F
 nodup:(g :: D.flatMap El.F).Nodup
 base:∀b∈g :: D.flatMap El.F,B<=b
 plain:∀b∈g :: D.flatMap El.F,Plain w b
 tab:nt El.cs (ax.size T) w g o D
theorem mB.len (h:mB w B g o D):∀e∈D,e.cs.length = ax.size T:=λe he=>ax.len (h.rd e he)
theorem mB.lt (h:mB w B g o D):g < w.heap.size:=(h.plain g (List.mem_cons_self ..)).lt
theorem mB.free (h:mB w B g o D) {e:El T} (he:e∈D):g∉e.F:=λhg=>(List.nodup_cons.1 h.nodup).1 (List.mem_flatMap.2 ⟨e,he,hg⟩)
theorem ai.wv {xs:List T} {A:Option Addr} {F:List Nat} (h:ai w B xs [.slice A xs.length c] F) (bI:xs≠[]):∃g o,∃D:List (El T),A = some ⟨g,o,none⟩/\D.map El.x = xs/\F = g :: D.flatMap El.F/\mB w B g o D:=by
 obtain ⟨⟨A',c',G,ds,e0,_,_,hc,h0⟩,hn,hb,hp⟩:=h;simp only [List.cons.injEq,Value.slice.injEq,and_true,true_and] at e0;obtain ⟨rfl,rfl⟩:=e0;rcases h0 with ⟨h1,_⟩ | ⟨b,o,rfl,rfl,ap,bv⟩
 ·exact absurd h1 bI
 ·obtain ⟨D,hx,rfl,rfl,hD⟩:=hc.els
  exact ⟨b,o,D,rfl,hx,rfl,hD,hn,hb,hp,λk e he j u hj=>by
   rw [Nat.add_assoc]
   exact bv _ u (aDY D (λe' Yl=>ax.len (hD e' Yl)) k e he j u hj)⟩
theorem mB.own (h:mB w B g o D) (hc:D.length<=c) (hm:c<=maxLen):ai w B (D.map El.x) [.slice (some ⟨g,o,none⟩) (D.map El.x).length c] (g :: D.flatMap El.F) :=
 ⟨⟨_,c,_,_,rfl,by rw [List.length_map];exact hc,hm,ayy h.rd,.inr ⟨g,o,rfl,rfl,h.lt,aDZ D o h.len h.tab⟩⟩,h.nodup,h.base,h.plain⟩
theorem mB.GG (h:mB w B g o D) (hu:nN [g] w w') (hp:Plain w' g) (hs:∀e∈D',e∈D) (hn:(D'.flatMap El.F).Nodup) (ht:nt El.cs (ax.size T) w' g o D'):mB w' B g o D':=by
 have hF:∀b∈D'.flatMap El.F,b∈D.flatMap El.F:=λb hb=>by
  obtain ⟨e,he,hb⟩:=List.mem_flatMap.1 hb;exact List.mem_flatMap.2 ⟨e,hs e he,hb⟩
 have hg:=(List.nodup_cons.1 h.nodup).1;have keep:∀b∈D.flatMap El.F,w'.heap[b]? = w.heap[b]?:=λb hb=>hu.block b (h.plain b (List.mem_cons_of_mem _ hb)).lt (λe=>by rw [List.mem_singleton] at e;subst e;exact hg hb);refine ⟨λe he=>ax.frame (h.rd e (hs e he)) (λb hb=>keep b (List.mem_flatMap.2 ⟨e,hs e he,hb⟩)) hu.size,List.nodup_cons.2 ⟨λhb=>hg (hF g hb),hn⟩,λb hb=>?_,λb hb=>?_,ht⟩
 ·rcases List.mem_cons.1 hb with rfl | hb
  ·exact h.base b (List.mem_cons_self ..)
  ·exact h.base b (List.mem_cons_of_mem _ (hF b hb))
 ·rcases List.mem_cons.1 hb with rfl | hb
  ·exact hp
  ·obtain ⟨ds,t,hd⟩:=h.plain b (List.mem_cons_of_mem _ (hF b hb));exact ⟨ds,t,(keep b (hF b hb)).trans hd⟩
end
section
variable {α:Type} [Inhabited α]
theorem aA1 (enc:α->List Value) (k:Nat) (w:World) (g o n:Nat) (d:Array α) (os:Array Obj):nN [g] w (sortWorldK enc k w g o n d os):=by
 refine ⟨rfl,rfl,rfl,Go.Proofs.size_sortWorldK_c enc k w g o n d os,λb hb hn=>?_⟩;have bI:b≠g:=by simpa using hn
 show ((Go.Sort.putRowK enc k (Go.Sort.ahead w n) g o d).heap++os)[b]? = _;rw [Array.getElem?_append_left (by rw [Go.Sort.size_putRowK];exact hb)];simp [Go.Sort.putRowK,Go.Sort.putRow,Go.Sort.mapBlock,Array.getElem?_modify,Ne.symm bI]
theorem aCH (enc:α->List Value) (k:Nat) (w:World) (g o n:Nat) (d:Array α) (os:Array Obj) (h:Plain w g):Plain (sortWorldK enc k w g o n d os) g:=by
 have ap:=h.lt;obtain ⟨ds,t,h⟩:=h;refine ⟨Go.Sort.putCells id o (Go.Sort.flatK enc k d) ds,t,?_⟩;show ((Go.Sort.putRowK enc k (Go.Sort.ahead w n) g o d).heap++os)[g]? = _;rw [Array.getElem?_append_left (by rw [Go.Sort.size_putRowK];exact ap)];simp [Go.Sort.putRowK,Go.Sort.putRow,Go.Sort.mapBlock,Array.getElem?_modify,h,Go.Sort.onCells]
end
section
variable {T:Type} [ax T]
theorem aEn {α:Type} [Inhabited α] (enc:α->List Value) (k:Nat) (hk:∀x,(enc x).length = k) {w:World} {g o:Nat} (d:Array α) (hp:Plain w g) (ht:nt enc k w g o d.toList):Go.Sort.HoldsK enc k w g o d:=by
 intro j hj;rw [Go.Sort.size_flatK] at hj;have k0:0 < k:=Nat.pos_of_ne_zero λh=>by subst h;simp at hj
 have h1:j / k < d.size:=Nat.div_lt_of_lt_mul (by rw [Nat.mul_comm];exact hj);have h2:j % k < k:=Nat.mod_lt _ k0;refine ⟨?_,hp.frozen _⟩;rw [Go.Sort.get_flatK _ _ _ _ hj];have:=ht (j / k) d[j / k] (by simp [h1]) (j % k) (enc d[j / k])[j % k]! (by rw [getElem!_pos (enc d[j / k]) (j % k) (by rw [hk];exact h2)];exact List.getElem?_eq_getElem _);rw [show o+j / k * k+j % k = o+j by have:=Nat.div_add_mod j k;rw [Nat.mul_comm] at this;omega] at this;rw [this,getElem!_pos d (j / k) h1];rfl
theorem aEo {α:Type} [Inhabited α] (enc:α->List Value) (k:Nat) (hk:∀x,(enc x).length = k) {w:World} {g o:Nat} (d:Array α) (h:Go.Sort.HoldsK enc k w g o d):nt enc k w g o d.toList:=by
 intro i x hx j u hj;have hi:i < d.size:=by have:=(List.getElem?_eq_some_iff.1 hx).1;simpa using this
 have hxe:d[i] = x:=by have:=(List.getElem?_eq_some_iff.1 hx).2;simpa using this
 have fI:j < k:=by have:=(List.getElem?_eq_some_iff.1 hj).1;rw [hk] at this;exact this
 have:=(h.cell hi fI).1;rw [this,getElem!_pos d i hi,hxe,getElem!_pos (enc x) j (by rw [hk];exact fI)];rw [List.getElem?_eq_getElem (by rw [hk];exact fI)] at hj;exact hj
theorem Yp (ρ:Go.Shelf.Ren) (L:SlLaysF0.n6 Tryz.prog ρ) (aE:∀w,(isAgg (ρ.t 24)).run Tryz.prog w = .ok true w) (zE:∀w,(Go.sizeOf (ρ.t 24)).run Tryz.prog w = .ok (ax.size T) w)
 (cf:T->T->Int) (hT:ot λx y:T=>decide (cf x y < 0)) (gf:Nat) (eg:∀args w,(callFunc gf args).run Tryz.prog w = .ok (.enter gf args) w)
 (ok:T->Prop) (hc:∀(x y:T) (cs ds:List Value) (F G:List Nat) (W:World),rd W x cs F->rd W y ds G->ok x->ok y->Calls Tryz.prog gf #[.agg cs.toArray,.agg ds.toArray] W λe w'=>e = .returned (.int .i64 (cf x y))/\Gr W w')
 (xs:List T) (A:Option Addr) (c:Nat) (F:List Nat) (w:World) (B:Nat) (h:ai w B xs [.slice A xs.length c] F) (hB:B<=w.heap.size) (hl:(xs.length:Int)<=1048576) (eN:∀x∈xs,ok x) :
 Calls Tryz.prog (ρ.f 6) #[.slice A xs.length c,.func (.func gf) #[] #[]] w λe w'=>e = .returned (.tuple #[])/\∃(ys:List T) (F':List Nat),ys.Perm xs/\ys.Pairwise (λx y=>decide (cf y x < 0) = false)/\ai w' B ys [.slice A xs.length c] F'/\Below B w w':=by
 by_cases bI:xs = []
 ·subst bI;refine (Go.Proofs.AnyF.slices_SortFunc_none L A c _ w).mono ?_;rintro e w' ⟨rfl,rfl⟩;exact ⟨rfl,[],F,.refl _,.nil,h,.refl _ _⟩
 ·have eS:=Sl.cap (α:=T) h.rd;obtain ⟨g,o,D,rfl,rfl,rfl,R⟩:=h.wv bI;have kg:∀e∈D,rd w e.x e.cs e.F/\g∉e.F/\ok e.x:=λe he=>⟨R.rd e he,R.free he,eN e.x (List.mem_map.2 ⟨e,he,rfl⟩)⟩;let α:={e:El T // rd w e.x e.cs e.F/\g∉e.F/\ok e.x}
  have hD0:D≠[]:=λe=>bI (by rw [e];rfl);have Yq:Nonempty α:=by
   cases D with
   | nil=>exact absurd rfl hD0
   | cons e D=>exact ⟨⟨e,kg e (List.mem_cons_self ..)⟩⟩
  haveI:Inhabited α:=⟨Classical.choice Yq⟩
  let enc:α->List Value:=λe=>e.1.cs
  have hk:∀x:α,(enc x).length = ax.size T:=λx=>ax.len x.2.1;have h1:∀x:α,∀v∈enc x,v.oneCell' = true:=λx=>ax.one x.2.1;let cf':α->α->Int:=λx y=>cf x.1.x y.1.x
  have hO:Go.Sort.SWO (Go.Proofs.ltOf cf'):=⟨λx=>hT.swo.irrefl x.1.x,λx y z=>hT.swo.trans x.1.x y.1.x z.1.x,λx y z=>hT.swo.ntrans x.1.x y.1.x z.1.x⟩;obtain ⟨L0,hL0⟩:∃L0:List α,L0 = D.attachWith _ kg:=⟨_,rfl⟩;have hv:L0.map Subtype.val = D:=by rw [hL0];exact List.attachWith_map_subtype_val ..
  have bE:L0.length = D.length:=by rw [<- hv,List.length_map]
  have hT0:nt enc (ax.size T) w g o L0.toArray.toList:=λk e he j u hj=>R.tab k e.1 (by rw [<- hv,List.getElem?_map];rw [show L0[k]? = some e from he];rfl) j u hj;have hH:=aEn enc (ax.size T) hk L0.toArray (R.plain g (List.mem_cons_self ..)) hT0;have Yr:Go.Proofs.CmpLays Tryz.prog gf #[] enc (ax.size T) cf' g o L0.toArray.size w:=λm os dk hs x y=>by
   have hu:=aA1 enc (ax.size T) w g o m dk os;have fr:∀z:α,rd (sortWorldK enc (ax.size T) w g o m dk os) z.1.x z.1.cs z.1.F:=λz =>ax.frame z.2.1 (λb hb=>hu.block b (ax.lt z.2.1 b hb) (λe=>by rw [List.mem_singleton] at e;subst e;exact z.2.2.1 hb)) hu.size;have:=hc x.1.x y.1.x x.1.cs y.1.cs x.1.F y.1.F _ (fr x) (fr y) x.2.2.2 y.2.2.2;rw [show (#[Value.agg (enc x).toArray,Value.agg (enc y).toArray]++#[]:Array Value) = #[.agg x.1.cs.toArray,.agg y.1.cs.toArray] by simp [enc]];exact this
  have d9:L0.toArray.size = (D.map El.x).length:=by simp [bE]
  have:=Go.Proofs.AnyQ.slices_SortFunc L (ax.size T) aE zE enc hk h1 cf' hO gf #[] g o c L0.toArray w eg Yr hH R.lt (by rw [d9];omega);rw [d9] at this;refine this.mono ?_;rintro e w' ⟨rfl,d',n,os,hperm,hsort,rfl⟩;refine ⟨rfl,?_⟩;obtain ⟨p1,p2,p3⟩:=hperm;rw [d9] at p1;have hp:d'.toList.Perm L0:=by have e1:(d'.extract 0 (D.map El.x).length).toList = d'.toList:=(by rw [<- p1,Array.extract_size]);have e2:(L0.toArray.extract 0 (D.map El.x).length).toList = L0:=(by rw [<- d9,Array.extract_size]);rw [e1,e2] at p3;exact p3
  have Ys:(d'.toList.map Subtype.val).Perm D:=by have:=hp.map Subtype.val;rwa [hv] at this
  have hu:=aA1 enc (ax.size T) w g o n d' os;have eH:=aCH enc (ax.size T) w g o n d' os (R.plain g (List.mem_cons_self ..));have hH':=Go.Proofs.holdsK_sortWorldK_c enc (ax.size T) w g o L0.toArray d' n os hH R.lt (by rw [p1,d9]);have ht':=aEo enc (ax.size T) hk d' hH'
  have R':mB (sortWorldK enc (ax.size T) w g o n d' os) B g o (d'.toList.map Subtype.val) :=
   R.GG hu eH (λe he=>Ys.mem_iff.1 he) ((Ys.flatMap_right El.F).nodup_iff.2 (List.nodup_cons.1 R.nodup).2) (λk e he j u hj=>by
     rw [List.getElem?_map] at he;cases If:d'.toList[k]? with
     | none=>rw [If] at he;cases he
     | some z =>
       rw [If] at he;simp only [Option.map_some,Option.some.injEq] at he;subst he
       exact ht' k z If j u hj)
  have pq:((d'.toList.map Subtype.val).map El.x).length = (D.map El.x).length:=by simp only [List.length_map];rw [List.length_map] at p1;simpa using p1
  refine ⟨(d'.toList.map Subtype.val).map El.x,g :: (d'.toList.map Subtype.val).flatMap El.F,Ys.map El.x,?_,?_,hu.below (λb hb=>by rw [List.mem_singleton.1 hb];exact R.base g (List.mem_cons_self ..)) hB⟩
  ·rw [List.pairwise_map,List.pairwise_map];refine List.pairwise_iff_getElem.2 λi j hi hj mW=>?_;have oM:j < d'.size:=(by simpa using hj);have:=hsort i j (Nat.zero_le _) mW (by rw [<- p1];exact oM);rw [getElem!_pos d' j oM,getElem!_pos d' i J] at this;exact this
  ·rw [<- pq];exact R'.own (by rw [List.length_map,List.length_map] at *;rw [<- p1] at eS;simpa using eS.1) eS.2
end
end Go.Proofs.YtdegaofigemegaaGreat
