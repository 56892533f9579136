/- copyHost, copyPod, of the program; l17Host, l17Pod, of the reference. No condition. -/
import Derived.Test.YtjahcnjmjahbaaaGreatValsS
namespace Go.Proofs.YtjahcnjmjahbaaaGreat
open Go.ChangeShapes Go.WideShapes Go.ChangeAt Go.RowKit
set_option linter.unusedVariables false
set_option linter.unusedSimpArgs false
set_option maxHeartbeats 8000000
set_option maxRecDepth 100000
theorem OU (W:World) (e:TypeId) (size N:Nat) (hN:W.heap.size = N):(W.alloc (.cells #[] e)).ownsRow N e size (.slice (some ⟨N,0,none⟩) 0 0) 0 []:=by
 subst hN;exact World.ownsRow_made W #[] 0 (Nat.le_refl _) (Nat.zero_le _) S'
structure Cp (w wk:World) (cs zs:List Value):Prop where
 box:oG wk w.heap.size cs
 rb:oG wk (w.heap.size+1) zs
 below:Below w.heap.size w wk
section
variable {w wk w':World} {cs zs:List Value}
theorem Cp.new (w:World) (cs zs:List Value) (t t2:TypeId):Cp w ((w.alloc (.cells cs.toArray t)).alloc (.cells zs.toArray t2)) cs zs :=
 ⟨(oG.new w cs t).ext (ak (aj _) _),(by have:=oG.new (w.alloc (.cells cs.toArray t)) zs t2;rw [World.size_alloc] at this;exact this),ak (ak (aj _) _) _⟩
theorem Cp.ext (h:Cp w wk cs zs) (hb:Below wk.heap.size wk w'):Cp w w' cs zs:=⟨h.box.ext hb,h.rb.ext hb,ah h.below hb⟩
theorem Cp.put (h:Cp w wk cs zs) (i:Nat) (u:Value):Cp w (wk.setCell ⟨w.heap.size,i,none⟩ u) (cs.set i u) zs:=⟨h.box.put i u,h.rb.br J i u,aC h.below (Nat.le_refl _) u⟩
theorem Cp.lt (h:Cp w wk cs zs):w.heap.size+1 < wk.heap.size:=h.rb.lt
end
theorem VE (x:az) (cs:List Value) (F:List Nat) (w:World) (h:rd w x cs F) (cU:(x.labels.length:Int)<=1048576) (dm:(x.aT.length:Int)<=1048576) :
 Calls Tryz.prog 161 #[.agg cs.toArray] w λe w'=>∃cs F,e = .returned (.agg cs.toArray)/\ai w' w.heap.size x cs F/\Below w.heap.size w w':=by
 obtain ⟨gu,gy,jw,kJ,kK,qU,aq,qp,hname,dO,vg,b8,uI,jq⟩:=iy h;subst aq;clear qp h;go_enter Tryz.func161,Tryz.ntmps161;have S0:=Cp.new w [.string x.name,.slice gu x.labels.length gy,.int .i64 x.aw,.int .i64 x.mem,.int .i64 x.slots,.slice kJ x.aT.length kK] [.string ⟨#[]⟩,.slice none 0 0,.int .i64 0,.int .i64 0,.int .i64 0,.slice none 0 0] 38 38;have Pd:=I (OU ((w.alloc (.cells ([.string x.name,.slice gu x.labels.length gy,.int .i64 x.aw,.int .i64 x.mem,.int .i64 x.slots,.slice kJ x.aT.length kK]:List Value).toArray 38)).alloc (.cells ([.string ⟨#[]⟩,.slice none 0 0,.int .i64 0,.int .i64 0,.int .i64 0,.slice none 0 0]:List Value).toArray 38)) 57 2 (w.heap.size+1+1) d9)
 go_wp2_with (
 first
  | (at_builtin
     refine rW (o:=⟨some 6,_,_,_,_,_⟩) afn J' J' _ _ J' _ (w.heap.size+1+1) _ 0 [] Pd.out J' x.labels gu gy _ (dO.ext (ak S0.below _)) J' J J d9 ?_;intro v1 w1 XI E1 Pe XL jz rC XM;go_must (obtain ⟨A1,c1,te⟩:=mY jz)
     go_must (subst te)
     go_must (simp only [Nat.zero_add,List.nil_append] at jz)
     go_must (have bi:Below (w.heap.size+1+1) ((w.alloc (.cells ([.string x.name,.slice gu x.labels.length gy,.int .i64 x.aw,.int .i64 x.mem,.int .i64 x.slots,.slice kJ x.aT.length kK]:List Value).toArray 38)).alloc (.cells ([.string ⟨#[]⟩,.slice none 0 0,.int .i64 0,.int .i64 0,.int .i64 0,.slice none 0 0]:List Value).toArray 38)) w1:=lS Pd.out rC ((Below.refl _ _).alloc d9 _) d9)
     go_must (have pa:=Cp.ext S0 (bi.mono d9))
     go_must (have En:jo w1 x.labels XI E1:=Pe.frame (λb hb=>rC.block b (Pe.lt b hb) (λe=>by have h1:=dO.lt b (XL b hb);have h2:=S0.below.size;simp [Value.ownBlock,World.setCell] at e h2;omega)) rC.size)
     go_must (obtain ⟨A0,c0,G1,hJ,jX⟩:=ai.of_flat acO jz En)
     go_must (simp only [Value.slice.injEq,true_and] at hJ)
     go_must (obtain ⟨rfl,rfl⟩:=hJ)
     go_must (have k1:=pa.box.cell (i:=1) (u:=.slice gu x.labels.length gy) rfl)
     go_must (have f1:=pa.box.fz 1)
     go_must (have l1:=pa.box.lt)
     go_must (have Ep:=I (show ∀b∈G1,b < w1.heap.size from jX.lt))
     go_must (have S1:=pa.put 1 (.slice A1 x.labels.length c1))
     go_must (replace jX:=jX.setCell (p:=⟨w.heap.size,1,none⟩) av3 (.slice A1 x.labels.length c1))
     go_must (have m1:=S1.box.cell (i:=5) (u:=.slice kJ x.aT.length kK) rfl)
     go_must (have z1:=pa.lt)
     go_must (have HM2:=I (OU (w1.setCell ⟨w.heap.size,1,none⟩ (.slice A1 x.labels.length c1)) 84 3 (w1.heap.size) d9)))
  | (at_builtin
     refine rW (o:=⟨some 11,_,_,_,_,_⟩) alP J' J' _ _ J' _ (w1.heap.size) _ 0 [] HM2.out J' x.aT kJ kK _ (jq.ext (ak S1.below _)) J' J J d9 ?_;intro v2 w2 XG E2 ri ju bR eE Hy;go_must (obtain ⟨A2,c2,dt⟩:=mY bR)
     go_must (subst dt)
     go_must (simp only [Nat.zero_add,List.nil_append] at bR)
     go_must (have ap:Below (w1.heap.size) (w1.setCell ⟨w.heap.size,1,none⟩ (.slice A1 x.labels.length c1)) w2:=lS HM2.out eE ((Below.refl _ _).alloc d9 _) d9)
     go_must (have o8:=Cp.ext S1 (ap.mono d9))
     go_must (have XN:jo w2 x.aT XG E2:=ri.frame (λb hb=>eE.block b (ri.lt b hb) (λe=>by have h1:=jq.lt b (ju b hb);have h2:=S1.below.size;simp [Value.ownBlock,World.setCell] at e h2;omega)) eE.size)
     go_must (obtain ⟨A0,c0,G2,hJ,bA⟩:=ai.of_flat aiH bR XN)
     go_must (simp only [Value.slice.injEq,true_and] at hJ)
     go_must (obtain ⟨rfl,rfl⟩:=hJ)
     go_must (have k2:=o8.box.cell (i:=5) (u:=.slice kJ x.aT.length kK) rfl)
     go_must (have f2:=o8.box.fz 5)
     go_must (have l2:=o8.box.lt)
     go_must (have S2:=o8.put 5 (.slice A2 x.aT.length c2))
     go_must (replace jX:=jX.ext (ap.mono d9))
     go_must (replace jX:=jX.setCell (p:=⟨w.heap.size,5,none⟩) Tk (.slice A2 x.aT.length c2))
     go_must (replace bA:=bA.setCell (p:=⟨w.heap.size,5,none⟩) Tk (.slice A2 x.aT.length c2))
     go_must (have q0:=S2.box.cell (i:=0) (u:=.string x.name) rfl)
     go_must (have q1:=S2.box.cell (i:=1) (u:=.slice A1 x.labels.length c1) rfl)
     go_must (have q2:=S2.box.cell (i:=2) (u:=.int .i64 x.aw) rfl)
     go_must (have q3:=S2.box.cell (i:=3) (u:=.int .i64 x.mem) rfl)
     go_must (have q4:=S2.box.cell (i:=4) (u:=.int .i64 x.slots) rfl)
     go_must (have q5:=S2.box.cell (i:=5) (u:=.slice A2 x.aT.length c2) rfl)
     go_must (have r0:=S2.rb.cell (i:=0) (u:=.string ⟨#[]⟩) rfl)
     go_must (have r1:=S2.rb.cell (i:=1) (u:=.slice none 0 0) rfl)
     go_must (have r2:=S2.rb.cell (i:=2) (u:=.int .i64 0) rfl)
     go_must (have r3:=S2.rb.cell (i:=3) (u:=.int .i64 0) rfl)
     go_must (have r4:=S2.rb.cell (i:=4) (u:=.int .i64 0) rfl)
     go_must (have r5:=S2.rb.cell (i:=5) (u:=.slice none 0 0) rfl)
     go_must (have rf:=S2.rb.fz)
     go_must (have rl:=S2.rb.lt)
     go_must (have z2:=o8.lt)
     go_must (have y2:w1.heap.size<=w2.heap.size:=by have:=ap.size;(try simp [World.setCell] at this);omega)))
 have gM:=I jX;have RZ:=I bA;have HS:=I S2;clear jX bA S1 pa S2 o8 S0;try dsimp only
 iterate 200 (first | go_step | skip)
 refine bodyPost_ret (v:=.agg #[.string x.name,.slice A1 x.labels.length c1,.int .i64 x.aw,.int .i64 x.mem,.int .i64 x.slots,.slice A2 x.aT.length c2]) (by simp [results,Tryz.results161,go_sem, *]) rfl ⟨[.string x.name,.slice A1 x.labels.length c1,.int .i64 x.aw,.int .i64 x.mem,.int .i64 x.slots,.slice A2 x.aT.length c2],(G1++G2),rfl,?_,?_⟩;rotate_left
 ·exact Wk
 refine ai.up (B':=w.heap.size+1+1) (λx:az=>(x.name,x.labels,x.aw,x.mem,x.slots,x.aT)) ?_ J;refine ai.cons (c1:=[.string x.name]) (rdStr _ x.name (rV hname)) ?_;refine ai.pair (B2:=w1.heap.size) (c1:=[.slice A1 x.labels.length c1]) (F1:=G1) ?_ ?_ J Ep.out
 ·exact av4
 refine ai.cons (c1:=[.int .i64 x.aw]) (jL _ x.aw vg) ?_;refine ai.cons (c1:=[.int .i64 x.mem]) (jL _ x.mem b8) ?_;refine ai.cons (c1:=[.int .i64 x.slots]) (jL _ x.slots uI) ?_;exact av5
theorem Vx (x:nI) (cs:List Value) (F:List Nat) (w:World) (h:rd w x cs F) (cU:(x.labels.length:Int)<=1048576) (dm:(x.af.length:Int)<=1048576) (CC:(x.ae.length:Int)<=1048576) (hv:∀y∈x.af,(y.values.length:Int)<=1048576) :
 Calls Tryz.prog 162 #[.agg cs.toArray] w λe w'=>∃cs F,e = .returned (.agg cs.toArray)/\ai w' w.heap.size x cs F/\Below w.heap.size w w':=by
 have HV:=I hv;clear hv;obtain ⟨gu,gy,jw,oh,nT,wG,fA,fB,jY,aq,qp,hname,dO,vg,b8,BJ,mX,eG⟩:=dL h;subst aq;clear qp h;go_enter Tryz.func162,Tryz.ntmps162;have S0:=Cp.new w [.string x.name,.slice gu x.labels.length gy,.int .i64 x.aw,.int .i64 x.mem,.int .i64 x.av,.slice oh x.af.length nT,.slice fA x.ae.length fB] [.string ⟨#[]⟩,.slice none 0 0,.int .i64 0,.int .i64 0,.int .i64 0,.slice none 0 0,.slice none 0 0] 46 46;have Pd:=I (OU ((w.alloc (.cells ([.string x.name,.slice gu x.labels.length gy,.int .i64 x.aw,.int .i64 x.mem,.int .i64 x.av,.slice oh x.af.length nT,.slice fA x.ae.length fB]:List Value).toArray 46)).alloc (.cells ([.string ⟨#[]⟩,.slice none 0 0,.int .i64 0,.int .i64 0,.int .i64 0,.slice none 0 0,.slice none 0 0]:List Value).toArray 46)) 57 2 (w.heap.size+1+1) d9)
 go_wp2_with (
  at_builtin
  refine rW (o:=⟨some 6,_,_,_,_,_⟩) afn J' J' _ _ J' _ (w.heap.size+1+1) _ 0 [] Pd.out J' x.labels gu gy _ (dO.ext (ak S0.below _)) J' J J d9 ?_;intro v1 w1 XI E1 Pe XL jz rC XM;go_must (obtain ⟨A1,c1,te⟩:=mY jz)
  go_must (subst te)
  go_must (simp only [Nat.zero_add,List.nil_append] at jz)
  go_must (have bi:Below (w.heap.size+1+1) ((w.alloc (.cells ([.string x.name,.slice gu x.labels.length gy,.int .i64 x.aw,.int .i64 x.mem,.int .i64 x.av,.slice oh x.af.length nT,.slice fA x.ae.length fB]:List Value).toArray 46)).alloc (.cells ([.string ⟨#[]⟩,.slice none 0 0,.int .i64 0,.int .i64 0,.int .i64 0,.slice none 0 0,.slice none 0 0]:List Value).toArray 46)) w1:=lS Pd.out rC ((Below.refl _ _).alloc d9 _) d9)
  go_must (have pa:=Cp.ext S0 (bi.mono d9))
  go_must (have En:jo w1 x.labels XI E1:=Pe.frame (λb hb=>rC.block b (Pe.lt b hb) (λe=>by have h1:=dO.lt b (XL b hb);have h2:=S0.below.size;simp [Value.ownBlock,World.setCell] at e h2;omega)) rC.size)
  go_must (obtain ⟨A0,c0,G1,hJ,jX⟩:=ai.of_flat acO jz En)
  go_must (simp only [Value.slice.injEq,true_and] at hJ)
  go_must (obtain ⟨rfl,rfl⟩:=hJ)
  go_must (have k1:=pa.box.cell (i:=1) (u:=.slice gu x.labels.length gy) rfl)
  go_must (have f1:=pa.box.fz 1)
  go_must (have l1:=pa.box.lt)
  go_must (have Ep:=I (show ∀b∈G1,b < w1.heap.size from jX.lt))
  go_must (have S1:=pa.put 1 (.slice A1 x.labels.length c1))
  go_must (replace jX:=jX.setCell (p:=⟨w.heap.size,1,none⟩) av3 (.slice A1 x.labels.length c1))
  go_must (have m1:=S1.box.cell (i:=5) (u:=.slice oh x.af.length nT) rfl)
  go_must (have z1:=pa.lt))
 go_wp2_with fail
 refine (T7 x.af _ _ _ _ (mX.ext S1.below) dm HV.out).mono ?_;rintro e w2 ⟨A2,c2,G2,rfl,bA,ap⟩;have o8:=S1.ext ap;replace bA:=bA.mono (B':=w1.heap.size) avq;have k2:=o8.box.cell (i:=5) (u:=.slice oh x.af.length nT) rfl;have f2:=o8.box.fz 5;have l2:=o8.box.lt;have ya:=I (show ∀b∈G2,b < w2.heap.size from bA.lt);have S2:=o8.put 5 (.slice A2 x.af.length c2);replace jX:=jX.ext ap;replace jX:=jX.setCell (p:=⟨w.heap.size,5,none⟩) Tk (.slice A2 x.af.length c2);replace bA:=bA.setCell (p:=⟨w.heap.size,5,none⟩) Tk (.slice A2 x.af.length c2);have m2:=S2.box.cell (i:=6) (u:=.slice fA x.ae.length fB) rfl;have z2:=o8.lt;have y2:w1.heap.size<=w2.heap.size:=by have:=ap.size;(try simp [World.setCell] at this);omega
 have HM3:=I (OU (w2.setCell ⟨w.heap.size,5,none⟩ (.slice A2 x.af.length c2)) 91 4 (w2.heap.size) d9)
 go_wp2_with (
  at_builtin
  refine rW (o:=⟨some 15,_,_,_,_,_⟩) abo J' J' _ _ J' _ (w2.heap.size) _ 0 [] HM3.out J' x.ae fA fB _ (eG.ext (ak S2.below _)) J' J J d9 ?_;intro v3 w3 ds3 E3 Pf NW eg lh sf;go_must (obtain ⟨A3,c3,kF⟩:=mY eg)
  go_must (subst kF)
  go_must (simp only [Nat.zero_add,List.nil_append] at eg)
  go_must (have ba:Below (w2.heap.size) (w2.setCell ⟨w.heap.size,5,none⟩ (.slice A2 x.af.length c2)) w3:=lS HM3.out lh ((Below.refl _ _).alloc d9 _) d9)
  go_must (have D1:=Cp.ext S2 (ba.mono d9))
  go_must (have XP:jo w3 x.ae ds3 E3:=Pf.frame (λb hb=>lh.block b (Pf.lt b hb) (λe=>by have h1:=eG.lt b (NW b hb);have h2:=S2.below.size;simp [Value.ownBlock,World.setCell] at e h2;omega)) lh.size)
  go_must (obtain ⟨A0,c0,G3,hJ,hO3⟩:=ai.of_flat Zk eg XP)
  go_must (simp only [Value.slice.injEq,true_and] at hJ)
  go_must (obtain ⟨rfl,rfl⟩:=hJ)
  go_must (have k3:=D1.box.cell (i:=6) (u:=.slice fA x.ae.length fB) rfl)
  go_must (have f3:=D1.box.fz 6)
  go_must (have l3:=D1.box.lt)
  go_must (have S3:=D1.put 6 (.slice A3 x.ae.length c3))
  go_must (replace jX:=jX.ext (ba.mono d9))
  go_must (replace bA:=bA.ext (ba.mono d9))
  go_must (replace jX:=jX.setCell (p:=⟨w.heap.size,6,none⟩) Wm (.slice A3 x.ae.length c3))
  go_must (replace bA:=bA.setCell (p:=⟨w.heap.size,6,none⟩) Wm (.slice A3 x.ae.length c3))
  go_must (replace hO3:=hO3.setCell (p:=⟨w.heap.size,6,none⟩) Wm (.slice A3 x.ae.length c3))
  go_must (have q0:=S3.box.cell (i:=0) (u:=.string x.name) rfl)
  go_must (have q1:=S3.box.cell (i:=1) (u:=.slice A1 x.labels.length c1) rfl)
  go_must (have q2:=S3.box.cell (i:=2) (u:=.int .i64 x.aw) rfl)
  go_must (have q3:=S3.box.cell (i:=3) (u:=.int .i64 x.mem) rfl)
  go_must (have q4:=S3.box.cell (i:=4) (u:=.int .i64 x.av) rfl)
  go_must (have q5:=S3.box.cell (i:=5) (u:=.slice A2 x.af.length c2) rfl)
  go_must (have q6:=S3.box.cell (i:=6) (u:=.slice A3 x.ae.length c3) rfl)
  go_must (have r0:=S3.rb.cell (i:=0) (u:=.string ⟨#[]⟩) rfl)
  go_must (have r1:=S3.rb.cell (i:=1) (u:=.slice none 0 0) rfl)
  go_must (have r2:=S3.rb.cell (i:=2) (u:=.int .i64 0) rfl)
  go_must (have r3:=S3.rb.cell (i:=3) (u:=.int .i64 0) rfl)
  go_must (have r4:=S3.rb.cell (i:=4) (u:=.int .i64 0) rfl)
  go_must (have r5:=S3.rb.cell (i:=5) (u:=.slice none 0 0) rfl)
  go_must (have r6:=S3.rb.cell (i:=6) (u:=.slice none 0 0) rfl)
  go_must (have rf:=S3.rb.fz)
  go_must (have rl:=S3.rb.lt)
  go_must (have z3:=D1.lt)
  go_must (have y3:w2.heap.size<=w3.heap.size:=by have:=ba.size;(try simp [World.setCell] at this);omega))
 have gM:=I jX;have RZ:=I bA;have gY:=I hO3;have HS:=I S3;clear jX bA hO3 S1 pa S2 o8 S3 D1 S0;try dsimp only
 iterate 200 (first | go_step | skip)
 refine bodyPost_ret (v:=.agg #[.string x.name,.slice A1 x.labels.length c1,.int .i64 x.aw,.int .i64 x.mem,.int .i64 x.av,.slice A2 x.af.length c2,.slice A3 x.ae.length c3]) (by simp [results,Tryz.results162,go_sem, *]) rfl ⟨[.string x.name,.slice A1 x.labels.length c1,.int .i64 x.aw,.int .i64 x.mem,.int .i64 x.av,.slice A2 x.af.length c2,.slice A3 x.ae.length c3],(G1++(G2++G3)),rfl,?_,?_⟩;rotate_left
 ·exact Wk
 refine ai.up (B':=w.heap.size+1+1) (λx:nI=>(x.name,x.labels,x.aw,x.mem,x.av,x.af,x.ae)) ?_ J;refine ai.cons (c1:=[.string x.name]) (rdStr _ x.name (rV hname)) ?_;refine ai.pair (B2:=w1.heap.size) (c1:=[.slice A1 x.labels.length c1]) (F1:=G1) ?_ ?_ J Ep.out
 ·exact av4
 refine ai.cons (c1:=[.int .i64 x.aw]) (jL _ x.aw vg) ?_;refine ai.cons (c1:=[.int .i64 x.mem]) (jL _ x.mem b8) ?_;refine ai.cons (c1:=[.int .i64 x.av]) (jL _ x.av BJ) ?_;refine ai.pair (B2:=w2.heap.size) (c1:=[.slice A2 x.af.length c2]) (F1:=G2) ?_ ?_ J ya.out
 ·exact av5
 exact (by repeat (first | with_reducible exact gY.out | with_reducible refine ai.setCell ?_ Wg _))
theorem akH (x:aU) (cs:List Value) (F:List Nat) (w:World) (h:rd w x cs F) (hl:(x.O.length:Int)<=1048576) :
 Calls Tryz.prog 22 #[.agg cs.toArray] w λe w'=>∃A c G,e = .returned (.slice A (GI x.O).length c)/\ai w' w.heap.size (GI x.O) [.slice A (GI x.O).length c] G/\Below w.heap.size w w':=by
 obtain ⟨bG,bD,fQ,dn,bW,jg,aq,qp,bQ,dM,hnext,aV,aP,aW⟩:=aO h;subst aq;clear qp;go_enter Tryz.func22,Tryz.ntmps22;go_wp2_with fail
 go_loopw [3,4] (λv i wr=>∃(k:Nat) (is:List Nat) (g cap:Nat),k<=x.O.length/\is.length<=k/\i = .int .i64 (k:Int)/\v = .slice (some ⟨g,0,none⟩) is.length cap/\Hid (∀z∈is,z < x.O.length)/\Hid (is.map (po x.O) = bB (kS qy) [] (iw (x.O.take k)))/\wr.ownsRow (w.heap.size+1) 3 1 (.slice (some ⟨g,0,none⟩) is.length cap) is.length (is.map (λj:Nat=>Value.int .i64 (j:Int)))/\wr.cell? ⟨w.heap.size,1,none⟩ = some (.slice dn x.O.length bW)/\Below w.heap.size w wr) (λ_ i _=>x.O.length - (intOf i).toNat)
 case atStart =>
  refine ⟨0,[],w.heap.size+1,0,Nat.zero_le _,Nat.le_refl _,rfl,S',I (λz hz=>by cases hz),I rfl,?_,?_,ak (ak (aj _) _) _⟩
  ·exact D9 (w.alloc (.cells #[.slice bG x.aa.length bD,.slice dn x.O.length bW,.int .i64 x.next,.int .i64 x.weights.pack,.int .i64 x.weights.spread,.int .i64 x.weights.soft] 29)) 3 1 (w.heap.size+1) S'
  ·exact C7
 case round =>
  obtain ⟨k,is,g,cap,hk,hik,rfl,rfl,HIS,HMAP,bz,hqc,ax⟩:=hrel;have Pc:w.heap.size < wr.heap.size:=World.block_lt_of_cell? wr _ hqc;by_cases am:k < x.O.length
  ·obtain ⟨wo,hwo⟩:∃wo,wo = wr:=⟨_,rfl⟩;subst hwo;obtain ⟨b,o,rfl,hbs,hpc⟩:=ZJ dM J;have HPC:=I hpc;clear hpc;obtain ⟨y,tz,ES,ra,oC⟩:=HPC.out k am;have ey:b < wo.heap.size:=Nat.lt_of_lt_of_le hbs ax.size;have qy0:wo.cell? ⟨b,o+k * 9,none⟩ = some (.string y.name):=r' ax (oC 0 _ rfl) hbs;have qy1:wo.cell? ⟨b,o+k * 9+1,none⟩ = some (.slice y.la y.ln y.lc):=r' ax (oC 1 _ rfl) hbs;have qy2:wo.cell? ⟨b,o+k * 9+2,none⟩ = some (.int .i64 y.aw):=r' ax (oC 2 _ rfl) hbs;have qy3:wo.cell? ⟨b,o+k * 9+3,none⟩ = some (.int .i64 y.mem):=r' ax (oC 3 _ rfl) hbs;have qy4:wo.cell? ⟨b,o+k * 9+4,none⟩ = some (.int .i64 y.av):=r' ax (oC 4 _ rfl) hbs;have qy5:wo.cell? ⟨b,o+k * 9+5,none⟩ = some (.slice y.na y.nn y.nc):=r' ax (oC 5 _ rfl) hbs;have qy6:wo.cell? ⟨b,o+k * 9+6,none⟩ = some (.slice y.ta y.tn y.tc):=r' ax (oC 6 _ rfl) hbs;have qy7:wo.cell? ⟨b,o+k * 9+7,none⟩ = some (.string y.on):=r' ax (oC 7 _ rfl) hbs;have qy8:wo.cell? ⟨b,o+k * 9+8,none⟩ = some (.int .i64 y.seq):=r' ax (oC 8 _ rfl) hbs;have HYC:=I oC;have HYK:=I tz;cases hp:(x.O[k].on.toList == []) with
   | false =>
     have HN:=I (apO am hp);have oz:(y.on.toList == []) = false:=(by rw [ES];exact hp);have x5:(y.on.toList != []) = true:=(by rw [bne,oz];rfl);clear oC ES tz hp;go_wp2_with fail
     exact ⟨⟨k+1,is,g,cap,J,J,N',rfl,HIS,I (by rw [HN.out];exact HMAP.out),bz,hqc,ax⟩,by simp [intOf];omega⟩
   | true =>
     have oz:(y.on.toList == []) = true:=(by rw [ES];exact hp);have x5:(y.on.toList != []) = false:=(by rw [bne,oz];rfl);have dC:bB (kS qy) [] (iw (x.O.take (k+1))) = OM (kS qy) (lW y) (bB (kS qy) [] (iw (x.O.take k))):=(by rw [anD am hp,V3,tz]);have Jf:=I dC;have HKK:=I (show po x.O k = lW y by rw [UF am,tz]);have e9:=I ax;have gO:=I bz;have ZP:=I hqc;obtain ⟨_,hgo,hgc,ahU⟩:=IE bz;have lO:=I ahU;clear oC ES tz hp dC bz ahU;go_wp2_with fail
     go_loopw [5] (λj wr=>∃(s1 s2:List Nat) (jj:Nat),Hid (is = s1++s2)/\j = .int .i64 (jj:Int)/\Hid (s1.length = jj)/\Hid (∀z∈s1,kS qy (lW y) (po x.O z) = false)/\Below wo.heap.size wo wr) (λj _=>is.length - (intOf j).toNat)
     case atStart=>exact ⟨[],is,0,I rfl,rfl,I rfl,I (λz hz=>by cases hz),aj _⟩
     case round =>
      obtain ⟨s1,s2,jj,HE,rfl,HJ,HN,bL⟩:=hrel;have mc:∀bq oq u,wo.cell? ⟨bq,oq,none⟩ = some u->bq < wo.heap.size->wr.cell? ⟨bq,oq,none⟩ = some u:=λbq oq u h1 h2=>(bL.cell (p:=⟨bq,oq,none⟩) h2).trans h1;have TZ:=mc _ _ _ ZP.out Pc;replace qy0:=mc _ _ _ qy0 ey;replace qy1:=mc _ _ _ qy1 ey;replace qy2:=mc _ _ _ qy2 ey;replace qy3:=mc _ _ _ qy3 ey;replace qy4:=mc _ _ _ qy4 ey;replace qy5:=mc _ _ _ qy5 ey;replace qy6:=mc _ _ _ qy6 ey;replace qy7:=mc _ _ _ qy7 ey;replace qy8:=mc _ _ _ qy8 ey;have MC:=I mc;have pj:wo.heap.size<=wr.heap.size:=bL.size;have om:b < wr.heap.size:=J;have aa8:w.heap.size < wr.heap.size:=J;have mR:g < wr.heap.size:=J;clear mc;cases s2 with
      | nil =>
        have fe:jj = is.length:=(by have e1:=HE.out;have e3:=HJ.out;rw [e1,List.append_nil];exact e3.symm);have qk:is.length<=jj:=J;have qm:decide ((jj:Int) < (is.length:Int)) = false:=(by simp;omega);have qn:decide (jj < is.length) = false:=(by simp;omega);have Ip:=I (show (s1++k :: ([]:List Nat)).length = is.length+1 by rw [List.length_append,HJ.out,fe];rfl);have asT:=I (show ([]:List Nat).map (po x.O) = []∨∃z s',([]:List Nat).map (po x.O) = z :: s'/\kS qy (lW y) z = true from .inl rfl);clear fe;go_wp2_with fail
        refine aF wr U' U' (aj _) ?_
        repeat ((first | refine aG J' ?_ | refine aH _ J' Mo ?_);simp only [Act.put,pz])
        refine aN ?_;intro wn hn;replace hn:=hn.out;have bw:Below wo.heap.size wo wn:=ah bL hn;have RJ:=mG gO.out bw;obtain ⟨_,fa,apy,V4⟩:=IE RJ
        have et:=I (show ∀q u,(s1.map (λj:Nat=>Value.int .i64 (j:Int)))[q]? = some u->wn.cell? ⟨g,0+q,none⟩ = some u from λq u hu=>by
         rw [Nat.zero_add];refine V4 q u ?_
         rw [HE.out,List.map_append,List.getElem?_append_left (List.getElem?_eq_some_iff.1 hu).1];exact hu)
        have Gn:=I (show ∀q u,((([]:List Nat)).map (λj:Nat=>Value.int .i64 (j:Int)))[q]? = some u->wn.cell? ⟨g,jj+q,none⟩ = some u from λq u hu=>by
         refine V4 (jj+q) u ?_
         rw [HE.out,List.map_append,List.getElem?_append_right D2,List.length_map,HJ.out,Nat.add_sub_cancel_left];exact hu)
        have dm:jj+(([]:List Nat)).length = is.length:=(by have e1:=congrArg List.length HE.out;have e3:=HJ.out;rw [List.length_append] at e1;omega);have bs:is.length - jj = (([]:List Nat)).length:=J;have nA:=I bs;have n9:jj<=is.length:=J;have pk:jj<=cap:=J;have j':=I bw;have I2:is.length<=1048576:=J;clear RJ V4 dm bw bs;have cL:∃A0:Addr,(if cap = jj then some (⟨g,0,none⟩:Addr) else some ⟨g,jj,none⟩) = some A0/\Hid (A0.block = g/\∀q u,((([]:List Nat)).map (λj:Nat=>Value.int .i64 (j:Int)))[q]? = some u->∀w7:World,w7.cell? (A0.add q) = some u):=by exact Ol
        obtain ⟨A0,hA0,asg⟩:=cL
        go_wp2_with (first
         | (at_builtin
            refine xW I3 J' _ _ J' (wn.alloc (.cells #[] 3)) wn.heap.size _ 0 [] (D9 wn 3 1 wn.heap.size rfl) J' ⟨g,0,none⟩ jj cap (s1.map (λj:Nat=>Value.int .i64 (j:Int))) J' zp (λq u hu=>by rw [Addr.add_lit];exact (World.cell?_of_block (heap_alloc_old _ _ fa)).trans (et.out q u hu)) (λu hu=>by obtain ⟨z0,_,rfl⟩:=List.mem_map.1 hu;rfl) J J S' ?_;intro v5 w5 aM cq fi;rw [List.nil_append] at aM
            have bj:Below wn.heap.size wn w5:=Below.grown (ak (aj _) _) cq S' (λq hq=>by simp [Value.ownBlock] at hq;omega))
         | (at_builtin
            refine xW I3 J' _ _ J' (w5.alloc (.cells #[.int .i64 (k:Int)] 3)) wn.heap.size v5 _ _ (mG aM (ak (aj _) _)) J' ⟨w5.heap.size,0,none⟩ 1 1 [.int .i64 (k:Int)] J' J' (DI w5 3 [.int .i64 (k:Int)] w5.heap.size rfl) (λu hu=>by rw [List.mem_singleton.1 hu];rfl) J J Tv ?_;intro v7 w7 nK Ua l7;rw [show 0+jj+1 = jj+1 by omega] at nK;obtain ⟨g9,p9,hv7,hgb9,hgp9,hgl9⟩:=wW nK J;subst hv7
            have bx:Below wn.heap.size wn w7:=Below.grown (ak bj _) Ua Tv (λq hq=>(aM.lt q hq).1))
         | (at_builtin
            refine xW I3 J' _ _ J' w7 wn.heap.size _ _ _ nK J' A0 0 (cap - jj) ((([]:List Nat)).map (λj:Nat=>Value.int .i64 (j:Int))) J' J' (λq u hu=>asg.out.2 q u hu _) (λu hu=>by obtain ⟨z0,_,rfl⟩:=List.mem_map.1 hu;rfl) J J lI ?_;intro v8 w8 Le cQ li;rw [show jj+1+0 = is.length+1 by omega] at Le;obtain ⟨g8,p8,hv8,aJs,aJt,aJu⟩:=wW Le J;subst hv8
            have lA:Below wn.heap.size wn w8:=Below.grown bx cQ bx.size (λq hq=>(nK.lt q hq).1)))
        have Qn:Below wo.heap.size wo w8:=ah j'.out lA;refine ⟨⟨k+1,s1++k :: (([]:List Nat)),g8,p8,J,by rw [Ip.out];omega,N',by rw [Ip.out],I (λz hz=>?_),I ?_,?_,?_,ah e9.out Qn⟩,by simp [intOf];omega⟩
        ·exact Mp
        ·exact MD
        ·exact Oj
        ·exact (Qn.cell (p:=⟨w.heap.size,1,none⟩) Pc).trans ZP.out
      | cons z s2 =>
        have fe:jj < is.length:=(by have e1:=congrArg List.length HE.out;have e3:=HJ.out;rw [List.length_append,List.length_cons] at e1;omega);have qm:decide ((jj:Int) < (is.length:Int)) = true:=(by simp;omega);have I0:wr.cell? ⟨g,jj,none⟩ = some (.int .i64 (z:Int)):=MC.out _ _ _ (lO.out jj _ Wz) hgo;have vu:z < x.O.length:=HIS.out z If;obtain ⟨r,hrk,hro,hrn,de⟩:=HPC.out z vu;have ZQ:wo.cell? ⟨b,o+z * 9,none⟩ = some (.string r.name):=r' e9.out (de 0 _ rfl) hbs;have qr1:wo.cell? ⟨b,o+z * 9+1,none⟩ = some (.slice r.la r.ln r.lc):=r' e9.out (de 1 _ rfl) hbs;have qr2:wo.cell? ⟨b,o+z * 9+2,none⟩ = some (.int .i64 r.aw):=r' e9.out (de 2 _ rfl) hbs;have qr3:wo.cell? ⟨b,o+z * 9+3,none⟩ = some (.int .i64 r.mem):=r' e9.out (de 3 _ rfl) hbs;have qr4:wo.cell? ⟨b,o+z * 9+4,none⟩ = some (.int .i64 r.av):=r' e9.out (de 4 _ rfl) hbs;have qr5:wo.cell? ⟨b,o+z * 9+5,none⟩ = some (.slice r.na r.nn r.nc):=r' e9.out (de 5 _ rfl) hbs;have qr6:wo.cell? ⟨b,o+z * 9+6,none⟩ = some (.slice r.ta r.tn r.tc):=r' e9.out (de 6 _ rfl) hbs;have qr7:wo.cell? ⟨b,o+z * 9+7,none⟩ = some (.string r.on):=r' e9.out (de 7 _ rfl) hbs;have qr8:wo.cell? ⟨b,o+z * 9+8,none⟩ = some (.int .i64 r.seq):=r' e9.out (de 8 _ rfl) hbs;replace ZQ:=MC.out _ _ _ ZQ ey;replace qr1:=MC.out _ _ _ qr1 ey;replace qr2:=MC.out _ _ _ qr2 ey;replace qr3:=MC.out _ _ _ qr3 ey;replace qr4:=MC.out _ _ _ qr4 ey;replace qr5:=MC.out _ _ _ qr5 ey;replace qr6:=MC.out _ _ _ qr6 ey;replace qr7:=MC.out _ _ _ qr7 ey;replace qr8:=MC.out _ _ _ qr8 ey;have HRK:=I (show po x.O z = lW r by rw [UF vu,hrk]);clear de hrk hro;cases hL:kS qy (lW y) (lW r) with
        | false =>
          have HL:=I hL;clear hL;go_wp2_with fail
          refine aF wr U' U' (aj _) ?_
          repeat ((first | refine aG J' ?_ | refine aH _ J' Mh ?_);simp only [Act.put,pz])
          refine aN ?_;intro wn hn;replace hn:=hn.out;go_wp2;refine ⟨⟨s1++[z],s2,jj+1,I If,N',I awS,I (λz' hz=>?_),ah bL hn⟩,by simp [intOf];omega⟩;rcases List.mem_append.1 hz with hz | hz
          ·exact HN.out z' hz
          ·rw [List.mem_singleton.1 hz,HRK.out];exact HL.out
        | true =>
          have HL:=I hL;clear hL;have Ip:=I (show (s1++k :: z :: s2).length = is.length+1 by have e1:=congrArg List.length HE.out;rw [List.length_append,List.length_cons] at e1;rw [List.length_append,List.length_cons,List.length_cons];omega);have asT:=I (show (z :: s2).map (po x.O) = []∨∃z' s',(z :: s2).map (po x.O) = z' :: s'/\kS qy (lW y) z' = true from .inr ⟨_,_,rfl,by rw [HRK.out];exact HL.out⟩);go_wp2_with fail
          refine aF wr U' U' (aj _) ?_
          repeat ((first | refine aG J' ?_ | refine aH _ J' Mh ?_);simp only [Act.put,pz])
          refine aN ?_;intro wn hn;replace hn:=hn.out;have bw:Below wo.heap.size wo wn:=ah bL hn;have RJ:=mG gO.out bw;obtain ⟨_,fa,apy,V4⟩:=IE RJ
          have et:=I (show ∀q u,(s1.map (λj:Nat=>Value.int .i64 (j:Int)))[q]? = some u->wn.cell? ⟨g,0+q,none⟩ = some u from λq u hu=>by
           rw [Nat.zero_add];refine V4 q u ?_
           rw [HE.out,List.map_append,List.getElem?_append_left (List.getElem?_eq_some_iff.1 hu).1];exact hu)
          have Gn:=I (show ∀q u,((z :: s2).map (λj:Nat=>Value.int .i64 (j:Int)))[q]? = some u->wn.cell? ⟨g,jj+q,none⟩ = some u from λq u hu=>by
           refine V4 (jj+q) u ?_
           rw [HE.out,List.map_append,List.getElem?_append_right D2,List.length_map,HJ.out,Nat.add_sub_cancel_left];exact hu)
          have dm:jj+(z :: s2).length = is.length:=(by have e1:=congrArg List.length HE.out;have e3:=HJ.out;rw [List.length_append] at e1;omega);have bs:is.length - jj = (z :: s2).length:=J;have nA:=I bs;have n9:jj<=is.length:=J;have pk:jj<=cap:=J;have j':=I bw;have I2:is.length<=1048576:=J;clear RJ V4 dm bw bs
          go_wp2_with (first
           | (at_builtin
              refine xW I3 J' _ _ J' (wn.alloc (.cells #[] 3)) wn.heap.size _ 0 [] (D9 wn 3 1 wn.heap.size rfl) J' ⟨g,0,none⟩ jj cap (s1.map (λj:Nat=>Value.int .i64 (j:Int))) J' zp (λq u hu=>by rw [Addr.add_lit];exact (World.cell?_of_block (heap_alloc_old _ _ fa)).trans (et.out q u hu)) (λu hu=>by obtain ⟨z0,_,rfl⟩:=List.mem_map.1 hu;rfl) J J S' ?_;intro v5 w5 aM cq fi;rw [List.nil_append] at aM
              have bj:Below wn.heap.size wn w5:=Below.grown (ak (aj _) _) cq S' (λq hq=>by simp [Value.ownBlock] at hq;omega))
           | (at_builtin
              refine xW I3 J' _ _ J' (w5.alloc (.cells #[.int .i64 (k:Int)] 3)) wn.heap.size v5 _ _ (mG aM (ak (aj _) _)) J' ⟨w5.heap.size,0,none⟩ 1 1 [.int .i64 (k:Int)] J' J' (DI w5 3 [.int .i64 (k:Int)] w5.heap.size rfl) (λu hu=>by rw [List.mem_singleton.1 hu];rfl) J J Tv ?_;intro v7 w7 nK Ua l7;rw [show 0+jj+1 = jj+1 by omega] at nK;obtain ⟨g9,p9,hv7,hgb9,hgp9,hgl9⟩:=wW nK J;subst hv7
              have bx:Below wn.heap.size wn w7:=Below.grown (ak bj _) Ua Tv (λq hq=>(aM.lt q hq).1))
           | (at_builtin
              refine xW I3 J' _ _ J' w7 wn.heap.size _ _ _ nK J' ⟨g,jj,none⟩ (is.length - jj) (cap - jj) ((z :: s2).map (λj:Nat=>Value.int .i64 (j:Int))) J' Tw (λq u hu=>by rw [Addr.add_lit];exact (bx.cell (p:=⟨g,jj+q,none⟩) fa).trans (Gn.out q u hu)) (λu hu=>by obtain ⟨z0,_,rfl⟩:=List.mem_map.1 hu;rfl) J J lI ?_;intro v8 w8 Le cQ li;rw [show jj+1+(is.length - jj) = is.length+1 by omega] at Le;obtain ⟨g8,p8,hv8,aJs,aJt,aJu⟩:=wW Le J;subst hv8
              have lA:Below wn.heap.size wn w8:=Below.grown bx cQ bx.size (λq hq=>(nK.lt q hq).1)))
          have Qn:Below wo.heap.size wo w8:=ah j'.out lA;refine ⟨⟨k+1,s1++k :: (z :: s2),g8,p8,J,by rw [Ip.out];omega,N',by rw [Ip.out],I (λz hz=>?_),I ?_,?_,?_,ah e9.out Qn⟩,by simp [intOf];omega⟩
          ·exact Mp
          ·exact MD
          ·exact Oj
          ·exact (Qn.cell (p:=⟨w.heap.size,1,none⟩) Pc).trans ZP.out
  ·have bs:k = x.O.length:=J;subst bs;have E7:=HMAP.out;rw [List.take_length] at E7;have hws:(is.map λz=>(po x.O z).1) = GI x.O:=by
    unfold GI;rw [<- E7,List.map_map];rfl
   have ZS:=I hws;clear E7 hws HMAP;obtain ⟨wo,hwo⟩:∃wo,wo = wr:=⟨_,rfl⟩;subst hwo;obtain ⟨_,hgo,hgc,ahU⟩:=IE bz;have lO:=I ahU;clear ahU bz;have I2:is.length<=1048576:=J;go_wp2_with fail
   go_loopw [7,8] (λv i wr=>∃j:Nat,j<=is.length/\i = .int .i64 (j:Int)/\wr.ownsRow wo.heap.size 9 1 v j (((is.take j).map λz=>(po x.O z).1).map Value.string)/\Below wo.heap.size wo wr) (λ_ i _=>is.length - (intOf i).toNat)
   case atStart=>exact ⟨0,Nat.zero_le _,rfl,D9 wo 9 1 wo.heap.size rfl,ak (aj _) _⟩
   case round =>
    obtain ⟨j,hj,rfl,bz,dd⟩:=hrel;by_cases sk:j < is.length
    ·obtain ⟨z,hz⟩:∃z,is[j] = z:=⟨_,rfl⟩;have vu:z < x.O.length:=HIS.out z (by rw [<- hz];exact List.getElem_mem ..);have I0:wo.cell? ⟨g,j,none⟩ = some (.int .i64 (z:Int)):=lO.out j _ (by rw [List.getElem?_map,List.getElem?_eq_getElem sk,hz];rfl);obtain ⟨b,o,rfl,hbs,hpc⟩:=ZJ dM J;obtain ⟨r,hrk,hro,hrn,de⟩:=hpc z vu;have ZQ:wo.cell? ⟨b,o+z * 9,none⟩ = some (.string r.name):=r' ax (de 0 _ rfl) hbs;have ey:b < wo.heap.size:=Nat.lt_of_lt_of_le hbs ax.size;have htk:(is.take (j+1)).map (λz=>(po x.O z).1) = (is.take j).map (λz=>(po x.O z).1)++[r.name]:=by
      rw [List.take_succ_eq_append_getElem sk,hz,List.map_append,List.map_cons,List.map_nil,UF vu,<- hrk];rfl
     have HTK:=I htk;clear htk de hpc hrk hro hz;go_wp2_with fail
     refine zU wo 14 U' U' dd ?_;have bo:=aA dd;refine aX 0 _ J' U' H' bo W' ?_;try simp only [Act.put,pz]
     refine aX 1 _ J' U' H' bo W' ?_;try simp only [Act.put,pz]
     refine aX 2 _ J' U' H' bo W' ?_;try simp only [Act.put,pz]
     refine aX 3 _ J' U' H' bo W' ?_;try simp only [Act.put,pz]
     refine aX 4 _ J' U' H' bo W' ?_;try simp only [Act.put,pz]
     refine aX 5 _ J' U' H' bo W' ?_;try simp only [Act.put,pz]
     refine aX 6 _ J' U' H' bo W' ?_;try simp only [Act.put,pz]
     refine aX 7 _ J' U' H' bo W' ?_;try simp only [Act.put,pz]
     refine aX 8 _ J' U' H' bo W' ?_;try simp only [Act.put,pz]
     refine aX 9 _ J' U' H' bo W' ?_;try simp only [Act.put,pz]
     refine aX 10 _ J' U' H' bo W' ?_;try simp only [Act.put,pz]
     refine bP 11 J' U' J' (λK hK=>?_);go_simp;refine hK _ _ (ak bo (.cells #[.string r.name] 9)) ?_;try simp only [Act.put,pz]
     clear hK K;refine bP 12 J' U' J' (λK hK=>?_);refine qQ ajn _ _ J' (wr.drew.alloc (.cells #[.string r.name] 9)) wo.heap.size _ j _ (mG bz (ak (aA (aj _)) _)) J' ⟨wr.heap.size,0,none⟩ 1 1 [.string r.name] J' J' (DI wr.drew 9 [.string r.name] wr.heap.size rfl) (λu hu=>by rw [List.mem_singleton.1 hu];rfl) J J (by have:=dd.size;simp;omega) ?_;intro v5 w5 aM cq fi;have bj:Below wo.heap.size wo w5:=Below.grown (ak bo _) cq (by have:=dd.size;simp;omega) (λq hq=>(bz.lt q hq).1);refine hK _ _ bj ?_;try simp only [Act.put,pz]
     clear hK K;refine bP 13 J' U' J' (λK hK=>?_);go_simp;refine hK _ _ bj ?_;try simp only [Act.put,pz]
     clear hK K;refine nR U' ?_;go_wp2;exact ⟨⟨j+1,J,N',by rw [HTK.out,List.map_append];exact aM,bj⟩,by simp [intOf];omega⟩
    ·have gp:j = is.length:=J;subst gp;rw [List.take_length,ZS.out] at bz
     obtain ⟨A3,c3,G3,kF,hO3⟩:=adz bz (by rw [<- ZS.out,List.length_map]) (B':=w.heap.size) ax.size (λy hy=>by
      rw [<- ZS.out] at hy;obtain ⟨z,hz,rfl⟩:=List.mem_map.1 hy;have vu:=HIS.out z hz;obtain ⟨_,_,_,_,hpc⟩:=ZJ dM J;obtain ⟨r,hrk,_,hrn,_⟩:=hpc z vu
      rw [UF vu,<- hrk];exact hrn)
     have HV3:=I kF;have gY:=I hO3;clear kF hO3 bz;go_wp2;go_ret
     exact ⟨A3,c3,G3,congrArg _ HV3.out,gY.out,ax.trans (dd.mono ax.size)⟩
end Go.Proofs.YtjahcnjmjahbaaaGreat
