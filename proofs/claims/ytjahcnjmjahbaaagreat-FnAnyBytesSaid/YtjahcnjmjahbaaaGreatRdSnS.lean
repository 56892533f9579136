/- ReadSnap, of the reference. No condition. -/
import Derived.Test.YtjahcnjmjahbaaaGreatRdPS
import Derived.Test.YtjahcnjmjahbaaaGreatClusterSC
namespace Go.Proofs.YtjahcnjmjahbaaaGreat
open Go.ChangeShapes Go.WideShapes Go.ChangeAt Go.RowKit
set_option linter.unusedVariables false
set_option linter.unusedSimpArgs false
set_option maxHeartbeats 40000000
set_option maxRecDepth 100000
structure lu (w wk:World) (s:ByteArray) (a:Int × Bool) (cs:List Value):Prop where
 bp:yM wk (w.heap.size+1) s a
 box:oG wk (w.heap.size+1+1) cs
 rb:oG wk w.heap.size Rz
 below:Below w.heap.size w wk
section
variable {w wk w':World} {s:ByteArray} {a a':Int × Bool} {cs:List Value}
theorem lu.call (h:lu w wk s a cs) (hc:yM w' (w.heap.size+1) s a') (hu:nN [w.heap.size+1] wk w'):lu w w' s a' cs :=
 ⟨hc,h.box.bE hu J,h.rb.bE hu J,h.below.trans (hu.below (λy hy=>by simp only [List.mem_singleton] at hy;omega) On)⟩
theorem lu.put (h:lu w wk s a cs) (i:Nat) (u:Value):lu w (wk.setCell ⟨w.heap.size+1+1,i,none⟩ u) s a (cs.set i u) :=
 ⟨h.bp.br J i u,h.box.put i u,h.rb.br J i u,aC h.below bv u⟩
theorem lu.ext (h:lu w wk s a cs) (hb:Below wk.heap.size wk w'):lu w w' s a cs:=⟨h.bp.ext hb,h.box.ext hb,h.rb.ext hb,ah h.below hb⟩
theorem lu.br (h:lu w wk s a cs) {c:Nat} (hc:w.heap.size+1+1 < c) (i:Nat) (u:Value):lu w (wk.setCell ⟨c,i,none⟩ u) s a cs :=
 ⟨h.bp.br J i u,h.box.br J i u,h.rb.br J i u,aC h.below bv u⟩
theorem lu.grown {row:Option Nat} (h:lu w wk s a cs) (hg:wk.grownBy w' row) (hr:∀q,row = some q->w.heap.size+1+1 < q):lu w w' s a cs :=
 ⟨h.bp.keep (hg.block _ h.bp.lt rq),h.box.keep (hg.block _ h.box.lt rq),h.rb.keep (hg.block _ h.rb.lt rq),
  ⟨hg.os.trans h.below.os,hg.tape.trans h.below.tape,hg.output.trans h.below.output,Nat.le_trans h.below.size hg.size,λi hi=>(hg.block i On rq).trans (h.below.block i hi)⟩⟩
end
theorem Yj {α:Type} (r:Int × Bool->α × (Int × Bool)) (s:ByteArray) (st:Int × Bool):(BR r s 4 st).1.length<=4:=by
 have h:=MN r (lM s 4 st).1.toNat [] (lM s 4 st).2;have:=xX s 4 st (by decide);refine Nat.le_trans h ?_;rw [List.length_nil];omega
theorem aaZ {α:Type} {r:Int × Bool->α × (Int × Bool)} {p:α->Prop} (hr:∀st,p (r st).1) (s:ByteArray) (most:Int) (st:Int × Bool):∀x∈(BR r s most st).1,p x:=Gg hr _ _ _ (λl hl=>by cases hl)
theorem amS (s:ByteArray) (st:Int × Bool) (hs:(s.size:Int)<=1048576):U6 (wF s st).1:=by
 unfold wF Jb;dsimp only;have h1:=BP s (aD s st).2;refine ⟨nG s st hs,by dsimp only;omega,Ej s _ hs,?_,?_⟩
 ·have:=Yj (Je s) s (iZ s (iZ s (iZ s (jS s (aD s st).2).2).2).2).2;unfold BR at this;dsimp only;omega
 ·exact aaZ (r:=Je s) (λa=>⟨nG s _ hs,nG s _ hs⟩) s 4 (iZ s (iZ s (iZ s (jS s (aD s st).2).2).2).2).2
theorem amT (s:ByteArray) (st:Int × Bool) (hs:(s.size:Int)<=1048576):(uF s st).1.af.length<=4/\∀l∈(uF s st).1.af,VX l:=⟨Yj _ s _,aaZ (λa=>Ye s a hs) s _ _⟩
theorem aoQ (s:ByteArray) (st:Int × Bool) (hs:(s.size:Int)<=1048576):(uF s st).1.ae.length<=4/\∀l∈(uF s st).1.ae,VY l:=by
 unfold uF Yf;dsimp only;exact ⟨Yj _ s _,aaZ (λa=>aaW s a hs) s _ _⟩
theorem aoR (s:ByteArray) (st:Int × Bool) (hs:(s.size:Int)<=1048576):Xl (uF s st).1:=by
 obtain ⟨h1,h2⟩:=amT s st hs;obtain ⟨h3,h4⟩:=aoQ s st hs;have h5:(uF s st).1.labels.length<=6:=BP s _;exact ⟨nG s st hs,J,Ej s _ hs,J,h2,J,h4⟩
theorem ah7 (s:ByteArray) (w:World) (hs:(s.size:Int)<=1048576) :
 Calls Tryz.prog 18 #[.string s] w λe w'=>∃ds F,e = .returned (.tuple #[.agg ds.toArray,.bool (nZ s).2])/\ai w' w.heap.size (nZ s).1 ds F/\Below w.heap.size w w':=by
 obtain ⟨t1,et1⟩:∃t,iZ s (0,false) = t:=⟨_,rfl⟩;obtain ⟨t2,et2⟩:∃t,iZ s t1.2 = t:=⟨_,rfl⟩;obtain ⟨t3,et3⟩:∃t,iZ s t2.2 = t:=⟨_,rfl⟩;obtain ⟨t4,et4⟩:∃t,iZ s t3.2 = t:=⟨_,rfl⟩;obtain ⟨q,eq⟩:∃t,lM s 8 t4.2 = t:=⟨_,rfl⟩;obtain ⟨⟨H1,H2⟩,eH⟩:∃t,bt (wF s) q.1.toNat [] q.2 = t:=⟨_,rfl⟩;obtain ⟨q2,eq2⟩:∃t,lM s 12 H2 = t:=⟨_,rfl⟩;obtain ⟨⟨P1,P2⟩,eP⟩:∃t,bt (NP s H1) q2.1.toNat [] q2.2 = t:=⟨_,rfl⟩
 have mb:=I (show RU s = (⟨H1,P1,t4.1,⟨t1.1,t2.1,t3.1⟩⟩,P2) by
  unfold RU Jd BR;rw [et1,et2,et3,et4,eq,eH];dsimp only
  rw [eq2,eP])
 have gH:=I (λwq hq=>Ae s (w.heap.size+1) (0,false) wq hq hs);have gL:=I (λwq hq=>Ae s (w.heap.size+1) t1.2 wq hq hs);have ja:=I (λwq hq=>Ae s (w.heap.size+1) t2.2 wq hq hs);have py:=I (λwq hq=>Ae s (w.heap.size+1) t3.2 wq hq hs);have HQ:=I (λwq hq=>Gi s (w.heap.size+1) 8 t4.2 wq hq hs);have zr:=I (λwq hq=>Gi s (w.heap.size+1) 12 H2 wq hq hs);rw [et1] at gH;rw [et2] at gL;rw [et3] at ja;rw [et4] at py;rw [eq] at HQ;rw [eq2] at zr;have Su:aR t1.1:=et1 ▸ Bj s (0,false) hs;have Sw:aR t2.1:=et2 ▸ Bj s t1.2 hs;have Sx:aR t3.1:=et3 ▸ Bj s t2.2 hs;have Ss:aR t4.1:=et4 ▸ Bj s t3.2 hs;have oT:0<=q.1/\q.1<=8:=eq ▸ xX s 8 t4.2 (by decide);have oW:0<=q2.1/\q2.1<=12:=eq2 ▸ xX s 12 H2 (by decide)
 have Eo:=I (show ∀y∈H1,U6 y by
  have h:=Gg (p:=U6) (λa=>amS s a hs) q.1.toNat [] q.2 (λl hl=>by cases hl)
  rw [eH] at h;exact h)
 have Ob:=I (show ∀y∈P1,Xl y.aS by
  have h:=Gg (r:=NP s H1) (p:=λy:ag=>Xl y.aS) (λa=>aoR s a hs) q2.1.toNat [] q2.2 (λl hl=>by cases hl)
  rw [eP] at h;exact h)
 obtain ⟨N,hN⟩:∃N:Nat,q.1 = N:=⟨q.1.toNat,J⟩;rw [hN,Int.toNat_natCast] at eH;obtain ⟨N2,BI⟩:∃N:Nat,q2.1 = N:=⟨q2.1.toNat,J⟩;rw [BI,Int.toNat_natCast] at eP;have Jq:=I eH;have BV:=I eP;have hN8:N<=8:=by omega
 have zj:N2<=12:=by omega
 have MO:=I hN;have zg:=I BI;clear et1 et2 et3 et4 eq eH eq2 eP hN BI oT oW;go_enter Tryz.func18,Tryz.ntmps18;go_wp2_with fail
 have RM:yM ((w.alloc (.cells ([.slice none 0 0,.slice none 0 0,.int .i64 0,.int .i64 0,.int .i64 0,.int .i64 0]:List Value).toArray 29)).alloc (.cells #[.string s,.int .i64 0,.bool false] 97)) (w.heap.size+1) s (0,false):=⟨⟨_,by have:=heap_alloc_new (w.alloc (.cells ([.slice none 0 0,.slice none 0 0,.int .i64 0,.int .i64 0,.int .i64 0,.int .i64 0]:List Value).toArray 29)) (.cells #[.string s,.int .i64 0,.bool false] 97);simpa using this⟩,⟨J,J⟩⟩;have KB:=oG.new ((w.alloc (.cells ([.slice none 0 0,.slice none 0 0,.int .i64 0,.int .i64 0,.int .i64 0,.int .i64 0]:List Value).toArray 29)).alloc (.cells #[.string s,.int .i64 0,.bool false] 97)) [.slice none 0 0,.slice none 0 0,.int .i64 0,.int .i64 0,.int .i64 0,.int .i64 0] 29;simp only [World.size_alloc] at KB;have KR:=oG.new w Rz 29
 have S0:lu w (((w.alloc (.cells ([.slice none 0 0,.slice none 0 0,.int .i64 0,.int .i64 0,.int .i64 0,.int .i64 0]:List Value).toArray 29)).alloc (.cells #[.string s,.int .i64 0,.bool false] 97)).alloc (.cells ([.slice none 0 0,.slice none 0 0,.int .i64 0,.int .i64 0,.int .i64 0,.int .i64 0]:List Value).toArray 29)) s (0,false) [.slice none 0 0,.slice none 0 0,.int .i64 0,.int .i64 0,.int .i64 0,.int .i64 0] :=
  ⟨RM.ext (ak (aj _) _),KB,KR.ext (ak (ak (aj _) _) _),bc⟩
 clear RM KB KR;refine (gH.out _ S0.bp).mono ?_;rintro e w1 ⟨rfl,fY,hu1⟩;have S1:=S0.call fY hu1;have k1:=S1.box.cell (i:=3) (u:=.int .i64 0) rfl;have f1:=S1.box.fz 3;have l1:=S1.box.lt;have T1:=S1.put 3 (.int .i64 t1.1);go_wp2_with fail
 refine (gL.out _ T1.bp).mono ?_;rintro e w2 ⟨rfl,dj,ca⟩;have S2:=T1.call dj ca;have k2:=S2.box.cell (i:=4) (u:=.int .i64 0) rfl;have f2:=S2.box.fz 4;have l2:=S2.box.lt;have T2:=S2.put 4 (.int .i64 t2.1);go_wp2_with fail
 refine (ja.out _ T2.bp).mono ?_;rintro e w3 ⟨rfl,TR,bJ⟩;have S3:=T2.call TR bJ;have k3:=S3.box.cell (i:=5) (u:=.int .i64 0) rfl;have f3:=S3.box.fz 5;have l3:=S3.box.lt;have T3:=S3.put 5 (.int .i64 t3.1);go_wp2_with fail
 refine (py.out _ T3.bp).mono ?_;rintro e w4 ⟨rfl,hI4,Td⟩;have S4:=T3.call hI4 Td;have k4:=S4.box.cell (i:=2) (u:=.int .i64 0) rfl;have f4:=S4.box.fz 2;have l4:=S4.box.lt;have T4:=S4.put 2 (.int .i64 t4.1);go_wp2_with fail
 refine (HQ.out _ T4.bp).mono ?_;rw [MO.out];rintro e w5 ⟨rfl,lr,hu5⟩;have S5:lu w w5 s q.2 [.slice none 0 0,.slice none 0 0,.int .i64 t4.1,.int .i64 t1.1,.int .i64 t2.1,.int .i64 t3.1]:=T4.call lr hu5;obtain ⟨B3,cT⟩:∃B3,w5.heap.size = B3:=⟨_,rfl⟩;have lh:w.heap.size+1+1 < B3:=by rw [<- cT];exact S5.box.lt
 have ix:w5.ownsRow B3 38 6 (.slice none 0 0) 0 []:=⟨rfl,.inl ⟨rfl,rfl⟩⟩;have qV:B3<=w5.heap.size:=Nat.le_of_eq cT.symm;clear cT S0 S1 T1 fY hu1 k1 f1 l1 S2 T2 dj ca k2 f2 l2 S3 T3 TR bJ k3 f3 l3 S4 T4 hI4 Td k4 f4 l4 lr hu5;go_wp2_with fail
 go_loopw [7] (λi wr=>∃(j k:Nat) (xs:List az) (ds:List Value) (F:List Nat) (a':Int × Bool) (v:Value),i = .int .i64 j/\j+k = N/\xs.length+k<=8/\Hid (bt (wF s) k xs a' = (H1,H2))/\wr.ownsRow B3 38 6 v xs.length ds/\aY wr B3 xs ds F/\(∀g,v.ownBlock = some g->g∉F)/\lu w wr s a' [v,.slice none 0 0,.int .i64 t4.1,.int .i64 t1.1,.int .i64 t2.1,.int .i64 t3.1]/\B3<=wr.heap.size) (λi _=>N - (intOf i).toNat)
 case atStart=>exact ⟨0,N,[],[],[],q.2,.slice none 0 0,rfl,J,by simpa using hN8,Jq.out,ix,aY.nil _ _,(λg hg=>by simp),S5,qV⟩
 case round =>
  obtain ⟨j,k,xs,ds,F,a',v,rfl,fe,hk8,QY,ar,bS,bN,hS,bu⟩:=hrel;obtain ⟨a',bad⟩:=a';have gg:=hS.bp.c2;have nw:=hS.bp.lt;by_cases hd:k = 0∨bad = true
  ·have bI:(xs,(a',bad)) = (H1,H2):=by
    exact Lw
   obtain ⟨rfl,rfl⟩:xs = H1/\(a',bad) = H2:=Prod.mk.inj bI;clear bI;obtain ⟨Ah,ch,Gh,rfl,Xp⟩:=ai.oJ ar bS bN;have BS:(xs.length:Int)<=1048576:=J;have Jr:∀y∈Gh,y≠w.heap.size+1:=λy hy=>by have:=Xp.base y hy;omega
   by_cases fJ:(j:Int) < (N:Int)
   ·obtain rfl:bad = true:=by rcases hd with h0 | h0 <;> first | omega | exact h0
    go_wp2_with fail
    refine (zr.out _ hS.bp).mono ?_;rw [zg.out];rintro e w6 ⟨rfl,hI6,Ze⟩;have S6:=hS.call hI6 Ze;have se:=Xp.Zg Ze J;obtain ⟨B4,lP⟩:∃B4,w6.heap.size = B4:=⟨_,rfl⟩;have zt:∀y∈Gh,y < B4:=λy hy=>lP ▸ se.lt y hy;have WV:B4<=w6.heap.size:=Nat.le_of_eq lP.symm;have j8:B3<=B4:=(by have:=Ze.size;omega);have ma:w6.ownsRow B4 48 9 (.slice none 0 0) 0 []:=⟨rfl,.inl ⟨rfl,rfl⟩⟩;clear lP hS Xp ar bS hI6 Ze bu bN QY Jq S5 ix qV gg nw;go_wp2_with fail
    go_loopw [8] (λi wr=>∃(j k:Nat) (ps:List ag) (ds:List Value) (F:List Nat) (a':Int × Bool) (v:Value),i = .int .i64 j/\j+k = N2/\ps.length+k<=12/\Hid (bt (NP s xs) k ps a' = (P1,P2))/\wr.ownsRow B4 48 9 v ps.length ds/\aY wr B4 ps ds F/\(∀g,v.ownBlock = some g->g∉F)/\ai wr B3 xs [.slice Ah xs.length ch] Gh/\lu w wr s a' [.slice Ah xs.length ch,v,.int .i64 t4.1,.int .i64 t1.1,.int .i64 t2.1,.int .i64 t3.1]/\B4<=wr.heap.size) (λi _=>N2 - (intOf i).toNat)
    case atStart=>exact ⟨0,N2,[],[],[],q2.2,.slice none 0 0,rfl,J,by simpa using zj,BV.out,ma,aY.nil _ _,(λg hg=>by simp),se,S6,WV⟩
    case round =>
     obtain ⟨j,k,ps,ds,F,a',v,rfl,fe,hk12,QY,ar,bS,bN,hO,hS,bu⟩:=hrel;obtain ⟨a',bad⟩:=a';have gg:=hS.bp.c2;have nw:=hS.bp.lt;by_cases hd:k = 0∨bad = true
     ·exact J7
     ·obtain rfl:bad = false:=by cases bad <;> first | rfl | exact absurd (.inr rfl) hd
      obtain ⟨k,rfl⟩:∃k',k = k'+1:=⟨k - 1,J⟩;have fJ:(j:Int) < (N2:Int):=J;have Zn:=I zt;have bI:=QY.out;rw [bt,if_neg (show ¬((a',false):Int × Bool).2 = true by simp)] at bI;have e0:NP s xs (a',false) = (⟨(uF s (a',false)).1,Bl xs (lM s xs.length (uF s (a',false)).2).1,(iZ s (lM s xs.length (uF s (a',false)).2).2).1⟩,(iZ s (lM s xs.length (uF s (a',false)).2).2).2):=rfl;rw [e0] at bI;dsimp only at bI;have gC:=I bI;clear bI e0;have RO:=I (λwq hq=>ahe s (w.heap.size+1) (a',false) wq hq hs);have gF:ps.length<=12:=J;obtain ⟨Av,cv,dt⟩:=rE ar;subst dt;have RS:=I (λ(wq:World) (hq:yM wq (w.heap.size+1) s (uF s (a',false)).2) (hH:Sl wq xs Ah ch Gh)=>apC s (w.heap.size+1) (uF s (a',false)).2 xs Ah ch Gh Av ps.length cv t4.1 t1.1 t2.1 t3.1 wq hq hs hH BS Jr);have HTN:=I (λwq hq=>Ae s (w.heap.size+1) (lM s xs.length (uF s (a',false)).2).2 wq hq hs);have iA:=TS Eo.out (lM s xs.length (uF s (a',false)).2).1;have eW:aR (iZ s (lM s xs.length (uF s (a',false)).2).2).1:=Bj s _ hs;generalize uF s (a',false) = y at *;generalize Bl xs (lM s xs.length y.2).1 = nm at *;generalize (lM s xs.length y.2).2 = m2 at *;generalize iZ s m2 = z at *;have Y6:=I (λg hg=>(ar.lt g hg).2);have fN:=I bS.lt;have Il:=I bN;clear bN;go_wp2_with fail
      refine (RO.out _ hS.bp).mono ?_;rintro e cB ⟨dp,Gp,rfl,OL,Lm,vM⟩;have BZ:=hS.call Lm vM;have ev:=rQ ar vM J;have KH:=bS.bE vM J;have rK:=hO.Zg vM J;have my:B4<=cB.heap.size:=Nat.le_trans bu vM.size;have zw:wr.heap.size<=cB.heap.size:=vM.size;have QS:=OL.rd;obtain ⟨dZ,eF,uU,jQ,jR,Et,dH,dI,qE,aq,hGh,Dh,qZ,IW,IX,I4,C9,oN⟩:=dL QS;subst aq;clear QS hGh;have Ow:=I OL.lt;have Qz:Below cB.heap.size cB (cB.alloc (.cells ([.string y.1.name,.slice dZ y.1.labels.length eF,.int .i64 y.1.aw,.int .i64 y.1.mem,.int .i64 y.1.av,.slice jQ y.1.af.length jR,.slice dH y.1.ae.length dI,.string ⟨#[]⟩,.int .i64 0]:List Value).toArray 48)):=ak (aj _) _;have oX:=oG.new cB [.string y.1.name,.slice dZ y.1.labels.length eF,.int .i64 y.1.aw,.int .i64 y.1.mem,.int .i64 y.1.av,.slice jQ y.1.af.length jR,.slice dH y.1.ae.length dI,.string ⟨#[]⟩,.int .i64 0] 48;have EW:=BZ.ext Qz;have oe:=mG ev Qz;have Bp:=aY.ext KH Qz;have vG:=ai.ext rK Qz;have uy:=ai.ext OL Qz;obtain ⟨b0,b1,b2,b3,b4,b5⟩:=cw EW.box;have hlq:w.heap.size+1+1 < cB.heap.size:=BZ.box.lt;clear hS ar bS hO BZ ev KH rK OL Lm vM gg nw;go_wp2_with fail
      refine (RS.out _ EW.bp vG.rd).mono ?_;rintro e jb ⟨rfl,hI12,Zh⟩;have QZ:=EW.call hI12 Zh;have uz:=oX.bE Zh J;have RV:=rQ oe Zh J;have uA:=Bp.bE Zh J;have Hc:=vG.Zg Zh J;have uB:=uy.Zg Zh J;have zx:cB.heap.size < jb.heap.size:=uz.lt;have k12:=uz.cell (i:=7) (u:=.string ⟨#[]⟩) rfl;have f12:=uz.fz 7;have Hd:=QZ.br (c:=cB.heap.size) J 7 (.string nm);have RW:=uz.put 7 (.string nm);have mF:=xw (c:=cB.heap.size) (i:=7) (u:=.string nm) RV (λg hg=>by have:=Y6.out g hg;omega);have uC:aY (jb.setCell ⟨cB.heap.size,7,none⟩ (.string nm)) B4 ps ds F:=uA.keep (λy hy=>Below.heap_setCell _ _ _ _ To) d9;have uE:ai (jb.setCell ⟨cB.heap.size,7,none⟩ (.string nm)) B3 xs [.slice Ah xs.length ch] Gh:=Hc.keep (λy hy=>Below.heap_setCell _ _ _ _ Tp) d9;have uG:ai (jb.setCell ⟨cB.heap.size,7,none⟩ (.string nm)) wr.heap.size y.1 _ Gp:=uB.keep (λy hy=>Below.heap_setCell _ _ _ _ Tq) d9;clear EW oX oe Bp vG uy hI12 Zh QZ uz RV uA Hc uB b0 b1 b2 b3 b4 b5;go_wp2_with fail
      refine (HTN.out _ Hd.bp).mono ?_;rintro e xA ⟨rfl,hI14,Yk⟩;have R0:=Hd.call hI14 Yk;have zm:=RW.bE Yk J;have R3:=rQ mF Yk J;have R4:=uC.bE Yk J;have uK:=uE.Zg Yk J;have uL:=uG.Zg Yk J;have zy:jb.heap.size<=xA.heap.size:=(by have:=Yk.size;simpa [World.setCell] using this);have k14:=zm.cell (i:=8) (u:=.int .i64 0) rfl;have f14:=zm.fz 8;have Hh:=R0.br (c:=cB.heap.size) J 8 (.int .i64 z.1);have R5:=zm.put 8 (.int .i64 z.1);have R6:=xw (c:=cB.heap.size) (i:=8) (u:=.int .i64 z.1) R3 (λg hg=>by have:=Y6.out g hg;omega);have LF:=I (show aY (xA.setCell ⟨cB.heap.size,8,none⟩ (.int .i64 z.1)) B4 ps ds F from R4.keep (λy hy=>Below.heap_setCell _ _ _ _ To) d9);have Hi:=I (show ai (xA.setCell ⟨cB.heap.size,8,none⟩ (.int .i64 z.1)) B3 xs [.slice Ah xs.length ch] Gh from uK.keep (λy hy=>Below.heap_setCell _ _ _ _ Tp) d9);have LI:=I (ai.oV (show ai (xA.setCell ⟨cB.heap.size,8,none⟩ (.int .i64 z.1)) wr.heap.size y.1 _ Gp from uL.keep (λy hy=>Below.heap_setCell _ _ _ _ Tq) d9) iA eW);have Hj:=I Hh;have Ik:=I R6;obtain ⟨c0,c1,c2,c3,c4,c5,c6,c7,c8⟩:=Ea R5;have ko:=Hh.box.cell (i:=1) (u:=.slice Av ps.length cv) rfl;clear Hd RW mF uC uE uG hI14 Yk R0 zm R3 R4 uK uL Hh R5
      go_wp2_with (
       at_builtin
       go_must (refine uf ado J' _ _ J' _ _ _ _ _ R6 J' [.string y.1.name,.slice dZ y.1.labels.length eF,.int .i64 y.1.aw,.int .i64 y.1.mem,.int .i64 y.1.av,.slice jQ y.1.af.length jR,.slice dH y.1.ae.length dI,.string nm,.int .i64 z.1] (by first | rfl | (simp [World.setCell];rfl)) J' dv J J (by simp [World.setCell];omega) ?_)
       intro v6 w16 LJ CY aaJ asr;go_must (obtain ⟨A7,c7,hv6⟩:=rE LJ)
       go_must (subst hv6)
       go_must (have zC:=Hj.out.grown CY (λq hq=>by have:=(Ik.out.lt q hq).1;omega))
       go_must (have asu:=Hi.out.aoO CY Zn.out (λq hq=>(Ik.out.lt q hq).1))
       go_must (have kx:=zC.box.cell (i:=1) (u:=.slice Av ps.length cv) rfl)
       go_must (have fx:=zC.box.fz 1)
       go_must (have lx:=zC.box.lt))
      exact LD
   ·go_wp2_with fail
    refine (zr.out _ hS.bp).mono ?_;rw [zg.out];rintro e w6 ⟨rfl,hI6,Ze⟩;have S6:=hS.call hI6 Ze;have se:=Xp.Zg Ze J;obtain ⟨B4,lP⟩:∃B4,w6.heap.size = B4:=⟨_,rfl⟩;have zt:∀y∈Gh,y < B4:=λy hy=>lP ▸ se.lt y hy;have WV:B4<=w6.heap.size:=Nat.le_of_eq lP.symm;have j8:B3<=B4:=(by have:=Ze.size;omega);have ma:w6.ownsRow B4 48 9 (.slice none 0 0) 0 []:=⟨rfl,.inl ⟨rfl,rfl⟩⟩;clear lP hS Xp ar bS hI6 Ze bu bN QY Jq S5 ix qV gg nw;go_wp2_with fail
    go_loopw [8] (λi wr=>∃(j k:Nat) (ps:List ag) (ds:List Value) (F:List Nat) (a':Int × Bool) (v:Value),i = .int .i64 j/\j+k = N2/\ps.length+k<=12/\Hid (bt (NP s xs) k ps a' = (P1,P2))/\wr.ownsRow B4 48 9 v ps.length ds/\aY wr B4 ps ds F/\(∀g,v.ownBlock = some g->g∉F)/\ai wr B3 xs [.slice Ah xs.length ch] Gh/\lu w wr s a' [.slice Ah xs.length ch,v,.int .i64 t4.1,.int .i64 t1.1,.int .i64 t2.1,.int .i64 t3.1]/\B4<=wr.heap.size) (λi _=>N2 - (intOf i).toNat)
    case atStart=>exact ⟨0,N2,[],[],[],q2.2,.slice none 0 0,rfl,J,by simpa using zj,BV.out,ma,aY.nil _ _,(λg hg=>by simp),se,S6,WV⟩
    case round =>
     obtain ⟨j,k,ps,ds,F,a',v,rfl,fe,hk12,QY,ar,bS,bN,hO,hS,bu⟩:=hrel;obtain ⟨a',bad⟩:=a';have gg:=hS.bp.c2;have nw:=hS.bp.lt;by_cases hd:k = 0∨bad = true
     ·exact J7
     ·obtain rfl:bad = false:=by cases bad <;> first | rfl | exact absurd (.inr rfl) hd
      obtain ⟨k,rfl⟩:∃k',k = k'+1:=⟨k - 1,J⟩;have fJ:(j:Int) < (N2:Int):=J;have Zn:=I zt;have bI:=QY.out;rw [bt,if_neg (show ¬((a',false):Int × Bool).2 = true by simp)] at bI;have e0:NP s xs (a',false) = (⟨(uF s (a',false)).1,Bl xs (lM s xs.length (uF s (a',false)).2).1,(iZ s (lM s xs.length (uF s (a',false)).2).2).1⟩,(iZ s (lM s xs.length (uF s (a',false)).2).2).2):=rfl;rw [e0] at bI;dsimp only at bI;have gC:=I bI;clear bI e0;have RO:=I (λwq hq=>ahe s (w.heap.size+1) (a',false) wq hq hs);have gF:ps.length<=12:=J;obtain ⟨Av,cv,dt⟩:=rE ar;subst dt;have RS:=I (λ(wq:World) (hq:yM wq (w.heap.size+1) s (uF s (a',false)).2) (hH:Sl wq xs Ah ch Gh)=>apC s (w.heap.size+1) (uF s (a',false)).2 xs Ah ch Gh Av ps.length cv t4.1 t1.1 t2.1 t3.1 wq hq hs hH BS Jr);have HTN:=I (λwq hq=>Ae s (w.heap.size+1) (lM s xs.length (uF s (a',false)).2).2 wq hq hs);have iA:=TS Eo.out (lM s xs.length (uF s (a',false)).2).1;have eW:aR (iZ s (lM s xs.length (uF s (a',false)).2).2).1:=Bj s _ hs;generalize uF s (a',false) = y at *;generalize Bl xs (lM s xs.length y.2).1 = nm at *;generalize (lM s xs.length y.2).2 = m2 at *;generalize iZ s m2 = z at *;have Y6:=I (λg hg=>(ar.lt g hg).2);have fN:=I bS.lt;have Il:=I bN;clear bN;go_wp2_with fail
      refine (RO.out _ hS.bp).mono ?_;rintro e cB ⟨dp,Gp,rfl,OL,Lm,vM⟩;have BZ:=hS.call Lm vM;have ev:=rQ ar vM J;have KH:=bS.bE vM J;have rK:=hO.Zg vM J;have my:B4<=cB.heap.size:=Nat.le_trans bu vM.size;have zw:wr.heap.size<=cB.heap.size:=vM.size;have QS:=OL.rd;obtain ⟨dZ,eF,uU,jQ,jR,Et,dH,dI,qE,aq,hGh,Dh,qZ,IW,IX,I4,C9,oN⟩:=dL QS;subst aq;clear QS hGh;have Ow:=I OL.lt;have Qz:Below cB.heap.size cB (cB.alloc (.cells ([.string y.1.name,.slice dZ y.1.labels.length eF,.int .i64 y.1.aw,.int .i64 y.1.mem,.int .i64 y.1.av,.slice jQ y.1.af.length jR,.slice dH y.1.ae.length dI,.string ⟨#[]⟩,.int .i64 0]:List Value).toArray 48)):=ak (aj _) _;have oX:=oG.new cB [.string y.1.name,.slice dZ y.1.labels.length eF,.int .i64 y.1.aw,.int .i64 y.1.mem,.int .i64 y.1.av,.slice jQ y.1.af.length jR,.slice dH y.1.ae.length dI,.string ⟨#[]⟩,.int .i64 0] 48;have EW:=BZ.ext Qz;have oe:=mG ev Qz;have Bp:=aY.ext KH Qz;have vG:=ai.ext rK Qz;have uy:=ai.ext OL Qz;obtain ⟨b0,b1,b2,b3,b4,b5⟩:=cw EW.box;have hlq:w.heap.size+1+1 < cB.heap.size:=BZ.box.lt;clear hS ar bS hO BZ ev KH rK OL Lm vM gg nw;go_wp2_with fail
      refine (RS.out _ EW.bp vG.rd).mono ?_;rintro e jb ⟨rfl,hI12,Zh⟩;have QZ:=EW.call hI12 Zh;have uz:=oX.bE Zh J;have RV:=rQ oe Zh J;have uA:=Bp.bE Zh J;have Hc:=vG.Zg Zh J;have uB:=uy.Zg Zh J;have zx:cB.heap.size < jb.heap.size:=uz.lt;have k12:=uz.cell (i:=7) (u:=.string ⟨#[]⟩) rfl;have f12:=uz.fz 7;have Hd:=QZ.br (c:=cB.heap.size) J 7 (.string nm);have RW:=uz.put 7 (.string nm);have mF:=xw (c:=cB.heap.size) (i:=7) (u:=.string nm) RV (λg hg=>by have:=Y6.out g hg;omega);have uC:aY (jb.setCell ⟨cB.heap.size,7,none⟩ (.string nm)) B4 ps ds F:=uA.keep (λy hy=>Below.heap_setCell _ _ _ _ To) d9;have uE:ai (jb.setCell ⟨cB.heap.size,7,none⟩ (.string nm)) B3 xs [.slice Ah xs.length ch] Gh:=Hc.keep (λy hy=>Below.heap_setCell _ _ _ _ Tp) d9;have uG:ai (jb.setCell ⟨cB.heap.size,7,none⟩ (.string nm)) wr.heap.size y.1 _ Gp:=uB.keep (λy hy=>Below.heap_setCell _ _ _ _ Tq) d9;clear EW oX oe Bp vG uy hI12 Zh QZ uz RV uA Hc uB b0 b1 b2 b3 b4 b5;go_wp2_with fail
      refine (HTN.out _ Hd.bp).mono ?_;rintro e xA ⟨rfl,hI14,Yk⟩;have R0:=Hd.call hI14 Yk;have zm:=RW.bE Yk J;have R3:=rQ mF Yk J;have R4:=uC.bE Yk J;have uK:=uE.Zg Yk J;have uL:=uG.Zg Yk J;have zy:jb.heap.size<=xA.heap.size:=(by have:=Yk.size;simpa [World.setCell] using this);have k14:=zm.cell (i:=8) (u:=.int .i64 0) rfl;have f14:=zm.fz 8;have Hh:=R0.br (c:=cB.heap.size) J 8 (.int .i64 z.1);have R5:=zm.put 8 (.int .i64 z.1);have R6:=xw (c:=cB.heap.size) (i:=8) (u:=.int .i64 z.1) R3 (λg hg=>by have:=Y6.out g hg;omega);have LF:=I (show aY (xA.setCell ⟨cB.heap.size,8,none⟩ (.int .i64 z.1)) B4 ps ds F from R4.keep (λy hy=>Below.heap_setCell _ _ _ _ To) d9);have Hi:=I (show ai (xA.setCell ⟨cB.heap.size,8,none⟩ (.int .i64 z.1)) B3 xs [.slice Ah xs.length ch] Gh from uK.keep (λy hy=>Below.heap_setCell _ _ _ _ Tp) d9);have LI:=I (ai.oV (show ai (xA.setCell ⟨cB.heap.size,8,none⟩ (.int .i64 z.1)) wr.heap.size y.1 _ Gp from uL.keep (λy hy=>Below.heap_setCell _ _ _ _ Tq) d9) iA eW);have Hj:=I Hh;have Ik:=I R6;obtain ⟨c0,c1,c2,c3,c4,c5,c6,c7,c8⟩:=Ea R5;have ko:=Hh.box.cell (i:=1) (u:=.slice Av ps.length cv) rfl;clear Hd RW mF uC uE uG hI14 Yk R0 zm R3 R4 uK uL Hh R5
      go_wp2_with (
       at_builtin
       go_must (refine uf ado J' _ _ J' _ _ _ _ _ R6 J' [.string y.1.name,.slice dZ y.1.labels.length eF,.int .i64 y.1.aw,.int .i64 y.1.mem,.int .i64 y.1.av,.slice jQ y.1.af.length jR,.slice dH y.1.ae.length dI,.string nm,.int .i64 z.1] (by first | rfl | (simp [World.setCell];rfl)) J' dv J J (by simp [World.setCell];omega) ?_)
       intro v6 w16 LJ CY aaJ asr;go_must (obtain ⟨A7,c7,hv6⟩:=rE LJ)
       go_must (subst hv6)
       go_must (have zC:=Hj.out.grown CY (λq hq=>by have:=(Ik.out.lt q hq).1;omega))
       go_must (have asu:=Hi.out.aoO CY Zn.out (λq hq=>(Ik.out.lt q hq).1))
       go_must (have kx:=zC.box.cell (i:=1) (u:=.slice Av ps.length cv) rfl)
       go_must (have fx:=zC.box.fz 1)
       go_must (have lx:=zC.box.lt))
      exact LD
  ·obtain rfl:bad = false:=by cases bad <;> first | rfl | exact absurd (.inr rfl) hd
   obtain ⟨k,rfl⟩:∃k',k = k'+1:=⟨k - 1,J⟩;have fJ:(j:Int) < (N:Int):=J;have bI:=QY.out;rw [bt,if_neg (show ¬((a',false):Int × Bool).2 = true by simp)] at bI;have gC:=I bI;clear bI;have HTH:=I (λwq hq=>ai3 s (w.heap.size+1) (a',false) wq hq hs);generalize wF s (a',false) = y at *;have gF:xs.length<=8:=J;obtain ⟨Av,cv,dt⟩:=rE ar;subst dt;have gT:=hS.ext (aA (aj wr));have Zl:=mG ar (aA (aj wr));have ir:aY wr.drew B3 xs ds F:=bS.keep (λy hy=>rfl) (Nat.le_refl _);have zd:B3<=wr.drew.heap.size:=bu;have x0:=gT.box.cell (i:=0) (u:=.slice Av xs.length cv) rfl;clear hS ar bS bu;go_wp2_with fail
   refine uq (λw'=>w'.cell? ⟨w.heap.size+1+1,0,none⟩ = some (.slice Av xs.length cv)) [0,1,2] [3,4,5] [6,7] U' U' H' x0 ?_;generalize wr.drew = wd at *;simp only [pick,List.getElem?_cons_succ,List.getElem?_cons_zero]
   iterate 3
    (apply dR
     case hy =>exact pN
     simp only [Act.put,pz])
   refine fE ?_;refine iK rfl (λK hK=>?_);go_simp;refine (HTH.out _ gT.bp).mono ?_;rintro e cB ⟨dh,Gh,rfl,Xp,Lm,vM⟩;have BZ:=gT.call Lm vM;have ev:=rQ Zl vM J;have KH:=ir.bE vM J;have my:B3<=cB.heap.size:=Nat.le_trans zd vM.size;have nE:=Xp.rd;obtain ⟨dZ,eF,uU,uV,uX,Xq,aq,hGh,Dh,qZ,IW,IX,abq,Qc⟩:=iy nE;subst aq;clear nE hGh;have x0':=BZ.box.cell (i:=0) (u:=.slice Av xs.length cv) rfl;have x0a:=(oG.ext BZ.box (ak (aj _) (.cells ([.string y.1.name,.slice dZ y.1.labels.length eF,.int .i64 y.1.aw,.int .i64 y.1.mem,.int .i64 y.1.slots,.slice uV y.1.aT.length uX]:List Value).toArray 38))).cell (i:=0) (u:=.slice Av xs.length cv) rfl;refine hK _ _ x0' ?_;try simp only [Act.put,pz]
   clear hK K;refine iK rfl (λK hK=>?_);go_simp;refine hK _ _ x0a ?_;try simp only [Act.put,pz]
   clear hK K;have Si:=I BZ;have pI:=I Zl;have EE:=I KH;have RT:=I ir;have qz:=I Xp;clear gT BZ Zl KH ir Xp Lm vM;refine iK rfl (λK hK=>?_);refine Yi apB _ _ J' _ _ _ _ _ ev J' [.string y.1.name,.slice dZ y.1.labels.length eF,.int .i64 y.1.aw,.int .i64 y.1.mem,.int .i64 y.1.slots,.slice uV y.1.aT.length uX] gn J' dv J J my ?_;intro v6 zu ug DV CO Uf;obtain ⟨A7,c7,hv6⟩:=rE ug;subst hv6;have EW:=Si.out.grown DV (λq hq=>by have:=(ev.lt q hq).1;omega);have kx:=EW.box.cell (i:=0) (u:=.slice Av xs.length cv) rfl;have fx:=EW.box.fz 0;have lx:=EW.box.lt;refine hK _ _ kx ?_;try simp only [Act.put,pz]
   clear hK K;refine yG ?_;go_wp2;have cU:=gC.out;obtain ⟨Fb,Jl⟩:=aY.Ii (v':=.slice A7 (xs.length+1) c7) ev EE.out bN qz.out J (λg hg=>(pI.out.lt g hg).2) (λy hy=>RT.out.lt y hy) DV Uf;have mF:=xw (c:=w.heap.size+1+1) (i:=0) (u:=.slice A7 (xs.length+1) c7) ug (λg hg=>by have:=(ug.lt g hg).1;omega);refine ⟨⟨j+1,k,xs++[y.1],_,_,y.2,.slice A7 (xs.length+1) c7,N',J,by simp;omega,I cU,CU,Fb.setCell (p:=⟨w.heap.size+1+1,0,none⟩) wZ _,Jl,EW.put 0 (.slice A7 (xs.length+1) c7),by have:=DV.size;simp only [World.setCell,Array.size_modify] at *;omega⟩,by simp [intOf];omega⟩
end Go.Proofs.YtjahcnjmjahbaaaGreat
