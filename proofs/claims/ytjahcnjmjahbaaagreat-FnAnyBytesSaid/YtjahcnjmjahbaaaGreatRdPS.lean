/- The reference's reader of pods. No condition. -/
import Derived.Test.YtjahcnjmjahbaaaGreatRdPX
namespace Go.Proofs.YtjahcnjmjahbaaaGreat
open Go.ChangeShapes Go.WideShapes Go.ChangeAt Go.RowKit
set_option linter.unusedVariables false
set_option linter.unusedSimpArgs false
set_option maxHeartbeats 8000000
set_option maxRecDepth 100000
theorem ahe (s:ByteArray) (b:Nat) (a:Int × Bool) (w:World) (h:yM w b s a) (hs:(s.size:Int)<=1048576) :
 Calls Tryz.prog 49 #[.pointer (some ⟨b,0,none⟩)] w λe w'=>∃ds F,e = .returned (.agg ds.toArray)/\ai w' w.heap.size (uF s a).1 ds F/\yM w' b s (uF s a).2/\nN [b] w w':=by
 have am:=h.lt;have H:=I h;clear h;obtain ⟨t1,et1⟩:∃t,aD s a = t:=⟨_,rfl⟩;obtain ⟨L,eL⟩:∃t,jS s t1.2 = t:=⟨_,rfl⟩;obtain ⟨c,ec⟩:∃t,iZ s L.2 = t:=⟨_,rfl⟩;obtain ⟨m,em⟩:∃t,iZ s c.2 = t:=⟨_,rfl⟩;obtain ⟨o,eo⟩:∃t,iZ s m.2 = t:=⟨_,rfl⟩;obtain ⟨q,eq⟩:∃t,lM s 4 o.2 = t:=⟨_,rfl⟩;obtain ⟨⟨R1,R2⟩,eR⟩:∃t,bt (RN s) q.1.toNat [] q.2 = t:=⟨_,rfl⟩;obtain ⟨q2,eq2⟩:∃t,lM s 4 R2 = t:=⟨_,rfl⟩;obtain ⟨⟨T1,T2⟩,eT⟩:∃t,bt (pv s) q2.1.toNat [] q2.2 = t:=⟨_,rfl⟩
 have mb:=I (show uF s a = (⟨t1.1,L.1,c.1,m.1,o.1,R1,T1⟩,T2) by
  unfold uF Yf BR;rw [et1,eL,ec,em,eo,eq,eR];dsimp only
  rw [eq2,eT])
 have HT:=I (λwq hq=>DJ s b a wq hq hs);have HL:=I (λwq hq=>Yc s b t1.2 wq hq hs);have HC:=I (λwq hq=>Ae s b L.2 wq hq hs);have HM:=I (λwq hq=>Ae s b c.2 wq hq hs);have HO:=I (λwq hq=>Ae s b m.2 wq hq hs);have HN:=I (λwq hq=>Gi s b 4 o.2 wq hq hs);have Gn:=I (λwq hq=>Gi s b 4 R2 wq hq hs);rw [et1] at HT;rw [eL] at HL;rw [ec] at HC;rw [em] at HM;rw [eo] at HO;rw [eq] at HN;rw [eq2] at Gn;have dr:(t1.1.size:Int)<=1048576:=et1 ▸ nG s a hs;have qg:L.1.length<=6:=eL ▸ BP s t1.2;have cP:=I (show ∀l∈L.1,(l.key.size:Int)<=1048576/\(l.value.size:Int)<=1048576 from eL ▸ Ej s t1.2 hs);have ee:aR c.1:=ec ▸ Bj s L.2 hs;have Mb:aR m.1:=em ▸ Bj s c.2 hs;have Me:aR o.1:=eo ▸ Bj s m.2 hs;have oT:0<=q.1/\q.1<=4:=eq ▸ xX s 4 o.2 (by decide);have oW:0<=q2.1/\q2.1<=4:=eq2 ▸ xX s 4 R2 (by decide)
 have HSN:=I (show ∀l∈R1,VX l by
  have h:=Gg (λa=>Ye s a hs) q.1.toNat [] q.2 (λl hl=>by cases hl)
  rw [eR] at h;exact h)
 have HST:=I (show ∀l∈T1,VY l by
  have h:=Gg (λa=>aaW s a hs) q2.1.toNat [] q2.2 (λl hl=>by cases hl)
  rw [eT] at h;exact h)
 obtain ⟨N,hN⟩:∃N:Nat,q.1 = N:=⟨q.1.toNat,J⟩;rw [hN,Int.toNat_natCast] at eR;obtain ⟨N2,BI⟩:∃N:Nat,q2.1 = N:=⟨q2.1.toNat,J⟩;rw [BI,Int.toNat_natCast] at eT;have nz:=I eR;have vA:=I eT;have GG:N<=4:=by omega
 have zf:N2<=4:=by omega
 have MO:=I hN;have zg:=I BI;generalize uF s a = HW at mb |-;clear et1 eL ec em eo eq eR eq2 eT hN BI oT oW;go_enter Tryz.func49,Tryz.ntmps49;go_wp2_with fail
 refine (HT.out _ (H.out.ext (ak (aj _) _))).mono ?_;rintro e w1 ⟨rfl,fY,hu1⟩;have cG:w.heap.size < w1.heap.size:=by have:=hu1.size;simp at this;omega
 have uk:=(oG.new w [.string ⟨#[]⟩,.slice none 0 0,.int .i64 0,.int .i64 0,.int .i64 0,.slice none 0 0,.slice none 0 0] 46).bE hu1 J;have GH:nN [b] w w1:=((nN.refl _ _).alloc _).trans hu1
 have S1:iB [.string ⟨#[]⟩,.slice none 0 0,.int .i64 0,.int .i64 0,.int .i64 0,.slice none 0 0,.slice none 0 0] w (w1.alloc (.cells #[.string t1.1,.slice none 0 0,.int .i64 0,.int .i64 0,.int .i64 0,.slice none 0 0,.slice none 0 0] 46)) b w1.heap.size s t1.2 [.string t1.1,.slice none 0 0,.int .i64 0,.int .i64 0,.int .i64 0,.slice none 0 0,.slice none 0 0] :=
  ⟨fY.ext (ak (aj _) _),GH.alloc _,oG.new w1 [.string t1.1,.slice none 0 0,.int .i64 0,.int .i64 0,.int .i64 0,.slice none 0 0,.slice none 0 0] 46,uk.ext (ak (aj _) _),am,cG⟩
 clear fY hu1 uk;go_wp2_with fail
 refine (HL.out _ S1.bp).mono ?_;rintro e w2 ⟨A2,c2,G2,rfl,bA,dj,ca⟩;have S2:=S1.call dj ca;clear dj;replace bA:ai w2 (w1.heap.size+1) L.1 [.slice A2 L.1.length c2] G2:=bA.mono S';have uO:=bA.base;have k2:=S2.box.cell (i:=1) (u:=.slice none 0 0) rfl;have f2:=S2.box.fz 1;have l2:=S2.box.lt;have GM:=S2.put 1 (.slice A2 L.1.length c2);have O2:=bA.setCell (p:=⟨w1.heap.size,1,none⟩) kI (.slice A2 L.1.length c2);go_wp2_with fail
 refine (HC.out _ GM.bp).mono ?_;rintro e w3 ⟨rfl,TR,bJ⟩;have S3:=GM.call TR bJ;have O3:=bJ.own O2 (λy hy hb=>by have:=uO y hy;simp only [List.mem_singleton] at hb;omega);have k3:=S3.box.cell (i:=2) (u:=.int .i64 0) rfl;have f3:=S3.box.fz 2;have l3:=S3.box.lt;have GO:=S3.put 2 (.int .i64 c.1);have P3:=O3.setCell (p:=⟨w1.heap.size,2,none⟩) kI (.int .i64 c.1);go_wp2_with fail
 refine (HM.out _ GO.bp).mono ?_;rintro e w4 ⟨rfl,hI4,Td⟩;have S4:=GO.call hI4 Td;have O4:=Td.own P3 (λy hy hb=>by have:=uO y hy;simp only [List.mem_singleton] at hb;omega);have k4:=S4.box.cell (i:=3) (u:=.int .i64 0) rfl;have f4:=S4.box.fz 3;have l4:=S4.box.lt;have GP:=S4.put 3 (.int .i64 m.1);have P4:=O4.setCell (p:=⟨w1.heap.size,3,none⟩) kI (.int .i64 m.1);go_wp2_with fail
 refine (HO.out _ GP.bp).mono ?_;rintro e w5 ⟨rfl,lr,hu5⟩;have S5:=GP.call lr hu5;have O5:=hu5.own P4 (λy hy hb=>by have:=uO y hy;simp only [List.mem_singleton] at hb;omega);have k5:=S5.box.cell (i:=4) (u:=.int .i64 0) rfl;have f5:=S5.box.fz 4;have l5:=S5.box.lt;have GQ:=S5.put 4 (.int .i64 o.1);have P5:=O5.setCell (p:=⟨w1.heap.size,4,none⟩) kI (.int .i64 o.1);go_wp2_with fail
 refine (HN.out _ GQ.bp).mono ?_;rw [MO.out];rintro e w6 ⟨rfl,hI6,Ze⟩;have S6:=GQ.call hI6 Ze;have O6:=Ze.own P5 (λy hy hb=>by have:=uO y hy;simp only [List.mem_singleton] at hb;omega);have Iw:=O6.lt;obtain ⟨B3,cT⟩:∃B3,w6.heap.size = B3:=⟨_,rfl⟩;have lh:w1.heap.size < B3:=by rw [<- cT];exact S6.box.lt
 rw [cT] at Iw;have ma:w6.ownsRow B3 89 3 (.slice none 0 0) 0 []:=⟨rfl,.inl ⟨rfl,rfl⟩⟩;have lE:=I cT;have yL:=I O6;have ce:b < B3:=by omega
 clear cT O6 S1 S2 S3 S4 S5 GM GO GP GQ bA O2 O3 P3 O4 P4 O5 P5 TR bJ hI4 Td lr hu5 hI6 Ze ca k2 f2 l2 k3 f3 l3 k4 f4 l4 k5 f5 l5;go_wp2_with fail
 go_loopw [5] (λi wr=>∃(j k:Nat) (xs:List aE) (ds:List Value) (F:List Nat) (a':Int × Bool) (v:Value),i = .int .i64 j/\j+k = N/\xs.length+k<=4/\Hid (bt (RN s) k xs a' = (R1,R2))/\wr.ownsRow B3 89 3 v xs.length ds/\aY wr B3 xs ds F/\(∀g,v.ownBlock = some g->g∉F)/\iB [.string ⟨#[]⟩,.slice none 0 0,.int .i64 0,.int .i64 0,.int .i64 0,.slice none 0 0,.slice none 0 0] w wr b w1.heap.size s a' [.string t1.1,.slice A2 L.1.length c2,.int .i64 c.1,.int .i64 m.1,.int .i64 o.1,v,.slice none 0 0]/\nN [b,w1.heap.size] w6 wr/\B3<=wr.heap.size) (λi _=>N - (intOf i).toNat)
 case atStart=>exact ⟨0,N,[],[],[],q.2,.slice none 0 0,rfl,J,by simpa using GG,nz.out,ma,aY.nil _ _,(λg hg=>by simp),S6,nN.refl _ _,by have:=lE.out;omega⟩
 case round =>
  obtain ⟨j,k,xs,ds,F,a',v,rfl,fe,hk4,QY,ar,bS,bN,hS,hU,bu⟩:=hrel;obtain ⟨a',bad⟩:=a';have gg:=hS.bp.c2;have nw:=hS.bp.lt;by_cases hd:k = 0∨bad = true
  ·have bI:(xs,(a',bad)) = (R1,R2):=by
    exact Lw
   obtain ⟨rfl,rfl⟩:xs = R1/\(a',bad) = R2:=Prod.mk.inj bI;clear bI;obtain ⟨A6,c6,G6,hv6,nU⟩:=ai.oJ ar bS bN;subst hv6;have rc:=hU.own yL.out (λy hy hb=>by have:=uO y hy;simp only [List.mem_cons,List.not_mem_nil,or_false] at hb;omega);obtain ⟨wo,hwo⟩:∃wo,wo = wr:=⟨_,rfl⟩;subst hwo;have gg:=hS.bp.c2;have nw:=hS.bp.lt;clear ar bS bN hU yL;by_cases fJ:(j:Int) < (N:Int)
   ·obtain rfl:bad = true:=by rcases hd with h0 | h0 <;> first | omega | exact h0
    go_wp2_with fail
    refine (Gn.out _ hS.bp).mono ?_;rw [zg.out];rintro e px ⟨rfl,amM,Yh⟩;have RC:=hS.call amM Yh;have SA:=I (Yh.own rc (λy hy hb=>by have:=uO y hy;simp only [List.mem_singleton] at hb;omega));have si:=I (Yh.own nU (λy hy hb=>by have:=nU.base y hy;simp only [List.mem_singleton] at hb;omega));have al0:wo.heap.size<=px.heap.size:=Yh.size;obtain ⟨B7,WE⟩:∃B7,px.heap.size = B7:=⟨_,rfl⟩;have uo:px.ownsRow B7 91 4 (.slice none 0 0) 0 []:=⟨rfl,.inl ⟨rfl,rfl⟩⟩;have RE:B3<=B7:=J;have va:=I WE;have Ua:w1.heap.size < B7:=J;clear WE rc nU amM Yh hS;go_wp2_with fail
    go_loopw [9] (λi wr=>∃(j k:Nat) (ys:List bH) (ds:List Value) (a3:Int × Bool) (v:Value),i = .int .i64 j/\j+k = N2/\ys.length+k<=4/\Hid (bt (pv s) k ys a3 = (T1,T2))/\wr.ownsRow B7 91 4 v ys.length ds/\aY wr B7 ys ds []/\iB [.string ⟨#[]⟩,.slice none 0 0,.int .i64 0,.int .i64 0,.int .i64 0,.slice none 0 0,.slice none 0 0] w wr b w1.heap.size s a3 [.string t1.1,.slice A2 L.1.length c2,.int .i64 c.1,.int .i64 m.1,.int .i64 o.1,.slice A6 xs.length c6,v]/\nN [b,w1.heap.size] px wr/\B7<=wr.heap.size) (λi _=>N2 - (intOf i).toNat)
    case atStart=>exact ⟨0,N2,[],[],q2.2,.slice none 0 0,rfl,J,by simpa using zf,vA.out,uo,aY.nil _ _,RC,nN.refl _ _,by have:=va.out;omega⟩
    case round =>
     obtain ⟨j,k,ys,ds,a3,v,rfl,fe,hk4,QY,ar,bS,hS,hU,bu⟩:=hrel;obtain ⟨a3,bad⟩:=a3;have gg:=hS.bp.c2;have nw:=hS.bp.lt;by_cases hd:k = 0∨bad = true
     ·exact Kx
     ·obtain rfl:bad = false:=by cases bad <;> first | rfl | exact absurd (.inr rfl) hd
      obtain ⟨k,rfl⟩:∃k',k = k'+1:=⟨k - 1,J⟩;have fJ:(j:Int) < (N2:Int):=J;have bI:=QY.out;rw [bt,if_neg (show ¬((a3,false):Int × Bool).2 = true by simp)] at bI;have gC:=I bI;clear bI;obtain ⟨y1,ey1⟩:∃t,aD s (a3,false) = t:=⟨_,rfl⟩;obtain ⟨y2,ey2⟩:∃t,lM s 1 y1.2 = t:=⟨_,rfl⟩;obtain ⟨y3,ey3⟩:∃t,aD s y2.2 = t:=⟨_,rfl⟩;obtain ⟨y4,ey4⟩:∃t,iZ s y3.2 = t:=⟨_,rfl⟩
      have HE:=I (show pv s (a3,false) = (⟨y1.1,y2.1 == 1,y3.1,y4.1⟩,y4.2) by
       unfold pv
       rw [ey1,ey2,ey3,ey4])
      have gH:=I (λwq hq=>DJ s b (a3,false) wq hq hs);have gL:=I (λwq hq=>Gi s b 1 y1.2 wq hq hs);have ja:=I (λwq hq=>DJ s b y2.2 wq hq hs);have py:=I (λwq hq=>Ae s b y3.2 wq hq hs);rw [ey1] at gH;rw [ey2] at gL;rw [ey3] at ja;rw [ey4] at py;have ym:(y1.1.size:Int)<=1048576:=ey1 ▸ nG s (a3,false) hs;have zv:(y3.1.size:Int)<=1048576:=ey3 ▸ nG s y2.2 hs;have vQ:aR y4.1:=ey4 ▸ Bj s y3.2 hs;clear ey1 ey2 ey3 ey4;obtain ⟨wo,hwo⟩:∃wo,wo = wr:=⟨_,rfl⟩;subst hwo;go_wp2_with fail
      refine (gH.out _ hS.bp).mono ?_;rintro e w7 ⟨rfl,hI7,WL⟩;have S7:=(hS.call hI7 WL).alloc (.cells ([.string y1.1,.bool false,.string ⟨#[]⟩,.int .i64 0]:List Value).toArray 91);have U7:nN [b] wo (w7.alloc (.cells ([.string y1.1,.bool false,.string ⟨#[]⟩,.int .i64 0]:List Value).toArray 91)):=WL.alloc _;have z7:wo.heap.size<=w7.heap.size:=WL.size;go_wp2_with fail
      refine (gL.out _ S7.bp).mono ?_;rintro e w8 ⟨rfl,hI8,Ub⟩;have X8:=(oG.new w7 [.string y1.1,.bool false,.string ⟨#[]⟩,.int .i64 0] 91).bE Ub J;have S8:=(S7.call hI8 Ub).br (c:=w7.heap.size) J 1 (.bool (y2.1 == 1));have U8:=(U7.trans Ub).xZ (p:=⟨w7.heap.size,1,none⟩) bv (.bool (y2.1 == 1));have k8:=X8.cell (i:=1) (u:=.bool false) rfl;have f8:=X8.fz 1;have l8:=X8.lt;have Y8:=X8.put 1 (.bool (y2.1 == 1));go_wp2_with fail
      refine (ja.out _ S8.bp).mono ?_;rintro e w9 ⟨rfl,hI9,Xb⟩;have X9:=Y8.bE Xb J;have S9:=(S8.call hI9 Xb).br (c:=w7.heap.size) J 2 (.string y3.1);have U9:=(U8.trans Xb).xZ (p:=⟨w7.heap.size,2,none⟩) bv (.string y3.1);have k9:=X9.cell (i:=2) (u:=.string ⟨#[]⟩) rfl;have f9:=X9.fz 2;have l9:=X9.lt;have Y9:=X9.put 2 (.string y3.1);go_wp2_with fail
      refine (py.out _ S9.bp).mono ?_;rintro e cB ⟨rfl,Lm,vM⟩;have gS:=Y9.bE vM J;have BZ:=(S9.call Lm vM).br (c:=w7.heap.size) J 3 (.int .i64 y4.1);have jN:=(U9.trans vM).xZ (p:=⟨w7.heap.size,3,none⟩) bv (.int .i64 y4.1);have k10:=gS.cell (i:=3) (u:=.int .i64 0) rfl;have f10:=gS.fz 3;have l10:=gS.lt;have Bn:=gS.put 3 (.int .i64 y4.1);have ev:=rQ ar jN (by omega:b < B7);have zO:wo.heap.size<=(cB.setCell ⟨w7.heap.size,3,none⟩ (.int .i64 y4.1)).heap.size:=jN.size;have my:B7<=(cB.setCell ⟨w7.heap.size,3,none⟩ (.int .i64 y4.1)).heap.size:=Nat.le_trans bu jN.size;have gF:ys.length<=4:=J;have kb:=BZ.box.cell (i:=6) (u:=v) rfl;have lb:=BZ.box.lt;obtain ⟨x0,x1,x2,x3⟩:=Xo Bn;have Si:=I BZ;have zD:=I (hU.trans (jN.mono (G:=[b,w1.heap.size]) (λy hy=>by simp only [List.mem_singleton] at hy;subst hy;simp)));clear hS ar hU S7 S8 S9 BZ U7 U8 U9 jN X8 Y8 X9 Y9 gS Bn hI7 WL hI8 Ub hI9 Xb Lm vM k8 f8 k9 f9
      go_wp2_with (
       at_builtin
       go_must (refine lC aoI J' _ _ J' _ _ _ _ _ ev J' [.string y1.1,.bool (y2.1 == 1),.string y3.1,.int .i64 y4.1] gn J' dv J J my ?_)
       intro v6 jb zl IJ Jp;go_must (obtain ⟨A7,c7,hv6⟩:=rE zl)
       go_must (subst hv6)
       go_must (have QZ:=Si.out.grown IJ (λq hq=>by have:=(ev.lt q hq).1;omega))
       go_must (have ur:=QZ.box.cell (i:=6) (u:=v) rfl)
       go_must (have ut:=QZ.box.fz 6)
       go_must (have uu:=QZ.box.lt))
      exact LL
   ·go_wp2_with fail
    refine (Gn.out _ hS.bp).mono ?_;rw [zg.out];rintro e px ⟨rfl,amM,Yh⟩;have RC:=hS.call amM Yh;have SA:=I (Yh.own rc (λy hy hb=>by have:=uO y hy;simp only [List.mem_singleton] at hb;omega));have si:=I (Yh.own nU (λy hy hb=>by have:=nU.base y hy;simp only [List.mem_singleton] at hb;omega));have al0:wo.heap.size<=px.heap.size:=Yh.size;obtain ⟨B7,WE⟩:∃B7,px.heap.size = B7:=⟨_,rfl⟩;have uo:px.ownsRow B7 91 4 (.slice none 0 0) 0 []:=⟨rfl,.inl ⟨rfl,rfl⟩⟩;have RE:B3<=B7:=J;have va:=I WE;have Ua:w1.heap.size < B7:=J;clear WE rc nU amM Yh hS;go_wp2_with fail
    go_loopw [9] (λi wr=>∃(j k:Nat) (ys:List bH) (ds:List Value) (a3:Int × Bool) (v:Value),i = .int .i64 j/\j+k = N2/\ys.length+k<=4/\Hid (bt (pv s) k ys a3 = (T1,T2))/\wr.ownsRow B7 91 4 v ys.length ds/\aY wr B7 ys ds []/\iB [.string ⟨#[]⟩,.slice none 0 0,.int .i64 0,.int .i64 0,.int .i64 0,.slice none 0 0,.slice none 0 0] w wr b w1.heap.size s a3 [.string t1.1,.slice A2 L.1.length c2,.int .i64 c.1,.int .i64 m.1,.int .i64 o.1,.slice A6 xs.length c6,v]/\nN [b,w1.heap.size] px wr/\B7<=wr.heap.size) (λi _=>N2 - (intOf i).toNat)
    case atStart=>exact ⟨0,N2,[],[],q2.2,.slice none 0 0,rfl,J,by simpa using zf,vA.out,uo,aY.nil _ _,RC,nN.refl _ _,by have:=va.out;omega⟩
    case round =>
     obtain ⟨j,k,ys,ds,a3,v,rfl,fe,hk4,QY,ar,bS,hS,hU,bu⟩:=hrel;obtain ⟨a3,bad⟩:=a3;have gg:=hS.bp.c2;have nw:=hS.bp.lt;by_cases hd:k = 0∨bad = true
     ·exact Kx
     ·obtain rfl:bad = false:=by cases bad <;> first | rfl | exact absurd (.inr rfl) hd
      obtain ⟨k,rfl⟩:∃k',k = k'+1:=⟨k - 1,J⟩;have fJ:(j:Int) < (N2:Int):=J;have bI:=QY.out;rw [bt,if_neg (show ¬((a3,false):Int × Bool).2 = true by simp)] at bI;have gC:=I bI;clear bI;obtain ⟨y1,ey1⟩:∃t,aD s (a3,false) = t:=⟨_,rfl⟩;obtain ⟨y2,ey2⟩:∃t,lM s 1 y1.2 = t:=⟨_,rfl⟩;obtain ⟨y3,ey3⟩:∃t,aD s y2.2 = t:=⟨_,rfl⟩;obtain ⟨y4,ey4⟩:∃t,iZ s y3.2 = t:=⟨_,rfl⟩
      have HE:=I (show pv s (a3,false) = (⟨y1.1,y2.1 == 1,y3.1,y4.1⟩,y4.2) by
       unfold pv
       rw [ey1,ey2,ey3,ey4])
      have gH:=I (λwq hq=>DJ s b (a3,false) wq hq hs);have gL:=I (λwq hq=>Gi s b 1 y1.2 wq hq hs);have ja:=I (λwq hq=>DJ s b y2.2 wq hq hs);have py:=I (λwq hq=>Ae s b y3.2 wq hq hs);rw [ey1] at gH;rw [ey2] at gL;rw [ey3] at ja;rw [ey4] at py;have ym:(y1.1.size:Int)<=1048576:=ey1 ▸ nG s (a3,false) hs;have zv:(y3.1.size:Int)<=1048576:=ey3 ▸ nG s y2.2 hs;have vQ:aR y4.1:=ey4 ▸ Bj s y3.2 hs;clear ey1 ey2 ey3 ey4;obtain ⟨wo,hwo⟩:∃wo,wo = wr:=⟨_,rfl⟩;subst hwo;go_wp2_with fail
      refine (gH.out _ hS.bp).mono ?_;rintro e w7 ⟨rfl,hI7,WL⟩;have S7:=(hS.call hI7 WL).alloc (.cells ([.string y1.1,.bool false,.string ⟨#[]⟩,.int .i64 0]:List Value).toArray 91);have U7:nN [b] wo (w7.alloc (.cells ([.string y1.1,.bool false,.string ⟨#[]⟩,.int .i64 0]:List Value).toArray 91)):=WL.alloc _;have z7:wo.heap.size<=w7.heap.size:=WL.size;go_wp2_with fail
      refine (gL.out _ S7.bp).mono ?_;rintro e w8 ⟨rfl,hI8,Ub⟩;have X8:=(oG.new w7 [.string y1.1,.bool false,.string ⟨#[]⟩,.int .i64 0] 91).bE Ub J;have S8:=(S7.call hI8 Ub).br (c:=w7.heap.size) J 1 (.bool (y2.1 == 1));have U8:=(U7.trans Ub).xZ (p:=⟨w7.heap.size,1,none⟩) bv (.bool (y2.1 == 1));have k8:=X8.cell (i:=1) (u:=.bool false) rfl;have f8:=X8.fz 1;have l8:=X8.lt;have Y8:=X8.put 1 (.bool (y2.1 == 1));go_wp2_with fail
      refine (ja.out _ S8.bp).mono ?_;rintro e w9 ⟨rfl,hI9,Xb⟩;have X9:=Y8.bE Xb J;have S9:=(S8.call hI9 Xb).br (c:=w7.heap.size) J 2 (.string y3.1);have U9:=(U8.trans Xb).xZ (p:=⟨w7.heap.size,2,none⟩) bv (.string y3.1);have k9:=X9.cell (i:=2) (u:=.string ⟨#[]⟩) rfl;have f9:=X9.fz 2;have l9:=X9.lt;have Y9:=X9.put 2 (.string y3.1);go_wp2_with fail
      refine (py.out _ S9.bp).mono ?_;rintro e cB ⟨rfl,Lm,vM⟩;have gS:=Y9.bE vM J;have BZ:=(S9.call Lm vM).br (c:=w7.heap.size) J 3 (.int .i64 y4.1);have jN:=(U9.trans vM).xZ (p:=⟨w7.heap.size,3,none⟩) bv (.int .i64 y4.1);have k10:=gS.cell (i:=3) (u:=.int .i64 0) rfl;have f10:=gS.fz 3;have l10:=gS.lt;have Bn:=gS.put 3 (.int .i64 y4.1);have ev:=rQ ar jN (by omega:b < B7);have zO:wo.heap.size<=(cB.setCell ⟨w7.heap.size,3,none⟩ (.int .i64 y4.1)).heap.size:=jN.size;have my:B7<=(cB.setCell ⟨w7.heap.size,3,none⟩ (.int .i64 y4.1)).heap.size:=Nat.le_trans bu jN.size;have gF:ys.length<=4:=J;have kb:=BZ.box.cell (i:=6) (u:=v) rfl;have lb:=BZ.box.lt;obtain ⟨x0,x1,x2,x3⟩:=Xo Bn;have Si:=I BZ;have zD:=I (hU.trans (jN.mono (G:=[b,w1.heap.size]) (λy hy=>by simp only [List.mem_singleton] at hy;subst hy;simp)));clear hS ar hU S7 S8 S9 BZ U7 U8 U9 jN X8 Y8 X9 Y9 gS Bn hI7 WL hI8 Ub hI9 Xb Lm vM k8 f8 k9 f9
      go_wp2_with (
       at_builtin
       go_must (refine lC aoI J' _ _ J' _ _ _ _ _ ev J' [.string y1.1,.bool (y2.1 == 1),.string y3.1,.int .i64 y4.1] gn J' dv J J my ?_)
       intro v6 jb zl IJ Jp;go_must (obtain ⟨A7,c7,hv6⟩:=rE zl)
       go_must (subst hv6)
       go_must (have QZ:=Si.out.grown IJ (λq hq=>by have:=(ev.lt q hq).1;omega))
       go_must (have ur:=QZ.box.cell (i:=6) (u:=v) rfl)
       go_must (have ut:=QZ.box.fz 6)
       go_must (have uu:=QZ.box.lt))
      exact LL
  ·obtain rfl:bad = false:=by cases bad <;> first | rfl | exact absurd (.inr rfl) hd
   obtain ⟨k,rfl⟩:∃k',k = k'+1:=⟨k - 1,J⟩;have fJ:(j:Int) < (N:Int):=J;have bI:=QY.out;rw [bt,if_neg (show ¬((a',false):Int × Bool).2 = true by simp)] at bI;have gC:=I bI;clear bI;obtain ⟨y1,ey1⟩:∃t,aD s (a',false) = t:=⟨_,rfl⟩;obtain ⟨y2,ey2⟩:∃t,iZ s y1.2 = t:=⟨_,rfl⟩;obtain ⟨q3,eq3⟩:∃t,lM s 4 y2.2 = t:=⟨_,rfl⟩;obtain ⟨⟨V1,V2⟩,eV⟩:∃t,bt (aD s) q3.1.toNat [] q3.2 = t:=⟨_,rfl⟩
   have HE:=I (show RN s (a',false) = (⟨y1.1,y2.1,(V1,V2).1⟩,(V1,V2).2) by
    unfold RN BR
    rw [ey1,ey2,eq3,eV])
   have gH:=I (λwq hq=>DJ s b (a',false) wq hq hs);have gL:=I (λwq hq=>Ae s b y1.2 wq hq hs);have ja:=I (λwq hq=>Gi s b 4 y2.2 wq hq hs);rw [ey1] at gH;rw [ey2] at gL;rw [eq3] at ja;have ym:(y1.1.size:Int)<=1048576:=ey1 ▸ nG s (a',false) hs;have Sq:aR y2.1:=ey2 ▸ Bj s y1.2 hs;have GV:0<=q3.1/\q3.1<=4:=eq3 ▸ xX s 4 y2.2 (by decide);obtain ⟨M,hM⟩:∃M:Nat,q3.1 = M:=⟨q3.1.toNat,J⟩;rw [hM,Int.toNat_natCast] at eV;have Pq:=I eV;have hM4:M<=4:=J;have HMM:=I hM;clear ey1 ey2 eq3 eV hM GV;obtain ⟨wo,hwo⟩:∃wo,wo = wr:=⟨_,rfl⟩;subst hwo;go_wp2_with fail
   refine (gH.out _ hS.bp).mono ?_;rintro e w7 ⟨rfl,hI7,WL⟩;have S7:=(hS.call hI7 WL).alloc (.cells ([.string y1.1,.int .i64 0,.slice none 0 0]:List Value).toArray 89);have U7:nN [b] wo (w7.alloc (.cells ([.string y1.1,.int .i64 0,.slice none 0 0]:List Value).toArray 89)):=WL.alloc _;have z7:wo.heap.size<=w7.heap.size:=WL.size;go_wp2_with fail
   refine (gL.out _ S7.bp).mono ?_;rintro e w8 ⟨rfl,hI8,Ub⟩;have X8:=(oG.new w7 [.string y1.1,.int .i64 0,.slice none 0 0] 89).bE Ub J;have S8:=(S7.call hI8 Ub).br (c:=w7.heap.size) J 1 (.int .i64 y2.1);have U8:=(U7.trans Ub).xZ (p:=⟨w7.heap.size,1,none⟩) bv (.int .i64 y2.1);have k8:=X8.cell (i:=1) (u:=.int .i64 0) rfl;have f8:=X8.fz 1;have l8:=X8.lt;have Y8:=X8.put 1 (.int .i64 y2.1);go_wp2_with fail
   refine (ja.out _ S8.bp).mono ?_;rw [HMM.out];rintro e w9 ⟨rfl,hI9,Xb⟩;have X9:=Y8.bE Xb J;have S9:=S8.call hI9 Xb;have U9:=U8.trans Xb;obtain ⟨B5,Dc⟩:∃B5,w9.heap.size = B5:=⟨_,rfl⟩;have aaA:w7.heap.size < B5:=(by rw [<- Dc];exact X9.lt);have hr9:w9.ownsRow B5 9 1 (.slice none 0 0) 0 []:=⟨rfl,.inl ⟨rfl,rfl⟩⟩;have Bk:=I Dc;clear Dc hS S7 S8 U7 U8 X8 Y8 hI7 WL hI8 Ub hI9 Xb k8 f8 l8;go_wp2_with fail
   go_loopw [8] (λn2 wr=>∃(j2 k2:Nat) (vs:List ByteArray) (es:List Value) (a2:Int × Bool) (v2:Value),n2 = .int .i64 j2/\j2+k2 = M/\vs.length+k2<=4/\Hid (bt (aD s) k2 vs a2 = (V1,V2))/\wr.ownsRow B5 9 1 v2 vs.length es/\aY wr B5 vs es []/\iB [.string ⟨#[]⟩,.slice none 0 0,.int .i64 0,.int .i64 0,.int .i64 0,.slice none 0 0,.slice none 0 0] w wr b w1.heap.size s a2 [.string t1.1,.slice A2 L.1.length c2,.int .i64 c.1,.int .i64 m.1,.int .i64 o.1,v,.slice none 0 0]/\oG wr w7.heap.size [.string y1.1,.int .i64 y2.1,v2]/\nN [b] wo wr/\B5<=wr.heap.size) (λn2 _=>M - (intOf n2).toNat)
   case atStart=>exact ⟨0,M,[],[],q3.2,.slice none 0 0,rfl,J,by simpa using hM4,Pq.out,hr9,aY.nil _ _,S9,X9,U9,by have:=Bk.out;omega⟩
   case round =>
    obtain ⟨j2,k2,vs,es,a2,v2,rfl,n9,Im,HLV,bR,fw,hS,hX,l6,hBr2⟩:=hrel;obtain ⟨a2,bad⟩:=a2;have gg:=hS.bp.c2;have nw:=hS.bp.lt;by_cases hd:k2 = 0∨bad = true
    ·have bI:(vs,(a2,bad)) = (V1,V2):=by
      have:=HLV.out;rcases hd with rfl | rfl
      ·rw [bt] at this;exact this
      ·cases k2 with
       | zero=>rw [bt] at this;exact this
       | succ k9=>rw [bt,if_pos rfl] at this;exact this
     obtain ⟨rfl,rfl⟩:vs = V1/\(a2,bad) = V2:=Prod.mk.inj bI;clear bI;obtain ⟨A9,c9,G9,dt,hOV⟩:=ai.oJ bR fw (λ_ _ hb=>by cases hb);subst dt
     have si:=I (show ai wr B5 (⟨y1.1,y2.1,vs⟩:aE) [.string y1.1,.int .i64 y2.1,.slice A9 vs.length c9] G9 by
      refine ai.up (B':=B5) (λx:aE=>(x.key,x.op,x.values)) ?_ (Nat.le_refl _);refine ai.cons (c1:=[.string y1.1]) (rdStr _ y1.1 J) ?_;refine ai.cons (c1:=[.int .i64 y2.1]) (jL _ y2.1 Sq) ?_
      exact hOV)
     have rN:=rQ ar l6 ce;have pI:=I ar;have VK:=I (bS.bE l6 ce);have CS:=I (hU.trans (l6.mono (G:=[b,w1.heap.size]) (λy hy=>by simp only [List.mem_singleton] at hy;subst hy;simp)));have zN:B3<=wr.heap.size:=J;have kb:=hS.box.cell (i:=5) (u:=v) rfl;have lb:=hS.box.lt;obtain ⟨x0,x1,x2⟩:=OS hX;have xl:=hX.lt;have gF:xs.length<=4:=J;have aba:=hS.bp.c2;have yi:=hS.bp.lt;have Bm:=I hS;clear hS hX hOV ar bR fw l6;by_cases fJ:(j2:Int) < (M:Int)
     ·obtain rfl:bad = true:=by rcases hd with h0 | h0 <;> first | omega | exact h0
      go_wp2_with (
       at_builtin
       go_must (refine uf ak8 J' _ _ J' _ _ _ _ _ rN J' [.string y1.1,.int .i64 y2.1,.slice A9 vs.length c9] gn J' dv J J zN ?_)
       intro v6 jb zl IJ Jp Ij;go_must (obtain ⟨A7,c7,hv6⟩:=rE zl)
       go_must (subst hv6)
       go_must (have QZ:=Bm.out.grown IJ (λq hq=>by have:=(rN.lt q hq).1;omega))
       go_must (have ur:=QZ.box.cell (i:=5) (u:=v) rfl)
       go_must (have ut:=QZ.box.fz 5)
       go_must (have uu:=QZ.box.lt))
      exact LA
     ·go_wp2_with (
       at_builtin
       go_must (refine uf ak8 J' _ _ J' _ _ _ _ _ rN J' [.string y1.1,.int .i64 y2.1,.slice A9 vs.length c9] gn J' dv J J zN ?_)
       intro v6 jb zl IJ Jp Ij;go_must (obtain ⟨A7,c7,hv6⟩:=rE zl)
       go_must (subst hv6)
       go_must (have QZ:=Bm.out.grown IJ (λq hq=>by have:=(rN.lt q hq).1;omega))
       go_must (have ur:=QZ.box.cell (i:=5) (u:=v) rfl)
       go_must (have ut:=QZ.box.fz 5)
       go_must (have uu:=QZ.box.lt))
      exact LA
    ·obtain rfl:bad = false:=by cases bad <;> first | rfl | exact absurd (.inr rfl) hd
     obtain ⟨k2,rfl⟩:∃k',k2 = k'+1:=⟨k2 - 1,J⟩;have fJ:(j2:Int) < (M:Int):=J;have bI:=HLV.out;rw [bt,if_neg (show ¬((a2,false):Int × Bool).2 = true by simp)] at bI;have gN:=I bI;clear bI;have htv:=nG s (a2,false) hs;have HTV:=I (λwq hq=>DJ s b (a2,false) wq hq hs);generalize aD s (a2,false) = y3 at *;have gF:vs.length<=4:=J;obtain ⟨Av,cv,dt⟩:=rE bR;subst dt;have pu:nN [b] wr wr.drew:=nN.lq [b] (aA (aj wr));have gT:=hS.ext (aA (aj wr));have GW:=hX.ext (aA (aj wr));have Zl:=rQ bR pu (by omega:b < B5);have RL:=l6.trans pu;have zd:B5<=wr.drew.heap.size:=hBr2;have uv:aY wr.drew B5 vs es []:=fw.keep (λy hy=>by cases hy) (Nat.le_refl _);have x2:=GW.cell (i:=2) (u:=.slice Av vs.length cv) rfl;clear hS hX bR l6 hBr2 fw pu;go_wp2_with fail
     refine uq (λw'=>w'.cell? ⟨w7.heap.size,2,none⟩ = some (.slice Av vs.length cv)) [0,1,2] [3,4,5] [6,7] U' U' H' x2 ?_;generalize wr.drew = wd at *;simp only [pick,List.getElem?_cons_succ,List.getElem?_cons_zero]
     iterate 3
      (apply dR
       case hy =>exact pN
       simp only [Act.put,pz])
     refine fE ?_;refine iK rfl (λK hK=>?_);go_simp;refine (HTV.out _ gT.bp).mono ?_;rintro e cB ⟨rfl,Lm,vM⟩;have BZ:=gT.call Lm vM;have gS:=GW.bE vM J;have ev:=rQ Zl vM (by omega:b < B5);have jN:=RL.trans vM;have my:B5<=cB.heap.size:=Nat.le_trans zd vM.size;have aaB:wd.heap.size<=cB.heap.size:=vM.size;have x2':=gS.cell (i:=2) (u:=.slice Av vs.length cv) rfl;have x2a:=(oG.ext gS (ak (aj _) (.cells ([.string y3.1]:List Value).toArray 9))).cell (i:=2) (u:=.slice Av vs.length cv) rfl;refine hK _ _ x2' ?_;try simp only [Act.put,pz]
     clear hK K;refine iK rfl (λK hK=>?_);go_simp;refine hK _ _ x2a ?_;try simp only [Act.put,pz]
     clear hK K;have fw:=uv;have Si:=I BZ;have ux:=I gS;have zD:=I jN;clear gT BZ gS jN GW Zl Lm vM RL uv;refine iK rfl (λK hK=>?_);refine adV qw _ _ J' _ _ _ _ _ ev J' [.string y3.1] gn J' dv J J my ?_;intro v6 zu ug DV CO;obtain ⟨A7,c7,hv6⟩:=rE ug;subst hv6;have oX:=ux.out.keep (DV.block _ ux.out.lt (by intro e;have:=(ev.lt _ e.symm).1;omega));have kx:=oX.cell (i:=2) (u:=.slice Av vs.length cv) rfl;have fx:=oX.fz 2;have lx:=oX.lt;refine hK _ _ kx ?_;try simp only [Act.put,pz]
     clear hK K;refine yG ?_;go_wp2;have cU:=gN.out;have EW:=(Si.out.grown DV (λq hq=>by have:=(ev.lt q hq).1;omega)).br (c:=w7.heap.size) J 2 (.slice A7 (vs.length+1) c7);have U11:=(zD.out.grown DV (λq hq=>by have:=(ev.lt q hq).1;omega)).xZ (p:=⟨w7.heap.size,2,none⟩) bv (.slice A7 (vs.length+1) c7);have oe:=xw (c:=w7.heap.size) (i:=2) (u:=.slice A7 (vs.length+1) c7) ug (λg hg=>by have:=(ug.lt g hg).1;omega);refine ⟨⟨j2+1,k2,vs++[y3.1],_,y3.2,.slice A7 (vs.length+1) c7,N',J,by simp;omega,I cU,Tn,SX fw (by have:=DV.size;simp only [World.setCell,Array.size_modify] at *;omega) (apA _ y3.1 htv),EW,oX.put 2 (.slice A7 (vs.length+1) c7),U11,by have:=DV.size;simp only [World.setCell,Array.size_modify] at *;omega⟩,by simp [intOf];omega⟩
end Go.Proofs.YtjahcnjmjahbaaaGreat
