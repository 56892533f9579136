/- The program's reader of pods. No condition. -/
import Derived.Test.YtjahcnjmjahbaaaGreatRdPX
namespace Go.Proofs.YtjahcnjmjahbaaaGreat
open Go.ChangeShapes Go.WideShapes Go.ChangeAt Go.RowKit
set_option linter.unusedVariables false
set_option linter.unusedSimpArgs false
set_option maxHeartbeats 8000000
set_option maxRecDepth 100000
theorem apz (s:ByteArray) (b:Nat) (a:Int) (w:World) (h:zk w b s a) (hs:(s.size:Int)≤1048576) :
 Calls Tryz.prog 35 #[.pointer (some ⟨b,0,none⟩)] w fun e w'=>∃ds F,e = .returned (.agg ds.toArray)∧am w' w.heap.size (Dl s a).1 ds F∧zk w' b s (Dl s a).2∧nN [b] w w':=by
 have ap:=h.lt;have H:=I h;clear h;obtain ⟨t1,et1⟩:∃t,dP s a = t:=⟨_,rfl⟩;obtain ⟨L,eL⟩:∃t,iF s t1.2 = t:=⟨_,rfl⟩;obtain ⟨c,ec⟩:∃t,fG s L.2 = t:=⟨_,rfl⟩;obtain ⟨m,em⟩:∃t,fG s c.2 = t:=⟨_,rfl⟩;obtain ⟨o,eo⟩:∃t,fG s m.2 = t:=⟨_,rfl⟩;obtain ⟨q,eq⟩:∃t,jC s 4 o.2 = t:=⟨_,rfl⟩;obtain ⟨⟨R1,R2⟩,eR⟩:∃t,qX (JB s) q.1.toNat [] q.2 = t:=⟨_,rfl⟩;obtain ⟨q2,eq2⟩:∃t,jC s 4 R2 = t:=⟨_,rfl⟩;obtain ⟨⟨T1,T2⟩,eT⟩:∃t,qX (Zf s) q2.1.toNat [] q2.2 = t:=⟨_,rfl⟩
 have xy:=I (show Ag s a = (⟨t1.1,L.1,c.1,m.1,o.1,R1,T1⟩,T2) by
  unfold Ag Ll xC;rw [et1,eL,ec,em,eo,eq,eR];dsimp only
  rw [eq2,eT])
 have HH:=I (show Dl s a = ((Ag s a).1,if GU (Ag s a).1 = true then (Ag s a).2 else -1) from rfl);have HT:=I (fun wq hq=>CW s b a wq hq hs);have HL:=I (fun wq hq=>aaT s b t1.2 wq hq hs);have HC:=I (fun wq hq=>FT s b L.2 wq hq hs);have HM:=I (fun wq hq=>FT s b c.2 wq hq hs);have HO:=I (fun wq hq=>FT s b m.2 wq hq hs);have HN:=I (fun wq hq=>cL s b o.2 4 wq hq hs (by decide));have Gn:=I (fun wq hq=>cL s b R2 4 wq hq hs (by decide));rw [et1] at HT;rw [eL] at HL;rw [ec] at HC;rw [em] at HM;rw [eo] at HO;rw [eq] at HN;rw [eq2] at Gn;have dT:(t1.1.size:Int)≤1048576:=et1 ▸ qR s a hs;have rm:L.1.length≤6:=eL ▸ Kw s t1.2;have cZ:=I (show ∀l∈L.1,(l.key.size:Int)≤1048576∧(l.value.size:Int)≤1048576 from eL ▸ NM s t1.2 hs);have gD:bi c.1:=ec ▸ yt s L.2 hs;have NB:bi m.1:=em ▸ yt s c.2 hs;have Ww:bi o.1:=eo ▸ yt s m.2 hs;have Dd:0≤q.1∧q.1≤4:=eq ▸ vI s 4 o.2 (by decide);have Dk:0≤q2.1∧q2.1≤4:=eq2 ▸ vI s 4 R2 (by decide)
 have HSN:=I (show ∀l∈R1,VX l by
  have h:=II (fun a=>adT s a hs) q.1.toNat [] q.2 (fun l hl=>by cases hl)
  rw [eR] at h;exact h)
 have HST:=I (show ∀l∈T1,VY l by
  have h:=II (fun a=>ahf s a hs) q2.1.toNat [] q2.2 (fun l hl=>by cases hl)
  rw [eT] at h;exact h)
 obtain ⟨N,hN⟩:∃N:Nat,q.1 = N:=⟨q.1.toNat,J⟩;rw [hN,Int.toNat_natCast] at eR;obtain ⟨N2,BI⟩:∃N:Nat,q2.1 = N:=⟨q2.1.toNat,J⟩;rw [BI,Int.toNat_natCast] at eT;have mD:=I eR;have HTT:=I eT;have Wz:N≤4:=by omega
 have WG:N2≤4:=by omega
 have MO:=I hN;have WH:=I BI;generalize Ag s a = HW at HH xy;clear et1 eL ec em eo eq eR eq2 eT hN BI Dd Dk;go_enter Tryz.func35,Tryz.ntmps35;go_wp2_with fail
 refine (HT.out _ (H.out.ext (ak (aj _) _))).mono ?_;rintro e w1 ⟨rfl,i7,hu1⟩;have cQ:w.heap.size < w1.heap.size:=by have:=hu1.size;simp at this;omega
 have NC:=(oG.new w [.string ⟨#[]⟩,.slice none 0 0,.int .i64 0,.int .i64 0,.int .i64 0,.slice none 0 0,.slice none 0 0] 46).bX hu1 J;have WA:nN [b] w w1:=((nN.refl _ _).alloc _).trans hu1
 have S1:St [.string ⟨#[]⟩,.slice none 0 0,.int .i64 0,.int .i64 0,.int .i64 0,.slice none 0 0,.slice none 0 0] w (w1.alloc (.cells #[.string t1.1,.slice none 0 0,.int .i64 0,.int .i64 0,.int .i64 0,.slice none 0 0,.slice none 0 0] 46)) b w1.heap.size s t1.2 [.string t1.1,.slice none 0 0,.int .i64 0,.int .i64 0,.int .i64 0,.slice none 0 0,.slice none 0 0] :=
  ⟨i7.ext (ak (aj _) _),WA.alloc _,oG.new w1 [.string t1.1,.slice none 0 0,.int .i64 0,.int .i64 0,.int .i64 0,.slice none 0 0,.slice none 0 0] 46,NC.ext (ak (aj _) _),ap,cQ⟩
 clear i7 hu1 NC;go_wp2_with fail
 refine (HL.out _ S1.b5).mono ?_;rintro e w2 ⟨A2,c2,G2,rfl,bN,fL,cR⟩;have S2:=S1.call fL cR;clear fL;replace bN:am w2 (w1.heap.size+1) L.1 [.slice A2 L.1.length c2] G2:=bN.mono S';have uO:=bN.base;have k2:=S2.bw.cell (i:=1) (u:=.slice none 0 0) rfl;have f2:=S2.bw.fz 1;have l2:=S2.bw.lt;have WK:=S2.put 1 (.slice A2 L.1.length c2);have O2:=bN.setCell (p:=⟨w1.heap.size,1,none⟩) sK (.slice A2 L.1.length c2);go_wp2_with fail
 refine (HC.out _ WK.b5).mono ?_;rintro e w3 ⟨rfl,TR,b8⟩;have S3:=WK.call TR b8;have O3:=b8.jk O2 (fun y hy hb=>by have:=uO y hy;simp only [List.mem_singleton] at hb;omega);have k3:=S3.bw.cell (i:=2) (u:=.int .i64 0) rfl;have f3:=S3.bw.fz 2;have l3:=S3.bw.lt;have WN:=S3.put 2 (.int .i64 c.1);have P3:=O3.setCell (p:=⟨w1.heap.size,2,none⟩) sK (.int .i64 c.1);go_wp2_with fail
 refine (HM.out _ WN.b5).mono ?_;rintro e w4 ⟨rfl,hI4,Td⟩;have S4:=WN.call hI4 Td;have O4:=Td.jk P3 (fun y hy hb=>by have:=uO y hy;simp only [List.mem_singleton] at hb;omega);have k4:=S4.bw.cell (i:=3) (u:=.int .i64 0) rfl;have f4:=S4.bw.fz 3;have l4:=S4.bw.lt;have WO:=S4.put 3 (.int .i64 m.1);have P4:=O4.setCell (p:=⟨w1.heap.size,3,none⟩) sK (.int .i64 m.1);go_wp2_with fail
 refine (HO.out _ WO.b5).mono ?_;rintro e w5 ⟨rfl,sw,hu5⟩;have S5:=WO.call sw hu5;have O5:=hu5.jk P4 (fun y hy hb=>by have:=uO y hy;simp only [List.mem_singleton] at hb;omega);have k5:=S5.bw.cell (i:=4) (u:=.int .i64 0) rfl;have f5:=S5.bw.fz 4;have l5:=S5.bw.lt;have WQ:=S5.put 4 (.int .i64 o.1);have P5:=O5.setCell (p:=⟨w1.heap.size,4,none⟩) sK (.int .i64 o.1);go_wp2_with fail
 refine (HN.out _ WQ.b5).mono ?_;rw [MO.out];rintro e w6 ⟨rfl,hI6,Ze⟩;have S6:=WQ.call hI6 Ze;have O6:=Ze.jk P5 (fun y hy hb=>by have:=uO y hy;simp only [List.mem_singleton] at hb;omega);have Iw:=O6.lt;obtain ⟨B3,eh⟩:∃B3,w6.heap.size = B3:=⟨_,rfl⟩;have mq:w1.heap.size < B3:=by rw [← eh];exact S6.bw.lt
 rw [eh] at Iw;have vv:w6.ownsRow B3 89 3 (.slice none 0 0) 0 []:=⟨rfl,.inl ⟨rfl,rfl⟩⟩;have Dj:=I eh;have vi:=I O6;have cC:b < B3:=by omega
 clear eh O6 S1 S2 S3 S4 S5 WK WN WO WQ bN O2 O3 P3 O4 P4 O5 P5 TR b8 hI4 Td sw hu5 hI6 Ze cR k2 f2 l2 k3 f3 l3 k4 f4 l4 k5 f5 l5;go_wp2_with fail
 go_loopw [4] (fun n wr=>∃(k:Nat) (xs:List ba) (ds:List Value) (F:List Nat) (a':Int) (v:Value),n = .int .i64 k∧xs.length+k≤4∧Hid (qX (JB s) k xs a' = (R1,R2))∧wr.ownsRow B3 89 3 v xs.length ds∧aY wr B3 xs ds F∧(∀g,v.ownBlock = some g→g∉F)∧St [.string ⟨#[]⟩,.slice none 0 0,.int .i64 0,.int .i64 0,.int .i64 0,.slice none 0 0,.slice none 0 0] w wr b w1.heap.size s a' [.string t1.1,.slice A2 L.1.length c2,.int .i64 c.1,.int .i64 m.1,.int .i64 o.1,v,.slice none 0 0]∧nN [b,w1.heap.size] w6 wr∧B3≤wr.heap.size) (fun n _=>(intOf n).toNat)
 case atStart=>exact ⟨N,[],[],[],q.2,.slice none 0 0,rfl,by simpa using Wz,mD.out,vv,aY.nil _ _,(fun g hg=>by simp),S6,nN.refl _ _,by have:=Dj.out;omega⟩
 case round =>
  obtain ⟨k,xs,ds,F,a',v,rfl,hk4,QY,aR,cT,cq,hS,hU,bL⟩:=hrel;cases k with
  | zero =>
    have cY:=QY.out;rw [qX] at cY;obtain ⟨rfl,rfl⟩:xs = R1∧a' = R2:=Prod.mk.inj cY;clear cY;obtain ⟨A6,c6,G6,hv6,EH⟩:=am.oJ aR cT cq;subst hv6;have NF:=hU.jk vi.out (fun y hy hb=>by have:=uO y hy;simp only [List.mem_cons,List.not_mem_nil,or_false] at hb;omega);obtain ⟨wo,hwo⟩:∃wo,wo = wr:=⟨_,rfl⟩;subst hwo;clear aR cT cq hU vi;go_wp2_with fail
    refine (Gn.out _ hS.b5).mono ?_;rw [WH.out];rintro e Q0 ⟨rfl,amM,Yh⟩;have S20:=hS.call amM Yh;have HOL:=I (Yh.jk NF (fun y hy hb=>by have:=uO y hy;simp only [List.mem_singleton] at hb;omega));have NI:=I (Yh.jk EH (fun y hy hb=>by have:=EH.base y hy;simp only [List.mem_singleton] at hb;omega));have al0:wo.heap.size≤Q0.heap.size:=Yh.size;obtain ⟨B7,WE⟩:∃B7,Q0.heap.size = B7:=⟨_,rfl⟩;have WR:Q0.ownsRow B7 91 4 (.slice none 0 0) 0 []:=⟨rfl,.inl ⟨rfl,rfl⟩⟩;have hb37:B3≤B7:=J;have NJ:=I WE;have Ua:w1.heap.size < B7:=J;clear WE NF EH amM Yh hS;go_wp2_with fail
    go_loopw [7] (fun n wr=>∃(k:Nat) (ys:List bH) (ds:List Value) (a3:Int) (v:Value),n = .int .i64 k∧ys.length+k≤4∧Hid (qX (Zf s) k ys a3 = (T1,T2))∧wr.ownsRow B7 91 4 v ys.length ds∧aY wr B7 ys ds []∧St [.string ⟨#[]⟩,.slice none 0 0,.int .i64 0,.int .i64 0,.int .i64 0,.slice none 0 0,.slice none 0 0] w wr b w1.heap.size s a3 [.string t1.1,.slice A2 L.1.length c2,.int .i64 c.1,.int .i64 m.1,.int .i64 o.1,.slice A6 xs.length c6,v]∧nN [b,w1.heap.size] Q0 wr∧B7≤wr.heap.size) (fun n _=>(intOf n).toNat)
    case atStart=>exact ⟨N2,[],[],q2.2,.slice none 0 0,rfl,by simpa using WG,HTT.out,WR,aY.nil _ _,S20,nN.refl _ _,by have:=NJ.out;omega⟩
    case round =>
     obtain ⟨k,ys,ds,a3,v,rfl,hk4,QY,aR,cT,hS,hU,bL⟩:=hrel;cases k with
     | zero =>
       have cY:=QY.out;rw [qX] at cY;obtain ⟨rfl,rfl⟩:ys = T1∧a3 = T2:=Prod.mk.inj cY;clear cY;obtain ⟨A8,c8,G8,hv8,hOT⟩:=am.oJ aR cT (fun _ _ hb=>by cases hb);subst hv8;have NF:=hU.jk HOL.out (fun y hy hb=>by have:=uO y hy;simp only [List.mem_cons,List.not_mem_nil,or_false] at hb;omega);have EH:=hU.jk NI.out (fun y hy hb=>by have:=NI.out.base y hy;simp only [List.mem_cons,List.not_mem_nil,or_false] at hb;omega);have Zm:am wr (w1.heap.size+1) (⟨t1.1,L.1,c.1,m.1,o.1,xs,ys⟩:nI) [.string t1.1,.slice A2 L.1.length c2,.int .i64 c.1,.int .i64 m.1,.int .i64 o.1,.slice A6 xs.length c6,.slice A8 ys.length c8] (G2++(G6++G8)):=by refine am.up (B':=w1.heap.size+1) (fun x:nI=>(x.name,x.labels,x.ax,x.mem,x.aD,x.ag,x.ae)) ?_ (Nat.le_refl _);refine am.cons (c1:=[.string t1.1]) (cV _ t1.1 J) ?_;refine am.b9 (B2:=B3) (c1:=[.slice A2 L.1.length c2]) (F1:=G2) NF ?_ J Iw;refine am.cons (c1:=[.int .i64 c.1]) (jL _ c.1 gD) ?_;refine am.cons (c1:=[.int .i64 m.1]) (jL _ m.1 NB) ?_;refine am.cons (c1:=[.int .i64 o.1]) (jL _ o.1 Ww) ?_;exact am.b9 (B2:=B7) (c1:=[.slice A6 xs.length c6]) (F1:=G6) EH hOT J (fun y hy=>by have:=NI.out.lt y hy;have:=NJ.out;omega)
       obtain ⟨k0,k1,k2,k3,k4,k5,k6⟩:=mS hS.bw;have kl:=hS.bw.lt;have sc:=I Zm;have HS:=I hS;clear Zm hOT NF EH aR cT hS hU;have ek:(L.1.length:Int)≤1048576:=J;have mo:(xs.length:Int)≤1048576:=J;have fv:(ys.length:Int)≤1048576:=J;go_wp2_with fail
       refine (vw (⟨t1.1,L.1,c.1,m.1,o.1,xs,ys⟩:nI) _ _ _ sc.out.rd dT ek cZ.out mo HSN.out fv HST.out).mono ?_;rintro e w27 ⟨rfl,hb27⟩;go_wp2_with fail
       refine (UG s b a3 _ _ (HS.out.b5.ext hb27)).mono ?_;rintro e w28 ⟨rfl,hI28,hu28⟩;have Dm:=(HS.out.ext hb27).call hI28 hu28;obtain ⟨j0,j1,j2,j3,j4,j5,j6⟩:=mS Dm.bw;have jl:=Dm.bw.lt;obtain ⟨r0,r1,r2,r3,r4,r5,r6⟩:=mS Dm.rb;have rl:=Dm.rb.lt;have rf:=Dm.rb.fz;have NL:=hu28.jk (sc.out.ext hb27) (fun y hy hb=>by have:=sc.out.base y hy;simp only [List.mem_singleton] at hb;omega);have HF:=I (show Dl s a = ((⟨t1.1,L.1,c.1,m.1,o.1,xs,ys⟩:nI),if GU (⟨t1.1,L.1,c.1,m.1,o.1,xs,ys⟩:nI) = true then a3 else -1) by rw [HH.out,xy.out]);have Pd:=I Dm;have Zo:=I NL;clear k0 k1 k2 k3 k4 k5 k6 Dm NL hI28 hu28;go_wp2;refine bodyPost_ret (v:=.agg #[.string t1.1,.slice A2 L.1.length c2,.int .i64 c.1,.int .i64 m.1,.int .i64 o.1,.slice A6 xs.length c6,.slice A8 ys.length c8]) (by simp [results,Tryz.results35,go_sem, *]) rfl ?_;rw [HF.out]
       first
        | refine ⟨[.string t1.1,.slice A2 L.1.length c2,.int .i64 c.1,.int .i64 m.1,.int .i64 o.1,.slice A6 xs.length c6,.slice A8 ys.length c8],(G2++(G6++G8)),rfl,?_,?_,?_⟩
        | refine ⟨[.string t1.1,.slice A2 L.1.length c2,.int .i64 c.1,.int .i64 m.1,.int .i64 o.1,.slice A6 xs.length c6,.slice A8 ys.length c8],rfl,⟨(G2++(G6++G8)),?_⟩,?_,?_⟩
       ·refine am.mono (B:=w1.heap.size+1) ?_ J;exact Zh
       ·exact (by repeat (first | with_reducible exact Pd.out.b5 | with_reducible refine zk.bE ?_ J _ _))
       ·exact Zp
     | succ k =>
       have cY:=QY.out;rw [qX] at cY;have ox:=I cY;clear cY;obtain ⟨y1,ey1⟩:∃t,dP s a3 = t:=⟨_,rfl⟩;obtain ⟨y2,ey2⟩:∃t,jC s 1 y1.2 = t:=⟨_,rfl⟩;obtain ⟨y3,ey3⟩:∃t,dP s y2.2 = t:=⟨_,rfl⟩;obtain ⟨y4,ey4⟩:∃t,fG s y3.2 = t:=⟨_,rfl⟩
       have HE:=I (show Zf s a3 = (⟨y1.1,y2.1 == 1,y3.1,y4.1⟩,y4.2) by
        unfold Zf
        rw [ey1,ey2,ey3,ey4])
       have pS:=I (fun wq hq=>CW s b a3 wq hq hs);have pT:=I (fun wq hq=>cL s b y1.2 1 wq hq hs (by decide));have tx:=I (fun wq hq=>CW s b y2.2 wq hq hs);have NN:=I (fun wq hq=>FT s b y3.2 wq hq hs);rw [ey1] at pS;rw [ey2] at pT;rw [ey3] at tx;rw [ey4] at NN;have En:(y1.1.size:Int)≤1048576:=ey1 ▸ qR s a3 hs;have DJ:(y3.1.size:Int)≤1048576:=ey3 ▸ qR s y2.2 hs;have DM:bi y4.1:=ey4 ▸ yt s y3.2 hs;clear ey1 ey2 ey3 ey4;obtain ⟨wo,hwo⟩:∃wo,wo = wr:=⟨_,rfl⟩;subst hwo;go_wp2_with fail
       refine (pS.out _ hS.b5).mono ?_;rintro e w7 ⟨rfl,hI7,WL⟩;have S7:=(hS.call hI7 WL).alloc (.cells ([.string y1.1,.bool false,.string ⟨#[]⟩,.int .i64 0]:List Value).toArray 91);have U7:nN [b] wo (w7.alloc (.cells ([.string y1.1,.bool false,.string ⟨#[]⟩,.int .i64 0]:List Value).toArray 91)):=WL.alloc _;have z7:wo.heap.size≤w7.heap.size:=WL.size;go_wp2_with fail
       refine (pT.out _ S7.b5).mono ?_;rintro e w8 ⟨rfl,hI8,Ub⟩;have X8:=(oG.new w7 [.string y1.1,.bool false,.string ⟨#[]⟩,.int .i64 0] 91).bX Ub J;have S8:=(S7.call hI8 Ub).bE (c:=w7.heap.size) J 1 (.bool (y2.1 == 1));have U8:=(U7.trans Ub).xZ (p:=⟨w7.heap.size,1,none⟩) bz (.bool (y2.1 == 1));have k8:=X8.cell (i:=1) (u:=.bool false) rfl;have f8:=X8.fz 1;have l8:=X8.lt;have Y8:=X8.put 1 (.bool (y2.1 == 1));go_wp2_with fail
       refine (tx.out _ S8.b5).mono ?_;rintro e w9 ⟨rfl,hI9,Xb⟩;have X9:=Y8.bX Xb J;have S9:=(S8.call hI9 Xb).bE (c:=w7.heap.size) J 2 (.string y3.1);have U9:=(U8.trans Xb).xZ (p:=⟨w7.heap.size,2,none⟩) bz (.string y3.1);have k9:=X9.cell (i:=2) (u:=.string ⟨#[]⟩) rfl;have f9:=X9.fz 2;have l9:=X9.lt;have Y9:=X9.put 2 (.string y3.1);go_wp2_with fail
       refine (NN.out _ S9.b5).mono ?_;rintro e fV ⟨rfl,Lm,vM⟩;have tz:=Y9.bX vM J;have BZ:=(S9.call Lm vM).bE (c:=w7.heap.size) J 3 (.int .i64 y4.1);have xz:=(U9.trans vM).xZ (p:=⟨w7.heap.size,3,none⟩) bz (.int .i64 y4.1);have k10:=tz.cell (i:=3) (u:=.int .i64 0) rfl;have f10:=tz.fz 3;have l10:=tz.lt;have Y10:=tz.put 3 (.int .i64 y4.1);have jp:=rQ aR xz (by omega:b < B7);have zO:wo.heap.size≤(fV.setCell ⟨w7.heap.size,3,none⟩ (.int .i64 y4.1)).heap.size:=xz.size;have xA:B7≤(fV.setCell ⟨w7.heap.size,3,none⟩ (.int .i64 y4.1)).heap.size:=Nat.le_trans bL xz.size;have kv:ys.length≤4:=J;have kb:=BZ.bw.cell (i:=6) (u:=v) rfl;have lb:=BZ.bw.lt;obtain ⟨x0,x1,x2,x3⟩:=d'4 Y10;have Si:=I BZ;have WS:=I (hU.trans (xz.mono (G:=[b,w1.heap.size]) (fun y hy=>by simp only [List.mem_singleton] at hy;subst hy;simp)));clear hS aR hU S7 S8 S9 BZ U7 U8 U9 xz X8 Y8 X9 Y9 tz Y10 hI7 WL hI8 Ub hI9 Xb Lm vM k8 f8 k9 f9
       go_wp2_with (
        at_builtin
        go_must (refine lC aoI X _ _ X _ _ _ _ _ jp X [.string y1.1,.bool (y2.1 == 1),.string y3.1,.int .i64 y4.1] jS X eu J J xA ?_)
        intro v6 xD zl IJ air;go_must (obtain ⟨A7,c7,hv6⟩:=rE zl)
        go_must (subst hv6)
        go_must (have QZ:=Si.out.grown IJ (fun q hq=>by have:=(jp.lt q hq).1;omega))
        go_must (have WX:=QZ.bw.cell (i:=6) (u:=v) rfl)
        go_must (have WY:=QZ.bw.fz 6)
        go_must (have WZ:=QZ.bw.lt))
       have fb:=ox.out;rw [HE.out] at fb;have W0:=(WS.out.grown IJ (fun q hq=>by have:=(jp.lt q hq).1;have:=NJ.out;omega)).setCell (p:=⟨w1.heap.size,6,none⟩) S' (.slice A7 (ys.length+1) c7);have vD:=xw (c:=w1.heap.size) (i:=6) (u:=.slice A7 (ys.length+1) c7) zl (fun g hg=>by have:=(zl.lt g hg).1;omega);refine ⟨⟨k,ys++[⟨y1.1,y2.1 == 1,y3.1,y4.1⟩],_,y4.2,.slice A7 (ys.length+1) c7,N',by simp;omega,I fb,Pb,acg cT awU (Ov _ _ awV awW DM),QZ.put 6 (.slice A7 (ys.length+1) c7),W0,by have:=IJ.size;simp only [World.setCell,Array.size_modify] at *;omega⟩,by simp [intOf]⟩
  | succ k =>
    have cY:=QY.out;rw [qX] at cY;have ox:=I cY;clear cY;obtain ⟨y1,ey1⟩:∃t,dP s a' = t:=⟨_,rfl⟩;obtain ⟨y2,ey2⟩:∃t,fG s y1.2 = t:=⟨_,rfl⟩;obtain ⟨q3,eq3⟩:∃t,jC s 4 y2.2 = t:=⟨_,rfl⟩;obtain ⟨⟨V1,V2⟩,eV⟩:∃t,qX (dP s) q3.1.toNat [] q3.2 = t:=⟨_,rfl⟩
    have HE:=I (show JB s a' = (⟨y1.1,y2.1,(V1,V2).1⟩,(V1,V2).2) by
     unfold JB xC
     rw [ey1,ey2,eq3,eV])
    have pS:=I (fun wq hq=>CW s b a' wq hq hs);have pT:=I (fun wq hq=>FT s b y1.2 wq hq hs);have tx:=I (fun wq hq=>cL s b y2.2 4 wq hq hs (by decide));rw [ey1] at pS;rw [ey2] at pT;rw [eq3] at tx;have En:(y1.1.size:Int)≤1048576:=ey1 ▸ qR s a' hs;have X':bi y2.1:=ey2 ▸ yt s y1.2 hs;have W1:0≤q3.1∧q3.1≤4:=eq3 ▸ vI s 4 y2.2 (by decide);obtain ⟨M,hM⟩:∃M:Nat,q3.1 = M:=⟨q3.1.toNat,J⟩;rw [hM,Int.toNat_natCast] at eV;have TV:=I eV;have hM4:M≤4:=J;have HMM:=I hM;clear ey1 ey2 eq3 eV hM W1;obtain ⟨wo,hwo⟩:∃wo,wo = wr:=⟨_,rfl⟩;subst hwo;go_wp2_with fail
    refine (pS.out _ hS.b5).mono ?_;rintro e w7 ⟨rfl,hI7,WL⟩;have S7:=(hS.call hI7 WL).alloc (.cells ([.string y1.1,.int .i64 0,.slice none 0 0]:List Value).toArray 89);have U7:nN [b] wo (w7.alloc (.cells ([.string y1.1,.int .i64 0,.slice none 0 0]:List Value).toArray 89)):=WL.alloc _;have z7:wo.heap.size≤w7.heap.size:=WL.size;go_wp2_with fail
    refine (pT.out _ S7.b5).mono ?_;rintro e w8 ⟨rfl,hI8,Ub⟩;have X8:=(oG.new w7 [.string y1.1,.int .i64 0,.slice none 0 0] 89).bX Ub J;have S8:=(S7.call hI8 Ub).bE (c:=w7.heap.size) J 1 (.int .i64 y2.1);have U8:=(U7.trans Ub).xZ (p:=⟨w7.heap.size,1,none⟩) bz (.int .i64 y2.1);have k8:=X8.cell (i:=1) (u:=.int .i64 0) rfl;have f8:=X8.fz 1;have l8:=X8.lt;have Y8:=X8.put 1 (.int .i64 y2.1);go_wp2_with fail
    refine (tx.out _ S8.b5).mono ?_;rw [HMM.out];rintro e w9 ⟨rfl,hI9,Xb⟩;have X9:=Y8.bX Xb J;have S9:=S8.call hI9 Xb;have U9:=U8.trans Xb;obtain ⟨B5,Dc⟩:∃B5,w9.heap.size = B5:=⟨_,rfl⟩;have hcB5:w7.heap.size < B5:=(by rw [← Dc];exact X9.lt);have hr9:w9.ownsRow B5 9 1 (.slice none 0 0) 0 []:=⟨rfl,.inl ⟨rfl,rfl⟩⟩;have Q1:=I Dc;clear Dc hS S7 S8 U7 U8 X8 Y8 hI7 WL hI8 Ub hI9 Xb k8 f8 l8;go_wp2_with fail
    go_loopw [6] (fun n2 wr=>∃(k2:Nat) (vs:List ByteArray) (es:List Value) (a2:Int) (v2:Value),n2 = .int .i64 k2∧vs.length+k2≤4∧Hid (qX (dP s) k2 vs a2 = (V1,V2))∧wr.ownsRow B5 9 1 v2 vs.length es∧aY wr B5 vs es []∧St [.string ⟨#[]⟩,.slice none 0 0,.int .i64 0,.int .i64 0,.int .i64 0,.slice none 0 0,.slice none 0 0] w wr b w1.heap.size s a2 [.string t1.1,.slice A2 L.1.length c2,.int .i64 c.1,.int .i64 m.1,.int .i64 o.1,v,.slice none 0 0]∧oG wr w7.heap.size [.string y1.1,.int .i64 y2.1,v2]∧nN [b] wo wr∧B5≤wr.heap.size) (fun n2 _=>(intOf n2).toNat)
    case atStart=>exact ⟨M,[],[],q3.2,.slice none 0 0,rfl,by simpa using hM4,TV.out,hr9,aY.nil _ _,S9,X9,U9,by have:=Q1.out;omega⟩
    case round =>
     obtain ⟨k2,vs,es,a2,v2,rfl,Je,HLV,cA,kg,hS,hX,pZ,hBr2⟩:=hrel;cases k2 with
     | zero =>
       have cY:=HLV.out;rw [qX] at cY;obtain ⟨rfl,rfl⟩:vs = V1∧a2 = V2:=Prod.mk.inj cY;clear cY;obtain ⟨A9,c9,G9,eE,hOV⟩:=am.oJ cA kg (fun _ _ hb=>by cases hb);subst eE
       have NI:=I (show am wr B5 (⟨y1.1,y2.1,vs⟩:ba) [.string y1.1,.int .i64 y2.1,.slice A9 vs.length c9] G9 by
        refine am.up (B':=B5) (fun x:ba=>(x.key,x.op,x.values)) ?_ (Nat.le_refl _);refine am.cons (c1:=[.string y1.1]) (cV _ y1.1 J) ?_;refine am.cons (c1:=[.int .i64 y2.1]) (jL _ y2.1 X') ?_
        exact hOV)
       have rN:=rQ aR pZ cC;have De:=I aR;have HCN:=I (cT.bX pZ cC);have W2:=I (hU.trans (pZ.mono (G:=[b,w1.heap.size]) (fun y hy=>by simp only [List.mem_singleton] at hy;subst hy;simp)));have zN:B3≤wr.heap.size:=J;have kb:=hS.bw.cell (i:=5) (u:=v) rfl;have lb:=hS.bw.lt;obtain ⟨x0,x1,x2⟩:=Te hX;have xl:=hX.lt;have kv:xs.length≤4:=J;have WB:=I hS;clear hS hX hOV aR cA kg pZ
       go_wp2_with (
        at_builtin
        go_must (refine uf ak8 X _ _ X _ _ _ _ _ rN X [.string y1.1,.int .i64 y2.1,.slice A9 vs.length c9] jS X eu J J zN ?_)
        intro v6 xD zl IJ air W3;go_must (obtain ⟨A7,c7,hv6⟩:=rE zl)
        go_must (subst hv6)
        go_must (have QZ:=WB.out.grown IJ (fun q hq=>by have:=(rN.lt q hq).1;omega))
        go_must (have WX:=QZ.bw.cell (i:=5) (u:=v) rfl)
        go_must (have WY:=QZ.bw.fz 5)
        go_must (have WZ:=QZ.bw.lt))
       have fb:=ox.out;rw [HE.out] at fb;obtain ⟨Fb,Jl⟩:=aY.Wr (v':=.slice A7 (xs.length+1) c7) rN HCN.out cq NI.out J (fun g hg=>by have:=(De.out.lt g hg).2;omega) (fun y hy=>by have:=cT.lt y hy;omega) IJ W3;have W0:=(W2.out.grown IJ (fun q hq=>by have:=(rN.lt q hq).1;have:=Dj.out;omega)).setCell (p:=⟨w1.heap.size,5,none⟩) S' (.slice A7 (xs.length+1) c7);have vD:=xw (c:=w1.heap.size) (i:=5) (u:=.slice A7 (xs.length+1) c7) zl (fun g hg=>by have:=(zl.lt g hg).1;omega);refine ⟨⟨k,xs++[⟨y1.1,y2.1,vs⟩],_,_,_,.slice A7 (xs.length+1) c7,N',by simp;omega,I fb,Pb,Fb.setCell (p:=⟨w1.heap.size,5,none⟩) sK _,Jl,QZ.put 5 (.slice A7 (xs.length+1) c7),W0,by have:=IJ.size;simp only [World.setCell,Array.size_modify] at *;omega⟩,by simp [intOf]⟩
     | succ k2 =>
       have cY:=HLV.out;rw [qX] at cY;have gU:=I cY;clear cY;have htv:=qR s a2 hs;have HTV:=I (fun wq hq=>CW s b a2 wq hq hs);generalize dP s a2 = y3 at *;have kv:vs.length≤4:=J;obtain ⟨Av,cv,eE⟩:=rE cA;subst eE;have tt:nN [b] wr wr.drew:=nN.lq [b] (aA (aj wr));have lR:=hS.ext (aA (aj wr));have W4:=hX.ext (aA (aj wr));have Zl:=rQ cA tt (by omega:b < B5);have hUd:=pZ.trans tt;have zd:B5≤wr.drew.heap.size:=hBr2;have NO:aY wr.drew B5 vs es []:=kg.br (fun y hy=>by cases hy) (Nat.le_refl _);have x2:=W4.cell (i:=2) (u:=.slice Av vs.length cv) rfl;clear hS hX cA pZ hBr2 kg tt;go_wp2_with fail
       refine uq (fun w'=>w'.cell? ⟨w7.heap.size,2,none⟩ = some (.slice Av vs.length cv)) [0,1,2] [3,4,5] [6,7] U' U' H' x2 ?_;generalize wr.drew = wd at *;simp only [cH,List.getElem?_cons_succ,List.getElem?_cons_zero]
       iterate 3
        (apply dR
         case hy =>exact ul
         simp only [Act.put,pz])
       refine fE ?_;refine iK rfl (fun K hK=>?_);go_simp;refine (HTV.out _ lR.b5).mono ?_;rintro e fV ⟨rfl,Lm,vM⟩;have BZ:=lR.call Lm vM;have tz:=W4.bX vM J;have jp:=rQ Zl vM (by omega:b < B5);have xz:=hUd.trans vM;have xA:B5≤fV.heap.size:=Nat.le_trans zd vM.size;have z10r:wd.heap.size≤fV.heap.size:=vM.size;have x2':=tz.cell (i:=2) (u:=.slice Av vs.length cv) rfl;have x2a:=(oG.ext tz (ak (aj _) (.cells ([.string y3.1]:List Value).toArray 9))).cell (i:=2) (u:=.slice Av vs.length cv) rfl;refine hK _ _ x2' ?_;try simp only [Act.put,pz]
       clear hK K;refine iK rfl (fun K hK=>?_);go_simp;refine hK _ _ x2a ?_;try simp only [Act.put,pz]
       clear hK K;have kg:=NO;have Si:=I BZ;have NP:=I tz;have WS:=I xz;clear lR BZ tz xz W4 Zl Lm vM hUd NO;refine iK rfl (fun K hK=>?_);refine adV qw _ _ X _ _ _ _ _ jp X [.string y3.1] jS X eu J J xA ?_;intro v6 zu ug DV CO;obtain ⟨A7,c7,hv6⟩:=rE ug;subst hv6;have Q2:=NP.out.br (DV.block _ NP.out.lt (by intro e;have:=(jp.lt _ e.symm).1;omega));have kx:=Q2.cell (i:=2) (u:=.slice Av vs.length cv) rfl;have fx:=Q2.fz 2;have lx:=Q2.lt;refine hK _ _ kx ?_;try simp only [Act.put,pz]
       clear hK K;refine yG ?_;go_wp2;have fb:=gU.out;have EW:=(Si.out.grown DV (fun q hq=>by have:=(jp.lt q hq).1;omega)).bE (c:=w7.heap.size) J 2 (.slice A7 (vs.length+1) c7);have U11:=(WS.out.grown DV (fun q hq=>by have:=(jp.lt q hq).1;omega)).xZ (p:=⟨w7.heap.size,2,none⟩) bz (.slice A7 (vs.length+1) c7);have AR:=xw (c:=w7.heap.size) (i:=2) (u:=.slice A7 (vs.length+1) c7) ug (fun g hg=>by have:=(ug.lt g hg).1;omega);refine ⟨⟨k2,vs++[y3.1],_,y3.2,.slice A7 (vs.length+1) c7,N',by simp;omega,I fb,ZG,acg kg (by have:=DV.size;simp only [World.setCell,Array.size_modify] at *;omega) (apA _ y3.1 htv),EW,Q2.put 2 (.slice A7 (vs.length+1) c7),U11,by have:=DV.size;simp only [World.setCell,Array.size_modify] at *;omega⟩,by simp [intOf]⟩
end Go.Proofs.YtjahcnjmjahbaaaGreat
