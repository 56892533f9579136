/- Draws of one need. No condition. -/
import Derived.Test.YtajbbmembionpaaGreatDrawL
import Derived.Test.YtajbbmembionpaaGreatSortNeedsS
namespace Go.Proofs.YtajbbmembionpaaGreat
open Go.ChangeShapes Go.WideShapes Go.ChangeAt Go.RowKit
set_option linter.unusedVariables false
set_option linter.unusedSimpArgs false
set_option maxHeartbeats 4000000
set_option maxRecDepth 100000
theorem am.pg {w:World} {B:Nat} {k:ByteArray} {op:Int} {vs:List ByteArray} {A:Option Addr} {c:Nat} {G:List Nat} (h:am w B vs [.slice A vs.length c] G) (hk:k.size≤maxLen) (ho:br op):am w B (⟨k,op,vs⟩:aM) [.string k,.int .i64 op,.slice A vs.length c] G:=by
 refine am.up (B':=B) (fun x:aM=>(x.key,x.op,x.values)) ?_ (Nat.le_refl _);exact am.cons (c1:=[.string k]) (dE w k (rV hk)) (am.cons (c1:=[.int .i64 op]) (jL w op ho) h)
theorem TX (w:World) (c:Nat) (A:Option Addr) (n aq:Nat) (h:bM w c A n aq) :
 Calls Tryz.prog 149 #[.pointer (some ⟨c,0,none⟩)] w fun e w'=>∃(x:aM) (A':Option Addr) (c':Nat) (G:List Nat),e = .returned (.agg #[.string x.key,.int .i64 x.op,.slice A' x.values.length c'])∧am w' w.heap.size x [.string x.key,.int .i64 x.op,.slice A' x.values.length c'] G∧x.wt≤35∧bM w' c A n aq∧nN [c] w w'∧eB w' w.heap.size 9 1 A' c':=by
 have ax:=h.lt;have HC:=I h;clear h;go_enter Tryz.func149,Tryz.ntmps149;go_wp2_with fail
 refine (FV _ c A n aq (HC.out.ext (ak (aj _) _))).mono ?_;rintro e w1 ⟨s1,rfl,dB,H1,hu1⟩;replace H1:=I H1;go_wp2_with fail
 refine (fs 4 J _ c A n aq H1.out).mono ?_;rintro e w2 ⟨r,rfl,hr,H2,bN⟩;replace H2:=I H2;have X0:=oG.new w [.string ⟨#[]⟩,.int .i64 0,.slice none 0 0] 70;have X2:=(X0.bR hu1 J).bR bN J;have cE:=hu1.size;have cw:=bN.size;simp at cE;have cq:=H2.out.lt;have U2:=I (((nN.lq [c] (ak (aj w) _)).trans hu1).trans bN);have Y2:=oG.new w2 [.string s1,.int .i64 (1+r),.slice none 0 0] 70;replace X2:=X2.ext (ak (aj _) (.cells [.string s1,.int .i64 (1+r),.slice none 0 0].toArray 70));replace U2:=I (U2.out.alloc (.cells #[.string s1,.int .i64 (1+r),.slice none 0 0] 70));have cj:=I (H2.out.ext (ak (aj _) (.cells #[.string s1,.int .i64 (1+r),.slice none 0 0] 70)));clear X0 hu1 bN H1 H2 HC;have hI:br (1+(r:Int)):=by unfold br;omega
 by_cases h3:(1+(r:Int)) < 3
 ·go_wp2_with fail
  go_loopw [4,5] (fun v i wr=>∃(xs:List ByteArray) (ds:List Value) (A':Option Addr) (c' k:Nat),v = .slice A' xs.length c'∧i = .int .i64 k∧(k:Int)≤3∧Hid (xs.length = k∧(∀s∈xs,s.size≤8)∧wr.ownsRow (w2.heap.size+1) 9 1 (.slice A' xs.length c') xs.length ds∧jo wr xs ds []∧oG wr w.heap.size [.string ⟨#[]⟩,.int .i64 0,.slice none 0 0]∧oG wr w2.heap.size [.string s1,.int .i64 (1+r),.slice none 0 0]∧bM wr c A n aq∧nN [c] w wr∧w2.heap.size+1≤wr.heap.size)) (fun _ i _=>3 - (intOf i).toNat)
  case atStart =>exact ⟨[],[],_,_,0,rfl,rfl,J,I ⟨rfl,(fun s hs=>by cases hs),D9 _ 9 1 _ S',⟨rfl,rfl⟩,X2.ext (ak (aj _) _),Y2.ext (ak (aj _) _),cj.out.ext (ak (aj _) _),U2.out.alloc _,S'⟩⟩
  case round =>
   obtain ⟨xs,ds,A',c',k,rfl,rfl,hk,HX⟩:=hrel;obtain ⟨zn,cP,bd,dt,hX,hY,hC,hU,hz⟩:=HX.out;have gg:=I bd;have l8:=I dt;have GV:=I hX;have TZ:=I hY;have oz:=I hC;have HU:=I hU;have Eo:=I cP;have xd:(xs.length:Int)≤3:=J;have Oc:=I zn;clear bd dt hX hY hC hU cP zn HX X2 Y2 U2 cj;go_wp2_with fail
   refine (fs 3 J _ c A n aq oz.out).mono ?_;rintro e w4 ⟨q,rfl,hq,H4,Td⟩;have eE:=I H4;have KZ:=I (rQ gg.out Td J);have zC:=I (GV.out.bR Td J);have tW:=I (TZ.out.bR Td J);have hT:=I (HU.out.trans Td);have Wy:=Td.size;have GW:=I (show jo w4 xs ds [] from l8.out.frame (fun b X=>by cases X) Wy);clear H4 Td gg GV TZ HU oz l8;by_cases hkq:(k:Int) < 1+q
   ·go_wp2_with fail
    refine (F0 _ c A n aq eE.out).mono ?_;rintro e w5 ⟨s2,rfl,cR,H5,hu5⟩;have fj:=I H5;have aL:=rQ KZ.out hu5 (show c < w2.heap.size+1 by omega);have tY:=I (zC.out.bR hu5 J);have Od:=I (tW.out.bR hu5 J);have iC:=I (hT.out.trans hu5);have Es:=hu5.size;have T0:w2.heap.size+1≤w5.heap.size:=J;clear H5 hu5 KZ zC tW hT eE
    go_wp2_with (
     at_builtin
     go_must (refine lC qw O _ _ O _ _ _ _ _ aL O [.string s2] i6 O ex J J T0 ?_)
     intro v6 w6 dj eT nF;go_must (obtain ⟨A6,c6,hv6⟩:=mY dj)
     go_must (subst hv6)
     go_must (have cS:Below (w2.heap.size+1) w5 w6:=lS aL eT (Below.refl _ _) T0))
    have cT:(xs++[s2]).length = xs.length+1:=S';have t6:jo w6 (xs++[s2]) (ds++[.string s2]) []:=(aY.push (B:=w2.heap.size+1) (B':=w2.heap.size+1) ⟨GW.out.frame (fun b X=>by cases X) J,List.nodup_nil,(fun b X=>by cases X),(fun b X=>by cases X)⟩ (am.cK (dE w6 s2 (rV (len8 cR)))) (Nat.le_refl _) (fun b X=>by cases X)).rd;refine ⟨⟨xs++[s2],ds++[.string s2],A6,c6,k+1,(by rw [cT]),N',J,I ⟨by have:=Oc.out;omega,fun s hs=>?_,(by rw [cT];exact dj),t6,tY.out.bs (cS.block _ J),Od.out.bs (cS.block _ J),fj.out.aD cS J,iC.out.il cS J,by have:=cS.size;omega⟩⟩,by simp only [intOf];omega⟩;rcases List.mem_append.1 hs with hs | hs
    ·exact Eo.out s hs
    ·rw [List.mem_singleton] at hs;subst hs;exact cR
   ·obtain ⟨A5,c5,G5,dT,fH⟩:=am.oJ (α:=ByteArray) KZ.out ⟨GW.out,List.nodup_nil,(fun b X=>by cases X),(fun b X=>by cases X)⟩ (fun g _ hm=>by cases hm);simp only [Value.slice.injEq,true_and] at dT;obtain ⟨rfl,rfl⟩:=dT;have nJ:=I fH;clear fH KZ;go_wp2_with fail
    refine (RF xs A' c' G5 w4 nJ.out.rd J).mono ?_;rintro e w5 ⟨A6,c6,G6,rfl,iD,cS,Jg⟩;have t6:=I (Jg.mono (B':=w2.heap.size+1) J);have Es:=cS.size;have fj:=I (eE.out.ext cS);have iC:=I (hT.out.il cS J);have Oe:=I iD;have T4:=zC.out.ext cS;have Bn:=tW.out.ext cS;obtain ⟨Of,fhX5_0,khX5_1,fhX5_1,khX5_2,fhX5_2⟩:=qr T4;obtain ⟨Og,fhY5_0,khY5_1,fhY5_1,khY5_2,fhY5_2⟩:=qr Bn;clear T4 Bn cS iD zC tW eE hT
    have GY:=I (show (⟨s1,1+r,gr xs⟩:aM).wt≤35 from by
     have h1:=RB xs;have h2:kL ByteArray.size xs≤3 * (8+1):=vb (n:=3) (b:=8) J Eo.out;show s1.size+kL ByteArray.size (gr xs)≤35
     omega)
    have T5:(gr xs).length≤xs.length:=Rz xs;generalize gr xs = vs at *;go_wp2;refine bodyPost_ret (v:=.agg #[.string s1,.int .i64 (1+r),.slice A6 vs.length c6]) (by simp [results,Tryz.results149,go_sem, *]) rfl ?_;have gm:w.heap.size < w4.heap.size:=J;have bo:w2.heap.size < w4.heap.size:=J;exact ⟨⟨s1,1+r,vs⟩,A6,c6,G6,rfl,am.pg ((((((Oe.out.setCell (p:=⟨w2.heap.size,2,none⟩) bo _).setCell (p:=⟨w.heap.size,0,none⟩) gm _).setCell (p:=⟨w.heap.size,1,none⟩) gm _).setCell (p:=⟨w.heap.size,2,none⟩) gm _)).mono J) (len8 dB) hI,GY.out,(((fj.out.bj J 2 _).bj ax 0 _).bj ax 1 _).bj ax 2 _,(((iC.out.new J 2 _).new (Nat.le_refl _) 0 _).new (Nat.le_refl _) 1 _).new (Nat.le_refl _) 2 _,((((t6.out.bj J 2 _).bj J 0 _).bj J 1 _).bj J 2 _).mono J⟩
 ·have ff:=X2;have eR:=Y2;obtain ⟨Oh,fHX2_0,kHX2_1,fHX2_1,kHX2_2,fHX2_2⟩:=qr ff;clear ff eR X2 Y2;go_wp2;refine bodyPost_ret (v:=.agg #[.string s1,.int .i64 (1+r),.slice none 0 0]) (by simp [results,Tryz.results149,go_sem, *]) rfl ?_;exact ⟨⟨s1,1+r,[]⟩,none,0,[],rfl,am.pg (am.cK (Sl.nil _ none 0 (Nat.zero_le _))) (len8 dB) hI,(by show s1.size+0≤35;omega),(((cj.out.bj ax 0 _).bj ax 1 _).bj ax 2 _),((U2.out.new (Nat.le_refl _) 0 _).new (Nat.le_refl _) 1 _).new (Nat.le_refl _) 2 _,.inl ⟨rfl,rfl⟩⟩
theorem aEe (w:World) (c:Nat) (A:Option Addr) (n aq:Nat) (h:bM w c A n aq) :
 Calls Tryz.prog 149 #[.pointer (some ⟨c,0,none⟩)] w fun e w'=>∃(x:aM) (A':Option Addr) (c':Nat) (G:List Nat),e = .returned (.agg #[.string x.key,.int .i64 x.op,.slice A' x.values.length c'])∧am w' w.heap.size x [.string x.key,.int .i64 x.op,.slice A' x.values.length c'] G∧x.wt≤35∧bM w' c A n aq∧nN [c] w w' :=
 (TX w c A n aq h).mono fun _ _ ⟨xs,A',c',G,a,b,d,e,f,_⟩=>⟨xs,A',c',G,a,b,d,e,f⟩
theorem aAj {xs:List aM} (h:(jD xs).2 = true):py (jD xs).1 = true:=by
 unfold jD at h ⊢;split
 ·rename_i h2;exact h2.2.2
 ·rename_i h2;rw [if_neg h2] at h;cases h
theorem T6 (w:World) (c:Nat) (A:Option Addr) (n aq:Nat) (h:bM w c A n aq) :
 Calls Tryz.prog 114 #[.pointer (some ⟨c,0,none⟩)] w fun e w'=>∃(xs:List aM) (A':Option Addr) (c':Nat) (G:List Nat),e = .returned (.slice A' xs.length c')∧am w' w.heap.size xs [.slice A' xs.length c'] G∧kL aM.wt xs≤460∧bM w' c A n aq∧nN [c] w w'∧eB w' w.heap.size 70 3 A' c':=by
 have ax:=h.lt;have HC:=I h;clear h;go_enter Tryz.func114,Tryz.ntmps114;go_wp2_with fail
 go_loopw [3,4] (fun v i wr=>∃(xs:List aM) (A':Option Addr) (c':Nat) (G:List Nat) (k:Nat),v = .slice A' xs.length c'∧i = .int .i64 k∧(k:Int)≤2∧am wr w.heap.size xs [.slice A' xs.length c'] G∧Hid (kL aM.wt xs≤460)∧bM wr c A n aq∧nN [c] w wr∧Hid (eB wr w.heap.size 70 3 A' c')) (fun _ i _=>2 - (intOf i).toNat)
 case atStart =>obtain ⟨A',c',G,hv,hO⟩:=am.oJ (α:=aM) (D9 w 70 3 w.heap.size rfl) (aY.nil _ _) (fun g _ hm=>by cases hm);simp only [Value.slice.injEq,List.length_nil] at hv;obtain ⟨rfl,_,rfl⟩:=hv;exact ⟨[],_,_,G,0,rfl,rfl,J,hO,I (Nat.zero_le _),HC.out.ext (ak (aj _) _),nN.lq _ (ak (aj _) _),I (eB.oJ (D9 w 70 3 w.heap.size rfl) (Nat.le_refl _))⟩
 case round =>
  obtain ⟨xs,A',c',G,k,rfl,rfl,hk,hO,Du,hcur,hur,ly⟩:=hrel;have HO:=I hO;have rv:=I hcur;have rx:=I hur;have k9:=hur.size;have Ob:(xs.length:Int)≤460:=by have h1:=gJ aM.wt xs;have:=Du.out;omega
  clear hO hcur hur;go_wp2_with fail
  refine (fs 3 J _ c A n aq rv.out).mono ?_;rintro e w1 ⟨r,rfl,hr,H1,hu1⟩;have fL:=I (HO.out.drawn hu1 ax);have fk:=I (rx.out.trans hu1);have pu:=I (ly.out.drawn hu1 ax);have cE:=hu1.size;have cO:=I H1;clear H1 hu1 HO rv rx ly;by_cases hkr:(k:Int) < r
  ·have ry:=I fL.out.lt;have g6:=I pu.out.lt;have d7:=cO.out.lt;have GY:=I (show ∀l∈xs,l.wt≤460 from fun l hl=>by have h1:=Bq (f:=aM.wt) hl;have:=Du.out;omega);go_wp2_with fail
   refine (JR xs A' c' G w1 fL.out.rd J (fun l hl=>by have h1:=GY.out l hl;have h2:l.wt = l.key.size+kL ByteArray.size l.values:=rfl;have h3:=gJ ByteArray.size l.values;omega)).mono ?_;rintro e w2 ⟨v2,ds,F2,rfl,jk,ph,tC,ar⟩;obtain ⟨A2,c2,gn⟩:=mY jk;subst gn;have zD:=I (fun g hg=>(jk.lt g hg).2);have fy:=I ph.lt;have rz:=I jk;have rB:=I ph;have G9:=I tC;have cj:=I (cO.out.ext ar);have RZ:=I (fL.out.ext ar);have zA:=I (pu.out.ext ar);have cJ:=I (fk.out.il ar J);have cw:=ar.size;clear jk ph tC ar;go_wp2_with fail
   refine (aEe w2 c A n aq cj.out).mono ?_;rintro e w3 ⟨y,Ay,cy,Gy,rfl,tK,vr,H3,bu⟩;have cG:=I H3;have jl:=rQ rz.out bu (show c < w1.heap.size by omega);have rC:=I (rB.out.bs (w':=w3) (fun b X=>bu.block b (fy.out b X) (fun hm=>by have:=rB.out.base b X;rw [List.mem_singleton] at hm;omega)) bu.size);have qV:=I tK;have gf:=I (RZ.out.drawn bu ax);have zB:=I (zA.out.drawn bu ax);have dy:=I (cJ.out.trans bu);have cU:=bu.size;have lN:w1.heap.size≤w3.heap.size:=J;clear H3 tK cj rz rB RZ cJ bu
   go_wp2_with (
    at_builtin
    go_must (refine uf oF O _ _ O _ _ _ _ _ jl O [.string y.key,.int .i64 y.op,.slice Ay y.values.length cy] i6 O ex J J lN ?_)
    intro v4 w4 cX gM Wy j5;go_must (obtain ⟨A4,c4,hv4⟩:=mY cX)
    go_must (subst hv4)
    go_must (have bx:Below w1.heap.size w3 w4:=lS jl gM (Below.refl _ _) lN))
   have cT:(xs++[y]).length = xs.length+1:=S';obtain ⟨l7,hne4⟩:=aY.px jl rC.out G9.out qV.out J zD.out fy.out gM j5;obtain ⟨A5,c5,G5,dT,fH⟩:=am.oJ (α:=aM) (xs:=xs++[y]) Jt l7 hne4;rw [cT] at dT;simp only [Value.slice.injEq,true_and] at dT;obtain ⟨rfl,rfl⟩:=dT
   have HS:=RH (xs++[y]) A4 c4 G5 w4 fH.rd J (fun l hl=>by
    rcases List.mem_append.1 hl with hl | hl
    ·have:=GY.out l hl;omega
    ·rw [List.mem_singleton] at hl;subst hl;omega)
   rw [cT] at HS;have eE:=I (cG.out.aD bx J);have kC:=I (gf.out.GS bx ry.out);have CI:=I (zB.out.bs fun g hg=>bx.block g (g6.out g hg));have hT:=I (dy.out.il bx J);have jS:=I (fun h=>R' (aAj (xs:=xs++[y]) h));have JS:=bx.size;clear fH l7 hne4 cX gM bx jl fL fk cO cG gf dy ry qV rC G9 zD fy GY j5;refine HS.mono ?_;clear HS;generalize jD (xs++[y]) = R at *;exact xh
  ·exact tk
theorem aDf (w:World) (c:Nat) (A:Option Addr) (n aq:Nat) (h:bM w c A n aq) :
 Calls Tryz.prog 114 #[.pointer (some ⟨c,0,none⟩)] w fun e w'=>∃(xs:List aM) (A':Option Addr) (c':Nat) (G:List Nat),e = .returned (.slice A' xs.length c')∧am w' w.heap.size xs [.slice A' xs.length c'] G∧kL aM.wt xs≤460∧bM w' c A n aq∧nN [c] w w' :=
 (T6 w c A n aq h).mono fun _ _ ⟨xs,A',c',G,a,b,d,e,f,_⟩=>⟨xs,A',c',G,a,b,d,e,f⟩
end Go.Proofs.YtajbbmembionpaaGreat
