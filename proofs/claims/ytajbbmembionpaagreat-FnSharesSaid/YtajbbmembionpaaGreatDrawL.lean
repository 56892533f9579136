/- Draws of lists of labels, taints, tolerances. No condition. -/
import Derived.Test.YtajbbmembionpaaGreatDrawW
namespace Go.Proofs.YtajbbmembionpaaGreat
open Go.ChangeShapes Go.WideShapes Go.ChangeAt Go.RowKit
set_option linter.unusedVariables false
set_option linter.unusedSimpArgs false
set_option maxHeartbeats 4000000
set_option maxRecDepth 100000
theorem len8 {s:ByteArray} (h:s.size≤8):s.size≤maxLen:=by unfold maxLen;omega
theorem bM.aD {w w':World} {c n aq B:Nat} {A:Option Addr} (h:bM w c A n aq) (X:Below B w w') (hc:c < B):bM w' c A n aq:=by
 obtain ⟨⟨i,x,t,h1,h2⟩,h3,h4⟩:=h;refine ⟨⟨i,x,t,(X.block c hc).trans h1,h2⟩,fun k hk=>?_,h4⟩;obtain ⟨g,o,v,e,hg,hv,fW⟩:=h3 k hk;exact ⟨g,o,v,e,hg,(World.cell?_of_block (X.block g J)).trans hv,fW⟩
theorem nN.il {F:List Nat} {w w1 w2:World} {B:Nat} (h:nN F w w1) (X:Below B w1 w2) (hB:w.heap.size≤B):nN F w w2 :=
 ⟨X.os.trans h.os,X.tape.trans h.tape,X.output.trans h.output,Nat.le_trans h.size X.size,fun i hi Z=>(X.block i J).trans (h.block i hi Z)⟩
theorem am.GS {α:Type} [bc α] {w w':World} {B B2:Nat} {x:α} {cs:List Value} {F:List Nat} (h:am w B x cs F) (X:Below B2 w w') (hF:∀b∈F,b < B2):am w' B x cs F :=
 h.bs (fun b hm=>X.block b (hF b hm)) X.size
theorem azD {xs:List iU} (h:(Fq xs).2 = true):La (Fq xs).1 = true:=by
 unfold Fq at h ⊢;exact xR
theorem aBX (w:World) (c:Nat) (A:Option Addr) (n aq:Nat) (h:bM w c A n aq) :
 Calls Tryz.prog 161 #[.pointer (some ⟨c,0,none⟩)] w fun e w'=>∃(xs:List iU) (A':Option Addr) (c':Nat) (G:List Nat),e = .returned (.slice A' xs.length c')∧am w' w.heap.size xs [.slice A' xs.length c'] G∧kL iU.wt xs≤204∧bM w' c A n aq∧nN [c] w w'∧eB w' w.heap.size 126 3 A' c':=by
 have ax:=h.lt;have HC:=I h;clear h;go_enter Tryz.func161,Tryz.ntmps161;go_wp2_with fail
 go_loopw [3,4] (fun v i wr=>∃(xs:List iU) (A':Option Addr) (c':Nat) (G:List Nat) (k:Nat),v = .slice A' xs.length c'∧i = .int .i64 k∧(k:Int)≤2∧am wr w.heap.size xs [.slice A' xs.length c'] G∧Hid (kL iU.wt xs≤204)∧bM wr c A n aq∧nN [c] w wr∧Hid (eB wr w.heap.size 126 3 A' c')) (fun _ i _=>2 - (intOf i).toNat)
 case atStart =>obtain ⟨A',c',G,hv,hO⟩:=am.oJ (α:=iU) (D9 w 126 3 w.heap.size rfl) (aY.nil _ _) (fun g _ hm=>by cases hm);simp only [Value.slice.injEq,List.length_nil] at hv;obtain ⟨rfl,_,rfl⟩:=hv;exact ⟨[],_,_,G,0,rfl,rfl,J,hO,I (Nat.zero_le _),HC.out.ext (ak (aj _) _),nN.lq _ (ak (aj _) _),I (eB.oJ (D9 w 126 3 w.heap.size rfl) (Nat.le_refl _))⟩
 case round =>
  obtain ⟨xs,A',c',G,k,rfl,rfl,hk,hO,Du,hcur,hur,ly⟩:=hrel;have HO:=I hO;have rv:=I hcur;have rx:=I hur;have k9:=hur.size;have Ob:(xs.length:Int)≤204:=by have h1:=gJ iU.wt xs;have:=Du.out;omega
  clear hO hcur hur;go_wp2_with fail
  refine (fs 3 J _ c A n aq rv.out).mono ?_;rintro e w1 ⟨r,rfl,hr,H1,hu1⟩;have fL:=I (HO.out.drawn hu1 ax);have fk:=I (rx.out.trans hu1);have pu:=I (ly.out.drawn hu1 ax);have cE:=hu1.size;have cO:=I H1;clear H1 hu1 HO rv rx ly;by_cases hkr:(k:Int) < r
  ·have ry:=I fL.out.lt;have g6:=I pu.out.lt;have d7:=cO.out.lt
   go_wp2_with (
    at_builtin
    go_must (refine rW pQ O O _ _ O (w1.alloc (.cells #[] 126)) w1.heap.size _ 0 [] (D9 w1 126 3 w1.heap.size rfl) O xs A' c' G ((show Sl w1 xs A' c' G from fL.out.rd).ext (ak (aj _) _)) O J J S' ?_)
    intro v2 w2 ds G2 dt bB bk hg cY;go_must (obtain ⟨A2,c2,gn⟩:=mY bk)
    go_must (subst gn)
    go_must (have ar:Below w1.heap.size w1 w2:=lS (World.ownsRow_made (e:=126) (size:=3) w1 #[] 0 (Nat.le_refl _) (Nat.zero_le _) S') hg (ak (aj _) _) S'))
   simp only [Nat.zero_add,List.nil_append] at bk;try simp only [Nat.zero_add]
   obtain rfl:=ws (fun hh=>(oK hh).2.1) dt;have l8:=I dt;have oz:=I (cO.out.ext ar);have RZ:=I (fL.out.ext ar);have zA:=I (pu.out.ext ar);have cJ:=I (fk.out.il ar J);have cw:=ar.size;have rz:=I bk;clear dt bB bk hg cY ar;refine (ZD _ c A n aq oz.out).mono ?_;rintro e w3 ⟨y,rfl,hy,H3,bu⟩;have cG:=I H3;clear H3;have gf:=I (RZ.out.drawn bu ax);have zB:=I (zA.out.drawn bu ax);have dy:=I (cJ.out.trans bu);have dl:=rQ rz.out bu (show c < w1.heap.size by omega);have cU:=bu.size;have lN:w1.heap.size≤w3.heap.size:=J
   go_wp2_with (
    at_builtin
    go_must (refine lC pQ O _ _ O _ _ _ _ _ dl O [.string y.key,.string y.value,.int .i64 y.ao] i6 O ex J J lN ?_)
    intro v4 w4 cX gM Wy;go_must (obtain ⟨A4,c4,hv4⟩:=mY cX)
    go_must (subst hv4)
    go_must (have bx:Below w1.heap.size w3 w4:=lS dl gM (Below.refl _ _) lN))
   have cT:(xs++[y]).length = xs.length+1:=S';have rA:aY w4 w1.heap.size (xs++[y]) (ds++[.string y.key,.string y.value,.int .i64 y.ao]) []:=aY.push (B':=w1.heap.size) ⟨l8.out.frame (fun b X=>by cases X) (by simp;omega),List.nodup_nil,(fun b X=>by cases X),(fun b X=>by cases X)⟩ (am.cK (Q8 w4 y (len8 hy.1) (len8 hy.2.1) km)) (Nat.le_refl _) (fun b X=>by cases X);obtain ⟨A5,c5,G5,dT,fH⟩:=am.oJ (α:=iU) (xs:=xs++[y]) Jt rA (fun g _ hm=>by cases hm);rw [cT] at dT;simp only [Value.slice.injEq,true_and] at dT;obtain ⟨rfl,rfl⟩:=dT
   have HS:=Rj (xs++[y]) A4 c4 G5 w4 fH.rd J (fun l hl=>by
    rcases List.mem_append.1 hl with hl | hl
    ·have h1:=Bq (f:=iU.wt) hl;have h2:iU.wt l = l.key.size+l.value.size:=rfl;have:=Du.out;omega
    ·rw [List.mem_singleton] at hl;subst hl;omega)
   rw [cT] at HS;have eE:=I (cG.out.aD bx J);have kC:=I (gf.out.GS bx ry.out);have CI:=I (zB.out.bs fun g hg=>bx.block g (g6.out g hg));have hT:=I (dy.out.il bx J);have jS:=I (fun h=>R8 (azD (xs:=xs++[y]) h));have JS:=bx.size;clear fH rA cX gM bx dl bu rz l8 fL fk cO RZ cJ oz cG gf dy ry;refine HS.mono ?_;clear HS;generalize Fq (xs++[y]) = R at *;exact xh
  ·exact tk
theorem aBY (w:World) (c:Nat) (A:Option Addr) (n aq:Nat) (h:bM w c A n aq) :
 Calls Tryz.prog 161 #[.pointer (some ⟨c,0,none⟩)] w fun e w'=>∃(xs:List iU) (A':Option Addr) (c':Nat) (G:List Nat),e = .returned (.slice A' xs.length c')∧am w' w.heap.size xs [.slice A' xs.length c'] G∧kL iU.wt xs≤204∧bM w' c A n aq∧nN [c] w w' :=
 (aBX w c A n aq h).mono fun _ _ ⟨xs,A',c',G,a,b,d,e,f,_⟩=>⟨xs,A',c',G,a,b,d,e,f⟩
theorem aBo {xs:List bH} (h:(j6 xs).2 = true):Ya (j6 xs).1 = true:=by
 unfold j6 at h ⊢;exact xR
theorem TS (w:World) (c:Nat) (A:Option Addr) (n aq:Nat) (h:bM w c A n aq) :
 Calls Tryz.prog 115 #[.pointer (some ⟨c,0,none⟩)] w fun e w'=>∃(xs:List bH) (A':Option Addr) (c':Nat) (G:List Nat),e = .returned (.slice A' xs.length c')∧am w' w.heap.size xs [.slice A' xs.length c'] G∧kL bH.wt xs≤204∧bM w' c A n aq∧nN [c] w w'∧eB w' w.heap.size 117 4 A' c':=by
 have ax:=h.lt;have HC:=I h;clear h;go_enter Tryz.func115,Tryz.ntmps115;go_wp2_with fail
 go_loopw [3,4] (fun v i wr=>∃(xs:List bH) (A':Option Addr) (c':Nat) (G:List Nat) (k:Nat),v = .slice A' xs.length c'∧i = .int .i64 k∧(k:Int)≤2∧am wr w.heap.size xs [.slice A' xs.length c'] G∧Hid (kL bH.wt xs≤204)∧bM wr c A n aq∧nN [c] w wr∧Hid (eB wr w.heap.size 117 4 A' c')) (fun _ i _=>2 - (intOf i).toNat)
 case atStart =>obtain ⟨A',c',G,hv,hO⟩:=am.oJ (α:=bH) (D9 w 117 4 w.heap.size rfl) (aY.nil _ _) (fun g _ hm=>by cases hm);simp only [Value.slice.injEq,List.length_nil] at hv;obtain ⟨rfl,_,rfl⟩:=hv;exact ⟨[],_,_,G,0,rfl,rfl,J,hO,I (Nat.zero_le _),HC.out.ext (ak (aj _) _),nN.lq _ (ak (aj _) _),I (eB.oJ (D9 w 117 4 w.heap.size rfl) (Nat.le_refl _))⟩
 case round =>
  obtain ⟨xs,A',c',G,k,rfl,rfl,hk,hO,Du,hcur,hur,ly⟩:=hrel;have HO:=I hO;have rv:=I hcur;have rx:=I hur;have k9:=hur.size;have Ob:(xs.length:Int)≤204:=by have h1:=gJ bH.wt xs;have:=Du.out;omega
  clear hO hcur hur;go_wp2_with fail
  refine (fs 3 J _ c A n aq rv.out).mono ?_;rintro e w1 ⟨r,rfl,hr,H1,hu1⟩;have fL:=I (HO.out.drawn hu1 ax);have fk:=I (rx.out.trans hu1);have pu:=I (ly.out.drawn hu1 ax);have cE:=hu1.size;have cO:=I H1;clear H1 hu1 HO rv rx ly;by_cases hkr:(k:Int) < r
  ·have ry:=I fL.out.lt;have g6:=I pu.out.lt;have d7:=cO.out.lt
   go_wp2_with (
    at_builtin
    go_must (refine rW oV O O _ _ O (w1.alloc (.cells #[] 117)) w1.heap.size _ 0 [] (D9 w1 117 4 w1.heap.size rfl) O xs A' c' G ((show Sl w1 xs A' c' G from fL.out.rd).ext (ak (aj _) _)) O J J S' ?_)
    intro v2 w2 ds G2 dt bB bk hg cY;go_must (obtain ⟨A2,c2,gn⟩:=mY bk)
    go_must (subst gn)
    go_must (have ar:Below w1.heap.size w1 w2:=lS (World.ownsRow_made (e:=117) (size:=4) w1 #[] 0 (Nat.le_refl _) (Nat.zero_le _) S') hg (ak (aj _) _) S'))
   simp only [Nat.zero_add,List.nil_append] at bk;try simp only [Nat.zero_add]
   obtain rfl:=ws (fun hh=>(jv hh).2.1) dt;have l8:=I dt;have oz:=I (cO.out.ext ar);have RZ:=I (fL.out.ext ar);have zA:=I (pu.out.ext ar);have cJ:=I (fk.out.il ar J);have cw:=ar.size;have rz:=I bk;clear dt bB bk hg cY ar;refine (Sd _ c A n aq oz.out).mono ?_;rintro e w3 ⟨y,rfl,hy,H3,bu⟩;have cG:=I H3;clear H3;have gf:=I (RZ.out.drawn bu ax);have zB:=I (zA.out.drawn bu ax);have dy:=I (cJ.out.trans bu);have dl:=rQ rz.out bu (show c < w1.heap.size by omega);have cU:=bu.size;have lN:w1.heap.size≤w3.heap.size:=J
   go_wp2_with (
    at_builtin
    go_must (refine lC oV O _ _ O _ _ _ _ _ dl O [.string y.key,.bool y.equal,.string y.value,.int .i64 y.ao] i6 O ex J J lN ?_)
    intro v4 w4 cX gM Wy;go_must (obtain ⟨A4,c4,hv4⟩:=mY cX)
    go_must (subst hv4)
    go_must (have bx:Below w1.heap.size w3 w4:=lS dl gM (Below.refl _ _) lN))
   have cT:(xs++[y]).length = xs.length+1:=S';have rA:aY w4 w1.heap.size (xs++[y]) (ds++[.string y.key,.bool y.equal,.string y.value,.int .i64 y.ao]) []:=aY.push (B':=w1.heap.size) ⟨l8.out.frame (fun b X=>by cases X) (by simp;omega),List.nodup_nil,(fun b X=>by cases X),(fun b X=>by cases X)⟩ (am.cK (Ov w4 y (len8 hy.1) (len8 hy.2.1) km)) (Nat.le_refl _) (fun b X=>by cases X);obtain ⟨A5,c5,G5,dT,fH⟩:=am.oJ (α:=bH) (xs:=xs++[y]) Jt rA (fun g _ hm=>by cases hm);rw [cT] at dT;simp only [Value.slice.injEq,true_and] at dT;obtain ⟨rfl,rfl⟩:=dT
   have HS:=RN (xs++[y]) A4 c4 G5 w4 fH.rd J (fun l hl=>by
    rcases List.mem_append.1 hl with hl | hl
    ·have h1:=Bq (f:=bH.wt) hl;have h2:bH.wt l = l.key.size+l.value.size:=rfl;have:=Du.out;omega
    ·rw [List.mem_singleton] at hl;subst hl;omega)
   rw [cT] at HS;have eE:=I (cG.out.aD bx J);have kC:=I (gf.out.GS bx ry.out);have CI:=I (zB.out.bs fun g hg=>bx.block g (g6.out g hg));have hT:=I (dy.out.il bx J);have jS:=I (fun h=>R9 (aBo (xs:=xs++[y]) h));have JS:=bx.size;clear fH rA cX gM bx dl bu rz l8 fL fk cO RZ cJ oz cG gf dy ry;refine HS.mono ?_;clear HS;generalize j6 (xs++[y]) = R at *;exact xh
  ·exact tk
theorem TT (w:World) (c:Nat) (A:Option Addr) (n aq:Nat) (h:bM w c A n aq) :
 Calls Tryz.prog 115 #[.pointer (some ⟨c,0,none⟩)] w fun e w'=>∃(xs:List bH) (A':Option Addr) (c':Nat) (G:List Nat),e = .returned (.slice A' xs.length c')∧am w' w.heap.size xs [.slice A' xs.length c'] G∧kL bH.wt xs≤204∧bM w' c A n aq∧nN [c] w w' :=
 (TS w c A n aq h).mono fun _ _ ⟨xs,A',c',G,a,b,d,e,f,_⟩=>⟨xs,A',c',G,a,b,d,e,f⟩
theorem azG {xs:List ap} (h:(BG xs).2 = true):sD (BG xs).1 = true:=by
 unfold BG at h ⊢;exact xR
theorem TU (w:World) (c:Nat) (A:Option Addr) (n aq:Nat) (h:bM w c A n aq) :
 Calls Tryz.prog 111 #[.pointer (some ⟨c,0,none⟩)] w fun e w'=>∃(xs:List ap) (A':Option Addr) (c':Nat) (G:List Nat),e = .returned (.slice A' xs.length c')∧am w' w.heap.size xs [.slice A' xs.length c'] G∧kL ap.wt xs≤306∧bM w' c A n aq∧nN [c] w w'∧eB w' w.heap.size 67 2 A' c':=by
 have ax:=h.lt;have HC:=I h;clear h;go_enter Tryz.func111,Tryz.ntmps111;go_wp2_with fail
 go_loopw [3,4] (fun v i wr=>∃(xs:List ap) (A':Option Addr) (c':Nat) (G:List Nat) (k:Nat),v = .slice A' xs.length c'∧i = .int .i64 k∧(k:Int)≤3∧am wr w.heap.size xs [.slice A' xs.length c'] G∧Hid (kL ap.wt xs≤306)∧bM wr c A n aq∧nN [c] w wr∧Hid (eB wr w.heap.size 67 2 A' c')) (fun _ i _=>3 - (intOf i).toNat)
 case atStart =>obtain ⟨A',c',G,hv,hO⟩:=am.oJ (α:=ap) (D9 w 67 2 w.heap.size rfl) (aY.nil _ _) (fun g _ hm=>by cases hm);simp only [Value.slice.injEq,List.length_nil] at hv;obtain ⟨rfl,_,rfl⟩:=hv;exact ⟨[],_,_,G,0,rfl,rfl,J,hO,I (Nat.zero_le _),HC.out.ext (ak (aj _) _),nN.lq _ (ak (aj _) _),I (eB.oJ (D9 w 67 2 w.heap.size rfl) (Nat.le_refl _))⟩
 case round =>
  obtain ⟨xs,A',c',G,k,rfl,rfl,hk,hO,Du,hcur,hur,ly⟩:=hrel;have HO:=I hO;have rv:=I hcur;have rx:=I hur;have k9:=hur.size;have Ob:(xs.length:Int)≤306:=by have h1:=gJ ap.wt xs;have:=Du.out;omega
  clear hO hcur hur;go_wp2_with fail
  refine (fs 4 J _ c A n aq rv.out).mono ?_;rintro e w1 ⟨r,rfl,hr,H1,hu1⟩;have fL:=I (HO.out.drawn hu1 ax);have fk:=I (rx.out.trans hu1);have pu:=I (ly.out.drawn hu1 ax);have cE:=hu1.size;have cO:=I H1;clear H1 hu1 HO rv rx ly;by_cases hkr:(k:Int) < r
  ·have ry:=I fL.out.lt;have g6:=I pu.out.lt;have d7:=cO.out.lt
   go_wp2_with (
    at_builtin
    go_must (refine rW kk O O _ _ O (w1.alloc (.cells #[] 67)) w1.heap.size _ 0 [] (D9 w1 67 2 w1.heap.size rfl) O xs A' c' G ((show Sl w1 xs A' c' G from fL.out.rd).ext (ak (aj _) _)) O J J S' ?_)
    intro v2 w2 ds G2 dt bB bk hg cY;go_must (obtain ⟨A2,c2,gn⟩:=mY bk)
    go_must (subst gn)
    go_must (have ar:Below w1.heap.size w1 w2:=lS (World.ownsRow_made (e:=67) (size:=2) w1 #[] 0 (Nat.le_refl _) (Nat.zero_le _) S') hg (ak (aj _) _) S'))
   simp only [Nat.zero_add,List.nil_append] at bk;try simp only [Nat.zero_add]
   obtain rfl:=ws (fun hh=>(vO hh).2.1) dt;have l8:=I dt;have oz:=I (cO.out.ext ar);have RZ:=I (fL.out.ext ar);have zA:=I (pu.out.ext ar);have cJ:=I (fk.out.il ar J);have cw:=ar.size;have rz:=I bk;clear dt bB bk hg cY ar;refine (FV _ c A n aq oz.out).mono ?_;rintro e wa ⟨s1,rfl,dB,Ha,hua⟩;have TV:=I Ha;clear Ha;go_wp2_with fail
   refine (F0 _ c A n aq TV.out).mono ?_;rintro e w3 ⟨s2,rfl,cR,H3,Jx⟩;have bu:nN [c] w2 w3:=hua.trans Jx;have cG:=I H3;clear H3 TV hua Jx;obtain ⟨y,rfl,rfl⟩:∃y:ap,s1 = y.key∧s2 = y.value:=⟨⟨s1,s2⟩,rfl,rfl⟩;have hy:=And.intro dB cR;have gf:=I (RZ.out.drawn bu ax);have zB:=I (zA.out.drawn bu ax);have dy:=I (cJ.out.trans bu);have dl:=rQ rz.out bu (show c < w1.heap.size by omega);have cU:=bu.size;have lN:w1.heap.size≤w3.heap.size:=J
   go_wp2_with (
    at_builtin
    go_must (refine lC kk O _ _ O _ _ _ _ _ dl O [.string y.key,.string y.value] i6 O ex J J lN ?_)
    intro v4 w4 cX gM Wy;go_must (obtain ⟨A4,c4,hv4⟩:=mY cX)
    go_must (subst hv4)
    go_must (have bx:Below w1.heap.size w3 w4:=lS dl gM (Below.refl _ _) lN))
   have cT:(xs++[y]).length = xs.length+1:=S';have rA:aY w4 w1.heap.size (xs++[y]) (ds++[.string y.key,.string y.value]) []:=aY.push (B':=w1.heap.size) ⟨l8.out.frame (fun b X=>by cases X) (by simp;omega),List.nodup_nil,(fun b X=>by cases X),(fun b X=>by cases X)⟩ (am.cK (EH w4 y (len8 hy.1) (len8 hy.2))) (Nat.le_refl _) (fun b X=>by cases X);obtain ⟨A5,c5,G5,dT,fH⟩:=am.oJ (α:=ap) (xs:=xs++[y]) Jt rA (fun g _ hm=>by cases hm);rw [cT] at dT;simp only [Value.slice.injEq,true_and] at dT;obtain ⟨rfl,rfl⟩:=dT
   have HS:=Rh (xs++[y]) A4 c4 G5 w4 fH.rd J (fun l hl=>by
    rcases List.mem_append.1 hl with hl | hl
    ·have h1:=Bq (f:=ap.wt) hl;have h2:ap.wt l = l.key.size+l.value.size:=rfl;have:=Du.out;omega
    ·rw [List.mem_singleton] at hl;subst hl;omega)
   rw [cT] at HS;have eE:=I (cG.out.aD bx J);have kC:=I (gf.out.GS bx ry.out);have CI:=I (zB.out.bs fun g hg=>bx.block g (g6.out g hg));have hT:=I (dy.out.il bx J);have jS:=I (fun h=>M1 (azG (xs:=xs++[y]) h));have JS:=bx.size;clear fH rA cX gM bx dl bu rz l8 fL fk cO RZ cJ oz cG gf dy ry;refine HS.mono ?_;clear HS;generalize BG (xs++[y]) = R at *;obtain ⟨u,b⟩:=R;rintro e w5 ⟨A6,c6,G6,rfl,iD,cS,Jg⟩;have fj:=I (eE.out.ext cS);have nJ:=I (kC.out.ext cS);have PP:=I (CI.out.ext cS);replace Jg:=I Jg;have iC:=I (hT.out.il cS J);replace iD:=I (iD.mono (B':=w.heap.size) J);have Li:(k:Int)+1≤3:=J;exact CK
  ·exact tk
theorem TW (w:World) (c:Nat) (A:Option Addr) (n aq:Nat) (h:bM w c A n aq) :
 Calls Tryz.prog 111 #[.pointer (some ⟨c,0,none⟩)] w fun e w'=>∃(xs:List ap) (A':Option Addr) (c':Nat) (G:List Nat),e = .returned (.slice A' xs.length c')∧am w' w.heap.size xs [.slice A' xs.length c'] G∧kL ap.wt xs≤306∧bM w' c A n aq∧nN [c] w w' :=
 (TU w c A n aq h).mono fun _ _ ⟨xs,A',c',G,a,b,d,e,f,_⟩=>⟨xs,A',c',G,a,b,d,e,f⟩
end Go.Proofs.YtajbbmembionpaaGreat
