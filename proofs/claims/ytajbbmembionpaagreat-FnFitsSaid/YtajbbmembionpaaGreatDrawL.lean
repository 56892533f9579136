/- Draws of lists of labels, taints, tolerances. No condition. -/
import Derived.Test.YtajbbmembionpaaGreatDrawW
namespace Go.Proofs.YtajbbmembionpaaGreat
open Go.ChangeShapes Go.WideShapes Go.ChangeAt Go.RowKit
set_option linter.unusedVariables false
set_option linter.unusedSimpArgs false
set_option maxHeartbeats 4000000
set_option maxRecDepth 100000
theorem len8 {s:ByteArray} (h:s.size≤8):s.size≤maxLen:=by unfold maxLen;omega
theorem bR.aE {w w':World} {c n ar B:Nat} {A:Option Addr} (h:bR w c A n ar) (U:Below B w w') (hc:c < B):bR w' c A n ar:=by
 obtain ⟨⟨i,x,t,Z,h2⟩,h3,h4⟩:=h;refine ⟨⟨i,x,t,(U.block c hc).trans Z,h2⟩,fun k hk=>?_,h4⟩;obtain ⟨g,o,v,e,hg,hv,gm⟩:=h3 k hk;exact ⟨g,o,v,e,hg,(World.cell?_of_block (U.block g J)).trans hv,gm⟩
theorem nN.iJ {F:List Nat} {w w1 w2:World} {B:Nat} (h:nN F w w1) (U:Below B w1 w2) (hB:w.heap.size≤B):nN F w w2 :=
 ⟨U.os.trans h.os,U.tape.trans h.tape,U.output.trans h.output,Nat.le_trans h.size U.size,fun i hi X=>(U.block i J).trans (h.block i hi X)⟩
theorem am.Io {α:Type} [bb α] {w w':World} {B B2:Nat} {x:α} {cs:List Value} {F:List Nat} (h:am w B x cs F) (U:Below B2 w w') (hF:∀b∈F,b < B2):am w' B x cs F :=
 h.bm (fun b hm=>U.block b (hF b hm)) U.size
theorem azD {xs:List iU} (h:(Fq xs).2 = true):La (Fq xs).1 = true:=by
 unfold Fq at h ⊢;exact xX
theorem aBX (w:World) (c:Nat) (A:Option Addr) (n ar:Nat) (h:bR w c A n ar) :
 Calls Tryz.prog 161 #[.pointer (some ⟨c,0,none⟩)] w fun e w'=>∃(xs:List iU) (A':Option Addr) (c':Nat) (G:List Nat),e = .returned (.slice A' xs.length c')∧am w' w.heap.size xs [.slice A' xs.length c'] G∧kL iU.wt xs≤204∧bR w' c A n ar∧nN [c] w w'∧eE w' w.heap.size 126 3 A' c':=by
 have av:=h.lt;have HC:=I h;clear h;go_enter Tryz.func161,Tryz.ntmps161;go_wp2_with fail
 go_loopw [3,4] (fun v i wr=>∃(xs:List iU) (A':Option Addr) (c':Nat) (G:List Nat) (k:Nat),v = .slice A' xs.length c'∧i = .int .i64 k∧(k:Int)≤2∧am wr w.heap.size xs [.slice A' xs.length c'] G∧Hid (kL iU.wt xs≤204)∧bR wr c A n ar∧nN [c] w wr∧Hid (eE wr w.heap.size 126 3 A' c')) (fun _ i _=>2 - (intOf i).toNat)
 case atStart =>obtain ⟨A',c',G,hv,hO⟩:=am.oJ (α:=iU) (D9 w 126 3 w.heap.size rfl) (aY.nil _ _) (fun g _ hm=>by cases hm);simp only [Value.slice.injEq,List.length_nil] at hv;obtain ⟨rfl,_,rfl⟩:=hv;exact ⟨[],_,_,G,0,rfl,rfl,J,hO,I (Nat.zero_le _),HC.out.ext (ak (aj _) _),nN.lq _ (ak (aj _) _),I (eE.oJ (D9 w 126 3 w.heap.size rfl) (Nat.le_refl _))⟩
 case round =>
  obtain ⟨xs,A',c',G,k,rfl,rfl,hk,hO,Du,hcur,hur,lr⟩:=hrel;have HO:=I hO;have pa:=I hcur;have qT:=I hur;have lz:=hur.size;have Pu:(xs.length:Int)≤204:=by have Z:=gJ iU.wt xs;have:=Du.out;omega
  clear hO hcur hur;go_wp2_with fail
  refine (gS 3 J _ c A n ar pa.out).mono ?_;rintro e w1 ⟨r,rfl,hr,H1,hu1⟩;have fT:=I (HO.out.drawn hu1 av);have gd:=I (qT.out.trans hu1);have pn:=I (lr.out.drawn hu1 av);have cq:=hu1.size;have dX:=I H1;clear H1 hu1 HO pa qT lr;by_cases hkr:(k:Int) < r
  ·have qV:=I fT.out.lt;have tG:=I pn.out.lt;have dP:=dX.out.lt
   go_wp2_with (
    at_builtin
    go_must (refine rW pM M M _ _ M (w1.alloc (.cells #[] 126)) w1.heap.size _ 0 [] (D9 w1 126 3 w1.heap.size rfl) M xs A' c' G ((show Sl w1 xs A' c' G from fT.out.rd).ext (ak (aj _) _)) M J J S' ?_)
    intro v2 w2 ds G2 dz bA bi hg dt;go_must (obtain ⟨A2,c2,gj⟩:=mY bi)
    go_must (subst gj)
    go_must (have aq:Below w1.heap.size w1 w2:=lS (World.ownsRow_made (e:=126) (size:=3) w1 #[] 0 (Nat.le_refl _) (Nat.zero_le _) S') hg (ak (aj _) _) S'))
   simp only [Nat.zero_add,List.nil_append] at bi;try simp only [Nat.zero_add]
   obtain rfl:=wA (fun hh=>(oK hh).2.1) dz;have l6:=I dz;have oe:=I (dX.out.ext aq);have RZ:=I (fT.out.ext aq);have zB:=I (pn.out.ext aq);have cY:=I (gd.out.iJ aq J);have cC:=aq.size;have qX:=I bi;clear dz bA bi hg dt aq;refine (aC9 _ c A n ar oe.out).mono ?_;rintro e w3 ⟨y,rfl,hy,H3,bv⟩;have cV:=I H3;clear H3;have gc:=I (RZ.out.drawn bv av);have zC:=I (zB.out.drawn bv av);have eh:=I (cY.out.trans bv);have ep:=rQ qX.out bv (show c < w1.heap.size by omega);have dm:=bv.size;have lB:w1.heap.size≤w3.heap.size:=J
   go_wp2_with (
    at_builtin
    go_must (refine lC pM M _ _ M _ _ _ _ _ ep M [.string y.key,.string y.value,.int .i64 y.ap] iN M et J J lB ?_)
    intro v4 w4 da gF Wy;go_must (obtain ⟨A4,c4,hv4⟩:=mY da)
    go_must (subst hv4)
    go_must (have bw:Below w1.heap.size w3 w4:=lS ep gF (Below.refl _ _) lB))
   have dp:(xs++[y]).length = xs.length+1:=S';have vo:aY w4 w1.heap.size (xs++[y]) (ds++[.string y.key,.string y.value,.int .i64 y.ap]) []:=aY.push (B':=w1.heap.size) ⟨l6.out.frame (fun b U=>by cases U) (by simp;omega),List.nodup_nil,(fun b U=>by cases U),(fun b U=>by cases U)⟩ (am.cQ (Q8 w4 y (len8 hy.1) (len8 hy.2.1) oM)) (Nat.le_refl _) (fun b U=>by cases U);obtain ⟨A5,c5,G5,eg,fH⟩:=am.oJ (α:=iU) (xs:=xs++[y]) KZ vo (fun g _ hm=>by cases hm);rw [dp] at eg;simp only [Value.slice.injEq,true_and] at eg;obtain ⟨rfl,rfl⟩:=eg
   have HS:=Tb (xs++[y]) A4 c4 G5 w4 fH.rd J (fun l hl=>by
    rcases List.mem_append.1 hl with hl | hl
    ·have Z:=Bq (f:=iU.wt) hl;have h2:iU.wt l = l.key.size+l.value.size:=rfl;have:=Du.out;omega
    ·rw [List.mem_singleton] at hl;subst hl;omega)
   rw [dp] at HS;have fd:=I (cV.out.aE bw J);have kz:=I (gc.out.Io bw qV.out);have C1:=I (zC.out.bm fun g hg=>bw.block g (tG.out g hg));have hZ:=I (eh.out.iJ bw J);have il:=I (fun h=>TZ (azD (xs:=xs++[y]) h));have Ld:=bw.size;clear fH vo da gF bw ep bv qX l6 fT gd dX RZ cY oe cV gc eh qV;refine HS.mono ?_;clear HS;generalize Fq (xs++[y]) = R at *;exact xi
  ·exact sQ
theorem aBY (w:World) (c:Nat) (A:Option Addr) (n ar:Nat) (h:bR w c A n ar) :
 Calls Tryz.prog 161 #[.pointer (some ⟨c,0,none⟩)] w fun e w'=>∃(xs:List iU) (A':Option Addr) (c':Nat) (G:List Nat),e = .returned (.slice A' xs.length c')∧am w' w.heap.size xs [.slice A' xs.length c'] G∧kL iU.wt xs≤204∧bR w' c A n ar∧nN [c] w w' :=
 (aBX w c A n ar h).mono fun _ _ ⟨xs,A',c',G,a,b,d,e,f,_⟩=>⟨xs,A',c',G,a,b,d,e,f⟩
theorem aBo {xs:List bH} (h:(jC xs).2 = true):Ya (jC xs).1 = true:=by
 unfold jC at h ⊢;exact xX
theorem VM (w:World) (c:Nat) (A:Option Addr) (n ar:Nat) (h:bR w c A n ar) :
 Calls Tryz.prog 115 #[.pointer (some ⟨c,0,none⟩)] w fun e w'=>∃(xs:List bH) (A':Option Addr) (c':Nat) (G:List Nat),e = .returned (.slice A' xs.length c')∧am w' w.heap.size xs [.slice A' xs.length c'] G∧kL bH.wt xs≤204∧bR w' c A n ar∧nN [c] w w'∧eE w' w.heap.size 117 4 A' c':=by
 have av:=h.lt;have HC:=I h;clear h;go_enter Tryz.func115,Tryz.ntmps115;go_wp2_with fail
 go_loopw [3,4] (fun v i wr=>∃(xs:List bH) (A':Option Addr) (c':Nat) (G:List Nat) (k:Nat),v = .slice A' xs.length c'∧i = .int .i64 k∧(k:Int)≤2∧am wr w.heap.size xs [.slice A' xs.length c'] G∧Hid (kL bH.wt xs≤204)∧bR wr c A n ar∧nN [c] w wr∧Hid (eE wr w.heap.size 117 4 A' c')) (fun _ i _=>2 - (intOf i).toNat)
 case atStart =>obtain ⟨A',c',G,hv,hO⟩:=am.oJ (α:=bH) (D9 w 117 4 w.heap.size rfl) (aY.nil _ _) (fun g _ hm=>by cases hm);simp only [Value.slice.injEq,List.length_nil] at hv;obtain ⟨rfl,_,rfl⟩:=hv;exact ⟨[],_,_,G,0,rfl,rfl,J,hO,I (Nat.zero_le _),HC.out.ext (ak (aj _) _),nN.lq _ (ak (aj _) _),I (eE.oJ (D9 w 117 4 w.heap.size rfl) (Nat.le_refl _))⟩
 case round =>
  obtain ⟨xs,A',c',G,k,rfl,rfl,hk,hO,Du,hcur,hur,lr⟩:=hrel;have HO:=I hO;have pa:=I hcur;have qT:=I hur;have lz:=hur.size;have Pu:(xs.length:Int)≤204:=by have Z:=gJ bH.wt xs;have:=Du.out;omega
  clear hO hcur hur;go_wp2_with fail
  refine (gS 3 J _ c A n ar pa.out).mono ?_;rintro e w1 ⟨r,rfl,hr,H1,hu1⟩;have fT:=I (HO.out.drawn hu1 av);have gd:=I (qT.out.trans hu1);have pn:=I (lr.out.drawn hu1 av);have cq:=hu1.size;have dX:=I H1;clear H1 hu1 HO pa qT lr;by_cases hkr:(k:Int) < r
  ·have qV:=I fT.out.lt;have tG:=I pn.out.lt;have dP:=dX.out.lt
   go_wp2_with (
    at_builtin
    go_must (refine rW oF M M _ _ M (w1.alloc (.cells #[] 117)) w1.heap.size _ 0 [] (D9 w1 117 4 w1.heap.size rfl) M xs A' c' G ((show Sl w1 xs A' c' G from fT.out.rd).ext (ak (aj _) _)) M J J S' ?_)
    intro v2 w2 ds G2 dz bA bi hg dt;go_must (obtain ⟨A2,c2,gj⟩:=mY bi)
    go_must (subst gj)
    go_must (have aq:Below w1.heap.size w1 w2:=lS (World.ownsRow_made (e:=117) (size:=4) w1 #[] 0 (Nat.le_refl _) (Nat.zero_le _) S') hg (ak (aj _) _) S'))
   simp only [Nat.zero_add,List.nil_append] at bi;try simp only [Nat.zero_add]
   obtain rfl:=wA (fun hh=>(jv hh).2.1) dz;have l6:=I dz;have oe:=I (dX.out.ext aq);have RZ:=I (fT.out.ext aq);have zB:=I (pn.out.ext aq);have cY:=I (gd.out.iJ aq J);have cC:=aq.size;have qX:=I bi;clear dz bA bi hg dt aq;refine (T7 _ c A n ar oe.out).mono ?_;rintro e w3 ⟨y,rfl,hy,H3,bv⟩;have cV:=I H3;clear H3;have gc:=I (RZ.out.drawn bv av);have zC:=I (zB.out.drawn bv av);have eh:=I (cY.out.trans bv);have ep:=rQ qX.out bv (show c < w1.heap.size by omega);have dm:=bv.size;have lB:w1.heap.size≤w3.heap.size:=J
   go_wp2_with (
    at_builtin
    go_must (refine lC oF M _ _ M _ _ _ _ _ ep M [.string y.key,.bool y.equal,.string y.value,.int .i64 y.ap] iN M et J J lB ?_)
    intro v4 w4 da gF Wy;go_must (obtain ⟨A4,c4,hv4⟩:=mY da)
    go_must (subst hv4)
    go_must (have bw:Below w1.heap.size w3 w4:=lS ep gF (Below.refl _ _) lB))
   have dp:(xs++[y]).length = xs.length+1:=S';have vo:aY w4 w1.heap.size (xs++[y]) (ds++[.string y.key,.bool y.equal,.string y.value,.int .i64 y.ap]) []:=aY.push (B':=w1.heap.size) ⟨l6.out.frame (fun b U=>by cases U) (by simp;omega),List.nodup_nil,(fun b U=>by cases U),(fun b U=>by cases U)⟩ (am.cQ (Ov w4 y (len8 hy.1) (len8 hy.2.1) oM)) (Nat.le_refl _) (fun b U=>by cases U);obtain ⟨A5,c5,G5,eg,fH⟩:=am.oJ (α:=bH) (xs:=xs++[y]) KZ vo (fun g _ hm=>by cases hm);rw [dp] at eg;simp only [Value.slice.injEq,true_and] at eg;obtain ⟨rfl,rfl⟩:=eg
   have HS:=TI (xs++[y]) A4 c4 G5 w4 fH.rd J (fun l hl=>by
    rcases List.mem_append.1 hl with hl | hl
    ·have Z:=Bq (f:=bH.wt) hl;have h2:bH.wt l = l.key.size+l.value.size:=rfl;have:=Du.out;omega
    ·rw [List.mem_singleton] at hl;subst hl;omega)
   rw [dp] at HS;have fd:=I (cV.out.aE bw J);have kz:=I (gc.out.Io bw qV.out);have C1:=I (zC.out.bm fun g hg=>bw.block g (tG.out g hg));have hZ:=I (eh.out.iJ bw J);have il:=I (fun h=>T0 (aBo (xs:=xs++[y]) h));have Ld:=bw.size;clear fH vo da gF bw ep bv qX l6 fT gd dX RZ cY oe cV gc eh qV;refine HS.mono ?_;clear HS;generalize jC (xs++[y]) = R at *;exact xi
  ·exact sQ
theorem VN (w:World) (c:Nat) (A:Option Addr) (n ar:Nat) (h:bR w c A n ar) :
 Calls Tryz.prog 115 #[.pointer (some ⟨c,0,none⟩)] w fun e w'=>∃(xs:List bH) (A':Option Addr) (c':Nat) (G:List Nat),e = .returned (.slice A' xs.length c')∧am w' w.heap.size xs [.slice A' xs.length c'] G∧kL bH.wt xs≤204∧bR w' c A n ar∧nN [c] w w' :=
 (VM w c A n ar h).mono fun _ _ ⟨xs,A',c',G,a,b,d,e,f,_⟩=>⟨xs,A',c',G,a,b,d,e,f⟩
theorem azG {xs:List ao} (h:(BG xs).2 = true):sD (BG xs).1 = true:=by
 unfold BG at h ⊢;exact xX
theorem VO (w:World) (c:Nat) (A:Option Addr) (n ar:Nat) (h:bR w c A n ar) :
 Calls Tryz.prog 111 #[.pointer (some ⟨c,0,none⟩)] w fun e w'=>∃(xs:List ao) (A':Option Addr) (c':Nat) (G:List Nat),e = .returned (.slice A' xs.length c')∧am w' w.heap.size xs [.slice A' xs.length c'] G∧kL ao.wt xs≤306∧bR w' c A n ar∧nN [c] w w'∧eE w' w.heap.size 67 2 A' c':=by
 have av:=h.lt;have HC:=I h;clear h;go_enter Tryz.func111,Tryz.ntmps111;go_wp2_with fail
 go_loopw [3,4] (fun v i wr=>∃(xs:List ao) (A':Option Addr) (c':Nat) (G:List Nat) (k:Nat),v = .slice A' xs.length c'∧i = .int .i64 k∧(k:Int)≤3∧am wr w.heap.size xs [.slice A' xs.length c'] G∧Hid (kL ao.wt xs≤306)∧bR wr c A n ar∧nN [c] w wr∧Hid (eE wr w.heap.size 67 2 A' c')) (fun _ i _=>3 - (intOf i).toNat)
 case atStart =>obtain ⟨A',c',G,hv,hO⟩:=am.oJ (α:=ao) (D9 w 67 2 w.heap.size rfl) (aY.nil _ _) (fun g _ hm=>by cases hm);simp only [Value.slice.injEq,List.length_nil] at hv;obtain ⟨rfl,_,rfl⟩:=hv;exact ⟨[],_,_,G,0,rfl,rfl,J,hO,I (Nat.zero_le _),HC.out.ext (ak (aj _) _),nN.lq _ (ak (aj _) _),I (eE.oJ (D9 w 67 2 w.heap.size rfl) (Nat.le_refl _))⟩
 case round =>
  obtain ⟨xs,A',c',G,k,rfl,rfl,hk,hO,Du,hcur,hur,lr⟩:=hrel;have HO:=I hO;have pa:=I hcur;have qT:=I hur;have lz:=hur.size;have Pu:(xs.length:Int)≤306:=by have Z:=gJ ao.wt xs;have:=Du.out;omega
  clear hO hcur hur;go_wp2_with fail
  refine (gS 4 J _ c A n ar pa.out).mono ?_;rintro e w1 ⟨r,rfl,hr,H1,hu1⟩;have fT:=I (HO.out.drawn hu1 av);have gd:=I (qT.out.trans hu1);have pn:=I (lr.out.drawn hu1 av);have cq:=hu1.size;have dX:=I H1;clear H1 hu1 HO pa qT lr;by_cases hkr:(k:Int) < r
  ·have qV:=I fT.out.lt;have tG:=I pn.out.lt;have dP:=dX.out.lt
   go_wp2_with (
    at_builtin
    go_must (refine rW km M M _ _ M (w1.alloc (.cells #[] 67)) w1.heap.size _ 0 [] (D9 w1 67 2 w1.heap.size rfl) M xs A' c' G ((show Sl w1 xs A' c' G from fT.out.rd).ext (ak (aj _) _)) M J J S' ?_)
    intro v2 w2 ds G2 dz bA bi hg dt;go_must (obtain ⟨A2,c2,gj⟩:=mY bi)
    go_must (subst gj)
    go_must (have aq:Below w1.heap.size w1 w2:=lS (World.ownsRow_made (e:=67) (size:=2) w1 #[] 0 (Nat.le_refl _) (Nat.zero_le _) S') hg (ak (aj _) _) S'))
   simp only [Nat.zero_add,List.nil_append] at bi;try simp only [Nat.zero_add]
   obtain rfl:=wA (fun hh=>(vO hh).2.1) dz;have l6:=I dz;have oe:=I (dX.out.ext aq);have RZ:=I (fT.out.ext aq);have zB:=I (pn.out.ext aq);have cY:=I (gd.out.iJ aq J);have cC:=aq.size;have qX:=I bi;clear dz bA bi hg dt aq;refine (Hd _ c A n ar oe.out).mono ?_;rintro e wa ⟨s1,rfl,dq,Ha,hua⟩;have VS:=I Ha;clear Ha;go_wp2_with fail
   refine (Hh _ c A n ar VS.out).mono ?_;rintro e w3 ⟨s2,rfl,cR,H3,K2⟩;have bv:nN [c] w2 w3:=hua.trans K2;have cV:=I H3;clear H3 VS hua K2;obtain ⟨y,rfl,rfl⟩:∃y:ao,s1 = y.key∧s2 = y.value:=⟨⟨s1,s2⟩,rfl,rfl⟩;have hy:=And.intro dq cR;have gc:=I (RZ.out.drawn bv av);have zC:=I (zB.out.drawn bv av);have eh:=I (cY.out.trans bv);have ep:=rQ qX.out bv (show c < w1.heap.size by omega);have dm:=bv.size;have lB:w1.heap.size≤w3.heap.size:=J
   go_wp2_with (
    at_builtin
    go_must (refine lC km M _ _ M _ _ _ _ _ ep M [.string y.key,.string y.value] iN M et J J lB ?_)
    intro v4 w4 da gF Wy;go_must (obtain ⟨A4,c4,hv4⟩:=mY da)
    go_must (subst hv4)
    go_must (have bw:Below w1.heap.size w3 w4:=lS ep gF (Below.refl _ _) lB))
   have dp:(xs++[y]).length = xs.length+1:=S';have vo:aY w4 w1.heap.size (xs++[y]) (ds++[.string y.key,.string y.value]) []:=aY.push (B':=w1.heap.size) ⟨l6.out.frame (fun b U=>by cases U) (by simp;omega),List.nodup_nil,(fun b U=>by cases U),(fun b U=>by cases U)⟩ (am.cQ (Fo w4 y (len8 hy.1) (len8 hy.2))) (Nat.le_refl _) (fun b U=>by cases U);obtain ⟨A5,c5,G5,eg,fH⟩:=am.oJ (α:=ao) (xs:=xs++[y]) KZ vo (fun g _ hm=>by cases hm);rw [dp] at eg;simp only [Value.slice.injEq,true_and] at eg;obtain ⟨rfl,rfl⟩:=eg
   have HS:=S9 (xs++[y]) A4 c4 G5 w4 fH.rd J (fun l hl=>by
    rcases List.mem_append.1 hl with hl | hl
    ·have Z:=Bq (f:=ao.wt) hl;have h2:ao.wt l = l.key.size+l.value.size:=rfl;have:=Du.out;omega
    ·rw [List.mem_singleton] at hl;subst hl;omega)
   rw [dp] at HS;have fd:=I (cV.out.aE bw J);have kz:=I (gc.out.Io bw qV.out);have C1:=I (zC.out.bm fun g hg=>bw.block g (tG.out g hg));have hZ:=I (eh.out.iJ bw J);have il:=I (fun h=>Ox (azG (xs:=xs++[y]) h));have Ld:=bw.size;clear fH vo da gF bw ep bv qX l6 fT gd dX RZ cY oe cV gc eh qV;refine HS.mono ?_;clear HS;generalize BG (xs++[y]) = R at *;obtain ⟨u,b⟩:=R;rintro e w5 ⟨A6,c6,G6,rfl,iD,cD,Jg⟩;have fp:=I (fd.out.ext cD);have mH:=I (kz.out.ext cD);have Rl:=I (C1.out.ext cD);replace Jg:=I Jg;have iF:=I (hZ.out.iJ cD J);replace iD:=I (iD.mono (B':=w.heap.size) J);have Mn:(k:Int)+1≤3:=J;exact C3
  ·exact sQ
theorem VV (w:World) (c:Nat) (A:Option Addr) (n ar:Nat) (h:bR w c A n ar) :
 Calls Tryz.prog 111 #[.pointer (some ⟨c,0,none⟩)] w fun e w'=>∃(xs:List ao) (A':Option Addr) (c':Nat) (G:List Nat),e = .returned (.slice A' xs.length c')∧am w' w.heap.size xs [.slice A' xs.length c'] G∧kL ao.wt xs≤306∧bR w' c A n ar∧nN [c] w w' :=
 (VO w c A n ar h).mono fun _ _ ⟨xs,A',c',G,a,b,d,e,f,_⟩=>⟨xs,A',c',G,a,b,d,e,f⟩
end Go.Proofs.YtajbbmembionpaaGreat
