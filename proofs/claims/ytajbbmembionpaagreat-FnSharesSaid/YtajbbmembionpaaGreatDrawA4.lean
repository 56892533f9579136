/- Draws of needs that may be wrong. No condition. -/
import Derived.Test.YtajbbmembionpaaGreatDrawA2
import Derived.Test.YtajbbmembionpaaGreatDrawN
namespace Go.Proofs.YtajbbmembionpaaGreat
open Go.ChangeShapes Go.WideShapes Go.ChangeAt Go.RowKit
set_option linter.unusedVariables false
set_option linter.unusedSimpArgs false
set_option maxHeartbeats 4000000
set_option maxRecDepth 100000
theorem am.oD {w:World} {B:Nat} {x:aM} {A:Option Addr} {c n:Nat} {k:ByteArray} {o:Int} {G:List Nat} (h:am w B x [.string k,.int .i64 o,.slice A n c] G):am w B x.values [.slice A x.values.length c] G∧n = x.values.length∧x.key.size≤maxLen∧br x.op:=by
 obtain ⟨Av,cv,Fv,aE,rfl,h1,h2,h3⟩:=og h.rd;simp only [List.cons.injEq,Value.slice.injEq,and_true] at aE;obtain ⟨_,_,rfl,rfl,rfl⟩:=aE;exact ⟨⟨h3,h.nodup,h.base,h.plain⟩,rfl,h1,h2⟩
theorem am.ft {α:Type} [bc α] {w:World} {B:Nat} {x:α} {cs:List Value} {F:List Nat} (h:am w B x cs F) {p:Addr} (Z:∀b∈F,b≠p.block) (u:Value):am (w.setCell p u) B x cs F :=
 h.bs (fun b hm=>Below.heap_setCell _ _ _ _ (Z b hm)) eC
theorem eS.bj {α:Type} [bc α] {w:World} {B:Nat} {e:TypeId} {xs:List α} {v:Value} {ds:List Value} {F:List Nat} {b i:Nat} {u:Value} (h:eS w B e xs v ds F) (h1:∀g,v.ownBlock = some g→g≠b) (h2:∀g∈F,g≠b):eS (w.setCell ⟨b,i,none⟩ u) B e xs v ds F :=
 ⟨EJ h.1 h1,h.2.1.bs (fun g hg=>Below.heap_setCell _ _ _ _ (h2 g hg)) eC,h.2.2⟩
theorem lh (w:World) (c:Nat) (A:Option Addr) (n aq:Nat) (h:bM w c A n aq) :
 Calls Tryz.prog 121 #[.pointer (some ⟨c,0,none⟩)] w fun e w'=>∃(x:aM) (A':Option Addr) (c':Nat) (G:List Nat),e = .returned (.agg #[.string x.key,.int .i64 x.op,.slice A' x.values.length c'])∧am w' w.heap.size x [.string x.key,.int .i64 x.op,.slice A' x.values.length c'] G∧x.wt≤70∧bM w' c A n aq∧nN [c] w w':=by
 have ax:=h.lt;have HC:=I h;clear h;go_enter Tryz.func121,Tryz.ntmps121;go_wp2_with fail
 refine (TX _ c A n aq (HC.out.ext (ak (aj _) _))).mono ?_;rintro e w1 ⟨x,A1,c1,G1,rfl,jX,nH,H1,hu1,cH⟩;have vw:=I ((oG.new w [.string ⟨#[]⟩,.int .i64 0,.slice none 0 0] 70).bR hu1 J);have fk:=I ((nN.lq [c] (ak (aj w) _)).trans hu1);have cE:=hu1.size;simp at cE jX cH;obtain ⟨ss,_,_,_⟩:=jX.oD;obtain ⟨ds,F,bd,cb,b4⟩:=ss.od cH;have gP:=I (show eS w1 (w.heap.size+1) 9 x.values (.slice A1 x.values.length c1) ds F from ⟨bd,cb,b4⟩);have Hm:=I (show ∀g,(Value.slice A1 x.values.length c1).ownBlock = some g→w.heap.size+1≤g∧g < w1.heap.size from fun g hg=>bd.lt g hg);have zP:=I (show ∀g∈F,w.heap.size+1≤g∧g < w1.heap.size from fun g hg=>⟨cb.base g hg,cb.lt g hg⟩);have fL:=I jX;have ZN:=I (show x.key.size+kL ByteArray.size x.values≤35 from nH);have OH:=I (show x.values.length≤35 by have:=gJ ByteArray.size x.values;have e:x.wt = x.key.size+kL ByteArray.size x.values:=rfl;omega);have cO:=I H1;have j8:=H1.lt;have jH:=I jX.lt;have zm:=I jX.base;have fI:∀b∈G1,w.heap.size < b∧b < w1.heap.size:=fun b X=>⟨by have:=zm.out b X;omega,jH.out b X⟩;have OI:=I fI;clear H1 hu1 HC jX cH nH jH zm fI ss bd cb b4;go_wp2_with fail
 refine (fs 10 J _ c A n aq (cO.out.ext (ak (aj _) _))).mono ?_;rintro e w2 ⟨r,rfl,hr,H2,bN⟩;have cj:=I H2;have ff:=I ((vw.out.ext (ak (aj _) _)).bR bN J);have eR:=I ((oG.new w1 [.string x.key,.int .i64 x.op,.slice A1 x.values.length c1] 70).bR bN J);have cJ:=I ((fk.out.alloc _).trans bN);have RZ:=I ((fL.out.ext (ak (aj _) (.cells ([.string x.key,.int .i64 x.op,.slice A1 x.values.length c1]:List Value).toArray 70))).drawn bN J);have ky:=I ((gP.out.ext (ak (aj _) (.cells ([.string x.key,.int .i64 x.op,.slice A1 x.values.length c1]:List Value).toArray 70))).drawn bN J);have cw:=bN.size;simp at cw;clear H2 bN cO vw fk fL gP;by_cases h0:r = 0
 ·subst h0;clear ky Hm zP OH;go_wp2_with fail
  refine (fs 7 J _ c A n aq cj.out).mono ?_;rintro e w3 ⟨q,rfl,hq,H3,bu⟩;have cG:=I H3;have xx:=ff.out.bR bu J;have yy:=eR.out.bR bu J;have dy:=I (cJ.out.trans bu);have gf:=I (RZ.out.drawn bu J);have cU:=bu.size;obtain ⟨iA,azr,azs,azt,azu,azv⟩:=qr xx;obtain ⟨iP,aAC,aAD,aAE,aAF,aAG⟩:=qr yy;clear xx yy ff eR H3 bu cj cJ RZ;go_wp2;have fI:=OI.out;obtain ⟨hv,_,hk,_⟩:=gf.out.oD;have HV:=am.pg (k:=x.key) (op:=(q:Int) - 1) hv hk km;refine bodyPost_ret (v:=.agg #[.string x.key,.int .i64 ((q:Int) - 1),.slice A1 x.values.length c1]) (by simp [results,Tryz.results121,go_sem, *]) rfl ?_;exact ⟨⟨x.key,(q:Int) - 1,x.values⟩,A1,c1,G1,rfl,(((((HV.ft (p:=⟨w1.heap.size,1,none⟩) (fun b X=>by have:=fI b X;dsimp only;omega) _).ft (p:=⟨w.heap.size,0,none⟩) (fun b X=>by have:=fI b X;dsimp only;omega) _).ft (p:=⟨w.heap.size,1,none⟩) (fun b X=>by have:=fI b X;dsimp only;omega) _).ft (p:=⟨w.heap.size,2,none⟩) (fun b X=>by have:=fI b X;dsimp only;omega) _)).mono J,(by have:=ZN.out;show x.key.size+kL ByteArray.size x.values≤70;omega),((((cG.out.bj J 1 _).bj J 0 _).bj J 1 _).bj J 2 _),((((dy.out.new J 1 _).new J 0 _).new J 1 _).new J 2 _)⟩
 ·have d0:((r:Int) == 0) = false:=by simp;omega
  by_cases h1:r = 1
  ·subst h1;obtain ⟨fW,ss,hk,ia⟩:=RZ.out.oD;clear fW ss;have Uo:=I (And.intro hk ia);have Hp:=I cj.out.drew;have Hs:=I (ff.out.ext (aA (aj _)));have t8:=I (eR.out.ext (aA (aj _)));have Hu:=I (cJ.out.trans (nN.lq [c] (aA (aj _))));have Hv:=I (ky.out.ext (aA (aj _)));have Ff:w2.heap.size≤w2.drew.heap.size:=(aA (aj w2)).size;have y2:=t8.out.cell (i:=2) (u:=.slice A1 x.values.length c1) rfl;clear hk ia RZ cj ff eR cJ ky;go_wp2_with fail
   refine uq (fun w'=>w'.cell? ⟨w1.heap.size,2,none⟩ = some (.slice A1 x.values.length c1)) [0,1,2] [3,4,5,6] [7,8] U' U' H' y2 ?_;clear y2;generalize w2.drew = wd at *;simp only [d9,List.getElem?_cons_succ,List.getElem?_cons_zero]
   iterate 3
    (apply dR
     case hy =>exact xV
     simp only [Act.put,pz])
   refine fE ?_;refine iK rfl (fun K hK=>?_);go_simp;refine hK _ _ ((t8.out.ext (ak (aj _) (.cells ([.string ⟨#[97]⟩,.string ⟨#[122,122]⟩,.string ⟨#[45]⟩,.string ⟨#[]⟩]:List Value).toArray 9))).cell (i:=2) (u:=.slice A1 x.values.length c1) rfl) ?_;try simp only [Act.put,pz]
   clear hK K;refine iK rfl (fun K hK=>?_);go_simp;refine (uW (fun s=>s.size≤31) wd.heap.size 4 _ J _ c A n aq (Hp.out.ext (ak (aj _) _)) J S' (fun k hk=>?_)).mono ?_
   ·have fX:k = 0∨k = 1∨k = 2∨k = 3:=J;rcases fX with rfl | rfl | rfl | rfl <;> exact ⟨_,oT _ _ _ _ _ rfl,by decide⟩
   rintro e w4 ⟨s,rfl,hs,H4,Td⟩;have eE:=I H4;have vy:=I ((Hs.out.ext (ak (aj _) _)).bR Td J);have kj:=I ((t8.out.ext (ak (aj _) _)).bR Td J);have hT:=I ((Hu.out.alloc _).trans Td);have sH:=I ((Hv.out.ext (ak (aj _) _)).drawn Td J);have Wy:=Td.size;simp at Wy;have y4:=kj.out.cell (i:=2) (u:=.slice A1 x.values.length c1) rfl;have y4a:=(kj.out.ext (ak (aj _) (.cells ([.string s]:List Value).toArray 9))).cell (i:=2) (u:=.slice A1 x.values.length c1) rfl;clear H4 Td Hp Hs t8 Hu Hv;refine hK _ _ y4 ?_;try simp only [Act.put,pz]
   clear hK K;refine iK rfl (fun K hK=>?_);go_simp;refine hK _ _ y4a ?_;try simp only [Act.put,pz]
   clear hK K;refine iK rfl (fun K hK=>?_);have ow:w.heap.size+1≤w4.heap.size:=J;have T5:x.values.length≤2097152:=(by have:=OH.out;omega);refine Qb qw _ _ O _ _ _ _ _ sH.out.1 O [.string s] i6 O ex T5 J ow ?_;intro v6 w6 dj eT nF fR;obtain ⟨A6,c6,hv6⟩:=mY dj;subst hv6;have ie:c < w.heap.size+1:=J;have cS:Below (w.heap.size+1) w4 w6:=lS sH.out.1 eT (Below.refl _ _) ow;have Up:=I (vy.out.bs (cS.block _ J));have Hh:=I (kj.out.bs (eT.block _ kj.out.lt (by intro e;have:=Hm.out _ e.symm;omega)));have mE:=I (eE.out.aD cS ie);have zK:=I (hT.out.il cS J);obtain ⟨j0,hne6⟩:=aY.px sH.out.1 sH.out.2.1 sH.out.2.2 (am.cK (B:=w4.heap.size) (dE w4 s J)) ow (fun g hg=>by have:=Hm.out g hg;omega) (fun g hg=>by have:=zP.out g hg;omega) eT fR;have t6:=I (show eS w6 (w.heap.size+1) 9 (x.values++[s]) (.slice A6 (x.values.length+1) c6) _ _ from ⟨by rw [List.length_append];exact dj,j0,hne6⟩)
   have K2:=I (show ∀g,(Value.slice A6 (x.values.length+1) c6).ownBlock = some g→g≠w.heap.size∧g≠w1.heap.size from fun g hg=>by
    rcases fR with e | e
    ·have:=Hm.out g (e.symm.trans hg);omega
    ·rw [e] at hg;simp only [Option.some.injEq] at hg;omega)
   have y6:=Hh.out.cell (i:=2) (u:=.slice A1 x.values.length c1) rfl;have xx:=Up.out;have yy:=Hh.out;obtain ⟨iA,azr,azs,azt,azu,azv⟩:=qr xx;obtain ⟨iP,aAC,aAD,aAE,aAF,aAG⟩:=qr yy;clear xx yy eT fR dj j0 hne6 cS vy kj eE hT sH Up Hh;refine hK _ _ y6 ?_;try simp only [Act.put,pz]
   clear hK K;refine yG ?_;go_wp2;have hR:=(((t6.out.bj (b:=w1.heap.size) (i:=2) (u:=.slice A6 (x.values.length+1) c6) (fun g hg=>(K2.out g hg).2) (fun g hg=>by have:=zP.out g (by simpa using hg);omega)).bj (b:=w.heap.size) (i:=0) (u:=.string x.key) (fun g hg=>(K2.out g hg).1) (fun g hg=>by have:=zP.out g (by simpa using hg);omega)).bj (b:=w.heap.size) (i:=1) (u:=.int .i64 x.op) (fun g hg=>(K2.out g hg).1) (fun g hg=>by have:=zP.out g (by simpa using hg);omega)).bj (b:=w.heap.size) (i:=2) (u:=.slice A6 (x.values.length+1) c6) (fun g hg=>(K2.out g hg).1) (fun g hg=>by have:=zP.out g (by simpa using hg);omega);obtain ⟨A5,c5,G5,dT,fH⟩:=am.oJ (α:=ByteArray) hR.1 hR.2.1 hR.2.2;simp only [Value.slice.injEq] at dT;obtain ⟨rfl,rR,rfl⟩:=dT;clear rR;have HV:=I (am.pg (k:=x.key) (op:=x.op) fH Uo.out.1 Uo.out.2);clear hR fH;refine bodyPost_ret (v:=.agg #[.string x.key,.int .i64 x.op,.slice A6 (x.values.length+1) c6]) (by simp [results,Tryz.results121,go_sem, *]) rfl ?_;exact ⟨⟨x.key,x.op,x.values++[s]⟩,A6,c6,G5,S',HV.out.mono J,(by show x.key.size+kL ByteArray.size (x.values++[s])≤70;rw [ep];have:=ZN.out;omega),((((mE.out.bj J 2 _).bj J 0 _).bj J 1 _).bj J 2 _),((((zK.out.new J 2 _).new J 0 _).new J 1 _).new J 2 _)⟩
  ·have d1:((r:Int) == 1) = false:=(by simp;omega);clear ky Hm zP OH;by_cases h2:r = 2
   ·subst h2;go_wp2_with fail
    refine (uW (fun s=>s.size≤31) w2.heap.size 2 _ J _ c A n aq (cj.out.ext (ak (aj _) _)) (by have:=cj.out.lt;omega) S' (fun k hk=>?_)).mono ?_
    ·have fX:k = 0∨k = 1:=J;rcases fX with rfl | rfl <;> exact ⟨_,oT _ _ _ _ _ rfl,by decide⟩
    rintro e w3 ⟨s,rfl,hs,H3,bu⟩;have cG:=I H3;have xx:=(ff.out.ext (ak (aj _) _)).bR bu J;have yy:=(eR.out.ext (ak (aj _) _)).bR bu J;have dy:=I ((cJ.out.alloc _).trans bu);have gf:=I ((RZ.out.ext (ak (aj _) _)).drawn bu J);have cU:=bu.size;simp at cU;obtain ⟨iA,azr,azs,azt,azu,azv⟩:=qr xx;obtain ⟨iP,aAC,aAD,aAE,aAF,aAG⟩:=qr yy;clear xx yy ff eR H3 bu cj cJ RZ;go_wp2;have fI:=OI.out;obtain ⟨hv,_,_,ho⟩:=gf.out.oD;have HV:=am.pg (k:=s) (op:=x.op) hv kD ho;refine bodyPost_ret (v:=.agg #[.string s,.int .i64 x.op,.slice A1 x.values.length c1]) (by simp [results,Tryz.results121,go_sem, *]) rfl ?_;exact ⟨⟨s,x.op,x.values⟩,A1,c1,G1,rfl,(((((HV.ft (p:=⟨w1.heap.size,0,none⟩) (fun b X=>by have:=fI b X;dsimp only;omega) _).ft (p:=⟨w.heap.size,0,none⟩) (fun b X=>by have:=fI b X;dsimp only;omega) _).ft (p:=⟨w.heap.size,1,none⟩) (fun b X=>by have:=fI b X;dsimp only;omega) _).ft (p:=⟨w.heap.size,2,none⟩) (fun b X=>by have:=fI b X;dsimp only;omega) _)).mono J,(by have:=ZN.out;show s.size+kL ByteArray.size x.values≤70;omega),((((cG.out.bj J 0 _).bj J 0 _).bj J 1 _).bj J 2 _),((((dy.out.new J 0 _).new J 0 _).new J 1 _).new J 2 _)⟩
   ·have d2:((r:Int) == 2) = false:=(by simp;omega);have xx:=ff.out;have yy:=eR.out;obtain ⟨iA,azr,azs,azt,azu,azv⟩:=qr xx;obtain ⟨iP,aAC,aAD,aAE,aAF,aAG⟩:=qr yy;clear xx yy ff eR;go_wp2;have fI:=OI.out;refine bodyPost_ret (v:=.agg #[.string x.key,.int .i64 x.op,.slice A1 x.values.length c1]) (by simp [results,Tryz.results121,go_sem, *]) rfl ?_;exact ⟨x,A1,c1,G1,rfl,((((RZ.out.ft (p:=⟨w.heap.size,0,none⟩) (fun b X=>by have:=fI b X;dsimp only;omega) _).ft (p:=⟨w.heap.size,1,none⟩) (fun b X=>by have:=fI b X;dsimp only;omega) _).ft (p:=⟨w.heap.size,2,none⟩) (fun b X=>by have:=fI b X;dsimp only;omega) _)).mono J,(by have:=ZN.out;show x.key.size+kL ByteArray.size x.values≤70;omega),(((cj.out.bj J 0 _).bj J 1 _).bj J 2 _),(((cJ.out.new J 0 _).new J 1 _).new J 2 _)⟩
theorem kb (w:World) (c:Nat) (A:Option Addr) (n aq:Nat) (h:bM w c A n aq) :
 Calls Tryz.prog 73 #[.pointer (some ⟨c,0,none⟩)] w fun e w'=>∃(xs:List aM) (A':Option Addr) (c':Nat) (G:List Nat),e = .returned (.slice A' xs.length c')∧am w' w.heap.size xs [.slice A' xs.length c'] G∧kL aM.wt xs≤560∧bM w' c A n aq∧nN [c] w w':=by
 have ax:=h.lt;have HC:=I h;clear h;go_enter Tryz.func73,Tryz.ntmps73;go_wp2_with fail
 refine (T6 _ c A n aq HC.out).mono ?_;rintro e w1 ⟨xs,A1,c1,G1,rfl,jX,hwt1,H1,hu1,cH⟩;have cO:=I H1;have fk:=I hu1;have rR:(xs.length:Int)≤460:=by have:=gJ aM.wt xs;omega
 obtain ⟨ds,F,bd,cb,b4⟩:=jX.od cH;have gP:=I (show eS w1 w.heap.size 70 xs (.slice A1 xs.length c1) ds F from ⟨bd,cb,b4⟩);have zN:=I (show kL aM.wt xs≤460 from hwt1);have cE:=hu1.size;clear H1 hu1 jX hwt1 cH bd cb b4 HC;go_wp2_with fail
 refine (sy 5 J _ c A n aq cO.out).mono ?_;rintro e w2 ⟨b,rfl,H2,bN⟩;have cj:=I H2;have cJ:=I (fk.out.trans bN);have ky:=I (gP.out.drawn bN ax);have cw:=bN.size;clear H2 bN cO fk gP;cases b
 case' false =>
  (have gS:=I (show (xs.length:Int)≤461 by omega)
   have uk:=I (show kL aM.wt xs≤531 by have:=zN.out;omega)
   clear zN rR)
 case' true =>
  have zD:=I (fun g hg=>(ky.out.1.lt g hg).2);have fy:=I ky.out.2.1.lt;go_wp2_with fail
  refine (lh _ c A n aq cj.out).mono ?_;rintro e w3 ⟨y,Ay,cy,Gy,rfl,tK,vr,H3,bu⟩;have cG:=I H3;have dy:=I (cJ.out.trans bu);obtain ⟨jl,hcs3,hne3⟩:=ky.out.drawn bu ax;have li:w3.ownsRow w.heap.size 70 3 (.slice A1 xs.length c1) xs.length ds:=jl;have rC:=I hcs3;have Hx:=I hne3;have qV:=I tK;have cU:=bu.size;have lN:w.heap.size≤w3.heap.size:=by omega
  clear H3 bu cj cJ ky tK jl hcs3 hne3
  go_wp2_with (
   at_builtin
   go_must (refine uf oF O _ _ O _ _ _ _ _ li O [.string y.key,.int .i64 y.op,.slice Ay y.values.length cy] i6 O ex J J lN ?_)
   intro v4 w4 cX gM Wy j5;go_must (obtain ⟨A4,c4,hv4⟩:=mY cX)
   go_must (subst hv4)
   go_must (have bx:Below w.heap.size w3 w4:=lS li gM (Below.refl _ _) lN))
  obtain ⟨l7,hne4⟩:=aY.px li rC.out Hx.out qV.out J zD.out fy.out gM j5;have cT:xs.length+1 = (xs++[y]).length:=by simp
  have uk:=I (show kL aM.wt (xs++[y])≤531 by rw [ep];have:=zN.out;omega);rw [cT] at cX hne4;try rw [cT]
  have cj:=I (cG.out.aD bx J);have cJ:=I (dy.out.il bx J);have ky:=I (show eS w4 w.heap.size 70 (xs++[y]) (.slice A4 (xs++[y]).length c4) _ _ from ⟨cX,l7,hne4⟩);have gS:=I (show ((xs++[y]).length:Int)≤461 by omega);have cw:=bx.size;clear cX l7 hne4 gM bx cG dy qV rC Hx zD fy li zN rR j5;clear cT;generalize xs++[y] = xs at *
 all_goals
  go_wp2_with fail
  refine (sy 10 J _ c A n aq cj.out).mono ?_;rintro e w5 ⟨b2,rfl,H5,hu5⟩;have fj:=I H5;have iC:=I (cJ.out.trans hu5);have mj:=I (ky.out.drawn hu5 ax);have Es:=hu5.size;clear H5 hu5 cj cJ ky;cases b2
  ·obtain ⟨bd,cb,b4⟩:=mj.out;obtain ⟨A6,c6,G6,hv6,iD⟩:=am.oJ (α:=aM) bd cb b4;simp only [Value.slice.injEq,true_and] at hv6;obtain ⟨rfl,rfl⟩:=hv6;clear bd cb b4;go_wp2;go_ret
   exact ⟨_,_,_,G6,rfl,iD,by have:=uk.out;omega,fj.out,iC.out⟩
  ·go_wp2_with fail
   go_loopw [3,4] (fun v i wr=>∃(xs:List aM) (ds:List Value) (F:List Nat) (A':Option Addr) (c' k:Nat),v = .slice A' xs.length c'∧i = .int .i64 k∧(k:Int)≤5∧(xs.length:Int)≤461+k∧Hid (eS wr w.heap.size 70 xs (.slice A' xs.length c') ds F∧kL aM.wt xs≤531+4 * k∧bM wr c A n aq∧nN [c] w wr)) (fun _ i _=>5 - (intOf i).toNat)
   case atStart=>exact ⟨_,_,_,_,_,0,rfl,rfl,J,by have:=gS.out;omega,I ⟨mj.out,by have:=uk.out;omega,fj.out,iC.out⟩⟩
   case round =>
    obtain ⟨xs,ds,F,A',c',k,rfl,rfl,hk,rR,HX⟩:=hrel;obtain ⟨hR,hW,hC,hU⟩:=HX.out;have rU:=I hR;have pr:=I hW;have oA:=I hC;have oB:=I hU;have k9:=hU.size;clear HX hR hW hC hU mj uk fj iC gS;go_wp2_with fail
    refine (fs 3 J _ c A n aq oA.out).mono ?_;rintro e w6 ⟨q,rfl,hq,H6,Ze⟩;have mE:=I H6;have zK:=I (oB.out.trans Ze);have t6:=I (rU.out.drawn Ze ax);have nF:=Ze.size;clear H6 Ze oA oB rU;by_cases hkq:(k:Int) < 3+q
    ·have hdk:(dC k).size≤1:=by
      have fX:k = 0∨k = 1∨k = 2∨k = 3∨k = 4:=J;rcases fX with rfl | rfl | rfl | rfl | rfl <;> decide +kernel
     have Kx:((⟨#[122,122]⟩:ByteArray).size:Int)+(dC k).size≤3:=by have:(⟨#[122,122]⟩:ByteArray).size = 2:=rfl;omega
     go_wp2_with fail
     refine (gH k J _).mono ?_;rintro e w7 ⟨rfl,bC⟩;have pk:=I (mE.out.ext bC);have HU7:=I (zK.out.il bC J);have Hy:=I (t6.out.ext bC);have mv:=bC.size;clear bC mE zK t6;have gd:((⟨#[122,122]⟩:ByteArray)++dC k).size≤3:=(by rw [ByteArray.size_append];have:(⟨#[122,122]⟩:ByteArray).size = 2:=rfl;omega);have qV:=I (am.pg (k:=((⟨#[122,122]⟩:ByteArray)++dC k)) (op:=3) (vs:=[]) (am.cK (B:=w7.heap.size) (Sl.nil (α:=ByteArray) w7 none 0 (Nat.zero_le _))) kD km);have zD:=I (fun g hg=>(Hy.out.1.lt g hg).2);have fy:=I Hy.out.2.1.lt;have rY:w7.ownsRow w.heap.size 70 3 (.slice A' xs.length c') xs.length ds:=Hy.out.1;have OJ:w.heap.size≤w7.heap.size:=J;have HKS:=I gd;clear gd
     go_wp2_with (
      at_builtin
      go_must (refine uf oF O _ _ O _ _ _ _ _ rY O [.string ((⟨#[122,122]⟩:ByteArray)++dC k),.int .i64 3,.slice none 0 0] i6 O ex J J OJ ?_)
      intro v8 w8 Le cN si jC;go_must (obtain ⟨A8,c8,hv8⟩:=mY Le)
      go_must (subst hv8)
      go_must (have ki:Below w.heap.size w7 w8:=lS rY cN (Below.refl _ _) OJ))
     obtain ⟨OK,hne8⟩:=aY.px (x:=(⟨((⟨#[122,122]⟩:ByteArray)++dC k),3,[]⟩:aM)) rY Hy.out.2.1 Hy.out.2.2 qV.out OJ zD.out fy.out cN jC;have cT:(xs++[(⟨((⟨#[122,122]⟩:ByteArray)++dC k),3,[]⟩:aM)]).length = xs.length+1:=S';exact ⟨⟨xs++[⟨((⟨#[122,122]⟩:ByteArray)++dC k),3,[]⟩],_,_,A8,c8,k+1,by rw [cT],N',J,by rw [cT];omega,I ⟨⟨by rw [cT];exact Le,OK,by rw [cT];exact hne8⟩,by rw [ep];have:=pr.out;have:=HKS.out;have:aM.wt ⟨((⟨#[122,122]⟩:ByteArray)++dC k),3,[]⟩ = ((⟨#[122,122]⟩:ByteArray)++dC k).size:=rfl;omega,pk.out.aD ki J,HU7.out.il ki J⟩⟩,by simp only [intOf];omega⟩
    ·obtain ⟨bd,cb,b4⟩:=t6.out;obtain ⟨A7,c7,G7,hv7,iG⟩:=am.oJ (α:=aM) bd cb b4;simp only [Value.slice.injEq,true_and] at hv7;obtain ⟨rfl,rfl⟩:=hv7;clear bd cb b4;go_wp2;go_ret
     exact ⟨xs,A',c',G7,rfl,iG,by have:=pr.out;omega,mE.out,zK.out⟩
end Go.Proofs.YtajbbmembionpaaGreat
