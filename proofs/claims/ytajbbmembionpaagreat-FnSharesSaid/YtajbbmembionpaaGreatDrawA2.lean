/- Draws of lists of labels that may be wrong. No condition. -/
import Derived.Test.YtajbbmembionpaaGreatDrawL
namespace Go.Proofs.YtajbbmembionpaaGreat
open Go.ChangeShapes Go.WideShapes Go.ChangeAt Go.RowKit
set_option linter.unusedVariables false
set_option linter.unusedSimpArgs false
set_option maxHeartbeats 4000000
set_option maxRecDepth 100000
theorem ep {α:Type} (f:α→Nat) (xs:List α) (y:α):kL f (xs++[y]) = kL f xs+(1+f y):=by
 unfold kL;simp;omega
def eS {α:Type} [bc α] (w:World) (B:Nat) (e:TypeId) (xs:List α) (v:Value) (ds:List Value) (F:List Nat):Prop:=w.ownsRow B e (bc.size α) v xs.length ds∧aY w B xs ds F∧∀g,v.ownBlock = some g→g∉F
section
variable {α:Type} [bc α] {w w':World} {B:Nat} {e:TypeId} {xs:List α} {v:Value} {ds:List Value} {F:List Nat}
theorem eS.drawn {c:Nat} (h:eS w B e xs v ds F) (hu:nN [c] w w') (hc:c < B):eS w' B e xs v ds F :=
 ⟨rQ h.1 hu hc,h.2.1.bs (fun b X=>hu.block b (h.2.1.lt b X) (fun hm=>by have:=h.2.1.base b X;rw [List.mem_singleton] at hm;omega)) hu.size,h.2.2⟩
theorem eS.ext (h:eS w B e xs v ds F) (X:Below w.heap.size w w'):eS w' B e xs v ds F :=
 ⟨mG h.1 X,h.2.1.bs (fun b hm=>X.block b (h.2.1.lt b hm)) X.size,h.2.2⟩
end
theorem jn (w:World) (c:Nat) (A:Option Addr) (n aq:Nat) (h:bM w c A n aq) :
 Calls Tryz.prog 71 #[.pointer (some ⟨c,0,none⟩)] w fun e w'=>∃(xs:List ap) (A':Option Addr) (c':Nat) (G:List Nat),e = .returned (.slice A' xs.length c')∧am w' w.heap.size xs [.slice A' xs.length c'] G∧kL ap.wt xs≤500∧bM w' c A n aq∧nN [c] w w':=by
 have ax:=h.lt;have HC:=I h;clear h;go_enter Tryz.func71,Tryz.ntmps71;go_wp2_with fail
 refine (TU _ c A n aq HC.out).mono ?_;rintro e w1 ⟨xs,A1,c1,G1,rfl,jX,hwt1,H1,hu1,cH⟩;have cO:=I H1;have fk:=I hu1;have fL:=I jX;have Du:=I (show kL ap.wt xs≤306 from hwt1);have rR:(xs.length:Int)≤306:=by have:=gJ ap.wt xs;omega
 obtain ⟨ds,F,bd,cb,b4⟩:=jX.od cH;have gP:=I (show eS w1 w.heap.size 67 xs (.slice A1 xs.length c1) ds F from ⟨bd,cb,b4⟩);have cE:=hu1.size;clear H1 hu1 jX hwt1 cH bd cb b4 HC;go_wp2_with fail
 refine (fs 8 J _ c A n aq cO.out).mono ?_;rintro e w2 ⟨r,rfl,hr,H2,bN⟩;have cj:=I H2;have cJ:=I (fk.out.trans bN);have RZ:=I (fL.out.drawn bN ax);have ky:=I (gP.out.drawn bN ax);have cw:=bN.size;clear H2 bN cO fk fL gP;by_cases h0:r = 0
 ·subst h0;go_wp2_with fail
  refine (FV _ c A n aq cj.out).mono ?_;rintro e w3 ⟨s1,rfl,dB,H3,bu⟩;have cG:=I H3;have dy:=I (cJ.out.trans bu);have rS:=I (ky.out.drawn bu ax);have cU:=bu.size;clear H3 bu cj cJ ky RZ;go_wp2_with fail
  refine (F0 _ c A n aq cG.out).mono ?_;rintro e w4 ⟨s2,rfl,cR,H4,Td⟩;have eE:=I H4;have hT:=I (dy.out.trans Td);obtain ⟨bd,cb,b4⟩:=rS.out.drawn Td ax;have Wy:=Td.size;clear H4 Td cG dy rS;obtain ⟨y,rfl,rfl⟩:∃y:ap,s1 = y.key∧s2 = y.value:=⟨⟨s1,s2⟩,rfl,rfl⟩;have vr:y.wt≤70:=by show y.key.size+y.value.size≤70;omega
  have cD:w4.ownsRow w.heap.size 67 2 (.slice A1 xs.length c1) xs.length ds:=bd;have nz:=I (fun g hg=>(cD.lt g hg).2);have nA:=I cb.lt;have nB:w.heap.size≤w4.heap.size:=by omega
  go_wp2_with (
   at_builtin
   go_must (refine uf kk O _ _ O _ _ _ _ _ cD O [.string y.key,.string y.value] i6 O ex J J nB ?_)
   intro v6 w6 dj eT nF fR;go_must (obtain ⟨A6,c6,hv6⟩:=mY dj)
   go_must (subst hv6)
   go_must (have cS:Below w.heap.size w4 w6:=lS cD eT (Below.refl _ _) nB))
  obtain ⟨j0,hne6⟩:=aY.px cD cb b4 (am.cK (B:=w4.heap.size) (EH w4 y (len8 dB) (len8 cR))) nB nz.out nA.out eT fR;have cT:(xs++[y]).length = xs.length+1:=by simp
  obtain ⟨A5,c5,G5,dT,fH⟩:=am.oJ (α:=ap) (xs:=xs++[y]) (by rw [cT];exact dj) j0 hne6;rw [cT] at dT;simp only [Value.slice.injEq,true_and] at dT;obtain ⟨rfl,rfl⟩:=dT;have nJ:=I fH;have fj:=I (eE.out.aD cS J);have iC:=I (hT.out.il cS J);have Bs:=I (show kL ap.wt (xs++[y])≤500 by rw [ep];have:kL ap.wt xs≤306:=Du.out;have:ap.wt y≤70:=vr;omega);clear fH j0 hne6 dj eT cS;go_wp2;go_ret
  exact ⟨xs++[y],A6,c6,G5,by rw [cT];rfl,nJ.out,Bs.out,fj.out,iC.out⟩
 ·by_cases h1:r = 1
  ·subst h1;go_wp2_with fail
   refine (nu _).mono ?_;rintro e w3 ⟨s1,rfl,dB,bb⟩;go_wp2_with fail
   refine (nv _).mono ?_;rintro e w4 ⟨s2,rfl,cR,bx⟩;have fS:=I (ah bb bx);have Wy:=fS.out.size;clear bb bx;go_wp2_with fail
   refine (uW (fun s=>s.size≤31) w4.heap.size 6 _ J _ c A n aq ((cj.out.ext fS.out).ext (ak (aj _) _)) J S' (fun k hk=>?_)).mono ?_
   ·have fX:k = 0∨k = 1∨k = 2∨k = 3∨k = 4∨k = 5:=J;rcases fX with rfl | rfl | rfl | rfl | rfl | rfl <;> exact ⟨_,oT _ _ _ _ _ rfl,by first | assumption | decide⟩
   rintro e w5 ⟨s3,rfl,hs3,H5,hu5⟩;have fj:=I H5;have iC:=I ((cJ.out.il (ak fS.out _) J).trans hu5);have mj:=I ((ky.out.ext (ak fS.out _)).drawn hu5 ax);have Es:=hu5.size;simp at Es;clear H5 hu5 cj cJ ky RZ fS;go_wp2_with fail
   refine (kv _).mono ?_;rintro e w6 ⟨s4,rfl,hs4,cS⟩;go_wp2_with fail
   refine (kw _).mono ?_;rintro e w7 ⟨s5,rfl,hs5,bC⟩;have Hj:=I (ah cS bC);have mv:=Hj.out.size;clear cS bC;go_wp2_with fail
   refine (uW (fun s=>s.size≤31) w7.heap.size 4 _ J _ c A n aq ((fj.out.ext Hj.out).ext (ak (aj _) _)) J S' (fun k hk=>?_)).mono ?_
   ·have fX:k = 0∨k = 1∨k = 2∨k = 3:=J;rcases fX with rfl | rfl | rfl | rfl <;> exact ⟨_,oT _ _ _ _ _ rfl,by first | assumption | decide⟩
   rintro e w8 ⟨s6,rfl,hs6,H8,Ub⟩;have Om:=I H8;have HU8:=I ((iC.out.il (ak Hj.out _) J).trans Ub);obtain ⟨bd,cb,b4⟩:=(mj.out.ext (ak Hj.out _)).drawn Ub ax;have si:=Ub.size;simp at si;clear H8 Ub fj iC mj Hj;obtain ⟨y,rfl,rfl⟩:∃y:ap,s3 = y.key∧s6 = y.value:=⟨⟨s3,s6⟩,rfl,rfl⟩;have vr:y.wt≤70:=(by show y.key.size+y.value.size≤70;omega);have cD:w8.ownsRow w.heap.size 67 2 (.slice A1 xs.length c1) xs.length ds:=bd;have Ow:=I (fun g hg=>(cD.lt g hg).2);have Ox:=I cb.lt;have Oy:w.heap.size≤w8.heap.size:=J
   go_wp2_with (
    at_builtin
    go_must (refine uf kk O _ _ O _ _ _ _ _ cD O [.string y.key,.string y.value] i6 O ex J J Oy ?_)
    intro v9 w9 rT OE hz9 OF;go_must (obtain ⟨A9,c9,hv9⟩:=mY rT)
    go_must (subst hv9)
    go_must (have xB:Below w.heap.size w8 w9:=lS cD OE (Below.refl _ _) Oy))
   obtain ⟨Hk,hne9⟩:=aY.px cD cb b4 (am.cK (B:=w8.heap.size) (EH w8 y kD kD)) Oy Ow.out Ox.out OE OF;have cT:(xs++[y]).length = xs.length+1:=S';obtain ⟨A5,c5,G5,dT,fH⟩:=am.oJ (α:=ap) (xs:=xs++[y]) (by rw [cT];exact rT) Hk hne9;rw [cT] at dT;simp only [Value.slice.injEq,true_and] at dT;obtain ⟨rfl,rfl⟩:=dT;have nJ:=I fH;have fj:=I (Om.out.aD xB J);have iC:=I (HU8.out.il xB J);have Bs:=I (show kL ap.wt (xs++[y])≤500 by rw [ep];have:kL ap.wt xs≤306:=Du.out;have:ap.wt y≤70:=vr;omega);clear fH Hk hne9 rT OE xB;go_wp2;go_ret
   exact ⟨xs++[y],A9,c9,G5,by rw [cT];rfl,nJ.out,Bs.out,fj.out,iC.out⟩
  ·by_cases h2:r = 2
   ·subst h2;clear RZ;go_wp2_with fail
    go_loopw [3,4] (fun v i wr=>∃(xs:List ap) (ds:List Value) (F:List Nat) (A':Option Addr) (c' k:Nat),v = .slice A' xs.length c'∧i = .int .i64 k∧(k:Int)≤6∧(xs.length:Int)≤306+k∧Hid (eS wr w.heap.size 67 xs (.slice A' xs.length c') ds F∧kL ap.wt xs≤306+20 * k∧bM wr c A n aq∧nN [c] w wr)) (fun _ i _=>6 - (intOf i).toNat)
    case atStart=>exact ⟨xs,ds,F,A1,c1,0,rfl,rfl,J,J,I ⟨ky.out,by have:=Du.out;omega,cj.out,cJ.out⟩⟩
    case round =>
     obtain ⟨xs,ds,F,A',c',k,rfl,rfl,hk,rR,HX⟩:=hrel;obtain ⟨hR,hW,hC,hU⟩:=HX.out;have rU:=I hR;have pr:=I hW;have oA:=I hC;have oB:=I hU;have k9:=hU.size;clear HX hR hW hC hU ky Du cj cJ;go_wp2_with fail
     refine (fs 3 J _ c A n aq oA.out).mono ?_;rintro e w3 ⟨q,rfl,hq,H3,bu⟩;have cG:=I H3;have dy:=I (oB.out.trans bu);have rS:=I (rU.out.drawn bu ax);have cU:=bu.size;clear H3 bu oA oB rU;by_cases hkq:(k:Int) < 4+q
     ·go_wp2_with fail
      refine (gH k J _).mono ?_;rintro e w4 ⟨rfl,bx⟩;have eE:=I (cG.out.ext bx);have hT:=I (dy.out.il bx J);obtain ⟨bd,cb,b4⟩:=rS.out.ext bx;have Wy:=bx.size;have sv:=oY k;clear bx cG dy rS;have Rl:((dC k).size:Int)≤7:=J;have cD:w4.ownsRow w.heap.size 67 2 (.slice A' xs.length c') xs.length ds:=bd;obtain ⟨y,hy⟩:∃y:ap,y = ⟨⟨#[122,122]⟩++dC k,⟨#[]⟩⟩:=⟨_,rfl⟩;have vr:y.wt≤19:=(by subst hy;show (⟨#[122,122]⟩++dC k:ByteArray).size+0≤19;rw [ByteArray.size_append];show 2+(dC k).size+0≤19;omega);have gT:(⟨#[122,122]⟩++dC k:ByteArray).size≤19:=(by rw [ByteArray.size_append];show 2+(dC k).size≤19;omega);have nz:=I (fun g hg=>(cD.lt g hg).2);have nA:=I cb.lt;have nB:w.heap.size≤w4.heap.size:=J
      go_wp2_with (
       at_builtin
       go_must (refine uf kk O _ _ O _ _ _ _ _ cD O [.string ((⟨#[122,122]⟩:ByteArray)++dC k),.string ⟨#[]⟩] i6 O ex J J nB ?_)
       intro v6 w6 dj eT nF fR;go_must (obtain ⟨A6,c6,hv6⟩:=mY dj)
       go_must (subst hv6)
       go_must (have cS:Below w.heap.size w4 w6:=lS cD eT (Below.refl _ _) nB))
      obtain ⟨j0,hne6⟩:=aY.px cD cb b4 (am.cK (B:=w4.heap.size) (x:=y) (by subst hy;exact EH w4 ⟨⟨#[122,122]⟩++dC k,⟨#[]⟩⟩ (by dsimp only;unfold maxLen;omega) (by show 0≤maxLen;omega))) nB nz.out nA.out eT fR;exact Dk
     ·obtain ⟨bd,cb,b4⟩:=rS.out;obtain ⟨A5,c5,G5,dT,fH⟩:=am.oJ (α:=ap) bd cb b4;simp only [Value.slice.injEq,true_and] at dT;obtain ⟨rfl,rfl⟩:=dT;clear bd cb b4;go_wp2;go_ret
      exact ⟨xs,A',c',G5,rfl,fH,by have:=pr.out;omega,cG.out,dy.out⟩
   ·have d0:((r:Int) == 0) = false:=(by simp;omega);have d1:((r:Int) == 1) = false:=(by simp;omega);have d2:((r:Int) == 2) = false:=(by simp;omega);clear ky;go_wp2;go_ret
    exact ⟨xs,A1,c1,G1,rfl,RZ.out,by have:=Du.out;omega,cj.out,cJ.out⟩
theorem mm (w:World) (c:Nat) (A:Option Addr) (n aq:Nat) (h:bM w c A n aq) :
 Calls Tryz.prog 122 #[.pointer (some ⟨c,0,none⟩)] w fun e w'=>∃x:bH,e = .returned (.agg #[.string x.key,.bool x.equal,.string x.value,.int .i64 x.ao])∧(x.key.size≤8∧x.value.size≤8∧-1≤x.ao∧x.ao≤4)∧bM w' c A n aq∧nN [c] w w':=by
 have ax:=h.lt;have HC:=I h;clear h;go_enter Tryz.func122,Tryz.ntmps122;go_wp2_with fail
 refine (Sd _ c A n aq (HC.out.ext (ak (aj _) _))).mono ?_;rintro e w1 ⟨t,rfl,ht,H1,hu1⟩;have vw:=I ((oG.new w [.string ⟨#[]⟩,.bool false,.string ⟨#[]⟩,.int .i64 0] 117).bR hu1 J);have fk:=I ((nN.lq [c] (ak (aj w) _)).trans hu1);have cE:=hu1.size;simp at cE;have cO:=I H1;clear H1 hu1 HC;go_wp2_with fail
 refine (fs 10 J _ c A n aq (cO.out.ext (ak (aj _) _))).mono ?_;rintro e w2 ⟨r,rfl,hr,H2,bN⟩;have cj:=I H2;have ff:=I ((vw.out.ext (ak (aj _) _)).bR bN J);have eR:=I ((oG.new w1 [.string t.key,.bool t.equal,.string t.value,.int .i64 t.ao] 117).bR bN (by have:=cO.out.lt;omega));have cJ:=I ((fk.out.alloc _).trans bN);have cw:=bN.size;simp at cw;have j8:=cO.out.lt;clear H2 bN cO vw fk;by_cases h0:r = 0
 ·subst h0;go_wp2_with fail
  refine (fs 5 J _ c A n aq cj.out).mono ?_;rintro e w3 ⟨q,rfl,hq,H3,bu⟩;have cG:=I H3;have xx:=ff.out.bR bu J;have yy:=eR.out.bR bu J;have dy:=I (cJ.out.trans bu);have cU:=bu.size;obtain ⟨iA,azr,azs,azt,azu,azv,azw,azx⟩:=n' xx;obtain ⟨iP,aAC,aAD,aAE,aAF,aAG,aAH,aAI⟩:=n' yy;clear xx yy ff eR H3 bu cj cJ;go_wp2;refine bodyPost_ret (v:=.agg #[.string t.key,.bool t.equal,.string t.value,.int .i64 ((q:Int) - 1)]) (by simp [results,Tryz.results122,go_sem, *]) rfl ?_;exact ⟨⟨t.key,t.equal,t.value,(q:Int) - 1⟩,rfl,⟨ht.1,ht.2.1,by dsimp only;omega,by dsimp only;omega⟩,(((((cG.out.bj J 3 _).bj J 0 _).bj J 1 _).bj J 2 _).bj J 3 _),(((((dy.out.new J 3 _).new J 0 _).new J 1 _).new J 2 _).new J 3 _)⟩
 ·have d0:((r:Int) == 0) = false:=by simp;omega
  by_cases h1:r = 1
  ·subst h1;have xx:=ff.out;have yy:=eR.out;obtain ⟨iA,azr,azs,azt,azu,azv,azw,azx⟩:=n' xx;obtain ⟨iP,aAC,aAD,aAE,aAF,aAG,aAH,aAI⟩:=n' yy;clear xx yy ff eR;go_wp2;refine bodyPost_ret (v:=.agg #[.string t.key,.bool (!t.equal),.string t.value,.int .i64 t.ao]) (by simp [results,Tryz.results122,go_sem, *]) rfl ?_;exact ⟨⟨t.key,!t.equal,t.value,t.ao⟩,rfl,⟨ht.1,ht.2.1,by dsimp only;omega,by dsimp only;omega⟩,(((((cj.out.bj J 1 _).bj J 0 _).bj J 1 _).bj J 2 _).bj J 3 _),(((((cJ.out.new J 1 _).new J 0 _).new J 1 _).new J 2 _).new J 3 _)⟩
  ·have d1:((r:Int) == 1) = false:=(by simp;omega);by_cases h2:r = 2
   ·subst h2;have xx:=ff.out;have yy:=eR.out;obtain ⟨iA,azr,azs,azt,azu,azv,azw,azx⟩:=n' xx;obtain ⟨iP,aAC,aAD,aAE,aAF,aAG,aAH,aAI⟩:=n' yy;clear xx yy ff eR;go_wp2;refine bodyPost_ret (v:=.agg #[.string t.key,.bool t.equal,.string ⟨#[97,47,98]⟩,.int .i64 t.ao]) (by simp [results,Tryz.results122,go_sem, *]) rfl ?_;exact ⟨⟨t.key,t.equal,⟨#[97,47,98]⟩,t.ao⟩,rfl,⟨ht.1,(by show (⟨#[97,47,98]⟩:ByteArray).size≤8;decide),by dsimp only;omega,by dsimp only;omega⟩,(((((cj.out.bj J 2 _).bj J 0 _).bj J 1 _).bj J 2 _).bj J 3 _),(((((cJ.out.new J 2 _).new J 0 _).new J 1 _).new J 2 _).new J 3 _)⟩
   ·have d2:((r:Int) == 2) = false:=(by simp;omega);have xx:=ff.out;have yy:=eR.out;obtain ⟨iA,azr,azs,azt,azu,azv,azw,azx⟩:=n' xx;obtain ⟨iP,aAC,aAD,aAE,aAF,aAG,aAH,aAI⟩:=n' yy;clear xx yy ff eR;go_wp2;refine bodyPost_ret (v:=.agg #[.string t.key,.bool t.equal,.string t.value,.int .i64 t.ao]) (by simp [results,Tryz.results122,go_sem, *]) rfl ?_;exact ⟨t,rfl,⟨ht.1,ht.2.1,J,J⟩,((((cj.out.bj J 0 _).bj J 1 _).bj J 2 _).bj J 3 _),((((cJ.out.new J 0 _).new J 1 _).new J 2 _).new J 3 _)⟩
theorem lf (w:World) (c:Nat) (A:Option Addr) (n aq:Nat) (h:bM w c A n aq) :
 Calls Tryz.prog 74 #[.pointer (some ⟨c,0,none⟩)] w fun e w'=>∃(xs:List bH) (A':Option Addr) (c':Nat) (G:List Nat),e = .returned (.slice A' xs.length c')∧am w' w.heap.size xs [.slice A' xs.length c'] G∧kL bH.wt xs≤500∧bM w' c A n aq∧nN [c] w w':=by
 have ax:=h.lt;have HC:=I h;clear h;go_enter Tryz.func74,Tryz.ntmps74;go_wp2_with fail
 refine (TS _ c A n aq HC.out).mono ?_;rintro e w1 ⟨xs,A1,c1,G1,rfl,jX,hwt1,H1,hu1,cH⟩;have cO:=I H1;have fk:=I hu1;have rR:(xs.length:Int)≤204:=by have:=gJ bH.wt xs;omega
 obtain ⟨ds,F,bd,cb,b4⟩:=jX.od cH;have gP:=I (show eS w1 w.heap.size 117 xs (.slice A1 xs.length c1) ds F from ⟨bd,cb,b4⟩);have zN:=I (show kL bH.wt xs≤204 from hwt1);have cE:=hu1.size;clear H1 hu1 jX hwt1 cH bd cb b4 HC;go_wp2_with fail
 go_loopw [3,4] (fun v i wr=>∃(xs:List bH) (ds:List Value) (F:List Nat) (A':Option Addr) (c' k:Nat),v = .slice A' xs.length c'∧i = .int .i64 k∧(k:Int)≤3∧(xs.length:Int)≤204+k∧Hid (eS wr w.heap.size 117 xs (.slice A' xs.length c') ds F∧kL bH.wt xs≤204+17 * k∧bM wr c A n aq∧nN [c] w wr)) (fun _ i _=>3 - (intOf i).toNat)
 case atStart=>exact ⟨xs,ds,F,A1,c1,0,rfl,rfl,J,J,I ⟨gP.out,by have:=zN.out;omega,cO.out,fk.out⟩⟩
 case round =>
  obtain ⟨xs,ds,F,A',c',k,rfl,rfl,hk,rR,HX⟩:=hrel;obtain ⟨hR,hW,hC,hU⟩:=HX.out;have rU:=I hR;have pr:=I hW;have oA:=I hC;have oB:=I hU;have k9:=hU.size;clear HX hR hW hC hU gP zN cO fk;go_wp2_with fail
  refine (fs 4 J _ c A n aq oA.out).mono ?_;rintro e w3 ⟨q,rfl,hq,H3,bu⟩;have cG:=I H3;have dy:=I (oB.out.trans bu);have rS:=I (rU.out.drawn bu ax);have cU:=bu.size;clear H3 bu oA oB rU;by_cases hkq:(k:Int) < q
  ·go_wp2_with fail
   refine (mm _ c A n aq cG.out).mono ?_;rintro e w4 ⟨y,rfl,hy,H4,Td⟩;have eE:=I H4;have hT:=I (dy.out.trans Td);obtain ⟨bd,cb,b4⟩:=rS.out.drawn Td ax;have Wy:=Td.size;clear H4 Td cG dy rS;have cD:w4.ownsRow w.heap.size 117 4 (.slice A' xs.length c') xs.length ds:=bd;have vr:y.wt≤16:=(by show y.key.size+y.value.size≤16;omega);have nz:=I (fun g hg=>(cD.lt g hg).2);have nA:=I cb.lt;have nB:w.heap.size≤w4.heap.size:=J
   go_wp2_with (
    at_builtin
    go_must (refine uf oV O _ _ O _ _ _ _ _ cD O [.string y.key,.bool y.equal,.string y.value,.int .i64 y.ao] i6 O ex J J nB ?_)
    intro v6 w6 dj eT nF fR;go_must (obtain ⟨A6,c6,hv6⟩:=mY dj)
    go_must (subst hv6)
    go_must (have cS:Below w.heap.size w4 w6:=lS cD eT (Below.refl _ _) nB))
   obtain ⟨j0,hne6⟩:=aY.px cD cb b4 (am.cK (B:=w4.heap.size) (Ov w4 y (len8 hy.1) (len8 hy.2.1) km)) nB nz.out nA.out eT fR;exact Dk
  ·go_wp2_with fail
   refine (sy 20 J _ c A n aq cG.out).mono ?_;rintro e w4 ⟨b,rfl,H4,Td⟩;have eE:=I H4;have hT:=I (dy.out.trans Td);have sH:=I (rS.out.drawn Td ax);have Wy:=Td.size;clear H4 Td cG dy rS;cases b
   ·obtain ⟨bd,cb,b4⟩:=sH.out;obtain ⟨A5,c5,G5,dT,fH⟩:=am.oJ (α:=bH) bd cb b4;simp only [Value.slice.injEq,true_and] at dT;obtain ⟨rfl,rfl⟩:=dT;clear bd cb b4;go_wp2;go_ret
    exact ⟨xs,A',c',G5,rfl,fH,by have:=pr.out;omega,eE.out,hT.out⟩
   ·have Ul:=I rR;clear rR;obtain ⟨Um,hxs0⟩:∃Um,Um = xs:=⟨_,rfl⟩;have pJ:=I (show kL bH.wt xs≤260 by have:=pr.out;omega);have sw:=I (show (xs.length:Int)≤260 by have:=Ul.out;omega);clear hxs0 pr Ul;go_wp2_with fail
    go_loopw [3] (fun v wr=>∃(ys:List bH) (ds:List Value) (F:List Nat) (A':Option Addr) (c':Nat),v = .slice A' ys.length c'∧(ys.length:Int)≤260∧Hid (eS wr w.heap.size 117 ys (.slice A' ys.length c') ds F∧(kL bH.wt ys≤260∨kL bH.wt ys≤260+2 * ys.length∧ys.length≤41)∧bM wr c A n aq∧nN [c] w wr)) (fun v _=>match v with | .slice _ n _=>300 - n | _=>0)
    case atStart=>exact ⟨xs,ds,F,A',c',rfl,sw.out,I ⟨sH.out,.inl pJ.out,eE.out,hT.out⟩⟩
    case round =>
     obtain ⟨ys,ds,F,A',c',rfl,hly,HX⟩:=hrel;obtain ⟨hR,hW,hC,hU⟩:=HX.out;have rU:=I hR;have pr:=I hW;have oA:=I hC;have oB:=I hU;have k9:=hU.size;clear HX hR hW hC hU sH pJ eE hT sw;go_wp2_with fail
     refine (fs 2 J _ c A n aq oA.out).mono ?_;rintro e w5 ⟨q,rfl,hq,H5,hu5⟩;have fj:=I H5;have iC:=I (oB.out.trans hu5);have mj:=I (rU.out.drawn hu5 ax);have Es:=hu5.size;clear H5 hu5 oA oB rU;by_cases hlq:(ys.length:Int) < 40+q
     ·obtain ⟨bd,cb,b4⟩:=mj.out;have cD:w5.ownsRow w.heap.size 117 4 (.slice A' ys.length c') ys.length ds:=bd;obtain ⟨y,hy⟩:∃y:bH,y = ⟨⟨#[97]⟩,false,⟨#[]⟩,0⟩:=⟨_,rfl⟩;have vr:y.wt = 1:=(by subst hy;rfl);have nz:=I (fun g hg=>(cD.lt g hg).2);have nA:=I cb.lt;have nB:w.heap.size≤w5.heap.size:=J
      go_wp2_with (
       at_builtin
       go_must (refine uf oV O _ _ O _ _ _ _ _ cD O [.string ⟨#[97]⟩,.bool false,.string ⟨#[]⟩,.int .i64 0] i6 O ex J J nB ?_)
       intro v6 w6 dj eT nF fR;go_must (obtain ⟨A6,c6,hv6⟩:=mY dj)
       go_must (subst hv6)
       go_must (have cS:Below w.heap.size w5 w6:=lS cD eT (Below.refl _ _) nB))
      obtain ⟨j0,hne6⟩:=aY.px cD cb b4 (am.cK (B:=w5.heap.size) (x:=y) (by subst hy;exact Ov w5 ⟨⟨#[97]⟩,false,⟨#[]⟩,0⟩ (by show 1≤maxLen;unfold maxLen;omega) (by show 0≤maxLen;omega) Jr)) nB nz.out nA.out eT fR;have cT:(ys++[y]).length = ys.length+1:=S';exact ⟨⟨ys++[y],_,_,A6,c6,by rw [cT],by rw [cT];omega,I ⟨⟨by rw [cT];exact dj,j0,by rw [cT];exact hne6⟩,.inr ⟨by rw [ep,cT];have:=pr.out;omega,by rw [cT];omega⟩,fj.out.aD cS J,iC.out.il cS J⟩⟩,by simp only [];omega⟩
     ·obtain ⟨bd,cb,b4⟩:=mj.out;obtain ⟨A5,c5,G5,dT,fH⟩:=am.oJ (α:=bH) bd cb b4;simp only [Value.slice.injEq,true_and] at dT;obtain ⟨rfl,rfl⟩:=dT;clear bd cb b4;go_wp2;go_ret
      exact ⟨ys,A',c',G5,rfl,fH,by have:=pr.out;omega,fj.out,iC.out⟩
end Go.Proofs.YtajbbmembionpaaGreat
