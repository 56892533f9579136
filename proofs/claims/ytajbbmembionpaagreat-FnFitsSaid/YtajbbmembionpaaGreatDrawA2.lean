/- Draws of lists of labels that may be wrong. No condition. -/
import Derived.Test.YtajbbmembionpaaGreatDrawL
namespace Go.Proofs.YtajbbmembionpaaGreat
open Go.ChangeShapes Go.WideShapes Go.ChangeAt Go.RowKit
set_option linter.unusedVariables false
set_option linter.unusedSimpArgs false
set_option maxHeartbeats 4000000
set_option maxRecDepth 100000
theorem ex {α:Type} (f:α→Nat) (xs:List α) (y:α):kL f (xs++[y]) = kL f xs+(1+f y):=by
 unfold kL;simp;omega
def e' {α:Type} [bb α] (w:World) (B:Nat) (e:TypeId) (xs:List α) (v:Value) (ds:List Value) (F:List Nat):Prop:=w.ownsRow B e (bb.size α) v xs.length ds∧aY w B xs ds F∧∀g,v.ownBlock = some g→g∉F
section
variable {α:Type} [bb α] {w w':World} {B:Nat} {e:TypeId} {xs:List α} {v:Value} {ds:List Value} {F:List Nat}
theorem e'.drawn {c:Nat} (h:e' w B e xs v ds F) (hu:nN [c] w w') (hc:c < B):e' w' B e xs v ds F :=
 ⟨rQ h.1 hu hc,h.2.1.bm (fun b U=>hu.block b (h.2.1.lt b U) (fun hm=>by have:=h.2.1.base b U;rw [List.mem_singleton] at hm;omega)) hu.size,h.2.2⟩
theorem e'.ext (h:e' w B e xs v ds F) (U:Below w.heap.size w w'):e' w' B e xs v ds F :=
 ⟨mG h.1 U,h.2.1.bm (fun b hm=>U.block b (h.2.1.lt b hm)) U.size,h.2.2⟩
end
theorem jn (w:World) (c:Nat) (A:Option Addr) (n ar:Nat) (h:bR w c A n ar) :
 Calls Tryz.prog 71 #[.pointer (some ⟨c,0,none⟩)] w fun e w'=>∃(xs:List ao) (A':Option Addr) (c':Nat) (G:List Nat),e = .returned (.slice A' xs.length c')∧am w' w.heap.size xs [.slice A' xs.length c'] G∧kL ao.wt xs≤500∧bR w' c A n ar∧nN [c] w w':=by
 have av:=h.lt;have HC:=I h;clear h;go_enter Tryz.func71,Tryz.ntmps71;go_wp2_with fail
 refine (VO _ c A n ar HC.out).mono ?_;rintro e w1 ⟨xs,A1,c1,G1,rfl,jX,hwt1,H1,hu1,cP⟩;have dX:=I H1;have gd:=I hu1;have fT:=I jX;have Du:=I (show kL ao.wt xs≤306 from hwt1);have rj:(xs.length:Int)≤306:=by have:=gJ ao.wt xs;omega
 obtain ⟨ds,F,bk,cA,bX⟩:=jX.nX cP;have rm:=I (show e' w1 w.heap.size 67 xs (.slice A1 xs.length c1) ds F from ⟨bk,cA,bX⟩);have cq:=hu1.size;clear H1 hu1 jX hwt1 cP bk cA bX HC;go_wp2_with fail
 refine (gS 8 J _ c A n ar dX.out).mono ?_;rintro e w2 ⟨r,rfl,hr,H2,b8⟩;have cO:=I H2;have cY:=I (gd.out.trans b8);have RZ:=I (fT.out.drawn b8 av);have kt:=I (rm.out.drawn b8 av);have cC:=b8.size;clear H2 b8 dX gd fT rm;by_cases h0:r = 0
 ·subst h0;go_wp2_with fail
  refine (Hd _ c A n ar cO.out).mono ?_;rintro e w3 ⟨s1,rfl,dq,H3,bv⟩;have cV:=I H3;have eh:=I (cY.out.trans bv);have rn:=I (kt.out.drawn bv av);have dm:=bv.size;clear H3 bv cO cY kt RZ;go_wp2_with fail
  refine (Hh _ c A n ar cV.out).mono ?_;rintro e w4 ⟨s2,rfl,cR,H4,Td⟩;have fd:=I H4;have hZ:=I (eh.out.trans Td);obtain ⟨bk,cA,bX⟩:=rn.out.drawn Td av;have Wy:=Td.size;clear H4 Td cV eh rn;obtain ⟨y,rfl,rfl⟩:∃y:ao,s1 = y.key∧s2 = y.value:=⟨⟨s1,s2⟩,rfl,rfl⟩;have vp:y.wt≤70:=by show y.key.size+y.value.size≤70;omega
  have cK:w4.ownsRow w.heap.size 67 2 (.slice A1 xs.length c1) xs.length ds:=bk;have nj:=I (fun g hg=>(cK.lt g hg).2);have nk:=I cA.lt;have nr:w.heap.size≤w4.heap.size:=by omega
  go_wp2_with (
   at_builtin
   go_must (refine uf km M _ _ M _ _ _ _ _ cK M [.string y.key,.string y.value] iN M et J J nr ?_)
   intro v6 w6 du fb lL fW;go_must (obtain ⟨A6,c6,hv6⟩:=mY du)
   go_must (subst hv6)
   go_must (have cD:Below w.heap.size w4 w6:=lS cK fb (Below.refl _ _) nr))
  obtain ⟨j5,hne6⟩:=aY.pr cK cA bX (am.cQ (B:=w4.heap.size) (Fo w4 y (len8 dq) (len8 cR))) nr nj.out nk.out fb fW;have dp:(xs++[y]).length = xs.length+1:=by simp
  obtain ⟨A5,c5,G5,eg,fH⟩:=am.oJ (α:=ao) (xs:=xs++[y]) (by rw [dp];exact du) j5 hne6;rw [dp] at eg;simp only [Value.slice.injEq,true_and] at eg;obtain ⟨rfl,rfl⟩:=eg;have mH:=I fH;have fp:=I (fd.out.aE cD J);have iF:=I (hZ.out.iJ cD J);have BQ:=I (show kL ao.wt (xs++[y])≤500 by rw [ex];have:kL ao.wt xs≤306:=Du.out;have:ao.wt y≤70:=vp;omega);clear fH j5 hne6 du fb cD;go_wp2;go_ret
  exact ⟨xs++[y],A6,c6,G5,by rw [dp];rfl,mH.out,BQ.out,fp.out,iF.out⟩
 ·by_cases Z:r = 1
  ·subst Z;go_wp2_with fail
   refine (nd _).mono ?_;rintro e w3 ⟨s1,rfl,dq,bd⟩;go_wp2_with fail
   refine (nf _).mono ?_;rintro e w4 ⟨s2,rfl,cR,bw⟩;have ib:=I (ah bd bw);have Wy:=ib.out.size;clear bd bw;go_wp2_with fail
   refine (vb (fun s=>s.size≤31) w4.heap.size 6 _ J _ c A n ar ((cO.out.ext ib.out).ext (ak (aj _) _)) J S' (fun k hk=>?_)).mono ?_
   ·have gp:k = 0∨k = 1∨k = 2∨k = 3∨k = 4∨k = 5:=J;rcases gp with rfl | rfl | rfl | rfl | rfl | rfl <;> exact ⟨_,po _ _ _ _ _ rfl,by first | assumption | decide⟩
   rintro e w5 ⟨s3,rfl,hs3,H5,hu5⟩;have fp:=I H5;have iF:=I ((cY.out.iJ (ak ib.out _) J).trans hu5);have l':=I ((kt.out.ext (ak ib.out _)).drawn hu5 av);have Es:=hu5.size;simp at Es;clear H5 hu5 cO cY kt RZ ib;go_wp2_with fail
   refine (kq _).mono ?_;rintro e w6 ⟨s4,rfl,hs4,cD⟩;go_wp2_with fail
   refine (kr _).mono ?_;rintro e w7 ⟨s5,rfl,hs5,bF⟩;have tS:=I (ah cD bF);have lu:=tS.out.size;clear cD bF;go_wp2_with fail
   refine (vb (fun s=>s.size≤31) w7.heap.size 4 _ J _ c A n ar ((fp.out.ext tS.out).ext (ak (aj _) _)) J S' (fun k hk=>?_)).mono ?_
   ·have gp:k = 0∨k = 1∨k = 2∨k = 3:=J;rcases gp with rfl | rfl | rfl | rfl <;> exact ⟨_,po _ _ _ _ _ rfl,by first | assumption | decide⟩
   rintro e w8 ⟨s6,rfl,hs6,H8,Ub⟩;have PE:=I H8;have HU8:=I ((iF.out.iJ (ak tS.out _) J).trans Ub);obtain ⟨bk,cA,bX⟩:=(l'.out.ext (ak tS.out _)).drawn Ub av;have pF:=Ub.size;simp at pF;clear H8 Ub fp iF l' tS;obtain ⟨y,rfl,rfl⟩:∃y:ao,s3 = y.key∧s6 = y.value:=⟨⟨s3,s6⟩,rfl,rfl⟩;have vp:y.wt≤70:=(by show y.key.size+y.value.size≤70;omega);have cK:w8.ownsRow w.heap.size 67 2 (.slice A1 xs.length c1) xs.length ds:=bk;have PJ:=I (fun g hg=>(cK.lt g hg).2);have PK:=I cA.lt;have PL:w.heap.size≤w8.heap.size:=J
   go_wp2_with (
    at_builtin
    go_must (refine uf km M _ _ M _ _ _ _ _ cK M [.string y.key,.string y.value] iN M et J J PL ?_)
    intro v9 w9 ro PM hz9 PN;go_must (obtain ⟨A9,c9,hv9⟩:=mY ro)
    go_must (subst hv9)
    go_must (have xB:Below w.heap.size w8 w9:=lS cK PM (Below.refl _ _) PL))
   obtain ⟨Iy,hne9⟩:=aY.pr cK cA bX (am.cQ (B:=w8.heap.size) (Fo w8 y j4 j4)) PL PJ.out PK.out PM PN;have dp:(xs++[y]).length = xs.length+1:=S';obtain ⟨A5,c5,G5,eg,fH⟩:=am.oJ (α:=ao) (xs:=xs++[y]) (by rw [dp];exact ro) Iy hne9;rw [dp] at eg;simp only [Value.slice.injEq,true_and] at eg;obtain ⟨rfl,rfl⟩:=eg;have mH:=I fH;have fp:=I (PE.out.aE xB J);have iF:=I (HU8.out.iJ xB J);have BQ:=I (show kL ao.wt (xs++[y])≤500 by rw [ex];have:kL ao.wt xs≤306:=Du.out;have:ao.wt y≤70:=vp;omega);clear fH Iy hne9 ro PM xB;go_wp2;go_ret
   exact ⟨xs++[y],A9,c9,G5,by rw [dp];rfl,mH.out,BQ.out,fp.out,iF.out⟩
  ·by_cases h2:r = 2
   ·subst h2;clear RZ;go_wp2_with fail
    go_loopw [3,4] (fun v i wr=>∃(xs:List ao) (ds:List Value) (F:List Nat) (A':Option Addr) (c' k:Nat),v = .slice A' xs.length c'∧i = .int .i64 k∧(k:Int)≤6∧(xs.length:Int)≤306+k∧Hid (e' wr w.heap.size 67 xs (.slice A' xs.length c') ds F∧kL ao.wt xs≤306+20 * k∧bR wr c A n ar∧nN [c] w wr)) (fun _ i _=>6 - (intOf i).toNat)
    case atStart=>exact ⟨xs,ds,F,A1,c1,0,rfl,rfl,J,J,I ⟨kt.out,by have:=Du.out;omega,cO.out,cY.out⟩⟩
    case round =>
     obtain ⟨xs,ds,F,A',c',k,rfl,rfl,hk,rj,HX⟩:=hrel;obtain ⟨hR,hW,hC,hU⟩:=HX.out;have om:=I hR;have pm:=I hW;have rp:=I hC;have rq:=I hU;have lz:=hU.size;clear HX hR hW hC hU kt Du cO cY;go_wp2_with fail
     refine (gS 3 J _ c A n ar rp.out).mono ?_;rintro e w3 ⟨q,rfl,hq,H3,bv⟩;have cV:=I H3;have eh:=I (rq.out.trans bv);have rn:=I (om.out.drawn bv av);have dm:=bv.size;clear H3 bv rp rq om;by_cases hkq:(k:Int) < 4+q
     ·go_wp2_with fail
      refine (gC k J _).mono ?_;rintro e w4 ⟨rfl,bw⟩;have fd:=I (cV.out.ext bw);have hZ:=I (eh.out.iJ bw J);obtain ⟨bk,cA,bX⟩:=rn.out.ext bw;have Wy:=bw.size;have sa:=oR k;clear bw cV eh rn;have Tf:((d9 k).size:Int)≤7:=J;have cK:w4.ownsRow w.heap.size 67 2 (.slice A' xs.length c') xs.length ds:=bk;obtain ⟨y,hy⟩:∃y:ao,y = ⟨⟨#[122,122]⟩++d9 k,⟨#[]⟩⟩:=⟨_,rfl⟩;have vp:y.wt≤19:=(by subst hy;show (⟨#[122,122]⟩++d9 k:ByteArray).size+0≤19;rw [ByteArray.size_append];show 2+(d9 k).size+0≤19;omega);have fX:(⟨#[122,122]⟩++d9 k:ByteArray).size≤19:=(by rw [ByteArray.size_append];show 2+(d9 k).size≤19;omega);have nj:=I (fun g hg=>(cK.lt g hg).2);have nk:=I cA.lt;have nr:w.heap.size≤w4.heap.size:=J
      go_wp2_with (
       at_builtin
       go_must (refine uf km M _ _ M _ _ _ _ _ cK M [.string ((⟨#[122,122]⟩:ByteArray)++d9 k),.string ⟨#[]⟩] iN M et J J nr ?_)
       intro v6 w6 du fb lL fW;go_must (obtain ⟨A6,c6,hv6⟩:=mY du)
       go_must (subst hv6)
       go_must (have cD:Below w.heap.size w4 w6:=lS cK fb (Below.refl _ _) nr))
      obtain ⟨j5,hne6⟩:=aY.pr cK cA bX (am.cQ (B:=w4.heap.size) (x:=y) (by subst hy;exact Fo w4 ⟨⟨#[122,122]⟩++d9 k,⟨#[]⟩⟩ (by dsimp only;unfold maxLen;omega) (by show 0≤maxLen;omega))) nr nj.out nk.out fb fW;exact DS
     ·obtain ⟨bk,cA,bX⟩:=rn.out;obtain ⟨A5,c5,G5,eg,fH⟩:=am.oJ (α:=ao) bk cA bX;simp only [Value.slice.injEq,true_and] at eg;obtain ⟨rfl,rfl⟩:=eg;clear bk cA bX;go_wp2;go_ret
      exact ⟨xs,A',c',G5,rfl,fH,by have:=pm.out;omega,cV.out,eh.out⟩
   ·have d0:((r:Int) == 0) = false:=(by simp;omega);have d1:((r:Int) == 1) = false:=(by simp;omega);have d2:((r:Int) == 2) = false:=(by simp;omega);clear kt;go_wp2;go_ret
    exact ⟨xs,A1,c1,G1,rfl,RZ.out,by have:=Du.out;omega,cO.out,cY.out⟩
theorem ma (w:World) (c:Nat) (A:Option Addr) (n ar:Nat) (h:bR w c A n ar) :
 Calls Tryz.prog 122 #[.pointer (some ⟨c,0,none⟩)] w fun e w'=>∃x:bH,e = .returned (.agg #[.string x.key,.bool x.equal,.string x.value,.int .i64 x.ap])∧(x.key.size≤8∧x.value.size≤8∧-1≤x.ap∧x.ap≤4)∧bR w' c A n ar∧nN [c] w w':=by
 have av:=h.lt;have HC:=I h;clear h;go_enter Tryz.func122,Tryz.ntmps122;go_wp2_with fail
 refine (T7 _ c A n ar (HC.out.ext (ak (aj _) _))).mono ?_;rintro e w1 ⟨t,rfl,ht,H1,hu1⟩;have vv:=I ((oG.new w [.string ⟨#[]⟩,.bool false,.string ⟨#[]⟩,.int .i64 0] 117).bS hu1 J);have gd:=I ((nN.lq [c] (ak (aj w) _)).trans hu1);have cq:=hu1.size;simp at cq;have dX:=I H1;clear H1 hu1 HC;go_wp2_with fail
 refine (gS 10 J _ c A n ar (dX.out.ext (ak (aj _) _))).mono ?_;rintro e w2 ⟨r,rfl,hr,H2,b8⟩;have cO:=I H2;have fl:=I ((vv.out.ext (ak (aj _) _)).bS b8 J);have e9:=I ((oG.new w1 [.string t.key,.bool t.equal,.string t.value,.int .i64 t.ap] 117).bS b8 (by have:=dX.out.lt;omega));have cY:=I ((gd.out.alloc _).trans b8);have cC:=b8.size;simp at cC;have kW:=dX.out.lt;clear H2 b8 dX vv gd;by_cases h0:r = 0
 ·subst h0;go_wp2_with fail
  refine (gS 5 J _ c A n ar cO.out).mono ?_;rintro e w3 ⟨q,rfl,hq,H3,bv⟩;have cV:=I H3;have xx:=fl.out.bS bv J;have yy:=e9.out.bS bv J;have eh:=I (cY.out.trans bv);have dm:=bv.size;obtain ⟨iA,azr,azs,azt,azu,azv,azw,azx⟩:=nQ xx;obtain ⟨iZ,aAC,aAD,aAE,aAF,aAG,aAH,aAI⟩:=nQ yy;clear xx yy fl e9 H3 bv cO cY;go_wp2;refine bodyPost_ret (v:=.agg #[.string t.key,.bool t.equal,.string t.value,.int .i64 ((q:Int) - 1)]) (by simp [results,Tryz.results122,go_sem, *]) rfl ?_;exact ⟨⟨t.key,t.equal,t.value,(q:Int) - 1⟩,rfl,⟨ht.1,ht.2.1,by dsimp only;omega,by dsimp only;omega⟩,(((((cV.out.bj J 3 _).bj J 0 _).bj J 1 _).bj J 2 _).bj J 3 _),(((((eh.out.new J 3 _).new J 0 _).new J 1 _).new J 2 _).new J 3 _)⟩
 ·have d0:((r:Int) == 0) = false:=by simp;omega
  by_cases Z:r = 1
  ·subst Z;have xx:=fl.out;have yy:=e9.out;obtain ⟨iA,azr,azs,azt,azu,azv,azw,azx⟩:=nQ xx;obtain ⟨iZ,aAC,aAD,aAE,aAF,aAG,aAH,aAI⟩:=nQ yy;clear xx yy fl e9;go_wp2;refine bodyPost_ret (v:=.agg #[.string t.key,.bool (!t.equal),.string t.value,.int .i64 t.ap]) (by simp [results,Tryz.results122,go_sem, *]) rfl ?_;exact ⟨⟨t.key,!t.equal,t.value,t.ap⟩,rfl,⟨ht.1,ht.2.1,by dsimp only;omega,by dsimp only;omega⟩,(((((cO.out.bj J 1 _).bj J 0 _).bj J 1 _).bj J 2 _).bj J 3 _),(((((cY.out.new J 1 _).new J 0 _).new J 1 _).new J 2 _).new J 3 _)⟩
  ·have d1:((r:Int) == 1) = false:=(by simp;omega);by_cases h2:r = 2
   ·subst h2;have xx:=fl.out;have yy:=e9.out;obtain ⟨iA,azr,azs,azt,azu,azv,azw,azx⟩:=nQ xx;obtain ⟨iZ,aAC,aAD,aAE,aAF,aAG,aAH,aAI⟩:=nQ yy;clear xx yy fl e9;go_wp2;refine bodyPost_ret (v:=.agg #[.string t.key,.bool t.equal,.string ⟨#[97,47,98]⟩,.int .i64 t.ap]) (by simp [results,Tryz.results122,go_sem, *]) rfl ?_;exact ⟨⟨t.key,t.equal,⟨#[97,47,98]⟩,t.ap⟩,rfl,⟨ht.1,(by show (⟨#[97,47,98]⟩:ByteArray).size≤8;decide),by dsimp only;omega,by dsimp only;omega⟩,(((((cO.out.bj J 2 _).bj J 0 _).bj J 1 _).bj J 2 _).bj J 3 _),(((((cY.out.new J 2 _).new J 0 _).new J 1 _).new J 2 _).new J 3 _)⟩
   ·have d2:((r:Int) == 2) = false:=(by simp;omega);have xx:=fl.out;have yy:=e9.out;obtain ⟨iA,azr,azs,azt,azu,azv,azw,azx⟩:=nQ xx;obtain ⟨iZ,aAC,aAD,aAE,aAF,aAG,aAH,aAI⟩:=nQ yy;clear xx yy fl e9;go_wp2;refine bodyPost_ret (v:=.agg #[.string t.key,.bool t.equal,.string t.value,.int .i64 t.ap]) (by simp [results,Tryz.results122,go_sem, *]) rfl ?_;exact ⟨t,rfl,⟨ht.1,ht.2.1,J,J⟩,((((cO.out.bj J 0 _).bj J 1 _).bj J 2 _).bj J 3 _),((((cY.out.new J 0 _).new J 1 _).new J 2 _).new J 3 _)⟩
theorem k9 (w:World) (c:Nat) (A:Option Addr) (n ar:Nat) (h:bR w c A n ar) :
 Calls Tryz.prog 74 #[.pointer (some ⟨c,0,none⟩)] w fun e w'=>∃(xs:List bH) (A':Option Addr) (c':Nat) (G:List Nat),e = .returned (.slice A' xs.length c')∧am w' w.heap.size xs [.slice A' xs.length c'] G∧kL bH.wt xs≤500∧bR w' c A n ar∧nN [c] w w':=by
 have av:=h.lt;have HC:=I h;clear h;go_enter Tryz.func74,Tryz.ntmps74;go_wp2_with fail
 refine (VM _ c A n ar HC.out).mono ?_;rintro e w1 ⟨xs,A1,c1,G1,rfl,jX,hwt1,H1,hu1,cP⟩;have dX:=I H1;have gd:=I hu1;have rj:(xs.length:Int)≤204:=by have:=gJ bH.wt xs;omega
 obtain ⟨ds,F,bk,cA,bX⟩:=jX.nX cP;have rm:=I (show e' w1 w.heap.size 117 xs (.slice A1 xs.length c1) ds F from ⟨bk,cA,bX⟩);have zR:=I (show kL bH.wt xs≤204 from hwt1);have cq:=hu1.size;clear H1 hu1 jX hwt1 cP bk cA bX HC;go_wp2_with fail
 go_loopw [3,4] (fun v i wr=>∃(xs:List bH) (ds:List Value) (F:List Nat) (A':Option Addr) (c' k:Nat),v = .slice A' xs.length c'∧i = .int .i64 k∧(k:Int)≤3∧(xs.length:Int)≤204+k∧Hid (e' wr w.heap.size 117 xs (.slice A' xs.length c') ds F∧kL bH.wt xs≤204+17 * k∧bR wr c A n ar∧nN [c] w wr)) (fun _ i _=>3 - (intOf i).toNat)
 case atStart=>exact ⟨xs,ds,F,A1,c1,0,rfl,rfl,J,J,I ⟨rm.out,by have:=zR.out;omega,dX.out,gd.out⟩⟩
 case round =>
  obtain ⟨xs,ds,F,A',c',k,rfl,rfl,hk,rj,HX⟩:=hrel;obtain ⟨hR,hW,hC,hU⟩:=HX.out;have om:=I hR;have pm:=I hW;have rp:=I hC;have rq:=I hU;have lz:=hU.size;clear HX hR hW hC hU rm zR dX gd;go_wp2_with fail
  refine (gS 4 J _ c A n ar rp.out).mono ?_;rintro e w3 ⟨q,rfl,hq,H3,bv⟩;have cV:=I H3;have eh:=I (rq.out.trans bv);have rn:=I (om.out.drawn bv av);have dm:=bv.size;clear H3 bv rp rq om;by_cases hkq:(k:Int) < q
  ·go_wp2_with fail
   refine (ma _ c A n ar cV.out).mono ?_;rintro e w4 ⟨y,rfl,hy,H4,Td⟩;have fd:=I H4;have hZ:=I (eh.out.trans Td);obtain ⟨bk,cA,bX⟩:=rn.out.drawn Td av;have Wy:=Td.size;clear H4 Td cV eh rn;have cK:w4.ownsRow w.heap.size 117 4 (.slice A' xs.length c') xs.length ds:=bk;have vp:y.wt≤16:=(by show y.key.size+y.value.size≤16;omega);have nj:=I (fun g hg=>(cK.lt g hg).2);have nk:=I cA.lt;have nr:w.heap.size≤w4.heap.size:=J
   go_wp2_with (
    at_builtin
    go_must (refine uf oF M _ _ M _ _ _ _ _ cK M [.string y.key,.bool y.equal,.string y.value,.int .i64 y.ap] iN M et J J nr ?_)
    intro v6 w6 du fb lL fW;go_must (obtain ⟨A6,c6,hv6⟩:=mY du)
    go_must (subst hv6)
    go_must (have cD:Below w.heap.size w4 w6:=lS cK fb (Below.refl _ _) nr))
   obtain ⟨j5,hne6⟩:=aY.pr cK cA bX (am.cQ (B:=w4.heap.size) (Ov w4 y (len8 hy.1) (len8 hy.2.1) oM)) nr nj.out nk.out fb fW;exact DS
  ·go_wp2_with fail
   refine (sd 20 J _ c A n ar cV.out).mono ?_;rintro e w4 ⟨b,rfl,H4,Td⟩;have fd:=I H4;have hZ:=I (eh.out.trans Td);have sl:=I (rn.out.drawn Td av);have Wy:=Td.size;clear H4 Td cV eh rn;cases b
   ·obtain ⟨bk,cA,bX⟩:=sl.out;obtain ⟨A5,c5,G5,eg,fH⟩:=am.oJ (α:=bH) bk cA bX;simp only [Value.slice.injEq,true_and] at eg;obtain ⟨rfl,rfl⟩:=eg;clear bk cA bX;go_wp2;go_ret
    exact ⟨xs,A',c',G5,rfl,fH,by have:=pm.out;omega,fd.out,hZ.out⟩
   ·have Wf:=I rj;clear rj;obtain ⟨Wg,hxs0⟩:∃Wg,Wg = xs:=⟨_,rfl⟩;have oC:=I (show kL bH.wt xs≤260 by have:=pm.out;omega);have sb:=I (show (xs.length:Int)≤260 by have:=Wf.out;omega);clear hxs0 pm Wf;go_wp2_with fail
    go_loopw [3] (fun v wr=>∃(ys:List bH) (ds:List Value) (F:List Nat) (A':Option Addr) (c':Nat),v = .slice A' ys.length c'∧(ys.length:Int)≤260∧Hid (e' wr w.heap.size 117 ys (.slice A' ys.length c') ds F∧(kL bH.wt ys≤260∨kL bH.wt ys≤260+2 * ys.length∧ys.length≤41)∧bR wr c A n ar∧nN [c] w wr)) (fun v _=>match v with | .slice _ n _=>300 - n | _=>0)
    case atStart=>exact ⟨xs,ds,F,A',c',rfl,sb.out,I ⟨sl.out,.inl oC.out,fd.out,hZ.out⟩⟩
    case round =>
     obtain ⟨ys,ds,F,A',c',rfl,hly,HX⟩:=hrel;obtain ⟨hR,hW,hC,hU⟩:=HX.out;have om:=I hR;have pm:=I hW;have rp:=I hC;have rq:=I hU;have lz:=hU.size;clear HX hR hW hC hU sl oC fd hZ sb;go_wp2_with fail
     refine (gS 2 J _ c A n ar rp.out).mono ?_;rintro e w5 ⟨q,rfl,hq,H5,hu5⟩;have fp:=I H5;have iF:=I (rq.out.trans hu5);have l':=I (om.out.drawn hu5 av);have Es:=hu5.size;clear H5 hu5 rp rq om;by_cases hlq:(ys.length:Int) < 40+q
     ·obtain ⟨bk,cA,bX⟩:=l'.out;have cK:w5.ownsRow w.heap.size 117 4 (.slice A' ys.length c') ys.length ds:=bk;obtain ⟨y,hy⟩:∃y:bH,y = ⟨⟨#[97]⟩,false,⟨#[]⟩,0⟩:=⟨_,rfl⟩;have vp:y.wt = 1:=(by subst hy;rfl);have nj:=I (fun g hg=>(cK.lt g hg).2);have nk:=I cA.lt;have nr:w.heap.size≤w5.heap.size:=J
      go_wp2_with (
       at_builtin
       go_must (refine uf oF M _ _ M _ _ _ _ _ cK M [.string ⟨#[97]⟩,.bool false,.string ⟨#[]⟩,.int .i64 0] iN M et J J nr ?_)
       intro v6 w6 du fb lL fW;go_must (obtain ⟨A6,c6,hv6⟩:=mY du)
       go_must (subst hv6)
       go_must (have cD:Below w.heap.size w5 w6:=lS cK fb (Below.refl _ _) nr))
      obtain ⟨j5,hne6⟩:=aY.pr cK cA bX (am.cQ (B:=w5.heap.size) (x:=y) (by subst hy;exact Ov w5 ⟨⟨#[97]⟩,false,⟨#[]⟩,0⟩ (by show 1≤maxLen;unfold maxLen;omega) (by show 0≤maxLen;omega) KX)) nr nj.out nk.out fb fW;have dp:(ys++[y]).length = ys.length+1:=S';exact ⟨⟨ys++[y],_,_,A6,c6,by rw [dp],by rw [dp];omega,I ⟨⟨by rw [dp];exact du,j5,by rw [dp];exact hne6⟩,.inr ⟨by rw [ex,dp];have:=pm.out;omega,by rw [dp];omega⟩,fp.out.aE cD J,iF.out.iJ cD J⟩⟩,by simp only [];omega⟩
     ·obtain ⟨bk,cA,bX⟩:=l'.out;obtain ⟨A5,c5,G5,eg,fH⟩:=am.oJ (α:=bH) bk cA bX;simp only [Value.slice.injEq,true_and] at eg;obtain ⟨rfl,rfl⟩:=eg;clear bk cA bX;go_wp2;go_ret
      exact ⟨ys,A',c',G5,rfl,fH,by have:=pm.out;omega,fp.out,iF.out⟩
end Go.Proofs.YtajbbmembionpaaGreat
