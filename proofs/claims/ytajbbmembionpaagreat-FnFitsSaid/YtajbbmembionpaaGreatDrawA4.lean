/- Draws of needs that may be wrong. No condition. -/
import Derived.Test.YtajbbmembionpaaGreatDrawA2
import Derived.Test.YtajbbmembionpaaGreatPodNormS
namespace Go.Proofs.YtajbbmembionpaaGreat
open Go.ChangeShapes Go.WideShapes Go.ChangeAt Go.RowKit
set_option linter.unusedVariables false
set_option linter.unusedSimpArgs false
set_option maxHeartbeats 4000000
set_option maxRecDepth 100000
theorem am.ot {w:World} {B:Nat} {x:aL} {A:Option Addr} {c n:Nat} {k:ByteArray} {o:Int} {G:List Nat} (h:am w B x [.string k,.int .i64 o,.slice A n c] G):am w B x.values [.slice A x.values.length c] G∧n = x.values.length∧x.key.size≤maxLen∧bt x.op:=by
 obtain ⟨Av,cv,Fv,aD,rfl,Z,h2,h3⟩:=og h.rd;simp only [List.cons.injEq,Value.slice.injEq,and_true] at aD;obtain ⟨_,_,rfl,rfl,rfl⟩:=aD;exact ⟨⟨h3,h.nodup,h.base,h.plain⟩,rfl,Z,h2⟩
theorem am.fy {α:Type} [bb α] {w:World} {B:Nat} {x:α} {cs:List Value} {F:List Nat} (h:am w B x cs F) {p:Addr} (X:∀b∈F,b≠p.block) (u:Value):am (w.setCell p u) B x cs F :=
 h.bm (fun b hm=>Below.heap_setCell _ _ _ _ (X b hm)) ew
theorem e'.bj {α:Type} [bb α] {w:World} {B:Nat} {e:TypeId} {xs:List α} {v:Value} {ds:List Value} {F:List Nat} {b i:Nat} {u:Value} (h:e' w B e xs v ds F) (Z:∀g,v.ownBlock = some g→g≠b) (h2:∀g∈F,g≠b):e' (w.setCell ⟨b,i,none⟩ u) B e xs v ds F :=
 ⟨EJ h.1 Z,h.2.1.bm (fun g hg=>Below.heap_setCell _ _ _ _ (h2 g hg)) ew,h.2.2⟩
theorem k' (w:World) (c:Nat) (A:Option Addr) (n ar:Nat) (h:bR w c A n ar) :
 Calls Tryz.prog 121 #[.pointer (some ⟨c,0,none⟩)] w fun e w'=>∃(x:aL) (A':Option Addr) (c':Nat) (G:List Nat),e = .returned (.agg #[.string x.key,.int .i64 x.op,.slice A' x.values.length c'])∧am w' w.heap.size x [.string x.key,.int .i64 x.op,.slice A' x.values.length c'] G∧x.wt≤70∧bR w' c A n ar∧nN [c] w w':=by
 have av:=h.lt;have HC:=I h;clear h;go_enter Tryz.func121,Tryz.ntmps121;go_wp2_with fail
 refine (VW _ c A n ar (HC.out.ext (ak (aj _) _))).mono ?_;rintro e w1 ⟨x,A1,c1,G1,rfl,jX,oD,H1,hu1,cP⟩;have vv:=I ((oG.new w [.string ⟨#[]⟩,.int .i64 0,.slice none 0 0] 70).bS hu1 J);have gd:=I ((nN.lq [c] (ak (aj w) _)).trans hu1);have cq:=hu1.size;simp at cq jX cP;obtain ⟨r8,_,_,_⟩:=jX.ot;obtain ⟨ds,F,bk,cA,bX⟩:=r8.nX cP;have rm:=I (show e' w1 (w.heap.size+1) 9 x.values (.slice A1 x.values.length c1) ds F from ⟨bk,cA,bX⟩);have IA:=I (show ∀g,(Value.slice A1 x.values.length c1).ownBlock = some g→w.heap.size+1≤g∧g < w1.heap.size from fun g hg=>bk.lt g hg);have zV:=I (show ∀g∈F,w.heap.size+1≤g∧g < w1.heap.size from fun g hg=>⟨cA.base g hg,cA.lt g hg⟩);have fT:=I jX;have ZN:=I (show x.key.size+kL ByteArray.size x.values≤35 from oD);have PQ:=I (show x.values.length≤35 by have:=gJ ByteArray.size x.values;have e:x.wt = x.key.size+kL ByteArray.size x.values:=rfl;omega);have dX:=I H1;have kW:=H1.lt;have jG:=I jX.lt;have zo:=I jX.base;have fS:∀b∈G1,w.heap.size < b∧b < w1.heap.size:=fun b U=>⟨by have:=zo.out b U;omega,jG.out b U⟩;have PR:=I fS;clear H1 hu1 HC jX cP oD jG zo fS r8 bk cA bX;go_wp2_with fail
 refine (gS 10 J _ c A n ar (dX.out.ext (ak (aj _) _))).mono ?_;rintro e w2 ⟨r,rfl,hr,H2,b8⟩;have cO:=I H2;have fl:=I ((vv.out.ext (ak (aj _) _)).bS b8 J);have e9:=I ((oG.new w1 [.string x.key,.int .i64 x.op,.slice A1 x.values.length c1] 70).bS b8 J);have cY:=I ((gd.out.alloc _).trans b8);have RZ:=I ((fT.out.ext (ak (aj _) (.cells ([.string x.key,.int .i64 x.op,.slice A1 x.values.length c1]:List Value).toArray 70))).drawn b8 J);have kt:=I ((rm.out.ext (ak (aj _) (.cells ([.string x.key,.int .i64 x.op,.slice A1 x.values.length c1]:List Value).toArray 70))).drawn b8 J);have cC:=b8.size;simp at cC;clear H2 b8 dX vv gd fT rm;by_cases h0:r = 0
 ·subst h0;clear kt IA zV PQ;go_wp2_with fail
  refine (gS 7 J _ c A n ar cO.out).mono ?_;rintro e w3 ⟨q,rfl,hq,H3,bv⟩;have cV:=I H3;have xx:=fl.out.bS bv J;have yy:=e9.out.bS bv J;have eh:=I (cY.out.trans bv);have gc:=I (RZ.out.drawn bv J);have dm:=bv.size;obtain ⟨iA,azr,azs,azt,azu,azv⟩:=qe xx;obtain ⟨iZ,aAC,aAD,aAE,aAF,aAG⟩:=qe yy;clear xx yy fl e9 H3 bv cO cY RZ;go_wp2;have fS:=PR.out;obtain ⟨hv,_,hk,_⟩:=gc.out.ot;have HV:=am.pb (k:=x.key) (op:=(q:Int) - 1) hv hk oM;refine bodyPost_ret (v:=.agg #[.string x.key,.int .i64 ((q:Int) - 1),.slice A1 x.values.length c1]) (by simp [results,Tryz.results121,go_sem, *]) rfl ?_;exact ⟨⟨x.key,(q:Int) - 1,x.values⟩,A1,c1,G1,rfl,(((((HV.fy (p:=⟨w1.heap.size,1,none⟩) (fun b U=>by have:=fS b U;dsimp only;omega) _).fy (p:=⟨w.heap.size,0,none⟩) (fun b U=>by have:=fS b U;dsimp only;omega) _).fy (p:=⟨w.heap.size,1,none⟩) (fun b U=>by have:=fS b U;dsimp only;omega) _).fy (p:=⟨w.heap.size,2,none⟩) (fun b U=>by have:=fS b U;dsimp only;omega) _)).mono J,(by have:=ZN.out;show x.key.size+kL ByteArray.size x.values≤70;omega),((((cV.out.bj J 1 _).bj J 0 _).bj J 1 _).bj J 2 _),((((eh.out.new J 1 _).new J 0 _).new J 1 _).new J 2 _)⟩
 ·have d0:((r:Int) == 0) = false:=by simp;omega
  by_cases Z:r = 1
  ·subst Z;obtain ⟨gm,r8,hk,eK⟩:=RZ.out.ot;clear gm r8;have Wk:=I (And.intro hk eK);have IC:=I cO.out.drew;have ID:=I (fl.out.ext (aA (aj _)));have tT:=I (e9.out.ext (aA (aj _)));have IF:=I (cY.out.trans (nN.lq [c] (aA (aj _))));have IG:=I (kt.out.ext (aA (aj _)));have Gj:w2.heap.size≤w2.drew.heap.size:=(aA (aj w2)).size;have y2:=tT.out.cell (i:=2) (u:=.slice A1 x.values.length c1) rfl;clear hk eK RZ cO fl e9 cY kt;go_wp2_with fail
   refine uq (fun w'=>w'.cell? ⟨w1.heap.size,2,none⟩ = some (.slice A1 x.values.length c1)) [0,1,2] [3,4,5,6] [7,8] U' U' H' y2 ?_;clear y2;generalize w2.drew = wd at *;simp only [ek,List.getElem?_cons_succ,List.getElem?_cons_zero]
   iterate 3
    (apply dR
     case hy =>exact x3
     simp only [Act.put,pz])
   refine fE ?_;refine iK rfl (fun K hK=>?_);go_simp;refine hK _ _ ((tT.out.ext (ak (aj _) (.cells ([.string ⟨#[97]⟩,.string ⟨#[122,122]⟩,.string ⟨#[45]⟩,.string ⟨#[]⟩]:List Value).toArray 9))).cell (i:=2) (u:=.slice A1 x.values.length c1) rfl) ?_;try simp only [Act.put,pz]
   clear hK K;refine iK rfl (fun K hK=>?_);go_simp;refine (vb (fun s=>s.size≤31) wd.heap.size 4 _ J _ c A n ar (IC.out.ext (ak (aj _) _)) J S' (fun k hk=>?_)).mono ?_
   ·have gp:k = 0∨k = 1∨k = 2∨k = 3:=J;rcases gp with rfl | rfl | rfl | rfl <;> exact ⟨_,po _ _ _ _ _ rfl,by decide⟩
   rintro e w4 ⟨s,rfl,hs,H4,Td⟩;have fd:=I H4;have vx:=I ((ID.out.ext (ak (aj _) _)).bS Td J);have kj:=I ((tT.out.ext (ak (aj _) _)).bS Td J);have hZ:=I ((IF.out.alloc _).trans Td);have sl:=I ((IG.out.ext (ak (aj _) _)).drawn Td J);have Wy:=Td.size;simp at Wy;have y4:=kj.out.cell (i:=2) (u:=.slice A1 x.values.length c1) rfl;have y4a:=(kj.out.ext (ak (aj _) (.cells ([.string s]:List Value).toArray 9))).cell (i:=2) (u:=.slice A1 x.values.length c1) rfl;clear H4 Td IC ID tT IF IG;refine hK _ _ y4 ?_;try simp only [Act.put,pz]
   clear hK K;refine iK rfl (fun K hK=>?_);go_simp;refine hK _ _ y4a ?_;try simp only [Act.put,pz]
   clear hK K;refine iK rfl (fun K hK=>?_);have n':w.heap.size+1≤w4.heap.size:=J;have V5:x.values.length≤2097152:=(by have:=PQ.out;omega);refine Qb qw _ _ M _ _ _ _ _ sl.out.1 M [.string s] iN M et V5 J n' ?_;intro v6 w6 du fb lL fW;obtain ⟨A6,c6,hv6⟩:=mY du;subst hv6;have ic:c < w.heap.size+1:=J;have cD:Below (w.heap.size+1) w4 w6:=lS sl.out.1 fb (Below.refl _ _) n';have Wl:=I (vx.out.bm (cD.block _ J));have vu:=I (kj.out.bm (fb.block _ kj.out.lt (by intro e;have:=IA.out _ e.symm;omega)));have my:=I (fd.out.aE cD ic);have zP:=I (hZ.out.iJ cD J);obtain ⟨j5,hne6⟩:=aY.pr sl.out.1 sl.out.2.1 sl.out.2.2 (am.cQ (B:=w4.heap.size) (ed w4 s J)) n' (fun g hg=>by have:=IA.out g hg;omega) (fun g hg=>by have:=zV.out g hg;omega) fb fW;have tQ:=I (show e' w6 (w.heap.size+1) 9 (x.values++[s]) (.slice A6 (x.values.length+1) c6) _ _ from ⟨by rw [List.length_append];exact du,j5,hne6⟩)
   have LR:=I (show ∀g,(Value.slice A6 (x.values.length+1) c6).ownBlock = some g→g≠w.heap.size∧g≠w1.heap.size from fun g hg=>by
    rcases fW with e | e
    ·have:=IA.out g (e.symm.trans hg);omega
    ·rw [e] at hg;simp only [Option.some.injEq] at hg;omega)
   have y6:=vu.out.cell (i:=2) (u:=.slice A1 x.values.length c1) rfl;have xx:=Wl.out;have yy:=vu.out;obtain ⟨iA,azr,azs,azt,azu,azv⟩:=qe xx;obtain ⟨iZ,aAC,aAD,aAE,aAF,aAG⟩:=qe yy;clear xx yy fb fW du j5 hne6 cD vx kj fd hZ sl Wl vu;refine hK _ _ y6 ?_;try simp only [Act.put,pz]
   clear hK K;refine yG ?_;go_wp2;have hR:=(((tQ.out.bj (b:=w1.heap.size) (i:=2) (u:=.slice A6 (x.values.length+1) c6) (fun g hg=>(LR.out g hg).2) (fun g hg=>by have:=zV.out g (by simpa using hg);omega)).bj (b:=w.heap.size) (i:=0) (u:=.string x.key) (fun g hg=>(LR.out g hg).1) (fun g hg=>by have:=zV.out g (by simpa using hg);omega)).bj (b:=w.heap.size) (i:=1) (u:=.int .i64 x.op) (fun g hg=>(LR.out g hg).1) (fun g hg=>by have:=zV.out g (by simpa using hg);omega)).bj (b:=w.heap.size) (i:=2) (u:=.slice A6 (x.values.length+1) c6) (fun g hg=>(LR.out g hg).1) (fun g hg=>by have:=zV.out g (by simpa using hg);omega);obtain ⟨A5,c5,G5,eg,fH⟩:=am.oJ (α:=ByteArray) hR.1 hR.2.1 hR.2.2;simp only [Value.slice.injEq] at eg;obtain ⟨rfl,rj,rfl⟩:=eg;clear rj;have HV:=I (am.pb (k:=x.key) (op:=x.op) fH Wk.out.1 Wk.out.2);clear hR fH;refine bodyPost_ret (v:=.agg #[.string x.key,.int .i64 x.op,.slice A6 (x.values.length+1) c6]) (by simp [results,Tryz.results121,go_sem, *]) rfl ?_;exact ⟨⟨x.key,x.op,x.values++[s]⟩,A6,c6,G5,S',HV.out.mono J,(by show x.key.size+kL ByteArray.size (x.values++[s])≤70;rw [ex];have:=ZN.out;omega),((((my.out.bj J 2 _).bj J 0 _).bj J 1 _).bj J 2 _),((((zP.out.new J 2 _).new J 0 _).new J 1 _).new J 2 _)⟩
  ·have d1:((r:Int) == 1) = false:=(by simp;omega);clear kt IA zV PQ;by_cases h2:r = 2
   ·subst h2;go_wp2_with fail
    refine (vb (fun s=>s.size≤31) w2.heap.size 2 _ J _ c A n ar (cO.out.ext (ak (aj _) _)) (by have:=cO.out.lt;omega) S' (fun k hk=>?_)).mono ?_
    ·have gp:k = 0∨k = 1:=J;rcases gp with rfl | rfl <;> exact ⟨_,po _ _ _ _ _ rfl,by decide⟩
    rintro e w3 ⟨s,rfl,hs,H3,bv⟩;have cV:=I H3;have xx:=(fl.out.ext (ak (aj _) _)).bS bv J;have yy:=(e9.out.ext (ak (aj _) _)).bS bv J;have eh:=I ((cY.out.alloc _).trans bv);have gc:=I ((RZ.out.ext (ak (aj _) _)).drawn bv J);have dm:=bv.size;simp at dm;obtain ⟨iA,azr,azs,azt,azu,azv⟩:=qe xx;obtain ⟨iZ,aAC,aAD,aAE,aAF,aAG⟩:=qe yy;clear xx yy fl e9 H3 bv cO cY RZ;go_wp2;have fS:=PR.out;obtain ⟨hv,_,_,ho⟩:=gc.out.ot;have HV:=am.pb (k:=s) (op:=x.op) hv j4 ho;refine bodyPost_ret (v:=.agg #[.string s,.int .i64 x.op,.slice A1 x.values.length c1]) (by simp [results,Tryz.results121,go_sem, *]) rfl ?_;exact ⟨⟨s,x.op,x.values⟩,A1,c1,G1,rfl,(((((HV.fy (p:=⟨w1.heap.size,0,none⟩) (fun b U=>by have:=fS b U;dsimp only;omega) _).fy (p:=⟨w.heap.size,0,none⟩) (fun b U=>by have:=fS b U;dsimp only;omega) _).fy (p:=⟨w.heap.size,1,none⟩) (fun b U=>by have:=fS b U;dsimp only;omega) _).fy (p:=⟨w.heap.size,2,none⟩) (fun b U=>by have:=fS b U;dsimp only;omega) _)).mono J,(by have:=ZN.out;show s.size+kL ByteArray.size x.values≤70;omega),((((cV.out.bj J 0 _).bj J 0 _).bj J 1 _).bj J 2 _),((((eh.out.new J 0 _).new J 0 _).new J 1 _).new J 2 _)⟩
   ·have d2:((r:Int) == 2) = false:=(by simp;omega);have xx:=fl.out;have yy:=e9.out;obtain ⟨iA,azr,azs,azt,azu,azv⟩:=qe xx;obtain ⟨iZ,aAC,aAD,aAE,aAF,aAG⟩:=qe yy;clear xx yy fl e9;go_wp2;have fS:=PR.out;refine bodyPost_ret (v:=.agg #[.string x.key,.int .i64 x.op,.slice A1 x.values.length c1]) (by simp [results,Tryz.results121,go_sem, *]) rfl ?_;exact ⟨x,A1,c1,G1,rfl,((((RZ.out.fy (p:=⟨w.heap.size,0,none⟩) (fun b U=>by have:=fS b U;dsimp only;omega) _).fy (p:=⟨w.heap.size,1,none⟩) (fun b U=>by have:=fS b U;dsimp only;omega) _).fy (p:=⟨w.heap.size,2,none⟩) (fun b U=>by have:=fS b U;dsimp only;omega) _)).mono J,(by have:=ZN.out;show x.key.size+kL ByteArray.size x.values≤70;omega),(((cO.out.bj J 0 _).bj J 1 _).bj J 2 _),(((cY.out.new J 0 _).new J 1 _).new J 2 _)⟩
theorem kd (w:World) (c:Nat) (A:Option Addr) (n ar:Nat) (h:bR w c A n ar) :
 Calls Tryz.prog 73 #[.pointer (some ⟨c,0,none⟩)] w fun e w'=>∃(xs:List aL) (A':Option Addr) (c':Nat) (G:List Nat),e = .returned (.slice A' xs.length c')∧am w' w.heap.size xs [.slice A' xs.length c'] G∧kL aL.wt xs≤560∧bR w' c A n ar∧nN [c] w w':=by
 have av:=h.lt;have HC:=I h;clear h;go_enter Tryz.func73,Tryz.ntmps73;go_wp2_with fail
 refine (V7 _ c A n ar HC.out).mono ?_;rintro e w1 ⟨xs,A1,c1,G1,rfl,jX,hwt1,H1,hu1,cP⟩;have dX:=I H1;have gd:=I hu1;have rj:(xs.length:Int)≤460:=by have:=gJ aL.wt xs;omega
 obtain ⟨ds,F,bk,cA,bX⟩:=jX.nX cP;have rm:=I (show e' w1 w.heap.size 70 xs (.slice A1 xs.length c1) ds F from ⟨bk,cA,bX⟩);have zR:=I (show kL aL.wt xs≤460 from hwt1);have cq:=hu1.size;clear H1 hu1 jX hwt1 cP bk cA bX HC;go_wp2_with fail
 refine (sd 5 J _ c A n ar dX.out).mono ?_;rintro e w2 ⟨b,rfl,H2,b8⟩;have cO:=I H2;have cY:=I (gd.out.trans b8);have kt:=I (rm.out.drawn b8 av);have cC:=b8.size;clear H2 b8 dX gd rm;cases b
 case' false =>
  (have gU:=I (show (xs.length:Int)≤461 by omega)
   have AK:=I (show kL aL.wt xs≤531 by have:=zR.out;omega)
   clear zR rj)
 case' true =>
  have zE:=I (fun g hg=>(kt.out.1.lt g hg).2);have fN:=I kt.out.2.1.lt;go_wp2_with fail
  refine (k' _ c A n ar cO.out).mono ?_;rintro e w3 ⟨y,Ay,cy,Gy,rfl,tw,vp,H3,bv⟩;have cV:=I H3;have eh:=I (cY.out.trans bv);obtain ⟨jl,hcs3,hne3⟩:=kt.out.drawn bv av;have lb:w3.ownsRow w.heap.size 70 3 (.slice A1 xs.length c1) xs.length ds:=jl;have q':=I hcs3;have IH:=I hne3;have qz:=I tw;have dm:=bv.size;have lB:w.heap.size≤w3.heap.size:=by omega
  clear H3 bv cO cY kt tw jl hcs3 hne3
  go_wp2_with (
   at_builtin
   go_must (refine uf oy M _ _ M _ _ _ _ _ lb M [.string y.key,.int .i64 y.op,.slice Ay y.values.length cy] iN M et J J lB ?_)
   intro v4 w4 da gF Wy j8;go_must (obtain ⟨A4,c4,hv4⟩:=mY da)
   go_must (subst hv4)
   go_must (have bw:Below w.heap.size w3 w4:=lS lb gF (Below.refl _ _) lB))
  obtain ⟨l5,hne4⟩:=aY.pr lb q'.out IH.out qz.out J zE.out fN.out gF j8;have dp:xs.length+1 = (xs++[y]).length:=by simp
  have AK:=I (show kL aL.wt (xs++[y])≤531 by rw [ex];have:=zR.out;omega);rw [dp] at da hne4;try rw [dp]
  have cO:=I (cV.out.aE bw J);have cY:=I (eh.out.iJ bw J);have kt:=I (show e' w4 w.heap.size 70 (xs++[y]) (.slice A4 (xs++[y]).length c4) _ _ from ⟨da,l5,hne4⟩);have gU:=I (show ((xs++[y]).length:Int)≤461 by omega);have cC:=bw.size;clear da l5 hne4 gF bw cV eh qz q' IH zE fN lb zR rj j8;clear dp;generalize xs++[y] = xs at *
 all_goals
  go_wp2_with fail
  refine (sd 10 J _ c A n ar cO.out).mono ?_;rintro e w5 ⟨b2,rfl,H5,hu5⟩;have fp:=I H5;have iF:=I (cY.out.trans hu5);have l':=I (kt.out.drawn hu5 av);have Es:=hu5.size;clear H5 hu5 cO cY kt;cases b2
  ·obtain ⟨bk,cA,bX⟩:=l'.out;obtain ⟨A6,c6,G6,hv6,iD⟩:=am.oJ (α:=aL) bk cA bX;simp only [Value.slice.injEq,true_and] at hv6;obtain ⟨rfl,rfl⟩:=hv6;clear bk cA bX;go_wp2;go_ret
   exact ⟨_,_,_,G6,rfl,iD,by have:=AK.out;omega,fp.out,iF.out⟩
  ·go_wp2_with fail
   go_loopw [3,4] (fun v i wr=>∃(xs:List aL) (ds:List Value) (F:List Nat) (A':Option Addr) (c' k:Nat),v = .slice A' xs.length c'∧i = .int .i64 k∧(k:Int)≤5∧(xs.length:Int)≤461+k∧Hid (e' wr w.heap.size 70 xs (.slice A' xs.length c') ds F∧kL aL.wt xs≤531+4 * k∧bR wr c A n ar∧nN [c] w wr)) (fun _ i _=>5 - (intOf i).toNat)
   case atStart=>exact ⟨_,_,_,_,_,0,rfl,rfl,J,by have:=gU.out;omega,I ⟨l'.out,by have:=AK.out;omega,fp.out,iF.out⟩⟩
   case round =>
    obtain ⟨xs,ds,F,A',c',k,rfl,rfl,hk,rj,HX⟩:=hrel;obtain ⟨hR,hW,hC,hU⟩:=HX.out;have om:=I hR;have pm:=I hW;have rp:=I hC;have rq:=I hU;have lz:=hU.size;clear HX hR hW hC hU l' AK fp iF gU;go_wp2_with fail
    refine (gS 3 J _ c A n ar rp.out).mono ?_;rintro e w6 ⟨q,rfl,hq,H6,Ze⟩;have my:=I H6;have zP:=I (rq.out.trans Ze);have tQ:=I (om.out.drawn Ze av);have lL:=Ze.size;clear H6 Ze rp rq om;by_cases hkq:(k:Int) < 3+q
    ·have hdk:(d9 k).size≤1:=by
      have gp:k = 0∨k = 1∨k = 2∨k = 3∨k = 4:=J;rcases gp with rfl | rfl | rfl | rfl | rfl <;> decide +kernel
     have Un:((⟨#[122,122]⟩:ByteArray).size:Int)+(d9 k).size≤3:=by have:(⟨#[122,122]⟩:ByteArray).size = 2:=rfl;omega
     go_wp2_with fail
     refine (gC k J _).mono ?_;rintro e w7 ⟨rfl,bF⟩;have pd:=I (my.out.ext bF);have HU7:=I (zP.out.iJ bF J);have II:=I (tQ.out.ext bF);have lu:=bF.size;clear bF my zP tQ;have fh:((⟨#[122,122]⟩:ByteArray)++d9 k).size≤3:=(by rw [ByteArray.size_append];have:(⟨#[122,122]⟩:ByteArray).size = 2:=rfl;omega);have qz:=I (am.pb (k:=((⟨#[122,122]⟩:ByteArray)++d9 k)) (op:=3) (vs:=[]) (am.cQ (B:=w7.heap.size) (Sl.nil (α:=ByteArray) w7 none 0 (Nat.zero_le _))) j4 oM);have zE:=I (fun g hg=>(II.out.1.lt g hg).2);have fN:=I II.out.2.1.lt;have rt:w7.ownsRow w.heap.size 70 3 (.slice A' xs.length c') xs.length ds:=II.out.1;have PS:w.heap.size≤w7.heap.size:=J;have HKS:=I fh;clear fh
     go_wp2_with (
      at_builtin
      go_must (refine uf oy M _ _ M _ _ _ _ _ rt M [.string ((⟨#[122,122]⟩:ByteArray)++d9 k),.int .i64 3,.slice none 0 0] iN M et J J PS ?_)
      intro v8 w8 Le cU pF jA;go_must (obtain ⟨A8,c8,hv8⟩:=mY Le)
      go_must (subst hv8)
      go_must (have gH:Below w.heap.size w7 w8:=lS rt cU (Below.refl _ _) PS))
     obtain ⟨PT,hne8⟩:=aY.pr (x:=(⟨((⟨#[122,122]⟩:ByteArray)++d9 k),3,[]⟩:aL)) rt II.out.2.1 II.out.2.2 qz.out PS zE.out fN.out cU jA;have dp:(xs++[(⟨((⟨#[122,122]⟩:ByteArray)++d9 k),3,[]⟩:aL)]).length = xs.length+1:=S';exact ⟨⟨xs++[⟨((⟨#[122,122]⟩:ByteArray)++d9 k),3,[]⟩],_,_,A8,c8,k+1,by rw [dp],N',J,by rw [dp];omega,I ⟨⟨by rw [dp];exact Le,PT,by rw [dp];exact hne8⟩,by rw [ex];have:=pm.out;have:=HKS.out;have:aL.wt ⟨((⟨#[122,122]⟩:ByteArray)++d9 k),3,[]⟩ = ((⟨#[122,122]⟩:ByteArray)++d9 k).size:=rfl;omega,pd.out.aE gH J,HU7.out.iJ gH J⟩⟩,by simp only [intOf];omega⟩
    ·obtain ⟨bk,cA,bX⟩:=tQ.out;obtain ⟨A7,c7,G7,hv7,iG⟩:=am.oJ (α:=aL) bk cA bX;simp only [Value.slice.injEq,true_and] at hv7;obtain ⟨rfl,rfl⟩:=hv7;clear bk cA bX;go_wp2;go_ret
     exact ⟨xs,A',c',G7,rfl,iG,by have:=pm.out;omega,my.out,zP.out⟩
end Go.Proofs.YtajbbmembionpaaGreat
