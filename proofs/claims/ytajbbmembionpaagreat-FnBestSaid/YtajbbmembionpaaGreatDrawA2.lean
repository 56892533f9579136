/- Draws of lists of labels that may be wrong. No condition. -/
import Derived.Test.YtajbbmembionpaaGreatDrawL
namespace Go.Proofs.YtajbbmembionpaaGreat
open Go.ChangeShapes Go.WideShapes Go.ChangeAt Go.RowKit
set_option linter.unusedVariables false
set_option linter.unusedSimpArgs false
set_option maxHeartbeats 4000000
set_option maxRecDepth 100000
theorem ez {α:Type} (f:α→Nat) (xs:List α) (y:α):kL f (xs++[y]) = kL f xs+(1+f y):=by
 unfold kL;simp;omega
def ff {α:Type} [ba α] (w:World) (B:Nat) (e:TypeId) (xs:List α) (v:Value) (ds:List Value) (F:List Nat):Prop:=w.ownsRow B e (ba.size α) v xs.length ds∧aY w B xs ds F∧∀g,v.ownBlock = some g→g∉F
section
variable {α:Type} [ba α] {w w':World} {B:Nat} {e:TypeId} {xs:List α} {v:Value} {ds:List Value} {F:List Nat}
theorem ff.drawn {c:Nat} (h:ff w B e xs v ds F) (hu:nN [c] w w') (hc:c < B):ff w' B e xs v ds F :=
 ⟨rQ h.1 hu hc,h.2.1.keep (fun b hb=>hu.block b (h.2.1.lt b hb) (fun hm=>by have:=h.2.1.base b hb;rw [List.mem_singleton] at hm;omega)) hu.size,h.2.2⟩
theorem ff.ext (h:ff w B e xs v ds F) (hb:Below w.heap.size w w'):ff w' B e xs v ds F :=
 ⟨mG h.1 hb,h.2.1.keep (fun b hm=>hb.block b (h.2.1.lt b hm)) hb.size,h.2.2⟩
end
theorem j9 (w:World) (c:Nat) (A:Option Addr) (n cap:Nat) (h:bJ w c A n cap) :
 Calls Tryz.prog 71 #[.pointer (some ⟨c,0,none⟩)] w fun e w'=>∃(xs:List ao) (A':Option Addr) (c':Nat) (G:List Nat),e = .returned (.slice A' xs.length c')∧am w' w.heap.size xs [.slice A' xs.length c'] G∧kL ao.wt xs≤500∧bJ w' c A n cap∧nN [c] w w':=by
 have aq:=h.lt;have HC:=I h;clear h;go_enter Tryz.func71,Tryz.ntmps71;go_wp2_with fail
 refine (aB0 _ c A n cap HC.out).mono ?_;rintro e w1 ⟨xs,A1,c1,G1,rfl,jX,hwt1,H1,hu1,cr⟩;have dz:=I H1;have gA:=I hu1;have gb:=I jX;have Du:=I (show kL ao.wt xs≤306 from hwt1);have sU:(xs.length:Int)≤306:=by have:=gJ ao.wt xs;omega
 obtain ⟨ds,F,bk,cA,bN⟩:=jX.o8 cr;have ic:=I (show ff w1 w.heap.size 67 xs (.slice A1 xs.length c1) ds F from ⟨bk,cA,bN⟩);have cg:=hu1.size;clear H1 hu1 jX hwt1 cr bk cA bN HC;go_wp2_with fail
 refine (ik 8 J _ c A n cap dz.out).mono ?_;rintro e w2 ⟨r,rfl,hr,H2,b4⟩;have cJ:=I H2;have cV:=I (gA.out.trans b4);have RZ:=I (gb.out.drawn b4 aq);have lr:=I (ic.out.drawn b4 aq);have cj:=b4.size;clear H2 b4 dz gA gb ic;by_cases h0:r = 0
 ·subst h0;go_wp2_with fail
  refine (J0 _ c A n cap cJ.out).mono ?_;rintro e w3 ⟨s1,rfl,cX,H3,bt⟩;have cO:=I H3;have d9:=I (cV.out.trans bt);have sX:=I (lr.out.drawn bt aq);have cW:=bt.size;clear H3 bt cJ cV lr RZ;go_wp2_with fail
  refine (J3 _ c A n cap cO.out).mono ?_;rintro e w4 ⟨s2,rfl,cM,H4,Td⟩;have fk:=I H4;have iC:=I (d9.out.trans Td);obtain ⟨bk,cA,bN⟩:=sX.out.drawn Td aq;have Wy:=Td.size;clear H4 Td cO d9 sX;obtain ⟨y,rfl,rfl⟩:∃y:ao,s1 = y.key∧s2 = y.value:=⟨⟨s1,s2⟩,rfl,rfl⟩;have xt:y.wt≤70:=by show y.key.size+y.value.size≤70;omega
  have cH:w4.ownsRow w.heap.size 67 2 (.slice A1 xs.length c1) xs.length ds:=bk;have oC:=I (fun g hg=>(cH.lt g hg).2);have oD:=I cA.lt;have oE:w.heap.size≤w4.heap.size:=by omega
  go_wp2_with (
   at_builtin
   go_must (refine uf k9 O _ _ O _ _ _ _ _ cH O [.string y.key,.string y.value] jI O eC J J oE ?_)
   intro v6 w6 dl fi mu gf;go_must (obtain ⟨A6,c6,hv6⟩:=mY dl)
   go_must (subst hv6)
   go_must (have cw:Below w.heap.size w4 w6:=lS cH fi (Below.refl _ _) oE))
  obtain ⟨kt,hne6⟩:=aY.qF cH cA bN (am.flat (B:=w4.heap.size) (ID w4 y (len8 cX) (len8 cM))) oE oC.out oD.out fi gf;have cY:(xs++[y]).length = xs.length+1:=by simp
  obtain ⟨A5,c5,G5,d8,fH⟩:=am.oJ (α:=ao) (xs:=xs++[y]) (by rw [cY];exact dl) kt hne6;rw [cY] at d8;simp only [Value.slice.injEq,true_and] at d8;obtain ⟨rfl,rfl⟩:=d8;have nj:=I fH;have fI:=I (fk.out.below cw J);have jp:=I (iC.out.jt cw J);have DD:=I (show kL ao.wt (xs++[y])≤500 by rw [ez];have:kL ao.wt xs≤306:=Du.out;have:ao.wt y≤70:=xt;omega);clear fH kt hne6 dl fi cw;go_wp2;go_ret
  exact ⟨xs++[y],A6,c6,G5,by rw [cY];rfl,nj.out,DD.out,fI.out,jp.out⟩
 ·by_cases h1:r = 1
  ·subst h1;go_wp2_with fail
   refine (oy _).mono ?_;rintro e w3 ⟨s1,rfl,cX,aR⟩;go_wp2_with fail
   refine (oz _).mono ?_;rintro e w4 ⟨s2,rfl,cM,bu⟩;have iF:=I (ah aR bu);have Wy:=iF.out.size;clear aR bu;go_wp2_with fail
   refine (wS (fun s=>s.size≤31) w4.heap.size 6 _ J _ c A n cap ((cJ.out.ext iF.out).ext (ak (aj _) _)) J S' (fun k hk=>?_)).mono ?_
   ·have gO:k = 0∨k = 1∨k = 2∨k = 3∨k = 4∨k = 5:=J;rcases gO with rfl | rfl | rfl | rfl | rfl | rfl <;> exact ⟨_,qz _ _ _ _ _ rfl,by first | assumption | decide⟩
   rintro e w5 ⟨s3,rfl,hs3,H5,hu5⟩;have fI:=I H5;have jp:=I ((cV.out.jt (ak iF.out _) J).trans hu5);have mW:=I ((lr.out.ext (ak iF.out _)).drawn hu5 aq);have Es:=hu5.size;simp at Es;clear H5 hu5 cJ cV lr RZ iF;go_wp2_with fail
   refine (lm _).mono ?_;rintro e w6 ⟨s4,rfl,hs4,cw⟩;go_wp2_with fail
   refine (lp _).mono ?_;rintro e w7 ⟨s5,rfl,hs5,bz⟩;have xA:=I (ah cw bz);have mz:=xA.out.size;clear cw bz;go_wp2_with fail
   refine (wS (fun s=>s.size≤31) w7.heap.size 4 _ J _ c A n cap ((fI.out.ext xA.out).ext (ak (aj _) _)) J S' (fun k hk=>?_)).mono ?_
   ·have gO:k = 0∨k = 1∨k = 2∨k = 3:=J;rcases gO with rfl | rfl | rfl | rfl <;> exact ⟨_,qz _ _ _ _ _ rfl,by first | assumption | decide⟩
   rintro e w8 ⟨s6,rfl,hs6,H8,Ub⟩;have RU:=I H8;have HU8:=I ((jp.out.jt (ak xA.out _) J).trans Ub);obtain ⟨bk,cA,bN⟩:=(mW.out.ext (ak xA.out _)).drawn Ub aq;have rm:=Ub.size;simp at rm;clear H8 Ub fI jp mW xA;obtain ⟨y,rfl,rfl⟩:∃y:ao,s3 = y.key∧s6 = y.value:=⟨⟨s3,s6⟩,rfl,rfl⟩;have xt:y.wt≤70:=(by show y.key.size+y.value.size≤70;omega);have cH:w8.ownsRow w.heap.size 67 2 (.slice A1 xs.length c1) xs.length ds:=bk;have R7:=I (fun g hg=>(cH.lt g hg).2);have R8:=I cA.lt;have R9:w.heap.size≤w8.heap.size:=J
   go_wp2_with (
    at_builtin
    go_must (refine uf k9 O _ _ O _ _ _ _ _ cH O [.string y.key,.string y.value] jI O eC J J R9 ?_)
    intro v9 w9 sY Sa hz9 Sb;go_must (obtain ⟨A9,c9,hv9⟩:=mY sY)
    go_must (subst hv9)
    go_must (have xB:Below w.heap.size w8 w9:=lS cH Sa (Below.refl _ _) R9))
   obtain ⟨K5,hne9⟩:=aY.qF cH cA bN (am.flat (B:=w8.heap.size) (ID w8 y lA lA)) R9 R7.out R8.out Sa Sb;have cY:(xs++[y]).length = xs.length+1:=S';obtain ⟨A5,c5,G5,d8,fH⟩:=am.oJ (α:=ao) (xs:=xs++[y]) (by rw [cY];exact sY) K5 hne9;rw [cY] at d8;simp only [Value.slice.injEq,true_and] at d8;obtain ⟨rfl,rfl⟩:=d8;have nj:=I fH;have fI:=I (RU.out.below xB J);have jp:=I (HU8.out.jt xB J);have DD:=I (show kL ao.wt (xs++[y])≤500 by rw [ez];have:kL ao.wt xs≤306:=Du.out;have:ao.wt y≤70:=xt;omega);clear fH K5 hne9 sY Sa xB;go_wp2;go_ret
   exact ⟨xs++[y],A9,c9,G5,by rw [cY];rfl,nj.out,DD.out,fI.out,jp.out⟩
  ·by_cases h2:r = 2
   ·subst h2;clear RZ;go_wp2_with fail
    go_loopw [3,4] (fun v i wr=>∃(xs:List ao) (ds:List Value) (F:List Nat) (A':Option Addr) (c' k:Nat),v = .slice A' xs.length c'∧i = .int .i64 k∧(k:Int)≤6∧(xs.length:Int)≤306+k∧Hid (ff wr w.heap.size 67 xs (.slice A' xs.length c') ds F∧kL ao.wt xs≤306+20 * k∧bJ wr c A n cap∧nN [c] w wr)) (fun _ i _=>6 - (intOf i).toNat)
    case atStart=>exact ⟨xs,ds,F,A1,c1,0,rfl,rfl,J,J,I ⟨lr.out,by have:=Du.out;omega,cJ.out,cV.out⟩⟩
    case round =>
     obtain ⟨xs,ds,F,A',c',k,rfl,rfl,hk,sU,HX⟩:=hrel;obtain ⟨hR,hW,hC,hU⟩:=HX.out;have s7:=I hR;have qu:=I hW;have s8:=I hC;have s9:=I hU;have mo:=hU.size;clear HX hR hW hC hU lr Du cJ cV;go_wp2_with fail
     refine (ik 3 J _ c A n cap s8.out).mono ?_;rintro e w3 ⟨q,rfl,hq,H3,bt⟩;have cO:=I H3;have d9:=I (s9.out.trans bt);have sX:=I (s7.out.drawn bt aq);have cW:=bt.size;clear H3 bt s8 s9 s7;by_cases hkq:(k:Int) < 4+q
     ·go_wp2_with fail
      refine (hT k J _).mono ?_;rintro e w4 ⟨rfl,bu⟩;have fk:=I (cO.out.ext bu);have iC:=I (d9.out.jt bu J);obtain ⟨bk,cA,bN⟩:=sX.out.ext bu;have Wy:=bu.size;have tL:=pG k;clear bu cO d9 sX;have Wb:((dP k).size:Int)≤7:=J;have cH:w4.ownsRow w.heap.size 67 2 (.slice A' xs.length c') xs.length ds:=bk;obtain ⟨y,hy⟩:∃y:ao,y = ⟨⟨#[122,122]⟩++dP k,⟨#[]⟩⟩:=⟨_,rfl⟩;have xt:y.wt≤19:=(by subst hy;show (⟨#[122,122]⟩++dP k:ByteArray).size+0≤19;rw [ByteArray.size_append];show 2+(dP k).size+0≤19;omega);have gg:(⟨#[122,122]⟩++dP k:ByteArray).size≤19:=(by rw [ByteArray.size_append];show 2+(dP k).size≤19;omega);have oC:=I (fun g hg=>(cH.lt g hg).2);have oD:=I cA.lt;have oE:w.heap.size≤w4.heap.size:=J
      go_wp2_with (
       at_builtin
       go_must (refine uf k9 O _ _ O _ _ _ _ _ cH O [.string ((⟨#[122,122]⟩:ByteArray)++dP k),.string ⟨#[]⟩] jI O eC J J oE ?_)
       intro v6 w6 dl fi mu gf;go_must (obtain ⟨A6,c6,hv6⟩:=mY dl)
       go_must (subst hv6)
       go_must (have cw:Below w.heap.size w4 w6:=lS cH fi (Below.refl _ _) oE))
      obtain ⟨kt,hne6⟩:=aY.qF cH cA bN (am.flat (B:=w4.heap.size) (x:=y) (by subst hy;exact ID w4 ⟨⟨#[122,122]⟩++dP k,⟨#[]⟩⟩ (by dsimp only;unfold maxLen;omega) (by show 0≤maxLen;omega))) oE oC.out oD.out fi gf;exact FR
     ·obtain ⟨bk,cA,bN⟩:=sX.out;obtain ⟨A5,c5,G5,d8,fH⟩:=am.oJ (α:=ao) bk cA bN;simp only [Value.slice.injEq,true_and] at d8;obtain ⟨rfl,rfl⟩:=d8;clear bk cA bN;go_wp2;go_ret
      exact ⟨xs,A',c',G5,rfl,fH,by have:=qu.out;omega,cO.out,d9.out⟩
   ·have d0:((r:Int) == 0) = false:=(by simp;omega);have d1:((r:Int) == 1) = false:=(by simp;omega);have d2:((r:Int) == 2) = false:=(by simp;omega);clear lr;go_wp2;go_ret
    exact ⟨xs,A1,c1,G1,rfl,RZ.out,by have:=Du.out;omega,cJ.out,cV.out⟩
theorem mZ (w:World) (c:Nat) (A:Option Addr) (n cap:Nat) (h:bJ w c A n cap) :
 Calls Tryz.prog 122 #[.pointer (some ⟨c,0,none⟩)] w fun e w'=>∃x:bH,e = .returned (.agg #[.string x.key,.bool x.equal,.string x.value,.int .i64 x.effect])∧(x.key.size≤8∧x.value.size≤8∧-1≤x.effect∧x.effect≤4)∧bJ w' c A n cap∧nN [c] w w':=by
 have aq:=h.lt;have HC:=I h;clear h;go_enter Tryz.func122,Tryz.ntmps122;go_wp2_with fail
 refine (Xa _ c A n cap (HC.out.ext (ak (aj _) _))).mono ?_;rintro e w1 ⟨t,rfl,ht,H1,hu1⟩;have xC:=I ((oG.new w [.string ⟨#[]⟩,.bool false,.string ⟨#[]⟩,.int .i64 0] 117).bI hu1 J);have gA:=I ((nN.lq [c] (ak (aj w) _)).trans hu1);have cg:=hu1.size;simp at cg;have dz:=I H1;clear H1 hu1 HC;go_wp2_with fail
 refine (ik 10 J _ c A n cap (dz.out.ext (ak (aj _) _))).mono ?_;rintro e w2 ⟨r,rfl,hr,H2,b4⟩;have cJ:=I H2;have fw:=I ((xC.out.ext (ak (aj _) _)).bI b4 J);have eJ:=I ((oG.new w1 [.string t.key,.bool t.equal,.string t.value,.int .i64 t.effect] 117).bI b4 (by have:=dz.out.lt;omega));have cV:=I ((gA.out.alloc _).trans b4);have cj:=b4.size;simp at cj;have lO:=dz.out.lt;clear H2 b4 dz xC gA;by_cases h0:r = 0
 ·subst h0;go_wp2_with fail
  refine (ik 5 J _ c A n cap cJ.out).mono ?_;rintro e w3 ⟨q,rfl,hq,H3,bt⟩;have cO:=I H3;have xx:=fw.out.bI bt J;have yy:=eJ.out.bI bt J;have d9:=I (cV.out.trans bt);have cW:=bt.size;obtain ⟨jl,azr,azs,azt,azu,azv,azw,azx⟩:=o3 xx;obtain ⟨jC,aAC,aAD,aAE,aAF,aAG,aAH,aAI⟩:=o3 yy;clear xx yy fw eJ H3 bt cJ cV;go_wp2;refine bodyPost_ret (v:=.agg #[.string t.key,.bool t.equal,.string t.value,.int .i64 ((q:Int) - 1)]) (by simp [results,Tryz.results122,go_sem, *]) rfl ?_;exact ⟨⟨t.key,t.equal,t.value,(q:Int) - 1⟩,rfl,⟨ht.1,ht.2.1,by dsimp only;omega,by dsimp only;omega⟩,(((((cO.out.bj J 3 _).bj J 0 _).bj J 1 _).bj J 2 _).bj J 3 _),(((((d9.out.new J 3 _).new J 0 _).new J 1 _).new J 2 _).new J 3 _)⟩
 ·have d0:((r:Int) == 0) = false:=by simp;omega
  by_cases h1:r = 1
  ·subst h1;have xx:=fw.out;have yy:=eJ.out;obtain ⟨jl,azr,azs,azt,azu,azv,azw,azx⟩:=o3 xx;obtain ⟨jC,aAC,aAD,aAE,aAF,aAG,aAH,aAI⟩:=o3 yy;clear xx yy fw eJ;go_wp2;refine bodyPost_ret (v:=.agg #[.string t.key,.bool (!t.equal),.string t.value,.int .i64 t.effect]) (by simp [results,Tryz.results122,go_sem, *]) rfl ?_;exact ⟨⟨t.key,!t.equal,t.value,t.effect⟩,rfl,⟨ht.1,ht.2.1,by dsimp only;omega,by dsimp only;omega⟩,(((((cJ.out.bj J 1 _).bj J 0 _).bj J 1 _).bj J 2 _).bj J 3 _),(((((cV.out.new J 1 _).new J 0 _).new J 1 _).new J 2 _).new J 3 _)⟩
  ·have d1:((r:Int) == 1) = false:=(by simp;omega);by_cases h2:r = 2
   ·subst h2;have xx:=fw.out;have yy:=eJ.out;obtain ⟨jl,azr,azs,azt,azu,azv,azw,azx⟩:=o3 xx;obtain ⟨jC,aAC,aAD,aAE,aAF,aAG,aAH,aAI⟩:=o3 yy;clear xx yy fw eJ;go_wp2;refine bodyPost_ret (v:=.agg #[.string t.key,.bool t.equal,.string ⟨#[97,47,98]⟩,.int .i64 t.effect]) (by simp [results,Tryz.results122,go_sem, *]) rfl ?_;exact ⟨⟨t.key,t.equal,⟨#[97,47,98]⟩,t.effect⟩,rfl,⟨ht.1,(by show (⟨#[97,47,98]⟩:ByteArray).size≤8;decide),by dsimp only;omega,by dsimp only;omega⟩,(((((cJ.out.bj J 2 _).bj J 0 _).bj J 1 _).bj J 2 _).bj J 3 _),(((((cV.out.new J 2 _).new J 0 _).new J 1 _).new J 2 _).new J 3 _)⟩
   ·have d2:((r:Int) == 2) = false:=(by simp;omega);have xx:=fw.out;have yy:=eJ.out;obtain ⟨jl,azr,azs,azt,azu,azv,azw,azx⟩:=o3 xx;obtain ⟨jC,aAC,aAD,aAE,aAF,aAG,aAH,aAI⟩:=o3 yy;clear xx yy fw eJ;go_wp2;refine bodyPost_ret (v:=.agg #[.string t.key,.bool t.equal,.string t.value,.int .i64 t.effect]) (by simp [results,Tryz.results122,go_sem, *]) rfl ?_;exact ⟨t,rfl,⟨ht.1,ht.2.1,J,J⟩,((((cJ.out.bj J 0 _).bj J 1 _).bj J 2 _).bj J 3 _),((((cV.out.new J 0 _).new J 1 _).new J 2 _).new J 3 _)⟩
theorem lT (w:World) (c:Nat) (A:Option Addr) (n cap:Nat) (h:bJ w c A n cap) :
 Calls Tryz.prog 74 #[.pointer (some ⟨c,0,none⟩)] w fun e w'=>∃(xs:List bH) (A':Option Addr) (c':Nat) (G:List Nat),e = .returned (.slice A' xs.length c')∧am w' w.heap.size xs [.slice A' xs.length c'] G∧kL bH.wt xs≤500∧bJ w' c A n cap∧nN [c] w w':=by
 have aq:=h.lt;have HC:=I h;clear h;go_enter Tryz.func74,Tryz.ntmps74;go_wp2_with fail
 refine (ayH _ c A n cap HC.out).mono ?_;rintro e w1 ⟨xs,A1,c1,G1,rfl,jX,hwt1,H1,hu1,cr⟩;have dz:=I H1;have gA:=I hu1;have sU:(xs.length:Int)≤204:=by have:=gJ bH.wt xs;omega
 obtain ⟨ds,F,bk,cA,bN⟩:=jX.o8 cr;have ic:=I (show ff w1 w.heap.size 117 xs (.slice A1 xs.length c1) ds F from ⟨bk,cA,bN⟩);have Cj:=I (show kL bH.wt xs≤204 from hwt1);have cg:=hu1.size;clear H1 hu1 jX hwt1 cr bk cA bN HC;go_wp2_with fail
 go_loopw [3,4] (fun v i wr=>∃(xs:List bH) (ds:List Value) (F:List Nat) (A':Option Addr) (c' k:Nat),v = .slice A' xs.length c'∧i = .int .i64 k∧(k:Int)≤3∧(xs.length:Int)≤204+k∧Hid (ff wr w.heap.size 117 xs (.slice A' xs.length c') ds F∧kL bH.wt xs≤204+17 * k∧bJ wr c A n cap∧nN [c] w wr)) (fun _ i _=>3 - (intOf i).toNat)
 case atStart=>exact ⟨xs,ds,F,A1,c1,0,rfl,rfl,J,J,I ⟨ic.out,by have:=Cj.out;omega,dz.out,gA.out⟩⟩
 case round =>
  obtain ⟨xs,ds,F,A',c',k,rfl,rfl,hk,sU,HX⟩:=hrel;obtain ⟨hR,hW,hC,hU⟩:=HX.out;have s7:=I hR;have qu:=I hW;have s8:=I hC;have s9:=I hU;have mo:=hU.size;clear HX hR hW hC hU ic Cj dz gA;go_wp2_with fail
  refine (ik 4 J _ c A n cap s8.out).mono ?_;rintro e w3 ⟨q,rfl,hq,H3,bt⟩;have cO:=I H3;have d9:=I (s9.out.trans bt);have sX:=I (s7.out.drawn bt aq);have cW:=bt.size;clear H3 bt s8 s9 s7;by_cases hkq:(k:Int) < q
  ·go_wp2_with fail
   refine (mZ _ c A n cap cO.out).mono ?_;rintro e w4 ⟨y,rfl,hy,H4,Td⟩;have fk:=I H4;have iC:=I (d9.out.trans Td);obtain ⟨bk,cA,bN⟩:=sX.out.drawn Td aq;have Wy:=Td.size;clear H4 Td cO d9 sX;have cH:w4.ownsRow w.heap.size 117 4 (.slice A' xs.length c') xs.length ds:=bk;have xt:y.wt≤16:=(by show y.key.size+y.value.size≤16;omega);have oC:=I (fun g hg=>(cH.lt g hg).2);have oD:=I cA.lt;have oE:w.heap.size≤w4.heap.size:=J
   go_wp2_with (
    at_builtin
    go_must (refine uf pC O _ _ O _ _ _ _ _ cH O [.string y.key,.bool y.equal,.string y.value,.int .i64 y.effect] jI O eC J J oE ?_)
    intro v6 w6 dl fi mu gf;go_must (obtain ⟨A6,c6,hv6⟩:=mY dl)
    go_must (subst hv6)
    go_must (have cw:Below w.heap.size w4 w6:=lS cH fi (Below.refl _ _) oE))
   obtain ⟨kt,hne6⟩:=aY.qF cH cA bN (am.flat (B:=w4.heap.size) (Ov w4 y (len8 hy.1) (len8 hy.2.1) nW)) oE oC.out oD.out fi gf;exact FR
  ·go_wp2_with fail
   refine (tO 20 J _ c A n cap cO.out).mono ?_;rintro e w4 ⟨b,rfl,H4,Td⟩;have fk:=I H4;have iC:=I (d9.out.trans Td);have tW:=I (sX.out.drawn Td aq);have Wy:=Td.size;clear H4 Td cO d9 sX;cases b
   ·obtain ⟨bk,cA,bN⟩:=tW.out;obtain ⟨A5,c5,G5,d8,fH⟩:=am.oJ (α:=bH) bk cA bN;simp only [Value.slice.injEq,true_and] at d8;obtain ⟨rfl,rfl⟩:=d8;clear bk cA bN;go_wp2;go_ret
    exact ⟨xs,A',c',G5,rfl,fH,by have:=qu.out;omega,fk.out,iC.out⟩
   ·have ZR:=I sU;clear sU;obtain ⟨ZS,hxs0⟩:∃ZS,ZS = xs:=⟨_,rfl⟩;have ri:=I (show kL bH.wt xs≤260 by have:=qu.out;omega);have tM:=I (show (xs.length:Int)≤260 by have:=ZR.out;omega);clear hxs0 qu ZR;go_wp2_with fail
    go_loopw [3] (fun v wr=>∃(ys:List bH) (ds:List Value) (F:List Nat) (A':Option Addr) (c':Nat),v = .slice A' ys.length c'∧(ys.length:Int)≤260∧Hid (ff wr w.heap.size 117 ys (.slice A' ys.length c') ds F∧(kL bH.wt ys≤260∨kL bH.wt ys≤260+2 * ys.length∧ys.length≤41)∧bJ wr c A n cap∧nN [c] w wr)) (fun v _=>match v with | .slice _ n _=>300 - n | _=>0)
    case atStart=>exact ⟨xs,ds,F,A',c',rfl,tM.out,I ⟨tW.out,.inl ri.out,fk.out,iC.out⟩⟩
    case round =>
     obtain ⟨ys,ds,F,A',c',rfl,hly,HX⟩:=hrel;obtain ⟨hR,hW,hC,hU⟩:=HX.out;have s7:=I hR;have qu:=I hW;have s8:=I hC;have s9:=I hU;have mo:=hU.size;clear HX hR hW hC hU tW ri fk iC tM;go_wp2_with fail
     refine (ik 2 J _ c A n cap s8.out).mono ?_;rintro e w5 ⟨q,rfl,hq,H5,hu5⟩;have fI:=I H5;have jp:=I (s9.out.trans hu5);have mW:=I (s7.out.drawn hu5 aq);have Es:=hu5.size;clear H5 hu5 s8 s9 s7;by_cases Kc:(ys.length:Int) < 40+q
     ·obtain ⟨bk,cA,bN⟩:=mW.out;have cH:w5.ownsRow w.heap.size 117 4 (.slice A' ys.length c') ys.length ds:=bk;obtain ⟨y,hy⟩:∃y:bH,y = ⟨⟨#[97]⟩,false,⟨#[]⟩,0⟩:=⟨_,rfl⟩;have xt:y.wt = 1:=(by subst hy;rfl);have oC:=I (fun g hg=>(cH.lt g hg).2);have oD:=I cA.lt;have oE:w.heap.size≤w5.heap.size:=J
      go_wp2_with (
       at_builtin
       go_must (refine uf pC O _ _ O _ _ _ _ _ cH O [.string ⟨#[97]⟩,.bool false,.string ⟨#[]⟩,.int .i64 0] jI O eC J J oE ?_)
       intro v6 w6 dl fi mu gf;go_must (obtain ⟨A6,c6,hv6⟩:=mY dl)
       go_must (subst hv6)
       go_must (have cw:Below w.heap.size w5 w6:=lS cH fi (Below.refl _ _) oE))
      obtain ⟨kt,hne6⟩:=aY.qF cH cA bN (am.flat (B:=w5.heap.size) (x:=y) (by subst hy;exact Ov w5 ⟨⟨#[97]⟩,false,⟨#[]⟩,0⟩ (by show 1≤maxLen;unfold maxLen;omega) (by show 0≤maxLen;omega) Mu)) oE oC.out oD.out fi gf;have cY:(ys++[y]).length = ys.length+1:=S';exact ⟨⟨ys++[y],_,_,A6,c6,by rw [cY],by rw [cY];omega,I ⟨⟨by rw [cY];exact dl,kt,by rw [cY];exact hne6⟩,.inr ⟨by rw [ez,cY];have:=qu.out;omega,by rw [cY];omega⟩,fI.out.below cw J,jp.out.jt cw J⟩⟩,by simp only [];omega⟩
     ·obtain ⟨bk,cA,bN⟩:=mW.out;obtain ⟨A5,c5,G5,d8,fH⟩:=am.oJ (α:=bH) bk cA bN;simp only [Value.slice.injEq,true_and] at d8;obtain ⟨rfl,rfl⟩:=d8;clear bk cA bN;go_wp2;go_ret
      exact ⟨ys,A',c',G5,rfl,fH,by have:=qu.out;omega,fI.out,jp.out⟩
end Go.Proofs.YtajbbmembionpaaGreat
