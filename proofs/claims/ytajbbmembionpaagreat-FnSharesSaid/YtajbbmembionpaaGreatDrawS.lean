/- Draws of numbers. No condition. -/
import Derived.Test.YtajbbmembionpaaGreatMet
import Derived.Test.YtajbbmembionpaaGreatDrawA6
namespace Go.Proofs.YtajbbmembionpaaGreat
open Go.ChangeShapes Go.WideShapes Go.ChangeAt Go.RowKit
set_option linter.unusedVariables false
set_option linter.unusedSimpArgs false
set_option maxHeartbeats 4000000
set_option maxRecDepth 100000
theorem mq (w:World) (c:Nat) (A:Option Addr) (n aq:Nat) (h:bM w c A n aq) :
 Calls Tryz.prog 56 #[.pointer (some ⟨c,0,none⟩)] w fun e w'=>∃x:Int,e = .returned (.int .i64 x)∧br x∧bM w' c A n aq∧nN [c] w w':=by
 have ax:=h.lt;have HC:=I h;clear h;go_enter Tryz.func56,Tryz.ntmps56;go_wp2_with fail
 refine (fs 5 J _ c A n aq HC.out).mono ?_;rintro e w1 ⟨r,rfl,hr,H1,hu1⟩;have cO:=I H1;have fk:=I hu1;have cE:=hu1.size;clear H1 hu1 HC;by_cases h0:r = 0
 ·subst h0;go_wp2_with fail
  refine (yX br w1.heap.size 10 _ J _ c A n aq (cO.out.ext (ak (aj _) _)) (by have:=cO.out.lt;omega) S' (fun k hk=>?_)).mono ?_
  ·have fX:k = 0∨k = 1∨k = 2∨k = 3∨k = 4∨k = 5∨k = 6∨k = 7∨k = 8∨k = 9:=J;rcases fX with rfl | rfl | rfl | rfl | rfl | rfl | rfl | rfl | rfl | rfl <;> exact ⟨_,oT _ _ _ _ _ rfl,by unfold br;omega⟩
  rintro e w2 ⟨z,rfl,hz,H2,bN⟩;have cJ:=I ((fk.out.alloc _).trans bN);have cj:=I H2;clear H2 bN;go_wp2;go_ret
  exact ⟨z,rfl,hz,cj.out,cJ.out⟩
 ·have d0:((r:Int) == 0) = false:=by simp;omega
  by_cases h1:r = 1
  ·subst h1;go_wp2_with fail
   refine (fs 1000000000 J _ c A n aq cO.out).mono ?_;rintro e w2 ⟨q,rfl,hq,H2,bN⟩;have cj:=I H2;have cJ:=I (fk.out.trans bN);clear H2 bN cO fk;go_wp2_with fail
   refine (fs 1000000000 J _ c A n aq cj.out).mono ?_;rintro e w3 ⟨s,rfl,hs,H3,bu⟩;have cG:=I H3;have dy:=I (cJ.out.trans bu);clear H3 bu cj cJ;obtain ⟨t,ht⟩:∃t:Int,(1:Int)+s = t:=⟨_,rfl⟩;have hw:wrap64 (1+(s:Int)) = t:=(by rw [← ht];unfold wrap64;omega);obtain ⟨u,hu⟩:∃u:Int,wrap64 ((q:Int) * t) = u:=⟨_,rfl⟩;have hui:br u:=(by rw [← hu];exact Kh _);have HT:=I (And.intro hw hu);clear ht hw hu;go_wp2;go_ret
   exact ⟨_,rfl,Kh _,cG.out,dy.out⟩
  ·have d1:((r:Int) == 1) = false:=(by simp;omega);go_wp2_with fail
   refine (fs 5000 J _ c A n aq cO.out).mono ?_;rintro e w2 ⟨q,rfl,hq,H2,bN⟩;have cj:=I H2;have cJ:=I (fk.out.trans bN);clear H2 bN cO fk;go_wp2;go_ret
   exact ⟨q,rfl,by unfold br;omega,cj.out,cJ.out⟩
theorem jt (w:World) (A:Option Addr) (n aq:Nat) (Z:(n:Int)≤1048576) (ce:∀k,k < n→∃(g o:Nat) (v:Int),A = some ⟨g,o,none⟩∧g < w.heap.size∧w.cell? ⟨g,o+k,none⟩ = some (.int .u8 v)∧0≤v∧v≤255) :
 Calls Tryz.prog 23 #[.slice A n aq] w fun e w'=>∃x y:Int,e = .returned (.tuple #[.int .i64 x,.int .i64 y])∧br x∧br y∧Below w.heap.size w w':=by
 go_enter Tryz.func23,Tryz.ntmps23;go_wp2_with fail
 refine (Kj _ A n aq Z ce).mono ?_;rintro e w1 ⟨c,rfl,hc,H1,bo⟩;have cO:=I H1;have sj:=I bo;clear H1 bo;go_wp2_with fail
 refine (mq _ c A n aq cO.out).mono ?_;rintro e w2 ⟨x,rfl,hx,H2,bN⟩;have cj:=I H2;have iL:=I (sj.out.trans (bN.aD (B:=w.heap.size) (fun b X=>by rw [List.mem_singleton] at X;omega) (sj.out.size)));clear H2 bN cO sj;go_wp2_with fail
 refine (mq _ c A n aq cj.out).mono ?_;rintro e w3 ⟨y,rfl,hy,H3,bu⟩;have cG:=I H3;have pn:=I (iL.out.trans (bu.aD (B:=w.heap.size) (fun b X=>by rw [List.mem_singleton] at X;omega) (iL.out.size)));clear H3 bu cj iL;go_wp2_with fail
 refine (fs 3 J _ c A n aq cG.out).mono ?_;rintro e w4 ⟨r,rfl,hr,H4,Td⟩;have eE:=I H4;have fS:=I (pn.out.trans (Td.aD (B:=w.heap.size) (fun b X=>by rw [List.mem_singleton] at X;omega) (pn.out.size)));clear H4 Td cG pn;have HX:=I hx;have HY:=I hy;clear hx hy;by_cases h0:r = 0
 ·subst h0;go_wp2;go_returns
  exact ⟨x,x,rfl,HX.out,HX.out,fS.out⟩
 ·have d0:((r:Int) == 0) = false:=by simp;omega
  by_cases h1:r = 1
  ·subst h1;go_wp2_with fail
   refine (fs 101 J _ c A n aq eE.out).mono ?_;rintro e w5 ⟨q,rfl,hq,H5,hu5⟩;have Bu:=I (fS.out.trans (hu5.aD (B:=w.heap.size) (fun b X=>by rw [List.mem_singleton] at X;omega) (fS.out.size)));clear H5 hu5 eE fS;go_wp2;go_returns
   exact ⟨_,x,rfl,Kh _,HX.out,Bu.out⟩
  ·have d1:((r:Int) == 1) = false:=(by simp;omega);go_wp2;go_returns
   exact ⟨x,y,rfl,HX.out,HY.out,fS.out⟩
theorem mr (w:World) (A:Option Addr) (n aq:Nat) (Z:(n:Int)≤1048576) (ce:∀k,k < n→∃(g o:Nat) (v:Int),A = some ⟨g,o,none⟩∧g < w.heap.size∧w.cell? ⟨g,o+k,none⟩ = some (.int .u8 v)∧0≤v∧v≤255) :
 Calls Tryz.prog 21 #[.slice A n aq] w fun e w'=>∃(xs:List Int) (A':Option Addr) (c':Nat) (G:List Nat),e = .returned (.slice A' 12 c')∧Sl w' xs A' c' G∧xs.length = 12∧(∀x∈xs,0≤x∧x≤9999)∧Below w.heap.size w w':=by
 go_enter Tryz.func21,Tryz.ntmps21;go_wp2_with fail
 refine (Kj _ A n aq Z ce).mono ?_;rintro e w1 ⟨c,rfl,hc,H1,bo⟩;have cO:=I H1;have sj:=I bo;clear H1 bo;go_wp2_with fail
 go_loopw [4,5] (fun v i wr=>∃(xs:List Int) (ds:List Value) (A':Option Addr) (c' k:Nat),v = .slice A' xs.length c'∧i = .int .i64 k∧k≤12∧xs.length = k∧Hid (wr.ownsRow (w1.heap.size) 3 1 (.slice A' xs.length c') xs.length ds∧aY wr w1.heap.size xs ds []∧(∀x∈xs,0≤x∧x≤9999)∧bM wr c A n aq∧nN [c] w1 wr)) (fun _ i _=>12 - (intOf i).toNat)
 case atStart=>exact ⟨[],[],_,_,0,rfl,rfl,Nat.zero_le _,rfl,I ⟨D9 w1 3 1 _ rfl,aY.nil _ _,(fun x hx=>by cases hx),cO.out.ext (ak (aj _) _),nN.lq _ (ak (aj _) _)⟩⟩
 case round =>
  obtain ⟨xs,ds,A',c',k,rfl,rfl,hk,zn,HX⟩:=hrel;obtain ⟨bd,cb,cP,hC,hU⟩:=HX.out;have j8:=cO.out.lt;have k9:=hU.size;by_cases hk12:k < 12
  ·have nU:(k:Int) < 12:=J;have gg:=I bd;have rA:=I cb;have Eo:=I cP;have oA:=I hC;have oB:=I hU;have Oc:=I zn;have MP:xs.length≤12:=J;clear bd cb cP hC hU HX zn;go_wp2_with fail
   refine (fs 10000 J _ c A n aq oA.out).mono ?_;rintro e w2 ⟨q,rfl,hq,H2,bN⟩;have jk:=rQ gg.out bN j8;have ph:=rA.out.bs (w':=w2) (fun b X=>by cases X) bN.size;have cj:=I H2;have cJ:=I (oB.out.trans bN);have cw:=bN.size;have Bp:w1.heap.size≤w2.heap.size:=J;clear H2 bN gg rA oA oB;have rB:=I ph;clear ph
   go_wp2_with (
    at_builtin
    go_must (refine uf EI O _ _ O _ _ _ _ _ jk O [.int .i64 q] i6 O ex J J Bp ?_)
    intro v3 w3 dl l6 cU qu;go_must (obtain ⟨A3,c3,jx⟩:=mY dl)
    go_must (subst jx)
    go_must (have bb:Below w1.heap.size w2 w3:=lS jk l6 (Below.refl _ _) Bp))
   have cT:(xs++[(q:Int)]).length = xs.length+1:=S'
   exact ⟨⟨xs++[(q:Int)],_,A3,c3,k+1,by rw [cT],N',J,by rw [cT,Oc.out],I ⟨by rw [cT];exact dl,aY.Oq (rB.out.bs (fun b X=>by cases X) l6.size) km,(fun x hx=>by
    rcases List.mem_append.1 hx with hx | hx
    ·exact Eo.out x hx
    ·rw [List.mem_singleton] at hx;subst hx;omega),cj.out.aD bb J,cJ.out.il bb J⟩⟩,by simp only [intOf];omega⟩
  ·obtain hk8:k = 12:=by omega
   have UC:(k:Int) = 12:=J;obtain ⟨A4,c4,F4,hv4,hS4,_⟩:=Sl.mO (α:=Int) bd cb.rd;simp only [Value.slice.injEq,true_and] at hv4;obtain ⟨rfl,rfl⟩:=hv4;have HS4:=I hS4;have Eo:=I cP;have HB:=I (sj.out.trans (hU.aD (B:=w.heap.size) (fun b X=>by rw [List.mem_singleton] at X;omega) sj.out.size));have tI:xs.length = 12:=J;rw [UC];clear bd cb cP hC hU HX hS4 UC hk8 hk12 hk zn;go_wp2;go_ret
   exact ⟨xs,A',c',F4,(by rw [tI];rfl),HS4.out,tI,Eo.out,HB.out⟩
end Go.Proofs.YtajbbmembionpaaGreat
