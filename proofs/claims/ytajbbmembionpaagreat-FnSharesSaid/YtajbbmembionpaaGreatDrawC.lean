/- Draws of a cluster. No condition. -/
import Derived.Test.YtajbbmembionpaaGreatAppO
import Derived.Test.YtajbbmembionpaaGreatDrawO
namespace Go.Proofs.YtajbbmembionpaaGreat
open Go.ChangeShapes Go.WideShapes Go.ChangeAt Go.RowKit
set_option linter.unusedVariables false
set_option linter.unusedSimpArgs false
set_option maxHeartbeats 8000000
set_option maxRecDepth 100000
theorem aEW (w:World):Calls Tryz.prog 65 #[] w fun e w'=>e = .returned (.agg #[.slice none 0 0,.slice none 0 0,.int .i64 1,.int .i64 2,.int .i64 1,.int .i64 3])∧Below w.heap.size w w':=by
 go_enter Tryz.func65,Tryz.ntmps65;go_wp2;refine bodyPost_ret (v:=.agg #[.slice none 0 0,.slice none 0 0,.int .i64 1,.int .i64 2,.int .i64 1,.int .i64 3]) (by simp [results,Tryz.results65,go_sem, *]) rfl ⟨rfl,b5⟩
def rN:aU:=⟨[],[],1,⟨2,1,3⟩⟩
theorem aEc:cI rN :=
 ⟨by decide,by decide,by decide,by decide,by decide,(fun h hh=>by cases hh),(fun h hh=>by cases hh),List.Pairwise.nil,(fun p hp=>by cases hp),(fun p hp=>by cases hp),(fun p hp=>by cases hp),List.Pairwise.nil,List.Pairwise.nil⟩
theorem am.rN (w:World) (B:Nat):am w B Go.Proofs.YtajbbmembionpaaGreat.rN [.slice none 0 0,.slice none 0 0,.int .i64 1,.int .i64 2,.int .i64 1,.int .i64 3] []:=by
 refine am.up (B':=B) (fun x:aU=>(x.aa,x.V,x.next,x.weights)) ?_ (Nat.le_refl _);have h1:am w B ([]:List ba) [.slice none 0 0] []:=am.cK (Sl.nil w none 0 (Nat.zero_le _));have h2:am w B ([]:List ag) [.slice none 0 0] []:=am.cK (Sl.nil w none 0 (Nat.zero_le _));have h3:am w B ((1:Int),(⟨2,1,3⟩:rZ)) ([.int .i64 1]++[.int .i64 2,.int .i64 1,.int .i64 3]) []:=am.cons (jL w 1 km) (am.cK (Zj w ⟨2,1,3⟩ Jr Jr Jr));exact am.ez h1 (am.ez h2 h3 (Nat.le_refl _) (fun b X=>by cases X)) (Nat.le_refl _) (fun b X=>by cases X)
theorem aAA (w:World) (c:Nat) (A:Option Addr) (n aq:Nat) (h:bM w c A n aq) :
 Calls Tryz.prog 32 #[.pointer (some ⟨c,0,none⟩)] w fun e w'=>∃(x:aU) (cs:List Value) (G:List Nat),e = .returned (.agg cs.toArray)∧am w' w.heap.size x cs G∧cI x∧bM w' c A n aq∧nN [c] w w':=by
 have ax:=h.lt;have HC:=I h;clear h;go_enter Tryz.func32,Tryz.ntmps32;go_wp2_with fail
 refine (aEW _).mono ?_;rintro e w1 ⟨rfl,bo⟩;have cE:=bo.size;simp at cE;have X1:=I (((oG.new w [.slice none 0 0,.slice none 0 0,.int .i64 0,.int .i64 0,.int .i64 0,.int .i64 0] 29).ext bo).ext (ak (aj _) (.cells ([.slice none 0 0,.slice none 0 0,.int .i64 0,.int .i64 0,.int .i64 0,.int .i64 0]:List Value).toArray 29)));have cO:=I ((HC.out.ext (ak (aj _) (.cells ([.slice none 0 0,.slice none 0 0,.int .i64 0,.int .i64 0,.int .i64 0,.int .i64 0]:List Value).toArray 29))).ext bo);have d7:=cO.out.lt;have cj:=I (cO.out.ext (ak (aj _) (.cells ([.slice none 0 0,.slice none 0 0,.int .i64 0,.int .i64 0,.int .i64 0,.int .i64 0]:List Value).toArray 29)));have HB:=I (nN.lq [c] (ak (ah b5 bo:Below w.heap.size w w1) (.cells ([.slice none 0 0,.slice none 0 0,.int .i64 0,.int .i64 0,.int .i64 0,.int .i64 0]:List Value).toArray 29)));clear bo HC cO;try dsimp only
 iterate 5 go_step
 refine kB 29 _ _ rfl w1.heap.size 0 [.slice none 0 0,.slice none 0 0,.int .i64 1,.int .i64 2,.int .i64 1,.int .i64 3] [.slice none 0 0,.slice none 0 0,.int .i64 0,.int .i64 0,.int .i64 0,.int .i64 0] rfl rfl (oG.new w1 _ 29) S' U' ex ?_;intro w2 Y2 O2;replace Y2:oG w2 w1.heap.size [.slice none 0 0,.slice none 0 0,.int .i64 1,.int .i64 2,.int .i64 1,.int .i64 3]:=Y2;have cw:w2.heap.size = w1.heap.size+1:=by rw [O2.size];simp
 have X2:=I (X1.out.only O2 J);have cJ:=I (HB.out.only O2 J);have oz:=I (cj.out.only O2 J);have eR:=I Y2;have Bp:=I cw;clear X1 HB cj O2 Y2 cw;go_wp2_with fail
 go_loopw [4] (fun i wr=>∃(k:Nat) (x:aU) (Ah Ap:Option Addr) (ch cp:Nat) (G:List Nat),i = .int .i64 k∧(k:Int)≤20∧Hid (am wr (w1.heap.size+1) x [.slice Ah x.aa.length ch,.slice Ap x.V.length cp,.int .i64 x.next,.int .i64 x.weights.pack,.int .i64 x.weights.af,.int .i64 x.weights.an] G∧cI x∧oG wr w1.heap.size [.slice Ah x.aa.length ch,.slice Ap x.V.length cp,.int .i64 x.next,.int .i64 x.weights.pack,.int .i64 x.weights.af,.int .i64 x.weights.an]∧oG wr w.heap.size [.slice none 0 0,.slice none 0 0,.int .i64 0,.int .i64 0,.int .i64 0,.int .i64 0]∧bM wr c A n aq∧nN [c] w wr∧w1.heap.size+1≤wr.heap.size)) (fun i _=>20 - (intOf i).toNat)
 case atStart =>exact ⟨0,rN,none,none,0,0,[],rfl,J,I ⟨am.rN _ _,aEc,eR.out,X2.out,oz.out,cJ.out,by rw [Bp.out];exact Nat.le_refl _⟩⟩
 case round =>
  obtain ⟨k,x,Ah,Ap,ch,cp,G,rfl,hk,HX⟩:=hrel;obtain ⟨hO,hG,hY,hX,hC,hU,hz⟩:=HX.out;have HG:=I hG;clear hG HX X2 cJ oz eR Bp;have HO:=I hO;have HY:=I hY;have GV:=I hX;have HC:=I hC;have HU:=I hU;clear hO hY hX hC hU;go_wp2_with fail
  refine (fs 16 J _ c A n aq HC.out).mono ?_;rintro e w3 ⟨r,rfl,hr,H3,bu⟩;have gf:=I (HO.out.drawn bu J);have jK:=I (HY.out.bR bu J);have t7:=I (GV.out.bR bu J);have dy:=I (HU.out.trans bu);have cG:=I H3;have cU:=bu.size;clear H3 bu HO HY GV HU HC;by_cases hkr:(k:Int) < 4+r
  ·go_wp2_with fail
   refine azp (fun w'=>oG w' w1.heap.size [.slice Ah x.aa.length ch,.slice Ap x.V.length cp,.int .i64 x.next,.int .i64 x.weights.pack,.int .i64 x.weights.af,.int .i64 x.weights.an]) (fun _=>True) [0] [1,2] 5 U' U' H' (jK.out.ext (aA (aj _))) ?_;simp only [d9,List.getElem?_cons_succ,List.getElem?_cons_zero];refine dR (.agg #[.slice Ah x.aa.length ch,.slice Ap x.V.length cp,.int .i64 x.next,.int .i64 x.weights.pack,.int .i64 x.weights.af,.int .i64 x.weights.an]) (yieldsIf_load_mid rfl 29 _ rfl w1.heap.size 0 rfl [.slice Ah x.aa.length ch,.slice Ap x.V.length cp,.int .i64 x.next,.int .i64 x.weights.pack,.int .i64 x.weights.af,.int .i64 x.weights.an] _ (fun w' fN=>fN.range) Tryz.underlying29 rfl U') ?_;simp only [Act.put,pz];refine fE ?_;refine iK rfl (fun K hK=>?_);go_simp;refine hK _ _ (jK.out.ext (aA (aj _))) ?_;try simp only [Act.put,pz]
   clear hK K;refine iK rfl (fun K hK=>?_);go_simp;refine (aGl _ c A n aq cG.out.drew).mono ?_;rintro e w4 ⟨d,ds,Gd,rfl,hOd,hwd,hnd,hnn,H4,Td⟩;have Br:=(nN.lq [c] (aA (aj w3))).trans Td;have kC:=I (gf.out.drawn Br J);have kj:=I (jK.out.bR Br J);have zC:=I (t7.out.bR Br J);have hT:=I (dy.out.trans Br);have eE:=I H4;have Uj:=I hOd;have Wy:=Br.size;clear H4 Td Br gf jK t7 dy cG hOd;refine hK _ _ kj.out ?_;try simp only [Act.put,pz]
   clear hK K;refine yG ?_;have gN:=Sa HG.out;refine bP 3 O U' O (fun K hK=>?_);go_simp;refine (aBg x _ _ d _ _ w4 kC.out.rd Uj.out.rd J J).mono ?_;have HG5:=I (aBf HG.out d);generalize fG x d = RR at *;obtain ⟨R,cd⟩:=RR;rintro e w5 ⟨es,G5,rfl,fH,bv⟩;dsimp only at fH ⊢;have hR:=fH.rd;obtain ⟨kM,kN,ND,ny,nC,TD,aE,hGr,NG,TF,TG,xI,uD,xJ⟩:=aO hR;subst aE;clear hGr hR;have nJ:=I fH;have K0:=kj.out.ext bv;have tY:=I (zC.out.ext bv);have iC:=I (hT.out.il bv J);have fj:=I (eE.out.ext bv);have Es:=bv.size;clear bv fH kC kj zC hT eE Uj;refine hK _ _ trivial ?_;try simp only [Act.put,pz]
   clear hK K;refine bP 4 O U' O (fun K hK=>?_);go_simp;refine hK _ _ trivial ?_;try simp only [Act.put,pz]
   clear hK K
   refine aX 5 _ O U' H' trivial (Or.inl ⟨rfl,fun wq hq=>by
    go_simp
    try rfl⟩) ?_
   try simp only [Act.put,pz]
   refine aX 6 _ O U' H' trivial (Or.inl ⟨rfl,fun wq hq=>by
    go_simp
    try rfl⟩) ?_
   try simp only [Act.put,pz]
   refine bP 7 O U' O (fun K hK=>?_);refine kB 29 _ _ rfl w1.heap.size 0 [.slice kM R.aa.length kN,.slice ny R.V.length nC,.int .i64 R.next,.int .i64 R.weights.pack,.int .i64 R.weights.af,.int .i64 R.weights.an] [.slice Ah x.aa.length ch,.slice Ap x.V.length cp,.int .i64 x.next,.int .i64 x.weights.pack,.int .i64 x.weights.af,.int .i64 x.weights.an] rfl rfl K0 S' U' ex ?_;intro w6 Y6 O6;replace Y6:oG w6 w1.heap.size [.slice kM R.aa.length kN,.slice ny R.V.length nC,.int .i64 R.next,.int .i64 R.weights.pack,.int .i64 R.weights.af,.int .i64 R.weights.an]:=Y6;refine hK _ _ trivial ?_;try simp only [Act.put,pz]
   clear hK K;refine nR U' ?_;have Oe:=I ((nJ.out.only O6 (fun b X=>by have:=nJ.out.base b X;omega)).mono (B':=w1.heap.size+1) J);have Oo:=I (tY.out.only O6 J);have zK:=I (iC.out.only O6 J);have mE:=I (fj.out.only O6 d7);have nF:=O6.size;have Hh:=I Y6;have TK:(k:Int)+1≤20:=J;clear nJ K0 tY iC fj O6 Y6;go_wp2;exact ⟨⟨k+1,R,_,_,_,_,G5,N',J,I ⟨Oe.out,HG5.out,Hh.out,Oo.out,mE.out,zK.out,J⟩⟩,by simp only [intOf];omega⟩
  ·have yy:=jK.out;have xx:=t7.out;obtain ⟨iP,aAC,aAD,aAE,aAF,aAG,aAH,aAI,aAJ,aAK,aAL,aAM⟩:=oa yy;obtain ⟨iA,azr,azs,azt,azu,azv,azw,azx,azy,azz,azA,azB⟩:=oa xx;clear yy xx jK t7;go_wp2;refine bodyPost_ret (v:=.agg #[.slice Ah x.aa.length ch,.slice Ap x.V.length cp,.int .i64 x.next,.int .i64 x.weights.pack,.int .i64 x.weights.af,.int .i64 x.weights.an]) (by simp [results,Tryz.results32,go_sem, *]) rfl ?_;exact ⟨x,[.slice Ah x.aa.length ch,.slice Ap x.V.length cp,.int .i64 x.next,.int .i64 x.weights.pack,.int .i64 x.weights.af,.int .i64 x.weights.an],G,rfl,(((((((gf.out.setCell (p:=⟨w.heap.size,0,none⟩) bA _).setCell (p:=⟨w.heap.size,1,none⟩) bA _).setCell (p:=⟨w.heap.size,2,none⟩) bA _).setCell (p:=⟨w.heap.size,3,none⟩) bA _).setCell (p:=⟨w.heap.size,4,none⟩) bA _).setCell (p:=⟨w.heap.size,5,none⟩) bA _)).mono J,HG.out,((((((cG.out.bj ax 0 _).bj ax 1 _).bj ax 2 _).bj ax 3 _).bj ax 4 _).bj ax 5 _),((((((dy.out.new (Nat.le_refl _) 0 _).new (Nat.le_refl _) 1 _).new (Nat.le_refl _) 2 _).new (Nat.le_refl _) 3 _).new (Nat.le_refl _) 4 _).new (Nat.le_refl _) 5 _)⟩
theorem ayG (w:World) (A:Option Addr) (n aq:Nat) (Z:(n:Int)≤1048576) (ce:∀k,k < n→∃(g o:Nat) (v:Int),A = some ⟨g,o,none⟩∧g < w.heap.size∧w.cell? ⟨g,o+k,none⟩ = some (.int .u8 v)∧0≤v∧v≤255) :
 Calls Tryz.prog 7 #[.slice A n aq] w fun e w'=>∃(x:aU) (cs:List Value) (G:List Nat),e = .returned (.agg cs.toArray)∧am w' w.heap.size x cs G∧cI x∧Below w.heap.size w w':=by
 have HS:=I ce;clear ce;go_enter Tryz.func7,Tryz.ntmps7;go_wp2_with fail
 refine (Kj _ A n aq Z (fun k hk=>?_)).mono ?_
 ·exact DO
 rintro e w1 ⟨c,rfl,hc,H1,bo⟩;have cE:=bo.size;simp at cE hc;have HX:=I ((oG.new w [.slice none 0 0,.slice none 0 0,.int .i64 0,.int .i64 0,.int .i64 0,.int .i64 0] 29).ext bo);have HB:=I (ah b5 bo:Below w.heap.size w w1);have HC:=I H1;clear H1 bo HS;go_wp2_with fail
 refine (aAA _ c A n aq HC.out).mono ?_;rintro e w2 ⟨x,cs,G,rfl,hO,hG,H2,bN⟩;have hR:=hO.rd;obtain ⟨kM,kN,ND,ny,nC,TD,aE,hGr,NG,TF,TG,xI,uD,xJ⟩:=aO hR;subst aE;clear hGr hR;have HO:=I hO;have HG:=I hG;have xx:=HX.out.bR bN J;have iL:=I (HB.out.trans (bN.aD (B:=w.heap.size) (fun b X=>by rw [List.mem_singleton] at X;omega) J));have cw:=bN.size;obtain ⟨iA,azr,azs,azt,azu,azv,azw,azx,azy,azz,azA,azB⟩:=oa xx;clear xx hO hG H2 bN HB HC HX;go_wp2;refine bodyPost_ret (v:=.agg #[.slice kM x.aa.length kN,.slice ny x.V.length nC,.int .i64 x.next,.int .i64 x.weights.pack,.int .i64 x.weights.af,.int .i64 x.weights.an]) (by simp [results,Tryz.results7,go_sem, *]) rfl ?_;refine ⟨x,[.slice kM x.aa.length kN,.slice ny x.V.length nC,.int .i64 x.next,.int .i64 x.weights.pack,.int .i64 x.weights.af,.int .i64 x.weights.an],G,rfl,(((((((HO.out.setCell (p:=⟨w.heap.size,0,none⟩) bA _).setCell (p:=⟨w.heap.size,1,none⟩) bA _).setCell (p:=⟨w.heap.size,2,none⟩) bA _).setCell (p:=⟨w.heap.size,3,none⟩) bA _).setCell (p:=⟨w.heap.size,4,none⟩) bA _).setCell (p:=⟨w.heap.size,5,none⟩) bA _)).mono J,HG.out,?_⟩;exact (by repeat (first | with_reducible exact iL.out | with_reducible refine aC ?_ bA _))
theorem Uk (A:Option Addr) (n aq:Nat) (w:World):Calls Tryz.prog 6 #[.slice A n aq] w fun e w'=>e = .returned (.bool (decide ((1048576:Int) < n)))∧Below w.heap.size w w':=by
 by_cases h:(1048576:Int) < n
 all_goals
  go_enter Tryz.func6,Tryz.ntmps6;go_wp2;go_ret
  exact ⟨(by simp;omega),aj _⟩
theorem aFG {w:World} {x:aU} {Ah Ap:Option Addr} {nh ch np cp:Nat} {r:List Value} {F:List Nat} (h:rd w x (.slice Ah nh ch :: .slice Ap np cp :: r) F):∃F1 F2,Sl w x.aa Ah ch F1∧Sl w x.V Ap cp F2:=by
 obtain ⟨A1,c1,F1,A2,c2,F2,aE,_,h1,h2,_⟩:=aO h;simp only [List.cons.injEq,Value.slice.injEq] at aE;obtain ⟨⟨rfl,_,rfl⟩,⟨rfl,_,rfl⟩,_⟩:=aE;exact ⟨F1,F2,h1,h2⟩
theorem aAQ {w:World} {xs:List UInt8} {A:Option Addr} {aq:Nat} {F:List Nat} (h:Sl w xs A aq F):∀k,k < xs.length→∃(g o:Nat) (v:Int),A = some ⟨g,o,none⟩∧g < w.heap.size∧w.cell? ⟨g,o+k,none⟩ = some (.int .u8 v)∧0≤v∧v≤255:=by
 intro k hk;obtain ⟨b,o,ck,Fk,rfl,_,X,hr,_,hc⟩:=h.get hk;have h0:=hc 0 (.int .u8 (xs[k].toNat:Int)) (by rw [hr.1];rfl);rw [show o+(k * bc.size UInt8+0) = o+k by show o+(k * 1+0) = o+k;omega] at h0;have:=xs[k].toNat_lt;exact ⟨b,o,_,rfl,X,h0,J,J⟩
end Go.Proofs.YtajbbmembionpaaGreat
