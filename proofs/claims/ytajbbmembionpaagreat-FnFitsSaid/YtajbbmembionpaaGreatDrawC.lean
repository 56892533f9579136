/- Draws of a cluster. No condition. -/
import Derived.Test.YtajbbmembionpaaGreatAppO
import Derived.Test.YtajbbmembionpaaGreatDrawO
namespace Go.Proofs.YtajbbmembionpaaGreat
open Go.ChangeShapes Go.WideShapes Go.ChangeAt Go.RowKit
set_option linter.unusedVariables false
set_option linter.unusedSimpArgs false
set_option maxHeartbeats 8000000
set_option maxRecDepth 100000
theorem aEW (w:World):Calls Tryz.prog 65 #[] w fun e w'=>e = .returned (.agg #[.slice none 0 0,.slice none 0 0,.int .i64 1,.int .i64 2,.int .i64 1,.int .i64 3])∧Below w.heap.size w w':=by
 go_enter Tryz.func65,Tryz.ntmps65;go_wp2;refine bodyPost_ret (v:=.agg #[.slice none 0 0,.slice none 0 0,.int .i64 1,.int .i64 2,.int .i64 1,.int .i64 3]) (by simp [results,Tryz.results65,go_sem, *]) rfl ⟨rfl,b9⟩
def ri:aU:=⟨[],[],1,⟨2,1,3⟩⟩
theorem aEc:cM ri :=
 ⟨by decide,by decide,by decide,by decide,by decide,(fun h hh=>by cases hh),(fun h hh=>by cases hh),List.Pairwise.nil,(fun p hp=>by cases hp),(fun p hp=>by cases hp),(fun p hp=>by cases hp),List.Pairwise.nil,List.Pairwise.nil⟩
theorem am.ri (w:World) (B:Nat):am w B Go.Proofs.YtajbbmembionpaaGreat.ri [.slice none 0 0,.slice none 0 0,.int .i64 1,.int .i64 2,.int .i64 1,.int .i64 3] []:=by
 refine am.up (B':=B) (fun x:aU=>(x.V,x.O,x.next,x.weights)) ?_ (Nat.le_refl _);have Z:am w B ([]:List aR) [.slice none 0 0] []:=am.cQ (Sl.nil w none 0 (Nat.zero_le _));have h2:am w B ([]:List ag) [.slice none 0 0] []:=am.cQ (Sl.nil w none 0 (Nat.zero_le _));have h3:am w B ((1:Int),(⟨2,1,3⟩:rZ)) ([.int .i64 1]++[.int .i64 2,.int .i64 1,.int .i64 3]) []:=am.cons (jL w 1 oM) (am.cQ (Zj w ⟨2,1,3⟩ KX KX KX));exact am.eD Z (am.eD h2 h3 (Nat.le_refl _) (fun b U=>by cases U)) (Nat.le_refl _) (fun b U=>by cases U)
theorem aAA (w:World) (c:Nat) (A:Option Addr) (n ar:Nat) (h:bR w c A n ar) :
 Calls Tryz.prog 32 #[.pointer (some ⟨c,0,none⟩)] w fun e w'=>∃(x:aU) (cs:List Value) (G:List Nat),e = .returned (.agg cs.toArray)∧am w' w.heap.size x cs G∧cM x∧bR w' c A n ar∧nN [c] w w':=by
 have av:=h.lt;have HC:=I h;clear h;go_enter Tryz.func32,Tryz.ntmps32;go_wp2_with fail
 refine (aEW _).mono ?_;rintro e w1 ⟨rfl,bp⟩;have cq:=bp.size;simp at cq;have X1:=I (((oG.new w [.slice none 0 0,.slice none 0 0,.int .i64 0,.int .i64 0,.int .i64 0,.int .i64 0] 29).ext bp).ext (ak (aj _) (.cells ([.slice none 0 0,.slice none 0 0,.int .i64 0,.int .i64 0,.int .i64 0,.int .i64 0]:List Value).toArray 29)));have dX:=I ((HC.out.ext (ak (aj _) (.cells ([.slice none 0 0,.slice none 0 0,.int .i64 0,.int .i64 0,.int .i64 0,.int .i64 0]:List Value).toArray 29))).ext bp);have dP:=dX.out.lt;have cO:=I (dX.out.ext (ak (aj _) (.cells ([.slice none 0 0,.slice none 0 0,.int .i64 0,.int .i64 0,.int .i64 0,.int .i64 0]:List Value).toArray 29)));have HB:=I (nN.lq [c] (ak (ah b9 bp:Below w.heap.size w w1) (.cells ([.slice none 0 0,.slice none 0 0,.int .i64 0,.int .i64 0,.int .i64 0,.int .i64 0]:List Value).toArray 29)));clear bp HC dX;try dsimp only
 iterate 5 go_step
 refine ki 29 _ _ rfl w1.heap.size 0 [.slice none 0 0,.slice none 0 0,.int .i64 1,.int .i64 2,.int .i64 1,.int .i64 3] [.slice none 0 0,.slice none 0 0,.int .i64 0,.int .i64 0,.int .i64 0,.int .i64 0] rfl rfl (oG.new w1 _ 29) S' U' et ?_;intro w2 Y2 O2;replace Y2:oG w2 w1.heap.size [.slice none 0 0,.slice none 0 0,.int .i64 1,.int .i64 2,.int .i64 1,.int .i64 3]:=Y2;have cC:w2.heap.size = w1.heap.size+1:=by rw [O2.size];simp
 have X2:=I (X1.out.only O2 J);have cY:=I (HB.out.only O2 J);have oe:=I (cO.out.only O2 J);have e9:=I Y2;have PG:=I cC;clear X1 HB cO O2 Y2 cC;go_wp2_with fail
 go_loopw [4] (fun i wr=>∃(k:Nat) (x:aU) (Ah Ap:Option Addr) (ch cp:Nat) (G:List Nat),i = .int .i64 k∧(k:Int)≤20∧Hid (am wr (w1.heap.size+1) x [.slice Ah x.V.length ch,.slice Ap x.O.length cp,.int .i64 x.next,.int .i64 x.weights.pack,.int .i64 x.weights.af,.int .i64 x.weights.an] G∧cM x∧oG wr w1.heap.size [.slice Ah x.V.length ch,.slice Ap x.O.length cp,.int .i64 x.next,.int .i64 x.weights.pack,.int .i64 x.weights.af,.int .i64 x.weights.an]∧oG wr w.heap.size [.slice none 0 0,.slice none 0 0,.int .i64 0,.int .i64 0,.int .i64 0,.int .i64 0]∧bR wr c A n ar∧nN [c] w wr∧w1.heap.size+1≤wr.heap.size)) (fun i _=>20 - (intOf i).toNat)
 case atStart =>exact ⟨0,ri,none,none,0,0,[],rfl,J,I ⟨am.ri _ _,aEc,e9.out,X2.out,oe.out,cY.out,by rw [PG.out];exact Nat.le_refl _⟩⟩
 case round =>
  obtain ⟨k,x,Ah,Ap,ch,cp,G,rfl,hk,HX⟩:=hrel;obtain ⟨hO,hG,hY,hX,hC,hU,hz⟩:=HX.out;have HG:=I hG;clear hG HX X2 cY oe e9 PG;have HO:=I hO;have HY:=I hY;have Ip:=I hX;have HC:=I hC;have HU:=I hU;clear hO hY hX hC hU;go_wp2_with fail
  refine (gS 16 J _ c A n ar HC.out).mono ?_;rintro e w3 ⟨r,rfl,hr,H3,bv⟩;have gc:=I (HO.out.drawn bv J);have jN:=I (HY.out.bS bv J);have tR:=I (Ip.out.bS bv J);have eh:=I (HU.out.trans bv);have cV:=I H3;have dm:=bv.size;clear H3 bv HO HY Ip HU HC;by_cases hkr:(k:Int) < 4+r
  ·go_wp2_with fail
   refine azp (fun w'=>oG w' w1.heap.size [.slice Ah x.V.length ch,.slice Ap x.O.length cp,.int .i64 x.next,.int .i64 x.weights.pack,.int .i64 x.weights.af,.int .i64 x.weights.an]) (fun _=>True) [0] [1,2] 5 U' U' H' (jN.out.ext (aA (aj _))) ?_;simp only [ek,List.getElem?_cons_succ,List.getElem?_cons_zero];refine dR (.agg #[.slice Ah x.V.length ch,.slice Ap x.O.length cp,.int .i64 x.next,.int .i64 x.weights.pack,.int .i64 x.weights.af,.int .i64 x.weights.an]) (yieldsIf_load_mid rfl 29 _ rfl w1.heap.size 0 rfl [.slice Ah x.V.length ch,.slice Ap x.O.length cp,.int .i64 x.next,.int .i64 x.weights.pack,.int .i64 x.weights.af,.int .i64 x.weights.an] _ (fun w' eP=>eP.range) Tryz.underlying29 rfl U') ?_;simp only [Act.put,pz];refine fE ?_;refine iK rfl (fun K hK=>?_);go_simp;refine hK _ _ (jN.out.ext (aA (aj _))) ?_;try simp only [Act.put,pz]
   clear hK K;refine iK rfl (fun K hK=>?_);go_simp;refine (aGl _ c A n ar cV.out.drew).mono ?_;rintro e w4 ⟨d,ds,Gd,rfl,hOd,hwd,hnd,hnn,H4,Td⟩;have BP:=(nN.lq [c] (aA (aj w3))).trans Td;have kz:=I (gc.out.drawn BP J);have kj:=I (jN.out.bS BP J);have zD:=I (tR.out.bS BP J);have hZ:=I (eh.out.trans BP);have fd:=I H4;have Wd:=I hOd;have Wy:=BP.size;clear H4 Td BP gc jN tR eh cV hOd;refine hK _ _ kj.out ?_;try simp only [Act.put,pz]
   clear hK K;refine yG ?_;have ik:=Ly HG.out;refine bP 3 M U' M (fun K hK=>?_);go_simp;refine (aBg x _ _ d _ _ w4 kz.out.rd Wd.out.rd J J).mono ?_;have HG5:=I (aBf HG.out d);generalize fR x d = RR at *;obtain ⟨R,cd⟩:=RR;rintro e w5 ⟨es,G5,rfl,fH,bs⟩;dsimp only at fH ⊢;have hR:=fH.rd;obtain ⟨kM,kN,ND,ny,nC,TD,aD,hGr,NG,TF,TG,xI,uD,xJ⟩:=aO hR;subst aD;clear hGr hR;have mH:=I fH;have Iw:=kj.out.ext bs;have tP:=I (zD.out.ext bs);have iF:=I (hZ.out.iJ bs J);have fp:=I (fd.out.ext bs);have Es:=bs.size;clear bs fH kz kj zD hZ fd Wd;refine hK _ _ trivial ?_;try simp only [Act.put,pz]
   clear hK K;refine bP 4 M U' M (fun K hK=>?_);go_simp;refine hK _ _ trivial ?_;try simp only [Act.put,pz]
   clear hK K
   refine aX 5 _ M U' H' trivial (Or.inl ⟨rfl,fun wq hq=>by
    go_simp
    try rfl⟩) ?_
   try simp only [Act.put,pz]
   refine aX 6 _ M U' H' trivial (Or.inl ⟨rfl,fun wq hq=>by
    go_simp
    try rfl⟩) ?_
   try simp only [Act.put,pz]
   refine bP 7 M U' M (fun K hK=>?_);refine ki 29 _ _ rfl w1.heap.size 0 [.slice kM R.V.length kN,.slice ny R.O.length nC,.int .i64 R.next,.int .i64 R.weights.pack,.int .i64 R.weights.af,.int .i64 R.weights.an] [.slice Ah x.V.length ch,.slice Ap x.O.length cp,.int .i64 x.next,.int .i64 x.weights.pack,.int .i64 x.weights.af,.int .i64 x.weights.an] rfl rfl Iw S' U' et ?_;intro w6 Y6 O6;replace Y6:oG w6 w1.heap.size [.slice kM R.V.length kN,.slice ny R.O.length nC,.int .i64 R.next,.int .i64 R.weights.pack,.int .i64 R.weights.af,.int .i64 R.weights.an]:=Y6;refine hK _ _ trivial ?_;try simp only [Act.put,pz]
   clear hK K;refine nR U' ?_;have BC:=I ((mH.out.only O6 (fun b U=>by have:=mH.out.base b U;omega)).mono (B':=w1.heap.size+1) J);have PH:=I (tP.out.only O6 J);have zP:=I (iF.out.only O6 J);have my:=I (fp.out.only O6 dP);have lL:=O6.size;have vu:=I Y6;have VE:(k:Int)+1≤20:=J;clear mH Iw tP iF fp O6 Y6;go_wp2;exact ⟨⟨k+1,R,_,_,_,_,G5,N',J,I ⟨BC.out,HG5.out,vu.out,PH.out,my.out,zP.out,J⟩⟩,by simp only [intOf];omega⟩
  ·have yy:=jN.out;have xx:=tR.out;obtain ⟨iZ,aAC,aAD,aAE,aAF,aAG,aAH,aAI,aAJ,aAK,aAL,aAM⟩:=iX yy;obtain ⟨iA,azr,azs,azt,azu,azv,azw,azx,azy,azz,azA,azB⟩:=iX xx;clear yy xx jN tR;go_wp2;refine bodyPost_ret (v:=.agg #[.slice Ah x.V.length ch,.slice Ap x.O.length cp,.int .i64 x.next,.int .i64 x.weights.pack,.int .i64 x.weights.af,.int .i64 x.weights.an]) (by simp [results,Tryz.results32,go_sem, *]) rfl ?_;exact ⟨x,[.slice Ah x.V.length ch,.slice Ap x.O.length cp,.int .i64 x.next,.int .i64 x.weights.pack,.int .i64 x.weights.af,.int .i64 x.weights.an],G,rfl,(((((((gc.out.setCell (p:=⟨w.heap.size,0,none⟩) bC _).setCell (p:=⟨w.heap.size,1,none⟩) bC _).setCell (p:=⟨w.heap.size,2,none⟩) bC _).setCell (p:=⟨w.heap.size,3,none⟩) bC _).setCell (p:=⟨w.heap.size,4,none⟩) bC _).setCell (p:=⟨w.heap.size,5,none⟩) bC _)).mono J,HG.out,((((((cV.out.bj av 0 _).bj av 1 _).bj av 2 _).bj av 3 _).bj av 4 _).bj av 5 _),((((((eh.out.new (Nat.le_refl _) 0 _).new (Nat.le_refl _) 1 _).new (Nat.le_refl _) 2 _).new (Nat.le_refl _) 3 _).new (Nat.le_refl _) 4 _).new (Nat.le_refl _) 5 _)⟩
theorem ayG (w:World) (A:Option Addr) (n ar:Nat) (X:(n:Int)≤1048576) (cL:∀k,k < n→∃(g o:Nat) (v:Int),A = some ⟨g,o,none⟩∧g < w.heap.size∧w.cell? ⟨g,o+k,none⟩ = some (.int .u8 v)∧0≤v∧v≤255) :
 Calls Tryz.prog 7 #[.slice A n ar] w fun e w'=>∃(x:aU) (cs:List Value) (G:List Nat),e = .returned (.agg cs.toArray)∧am w' w.heap.size x cs G∧cM x∧Below w.heap.size w w':=by
 have HS:=I cL;clear cL;go_enter Tryz.func7,Tryz.ntmps7;go_wp2_with fail
 refine (TP _ A n ar X (fun k hk=>?_)).mono ?_
 ·exact Eh
 rintro e w1 ⟨c,rfl,hc,H1,bp⟩;have cq:=bp.size;simp at cq hc;have HX:=I ((oG.new w [.slice none 0 0,.slice none 0 0,.int .i64 0,.int .i64 0,.int .i64 0,.int .i64 0] 29).ext bp);have HB:=I (ah b9 bp:Below w.heap.size w w1);have HC:=I H1;clear H1 bp HS;go_wp2_with fail
 refine (aAA _ c A n ar HC.out).mono ?_;rintro e w2 ⟨x,cs,G,rfl,hO,hG,H2,b8⟩;have hR:=hO.rd;obtain ⟨kM,kN,ND,ny,nC,TD,aD,hGr,NG,TF,TG,xI,uD,xJ⟩:=aO hR;subst aD;clear hGr hR;have HO:=I hO;have HG:=I hG;have xx:=HX.out.bS b8 J;have kn:=I (HB.out.trans (b8.aE (B:=w.heap.size) (fun b U=>by rw [List.mem_singleton] at U;omega) J));have cC:=b8.size;obtain ⟨iA,azr,azs,azt,azu,azv,azw,azx,azy,azz,azA,azB⟩:=iX xx;clear xx hO hG H2 b8 HB HC HX;go_wp2;refine bodyPost_ret (v:=.agg #[.slice kM x.V.length kN,.slice ny x.O.length nC,.int .i64 x.next,.int .i64 x.weights.pack,.int .i64 x.weights.af,.int .i64 x.weights.an]) (by simp [results,Tryz.results7,go_sem, *]) rfl ?_;refine ⟨x,[.slice kM x.V.length kN,.slice ny x.O.length nC,.int .i64 x.next,.int .i64 x.weights.pack,.int .i64 x.weights.af,.int .i64 x.weights.an],G,rfl,(((((((HO.out.setCell (p:=⟨w.heap.size,0,none⟩) bC _).setCell (p:=⟨w.heap.size,1,none⟩) bC _).setCell (p:=⟨w.heap.size,2,none⟩) bC _).setCell (p:=⟨w.heap.size,3,none⟩) bC _).setCell (p:=⟨w.heap.size,4,none⟩) bC _).setCell (p:=⟨w.heap.size,5,none⟩) bC _)).mono J,HG.out,?_⟩;exact (by repeat (first | with_reducible exact kn.out | with_reducible refine aC ?_ bC _))
theorem We (A:Option Addr) (n ar:Nat) (w:World):Calls Tryz.prog 6 #[.slice A n ar] w fun e w'=>e = .returned (.bool (decide ((1048576:Int) < n)))∧Below w.heap.size w w':=by
 by_cases h:(1048576:Int) < n
 all_goals
  go_enter Tryz.func6,Tryz.ntmps6;go_wp2;go_ret
  exact ⟨(by simp;omega),aj _⟩
theorem aFG {w:World} {x:aU} {Ah Ap:Option Addr} {nh ch np cp:Nat} {r:List Value} {F:List Nat} (h:rd w x (.slice Ah nh ch :: .slice Ap np cp :: r) F):∃F1 F2,Sl w x.V Ah ch F1∧Sl w x.O Ap cp F2:=by
 obtain ⟨A1,c1,F1,A2,c2,F2,aD,_,Z,h2,_⟩:=aO h;simp only [List.cons.injEq,Value.slice.injEq] at aD;obtain ⟨⟨rfl,_,rfl⟩,⟨rfl,_,rfl⟩,_⟩:=aD;exact ⟨F1,F2,Z,h2⟩
theorem aAQ {w:World} {xs:List UInt8} {A:Option Addr} {ar:Nat} {F:List Nat} (h:Sl w xs A ar F):∀k,k < xs.length→∃(g o:Nat) (v:Int),A = some ⟨g,o,none⟩∧g < w.heap.size∧w.cell? ⟨g,o+k,none⟩ = some (.int .u8 v)∧0≤v∧v≤255:=by
 intro k hk;obtain ⟨b,o,ck,Fk,rfl,_,U,hr,_,hc⟩:=h.get hk;have h0:=hc 0 (.int .u8 (xs[k].toNat:Int)) (by rw [hr.1];rfl);rw [show o+(k * bb.size UInt8+0) = o+k by show o+(k * 1+0) = o+k;omega] at h0;have:=xs[k].toNat_lt;exact ⟨b,o,_,rfl,U,h0,J,J⟩
theorem kb (xs:List ByteArray) (A B:Option Addr) (ca cb:Nat) (F G:List Nat) (w:World) (h:Sl w xs A ca F) (h':Sl w xs B cb G) (hl:(xs.length:Int)≤1048576) :
 Calls Tryz.prog 14 #[.slice A xs.length ca,.slice B xs.length cb] w fun e w'=>e = .returned (.bool true)∧Below w.heap.size w w':=by
 go_enter Tryz.func14,Tryz.ntmps14;go_wp2_with fail
 go_loopw [5] (fun i wr=>∃k:Nat,k≤xs.length∧i = .int .i64 k∧Below w.heap.size w wr) (fun i _=>xs.length - (intOf i).toNat)
 case atStart=>exact ⟨0,Nat.zero_le _,rfl,aj _⟩
 case round =>
  obtain ⟨k,hk,rfl,aK⟩:=hrel;by_cases av:k < xs.length
  ·obtain ⟨b,o,ck,Fk,rfl,_,U,hr,_,hc⟩:=h.get av;obtain ⟨b',o',TY,Xw,rfl,_,eo,dd,_,hc'⟩:=h'.get av
   have q0:wr.cell? ⟨b,o+k,none⟩ = some (.string xs[k]):=(aK.cell (p:=⟨b,o+k,none⟩) U).trans (by
    have h0:=hc 0 (.string xs[k]) (by rw [hr.1];rfl)
    rwa [show o+(k * bb.size ByteArray+0) = o+k by show o+(k * 1+0) = o+k;omega] at h0)
   have q1:wr.cell? ⟨b',o'+k,none⟩ = some (.string xs[k]):=(aK.cell (p:=⟨b',o'+k,none⟩) eo).trans (by
    have h0:=hc' 0 (.string xs[k]) (by rw [dd.1];rfl)
    rwa [show o'+(k * bb.size ByteArray+0) = o'+k by show o'+(k * 1+0) = o'+k;omega] at h0)
   generalize xs[k] = s at *;clear hc hc' hr dd;have PI:(k:Int) < xs.length:=J;go_wp2;go_region
   go_wp2;exact ⟨⟨k+1,J,N',aA aK⟩,by simp [intOf];omega⟩
  ·have PI:¬(k:Int) < xs.length:=J;go_wp2;go_ret
   exact ⟨rfl,aK⟩
end Go.Proofs.YtajbbmembionpaaGreat
