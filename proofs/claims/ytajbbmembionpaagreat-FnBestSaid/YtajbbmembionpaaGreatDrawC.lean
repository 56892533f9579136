/- Draws of a cluster. No condition. -/
import Derived.Test.YtajbbmembionpaaGreatAppO
import Derived.Test.YtajbbmembionpaaGreatDrawO
namespace Go.Proofs.YtajbbmembionpaaGreat
open Go.ChangeShapes Go.WideShapes Go.ChangeAt Go.RowKit
set_option linter.unusedVariables false
set_option linter.unusedSimpArgs false
set_option maxHeartbeats 8000000
set_option maxRecDepth 100000
theorem aEW (w:World):Calls Tryz.prog 65 #[] w fun e w'=>e = .returned (.agg #[.slice none 0 0,.slice none 0 0,.int .i64 1,.int .i64 2,.int .i64 1,.int .i64 3])∧Below w.heap.size w w':=by
 go_enter Tryz.func65,Tryz.ntmps65;go_wp2;refine bodyPost_ret (v:=.agg #[.slice none 0 0,.slice none 0 0,.int .i64 1,.int .i64 2,.int .i64 1,.int .i64 3]) (by simp [results,Tryz.results65,go_sem, *]) rfl ⟨rfl,bS⟩
def sT:aU:=⟨[],[],1,⟨2,1,3⟩⟩
theorem aEc:Good sT :=
 ⟨by decide,by decide,by decide,by decide,by decide,(fun h hh=>by cases hh),(fun h hh=>by cases hh),List.Pairwise.nil,(fun p hp=>by cases hp),(fun p hp=>by cases hp),(fun p hp=>by cases hp),List.Pairwise.nil,List.Pairwise.nil⟩
theorem am.sT (w:World) (B:Nat):am w B Go.Proofs.YtajbbmembionpaaGreat.sT [.slice none 0 0,.slice none 0 0,.int .i64 1,.int .i64 2,.int .i64 1,.int .i64 3] []:=by
 refine am.up (B':=B) (fun x:aU=>(x.aa,x.au,x.next,x.weights)) ?_ (Nat.le_refl _);have h1:am w B ([]:List aM) [.slice none 0 0] []:=am.flat (Sl.nil w none 0 (Nat.zero_le _));have h2:am w B ([]:List af) [.slice none 0 0] []:=am.flat (Sl.nil w none 0 (Nat.zero_le _));have h3:am w B ((1:Int),(⟨2,1,3⟩:rZ)) ([.int .i64 1]++[.int .i64 2,.int .i64 1,.int .i64 3]) []:=am.cons (jL w 1 nW) (am.flat (Zj w ⟨2,1,3⟩ Mu Mu Mu));exact am.pair h1 (am.pair h2 h3 (Nat.le_refl _) (fun b hb=>by cases hb)) (Nat.le_refl _) (fun b hb=>by cases hb)
theorem lR (x:aU) (d:xb):(ed x d).1.next≤x.next+1:=by
 have hp:∀(y:aU) (nm:ByteArray),(j6 y nm).1.next = y.next:=fun y nm=>by
  unfold j6 xn;repeat' split
  all_goals rfl
 have hn:(BX x).1.next = x.next:=by
  unfold BX;repeat' split
  all_goals first | rfl | exact hp _ _
 unfold ed xa;repeat' split
 all_goals first
  | (unfold lN;(repeat' split);all_goals dsimp only;all_goals omega)
  | (unfold mH;(repeat' split);all_goals dsimp only;all_goals omega)
  | (unfold Ko;(repeat' split);all_goals dsimp only;all_goals omega)
  | (unfold Ut;(repeat' split);all_goals dsimp only;all_goals omega)
  | (unfold setW;(repeat' split);all_goals dsimp only;all_goals omega)
  | (dsimp only;rw [hp];omega)
  | (dsimp only;rw [hn];omega)
  | (dsimp only;omega)
theorem vx (w:World) (c:Nat) (A:Option Addr) (n cap:Nat) (h:bJ w c A n cap) :
 Calls Tryz.prog 32 #[.pointer (some ⟨c,0,none⟩)] w fun e w'=>∃(x:aU) (cs:List Value) (G:List Nat),e = .returned (.agg cs.toArray)∧am w' w.heap.size x cs G∧(Good x∧x.next≤21)∧bJ w' c A n cap∧nN [c] w w':=by
 have aq:=h.lt;have HC:=I h;clear h;go_enter Tryz.func32,Tryz.ntmps32;go_wp2_with fail
 refine (aEW _).mono ?_;rintro e w1 ⟨rfl,bo⟩;have cg:=bo.size;simp at cg;have X1:=I (((oG.new w [.slice none 0 0,.slice none 0 0,.int .i64 0,.int .i64 0,.int .i64 0,.int .i64 0] 29).ext bo).ext (ak (aj _) (.cells ([.slice none 0 0,.slice none 0 0,.int .i64 0,.int .i64 0,.int .i64 0,.int .i64 0]:List Value).toArray 29)));have dz:=I ((HC.out.ext (ak (aj _) (.cells ([.slice none 0 0,.slice none 0 0,.int .i64 0,.int .i64 0,.int .i64 0,.int .i64 0]:List Value).toArray 29))).ext bo);have cU:=dz.out.lt;have cJ:=I (dz.out.ext (ak (aj _) (.cells ([.slice none 0 0,.slice none 0 0,.int .i64 0,.int .i64 0,.int .i64 0,.int .i64 0]:List Value).toArray 29)));have HB:=I (nN.lq [c] (ak (ah bS bo:Below w.heap.size w w1) (.cells ([.slice none 0 0,.slice none 0 0,.int .i64 0,.int .i64 0,.int .i64 0,.int .i64 0]:List Value).toArray 29)));clear bo HC dz;try dsimp only
 iterate 5 go_step
 refine ly 29 _ _ rfl w1.heap.size 0 [.slice none 0 0,.slice none 0 0,.int .i64 1,.int .i64 2,.int .i64 1,.int .i64 3] [.slice none 0 0,.slice none 0 0,.int .i64 0,.int .i64 0,.int .i64 0,.int .i64 0] rfl rfl (oG.new w1 _ 29) S' U' eC ?_;intro w2 Y2 O2;replace Y2:oG w2 w1.heap.size [.slice none 0 0,.slice none 0 0,.int .i64 1,.int .i64 2,.int .i64 1,.int .i64 3]:=Y2;have cj:w2.heap.size = w1.heap.size+1:=by rw [O2.size];simp
 have X2:=I (X1.out.only O2 J);have cV:=I (HB.out.only O2 J);have pk:=I (cJ.out.only O2 J);have eJ:=I Y2;have RW:=I cj;clear X1 HB cJ O2 Y2 cj;go_wp2_with fail
 go_loopw [4] (fun i wr=>∃(k:Nat) (x:aU) (Ah Ap:Option Addr) (ch cp:Nat) (G:List Nat),i = .int .i64 k∧(k:Int)≤20∧Hid (x.next≤1+k)∧Hid (am wr (w1.heap.size+1) x [.slice Ah x.aa.length ch,.slice Ap x.au.length cp,.int .i64 x.next,.int .i64 x.weights.pack,.int .i64 x.weights.spread,.int .i64 x.weights.soft] G∧Good x∧oG wr w1.heap.size [.slice Ah x.aa.length ch,.slice Ap x.au.length cp,.int .i64 x.next,.int .i64 x.weights.pack,.int .i64 x.weights.spread,.int .i64 x.weights.soft]∧oG wr w.heap.size [.slice none 0 0,.slice none 0 0,.int .i64 0,.int .i64 0,.int .i64 0,.int .i64 0]∧bJ wr c A n cap∧nN [c] w wr∧w1.heap.size+1≤wr.heap.size)) (fun i _=>20 - (intOf i).toNat)
 case atStart =>exact ⟨0,sT,none,none,0,0,[],rfl,J,I (by decide),I ⟨am.sT _ _,aEc,eJ.out,X2.out,pk.out,cV.out,by rw [RW.out];exact Nat.le_refl _⟩⟩
 case round =>
  obtain ⟨k,x,Ah,Ap,ch,cp,G,rfl,hk,Jf,HX⟩:=hrel;obtain ⟨hO,hG,hY,hX,hC,hU,hz⟩:=HX.out;have HG:=I hG;clear hG HX X2 cV pk eJ RW;have HO:=I hO;have HY:=I hY;have KV:=I hX;have HC:=I hC;have HU:=I hU;clear hO hY hX hC hU;go_wp2_with fail
  refine (ik 16 J _ c A n cap HC.out).mono ?_;rintro e w3 ⟨r,rfl,hr,H3,bt⟩;have gz:=I (HO.out.drawn bt J);have kp:=I (HY.out.bI bt J);have vy:=I (KV.out.bI bt J);have d9:=I (HU.out.trans bt);have cO:=I H3;have cW:=bt.size;clear H3 bt HO HY KV HU HC;by_cases hkr:(k:Int) < 4+r
  ·go_wp2_with fail
   refine azp (fun w'=>oG w' w1.heap.size [.slice Ah x.aa.length ch,.slice Ap x.au.length cp,.int .i64 x.next,.int .i64 x.weights.pack,.int .i64 x.weights.spread,.int .i64 x.weights.soft]) (fun _=>True) [0] [1,2] 5 U' U' H' (kp.out.ext (aA (aj _))) ?_;simp only [pick,List.getElem?_cons_succ,List.getElem?_cons_zero];refine dR (.agg #[.slice Ah x.aa.length ch,.slice Ap x.au.length cp,.int .i64 x.next,.int .i64 x.weights.pack,.int .i64 x.weights.spread,.int .i64 x.weights.soft]) (yieldsIf_load_mid rfl 29 _ rfl w1.heap.size 0 rfl [.slice Ah x.aa.length ch,.slice Ap x.au.length cp,.int .i64 x.next,.int .i64 x.weights.pack,.int .i64 x.weights.spread,.int .i64 x.weights.soft] _ (fun w' eh=>eh.range) Tryz.underlying29 rfl U') ?_;simp only [Act.put,pz];refine fE ?_;refine iK rfl (fun K hK=>?_);go_simp;refine hK _ _ (kp.out.ext (aA (aj _))) ?_;try simp only [Act.put,pz]
   clear hK K;refine iK rfl (fun K hK=>?_);go_simp;refine (aGl _ c A n cap cO.out.drew).mono ?_;rintro e w4 ⟨d,ds,Gd,rfl,hOd,hwd,hnd,hnn,H4,Td⟩;have DC:=(nN.lq [c] (aA (aj w3))).trans Td;have lz:=I (gz.out.drawn DC J);have kW:=I (kp.out.bI DC J);have BW:=I (vy.out.bI DC J);have iC:=I (d9.out.trans DC);have fk:=I H4;have ZP:=I hOd;have Wy:=DC.size;clear H4 Td DC gz kp vy d9 cO hOd;refine hK _ _ kW.out ?_;try simp only [Act.put,pz]
   clear hK K;refine yG ?_;have iZ:=W5 HG.out;refine bP 3 O U' O (fun K hK=>?_);go_simp;refine (aBg x _ _ d _ _ w4 lz.out.rd ZP.out.rd J J).mono ?_;have HG5:=I (aBf HG.out d);have RY:=I (show (ed x d).1.next≤1+((k+1:Nat):Int) by have:=lR x d;have:=Jf.out;omega);generalize ed x d = RR at *;obtain ⟨R,cd⟩:=RR;rintro e w5 ⟨es,G5,rfl,fH,br⟩;dsimp only at fH ⊢;have hR:=fH.rd;obtain ⟨kM,kN,ND,ny,nC,TD,aw,hGr,NG,TF,TG,xI,uD,xJ⟩:=aO hR;subst aw;clear hGr hR;have nj:=I fH;have K3:=kW.out.ext br;have vv:=I (BW.out.ext br);have jp:=I (iC.out.jt br J);have fI:=I (fk.out.ext br);have Es:=br.size;clear br fH lz kW BW iC fk ZP;refine hK _ _ trivial ?_;try simp only [Act.put,pz]
   clear hK K;refine bP 4 O U' O (fun K hK=>?_);go_simp;refine hK _ _ trivial ?_;try simp only [Act.put,pz]
   clear hK K
   refine aX 5 _ O U' H' trivial (Or.inl ⟨rfl,fun wq hq=>by
    go_simp
    try rfl⟩) ?_
   try simp only [Act.put,pz]
   refine aX 6 _ O U' H' trivial (Or.inl ⟨rfl,fun wq hq=>by
    go_simp
    try rfl⟩) ?_
   try simp only [Act.put,pz]
   refine bP 7 O U' O (fun K hK=>?_);refine ly 29 _ _ rfl w1.heap.size 0 [.slice kM R.aa.length kN,.slice ny R.au.length nC,.int .i64 R.next,.int .i64 R.weights.pack,.int .i64 R.weights.spread,.int .i64 R.weights.soft] [.slice Ah x.aa.length ch,.slice Ap x.au.length cp,.int .i64 x.next,.int .i64 x.weights.pack,.int .i64 x.weights.spread,.int .i64 x.weights.soft] rfl rfl K3 S' U' eC ?_;intro w6 Y6 O6;replace Y6:oG w6 w1.heap.size [.slice kM R.aa.length kN,.slice ny R.au.length nC,.int .i64 R.next,.int .i64 R.weights.pack,.int .i64 R.weights.spread,.int .i64 R.weights.soft]:=Y6;refine hK _ _ trivial ?_;try simp only [Act.put,pz]
   clear hK K;refine nR U' ?_;have BY:=I ((nj.out.only O6 (fun b hb=>by have:=nj.out.base b hb;omega)).mono (B':=w1.heap.size+1) J);have R3:=I (vv.out.only O6 J);have Ci:=I (jp.out.only O6 J);have nx:=I (fI.out.only O6 cU);have mu:=O6.size;have xz:=I Y6;have QB:(k:Int)+1≤20:=J;clear nj K3 vv jp fI O6 Y6;go_wp2;exact ⟨⟨k+1,R,_,_,_,_,G5,N',J,RY,I ⟨BY.out,HG5.out,xz.out,R3.out,nx.out,Ci.out,J⟩⟩,by simp only [intOf];omega⟩
  ·have yy:=kp.out;have xx:=vy.out;obtain ⟨jC,aAC,aAD,aAE,aAF,aAG,aAH,aAI,aAJ,aAK,aAL,aAM⟩:=lI yy;obtain ⟨jl,azr,azs,azt,azu,azv,azw,azx,azy,azz,azA,azB⟩:=lI xx;clear yy xx kp vy;go_wp2;refine bodyPost_ret (v:=.agg #[.slice Ah x.aa.length ch,.slice Ap x.au.length cp,.int .i64 x.next,.int .i64 x.weights.pack,.int .i64 x.weights.spread,.int .i64 x.weights.soft]) (by simp [results,Tryz.results32,go_sem, *]) rfl ?_;exact ⟨x,[.slice Ah x.aa.length ch,.slice Ap x.au.length cp,.int .i64 x.next,.int .i64 x.weights.pack,.int .i64 x.weights.spread,.int .i64 x.weights.soft],G,rfl,(((((((gz.out.setCell (p:=⟨w.heap.size,0,none⟩) bA _).setCell (p:=⟨w.heap.size,1,none⟩) bA _).setCell (p:=⟨w.heap.size,2,none⟩) bA _).setCell (p:=⟨w.heap.size,3,none⟩) bA _).setCell (p:=⟨w.heap.size,4,none⟩) bA _).setCell (p:=⟨w.heap.size,5,none⟩) bA _)).mono J,⟨HG.out,by have:=Jf.out;omega⟩,((((((cO.out.bj aq 0 _).bj aq 1 _).bj aq 2 _).bj aq 3 _).bj aq 4 _).bj aq 5 _),((((((d9.out.new (Nat.le_refl _) 0 _).new (Nat.le_refl _) 1 _).new (Nat.le_refl _) 2 _).new (Nat.le_refl _) 3 _).new (Nat.le_refl _) 4 _).new (Nat.le_refl _) 5 _)⟩
theorem j8 (w:World) (A:Option Addr) (n cap:Nat) (hn:(n:Int)≤1048576) (cE:∀k,k < n→∃(g o:Nat) (v:Int),A = some ⟨g,o,none⟩∧g < w.heap.size∧w.cell? ⟨g,o+k,none⟩ = some (.int .u8 v)∧0≤v∧v≤255) :
 Calls Tryz.prog 7 #[.slice A n cap] w fun e w'=>∃(x:aU) (cs:List Value) (G:List Nat),e = .returned (.agg cs.toArray)∧am w' w.heap.size x cs G∧(Good x∧x.next≤21)∧Below w.heap.size w w':=by
 have HS:=I cE;clear cE;go_enter Tryz.func7,Tryz.ntmps7;go_wp2_with fail
 refine (WS _ A n cap hn (fun k hk=>?_)).mono ?_
 ·exact GG
 rintro e w1 ⟨c,rfl,hc,H1,bo⟩;have cg:=bo.size;simp at cg hc;have HX:=I ((oG.new w [.slice none 0 0,.slice none 0 0,.int .i64 0,.int .i64 0,.int .i64 0,.int .i64 0] 29).ext bo);have HB:=I (ah bS bo:Below w.heap.size w w1);have HC:=I H1;clear H1 bo HS;go_wp2_with fail
 refine (vx _ c A n cap HC.out).mono ?_;rintro e w2 ⟨x,cs,G,rfl,hO,hG,H2,b4⟩;have hR:=hO.rd;obtain ⟨kM,kN,ND,ny,nC,TD,aw,hGr,NG,TF,TG,xI,uD,xJ⟩:=aO hR;subst aw;clear hGr hR;have HO:=I hO;have HG:=I hG;have xx:=HX.out.bI b4 J;have lf:=I (HB.out.trans (b4.below (B:=w.heap.size) (fun b hb=>by rw [List.mem_singleton] at hb;omega) J));have cj:=b4.size;obtain ⟨jl,azr,azs,azt,azu,azv,azw,azx,azy,azz,azA,azB⟩:=lI xx;clear xx hO hG H2 b4 HB HC HX;go_wp2;refine bodyPost_ret (v:=.agg #[.slice kM x.aa.length kN,.slice ny x.au.length nC,.int .i64 x.next,.int .i64 x.weights.pack,.int .i64 x.weights.spread,.int .i64 x.weights.soft]) (by simp [results,Tryz.results7,go_sem, *]) rfl ?_;refine ⟨x,[.slice kM x.aa.length kN,.slice ny x.au.length nC,.int .i64 x.next,.int .i64 x.weights.pack,.int .i64 x.weights.spread,.int .i64 x.weights.soft],G,rfl,(((((((HO.out.setCell (p:=⟨w.heap.size,0,none⟩) bA _).setCell (p:=⟨w.heap.size,1,none⟩) bA _).setCell (p:=⟨w.heap.size,2,none⟩) bA _).setCell (p:=⟨w.heap.size,3,none⟩) bA _).setCell (p:=⟨w.heap.size,4,none⟩) bA _).setCell (p:=⟨w.heap.size,5,none⟩) bA _)).mono J,HG.out,?_⟩;exact (by repeat (first | with_reducible exact lf.out | with_reducible refine aC ?_ bA _))
theorem ayG (w:World) (A:Option Addr) (n cap:Nat) (hn:(n:Int)≤1048576) (cE:∀k,k < n→∃(g o:Nat) (v:Int),A = some ⟨g,o,none⟩∧g < w.heap.size∧w.cell? ⟨g,o+k,none⟩ = some (.int .u8 v)∧0≤v∧v≤255) :
 Calls Tryz.prog 7 #[.slice A n cap] w fun e w'=>∃(x:aU) (cs:List Value) (G:List Nat),e = .returned (.agg cs.toArray)∧am w' w.heap.size x cs G∧Good x∧Below w.heap.size w w' :=
 (j8 w A n cap hn cE).mono fun _ _ ⟨x,cs,G,a,b,d,e⟩=>⟨x,cs,G,a,b,d.1,e⟩
theorem ZQ (A:Option Addr) (n cap:Nat) (w:World):Calls Tryz.prog 6 #[.slice A n cap] w fun e w'=>e = .returned (.bool (decide ((1048576:Int) < n)))∧Below w.heap.size w w':=by
 by_cases h:(1048576:Int) < n
 all_goals
  go_enter Tryz.func6,Tryz.ntmps6;go_wp2;go_ret
  exact ⟨(by simp;omega),aj _⟩
theorem aAQ {w:World} {xs:List UInt8} {A:Option Addr} {cap:Nat} {F:List Nat} (h:Sl w xs A cap F):∀k,k < xs.length→∃(g o:Nat) (v:Int),A = some ⟨g,o,none⟩∧g < w.heap.size∧w.cell? ⟨g,o+k,none⟩ = some (.int .u8 v)∧0≤v∧v≤255:=by
 intro k hk;obtain ⟨b,o,ck,Fk,rfl,_,hb,hr,_,hc⟩:=h.get hk;have h0:=hc 0 (.int .u8 (xs[k].toNat:Int)) (by rw [hr.1];rfl);rw [show o+(k * ba.size UInt8+0) = o+k by show o+(k * 1+0) = o+k;omega] at h0;have:=xs[k].toNat_lt;exact ⟨b,o,_,rfl,hb,h0,J,J⟩
theorem kD (xs:List ByteArray) (A B:Option Addr) (ca cb:Nat) (F G:List Nat) (w:World) (h:Sl w xs A ca F) (h':Sl w xs B cb G) (hl:(xs.length:Int)≤1048576) :
 Calls Tryz.prog 14 #[.slice A xs.length ca,.slice B xs.length cb] w fun e w'=>e = .returned (.bool true)∧Below w.heap.size w w':=by
 go_enter Tryz.func14,Tryz.ntmps14;go_wp2_with fail
 go_loopw [5] (fun i wr=>∃k:Nat,k≤xs.length∧i = .int .i64 k∧Below w.heap.size w wr) (fun i _=>xs.length - (intOf i).toNat)
 case atStart=>exact ⟨0,Nat.zero_le _,rfl,aj _⟩
 case round =>
  obtain ⟨k,hk,rfl,ax⟩:=hrel;by_cases aq:k < xs.length
  ·obtain ⟨b,o,ck,Fk,rfl,_,hb,hr,_,hc⟩:=h.get aq;obtain ⟨b',o',TY,Xw,rfl,_,ei,cI,_,hc'⟩:=h'.get aq
   have q0:wr.cell? ⟨b,o+k,none⟩ = some (.string xs[k]):=(ax.cell (p:=⟨b,o+k,none⟩) hb).trans (by
    have h0:=hc 0 (.string xs[k]) (by rw [hr.1];rfl)
    rwa [show o+(k * ba.size ByteArray+0) = o+k by show o+(k * 1+0) = o+k;omega] at h0)
   have q1:wr.cell? ⟨b',o'+k,none⟩ = some (.string xs[k]):=(ax.cell (p:=⟨b',o'+k,none⟩) ei).trans (by
    have h0:=hc' 0 (.string xs[k]) (by rw [cI.1];rfl)
    rwa [show o'+(k * ba.size ByteArray+0) = o'+k by show o'+(k * 1+0) = o'+k;omega] at h0)
   generalize xs[k] = s at *;clear hc hc' hr cI;have R5:(k:Int) < xs.length:=J;go_wp2;go_region
   go_wp2;exact ⟨⟨k+1,J,N',aA ax⟩,by simp [intOf];omega⟩
  ·have R5:¬(k:Int) < xs.length:=J;go_wp2;go_ret
   exact ⟨rfl,ax⟩
end Go.Proofs.YtajbbmembionpaaGreat
