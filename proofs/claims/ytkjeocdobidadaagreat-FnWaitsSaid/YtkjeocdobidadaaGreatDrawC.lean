/- Draws of a cluster. No condition. -/
import Derived.Test.YtkjeocdobidadaaGreatAppO
import Derived.Test.YtkjeocdobidadaaGreatDrawO
import Derived.Test.YtkjeocdobidadaaGreatRegionCut
namespace Go.Proofs.YtkjeocdobidadaaGreat
open Go.ChangeShapes Go.WideShapes Go.ChangeAt Go.RowKit
set_option linter.unusedVariables false
set_option linter.unusedSimpArgs false
set_option maxHeartbeats 8000000
set_option maxRecDepth 100000
theorem new_draw (w:World):Calls Tryz.prog 117 #[] w fun e w'=>e = .returned (.agg #[.slice none 0 0,.slice none 0 0,.int .i64 1,.int .i64 2,.int .i64 1,.int .i64 3])∧Below w.heap.size w w':=by
 go_enter Tryz.func117,Tryz.ntmps117;go_wp2;refine bodyPost_ret (v:=.agg #[.slice none 0 0,.slice none 0 0,.int .i64 1,.int .i64 2,.int .i64 1,.int .i64 3]) (by simp [results,Tryz.results117,go_sem, *]) rfl ⟨rfl,atT⟩
def newC:aU:=⟨[],[],1,⟨2,1,3⟩⟩
theorem newC_good:Good newC :=
 ⟨by decide,by decide,by decide,by decide,by decide,(fun h hh=>by cases hh),(fun h hh=>by cases hh),List.Pairwise.nil,(fun p hp=>by cases hp),(fun p hp=>by cases hp),(fun p hp=>by cases hp),List.Pairwise.nil,List.Pairwise.nil⟩
theorem Own.newC (w:World) (B:Nat):Own w B Go.Proofs.YtkjeocdobidadaaGreat.newC [.slice none 0 0,.slice none 0 0,.int .i64 1,.int .i64 2,.int .i64 1,.int .i64 3] []:=by
 refine Own.up (B':=B) (fun x:aU=>(x.hosts,x.au,x.next,x.weights)) ?_ (Nat.le_refl _);have h1:Own w B ([]:List Host) [.slice none 0 0] []:=Own.flat (Sl.nil w none 0 (Nat.zero_le _));have h2:Own w B ([]:List Placed) [.slice none 0 0] []:=Own.flat (Sl.nil w none 0 (Nat.zero_le _));have h3:Own w B ((1:Int),(⟨2,1,3⟩:rZ)) ([.int .i64 1]++[.int .i64 2,.int .i64 1,.int .i64 3]) []:=Own.cons (jL w 1 auG) (Own.flat (Zj w ⟨2,1,3⟩ (by unfold I64;dsimp only;omega) (by unfold I64;dsimp only;omega) (by unfold I64;dsimp only;omega)));exact Own.pair h1 (Own.pair h2 h3 (Nat.le_refl _) (fun b hb=>by cases hb)) (Nat.le_refl _) (fun b hb=>by cases hb)
theorem NewC_draw (w:World) (c:Nat) (A:Option Addr) (n cap:Nat) (h:DCur w c A n cap) :
 Calls Tryz.prog 70 #[.pointer (some ⟨c,0,none⟩)] w fun e w'=>∃(x:aU) (cs:List Value) (G:List Nat),e = .returned (.agg cs.toArray)∧Own w' w.heap.size x cs G∧Good x∧DCur w' c A n cap∧nN [c] w w':=by
 have hlt:=h.lt;have HC:=I' h;clear h;go_enter Tryz.func70,Tryz.ntmps70;go_wp2_with fail
 refine (new_draw _).mono ?_;rintro e w1 ⟨rfl,hb1⟩;have hz1:=hb1.size;simp at hz1;have X1:=I' (((oG.new w [.slice none 0 0,.slice none 0 0,.int .i64 0,.int .i64 0,.int .i64 0,.int .i64 0] 29).ext hb1).ext (ak (aj _) (.cells ([.slice none 0 0,.slice none 0 0,.int .i64 0,.int .i64 0,.int .i64 0,.int .i64 0]:List Value).toArray 29)));have HC1:=I' ((HC.out.ext (ak (aj _) (.cells ([.slice none 0 0,.slice none 0 0,.int .i64 0,.int .i64 0,.int .i64 0,.int .i64 0]:List Value).toArray 29))).ext hb1);have hc1:=HC1.out.lt;have HC2:=I' (HC1.out.ext (ak (aj _) (.cells ([.slice none 0 0,.slice none 0 0,.int .i64 0,.int .i64 0,.int .i64 0,.int .i64 0]:List Value).toArray 29)));have HB:=I' (nN.lq [c] (ak (ah atT hb1:Below w.heap.size w w1) (.cells ([.slice none 0 0,.slice none 0 0,.int .i64 0,.int .i64 0,.int .i64 0,.int .i64 0]:List Value).toArray 29)));clear hb1 HC HC1;try dsimp only
 iterate 5 go_step
 refine wp_storeB 29 _ _ rfl w1.heap.size 0 [.slice none 0 0,.slice none 0 0,.int .i64 1,.int .i64 2,.int .i64 1,.int .i64 3] [.slice none 0 0,.slice none 0 0,.int .i64 0,.int .i64 0,.int .i64 0,.int .i64 0] rfl rfl (oG.new w1 _ 29) S' U' aub ?_;intro w2 Y2 O2;replace Y2:oG w2 w1.heap.size [.slice none 0 0,.slice none 0 0,.int .i64 1,.int .i64 2,.int .i64 1,.int .i64 3]:=Y2;have hz2:w2.heap.size = w1.heap.size+1:=by rw [O2.size];simp
 have X2:=I' (X1.out.only O2 O');have HU2:=I' (HB.out.only O2 O');have HCU:=I' (HC2.out.only O2 O');have HY2:=I' Y2;have HZ2:=I' hz2;clear X1 HB HC2 O2 Y2 hz2;go_wp2_with fail
 go_loopw [4] (fun i wr=>∃(k:Nat) (x:aU) (Ah Ap:Option Addr) (ch cp:Nat) (G:List Nat),i = .int .i64 k∧(k:Int)≤20∧Hid (Own wr (w1.heap.size+1) x [.slice Ah x.hosts.length ch,.slice Ap x.au.length cp,.int .i64 x.next,.int .i64 x.weights.pack,.int .i64 x.weights.spread,.int .i64 x.weights.soft] G∧Good x∧oG wr w1.heap.size [.slice Ah x.hosts.length ch,.slice Ap x.au.length cp,.int .i64 x.next,.int .i64 x.weights.pack,.int .i64 x.weights.spread,.int .i64 x.weights.soft]∧oG wr w.heap.size [.slice none 0 0,.slice none 0 0,.int .i64 0,.int .i64 0,.int .i64 0,.int .i64 0]∧DCur wr c A n cap∧nN [c] w wr∧w1.heap.size+1≤wr.heap.size)) (fun i _=>20 - (intOf i).toNat)
 case atStart =>exact ⟨0,newC,none,none,0,0,[],rfl,O',I' ⟨Own.newC _ _,newC_good,HY2.out,X2.out,HCU.out,HU2.out,by rw [HZ2.out];exact Nat.le_refl _⟩⟩
 case round =>
  obtain ⟨k,x,Ah,Ap,ch,cp,G,rfl,hk,HX⟩:=hrel;obtain ⟨hO,hG,hY,hX,hC,hU,hz⟩:=HX.out;have HG:=I' hG;clear hG HX X2 HU2 HCU HY2 HZ2;have HO:=I' hO;have HY:=I' hY;have HXB:=I' hX;have HC:=I' hC;have HU:=I' hU;clear hO hY hX hC hU;go_wp2_with fail
  refine (Below_draw 16 O' _ c A n cap HC.out).mono ?_;rintro e w3 ⟨r,rfl,hr,H3,hu3⟩;have HO3:=I' (HO.out.drawn hu3 O');have HY3:=I' (HY.out.upd hu3 O');have HXB3:=I' (HXB.out.upd hu3 O');have HU3:=I' (HU.out.trans hu3);have HC3:=I' H3;have hz3:=hu3.size;clear H3 hu3 HO HY HXB HU HC;by_cases hkr:(k:Int) < 4+r
  ·go_wp2_with fail
   refine wp_region_cutH (fun w'=>oG w' w1.heap.size [.slice Ah x.hosts.length ch,.slice Ap x.au.length cp,.int .i64 x.next,.int .i64 x.weights.pack,.int .i64 x.weights.spread,.int .i64 x.weights.soft]) (fun _=>True) [0] [1,2] 5 U' U' (fun _ _ d _ _ h=>by cases d <;> exact h) (HY3.out.ext (aA (aj _))) ?_;simp only [pick,List.getElem?_cons_succ,List.getElem?_cons_zero];refine dR (.agg #[.slice Ah x.hosts.length ch,.slice Ap x.au.length cp,.int .i64 x.next,.int .i64 x.weights.pack,.int .i64 x.weights.spread,.int .i64 x.weights.soft]) (yieldsIf_load_mid rfl 29 _ rfl w1.heap.size 0 rfl [.slice Ah x.hosts.length ch,.slice Ap x.au.length cp,.int .i64 x.next,.int .i64 x.weights.pack,.int .i64 x.weights.spread,.int .i64 x.weights.soft] _ (fun w' hw'=>hw'.range) Tryz.underlying29 rfl U') ?_;simp only [Act.put,pz];refine fE ?_;refine iK rfl (fun K hK=>?_);go_simp;refine hK _ _ (HY3.out.ext (aA (aj _))) ?_;try simp only [Act.put,pz]
   clear hK K;refine iK rfl (fun K hK=>?_);go_simp;refine (Op_draw _ c A n cap HC3.out.drew).mono ?_;rintro e w4 ⟨d,ds,Gd,rfl,hOd,hwd,hnd,hnn,H4,Td⟩;have hud:=(nN.lq [c] (aA (aj w3))).trans Td;have HO4:=I' (HO3.out.drawn hud O');have HY4:=I' (HY3.out.upd hud O');have HXB4:=I' (HXB3.out.upd hud O');have HU4:=I' (HU3.out.trans hud);have HC4:=I' H4;have HOD:=I' hOd;have Wy:=hud.size;clear H4 Td hud HO3 HY3 HXB3 HU3 HC3 hOd;refine hK _ _ HY4.out ?_;try simp only [Act.put,pz]
   clear hK K;refine yG ?_;have hwt:=good_wt HG.out;refine bP 3 J' U' J' (fun K hK=>?_);go_simp;refine (Applied_spec x _ _ d _ _ w4 HO4.out.rd HOD.out.rd O' O').mono ?_;have HG5:=I' (applied_good HG.out d);generalize applied x d = RR at *;obtain ⟨R,cd⟩:=RR;rintro e w5 ⟨es,G5,rfl,fH,hb5⟩;dsimp only at fH ⊢;have hR:=fH.rd;obtain ⟨kM,kN,ND,ny,nC,TD,hck,hGr,NG,TF,TG,xI,uD,xJ⟩:=aO hR;subst hck;clear hGr hR;have HO5:=I' fH;have HY5:=HY4.out.ext hb5;have HXB5:=I' (HXB4.out.ext hb5);have HU5:=I' (HU4.out.thenB hb5 O');have HC5:=I' (HC4.out.ext hb5);have Es:=hb5.size;clear hb5 fH HO4 HY4 HXB4 HU4 HC4 HOD;refine hK _ _ trivial ?_;try simp only [Act.put,pz]
   clear hK K;refine bP 4 J' U' J' (fun K hK=>?_);go_simp;refine hK _ _ trivial ?_;try simp only [Act.put,pz]
   clear hK K
   refine aX 5 _ J' U' (fun _ _ d _ _ h=>by cases d <;> exact h) trivial (Or.inl ⟨rfl,fun wq hq=>by
    go_simp
    try rfl⟩) ?_
   try simp only [Act.put,pz]
   refine aX 6 _ J' U' (fun _ _ d _ _ h=>by cases d <;> exact h) trivial (Or.inl ⟨rfl,fun wq hq=>by
    go_simp
    try rfl⟩) ?_
   try simp only [Act.put,pz]
   refine bP 7 J' U' J' (fun K hK=>?_);refine wp_storeB 29 _ _ rfl w1.heap.size 0 [.slice kM R.hosts.length kN,.slice ny R.au.length nC,.int .i64 R.next,.int .i64 R.weights.pack,.int .i64 R.weights.spread,.int .i64 R.weights.soft] [.slice Ah x.hosts.length ch,.slice Ap x.au.length cp,.int .i64 x.next,.int .i64 x.weights.pack,.int .i64 x.weights.spread,.int .i64 x.weights.soft] rfl rfl HY5 S' U' aub ?_;intro w6 Y6 O6;replace Y6:oG w6 w1.heap.size [.slice kM R.hosts.length kN,.slice ny R.au.length nC,.int .i64 R.next,.int .i64 R.weights.pack,.int .i64 R.weights.spread,.int .i64 R.weights.soft]:=Y6;refine hK _ _ trivial ?_;try simp only [Act.put,pz]
   clear hK K;refine nR U' ?_;have HO6:=I' ((HO5.out.only O6 (fun b hb=>by have:=HO5.out.base b hb;omega)).mono (B':=w1.heap.size+1) O');have HXB6:=I' (HXB5.out.only O6 O');have HU6:=I' (HU5.out.only O6 O');have HC6:=I' (HC5.out.only O6 hc1);have hz6:=O6.size;have HY6:=I' Y6;have hk1:(k:Int)+1≤20:=O';clear HO5 HY5 HXB5 HU5 HC5 O6 Y6;go_wp2;exact ⟨⟨k+1,R,_,_,_,_,G5,N',O',I' ⟨HO6.out,HG5.out,HY6.out,HXB6.out,HC6.out,HU6.out,O'⟩⟩,by simp only [intOf];omega⟩
  ·have yy:=HY3.out;have xx:=HXB3.out;have kyy_0:=yy.cell (i:=0) rfl;have fyy_0:=yy.fz 0;have kyy_1:=yy.cell (i:=1) rfl;have fyy_1:=yy.fz 1;have kyy_2:=yy.cell (i:=2) rfl;have fyy_2:=yy.fz 2;have kyy_3:=yy.cell (i:=3) rfl;have fyy_3:=yy.fz 3;have kyy_4:=yy.cell (i:=4) rfl;have fyy_4:=yy.fz 4;have kyy_5:=yy.cell (i:=5) rfl;have fyy_5:=yy.fz 5;have kxx_0:=xx.cell (i:=0) rfl;have fxx_0:=xx.fz 0;have kxx_1:=xx.cell (i:=1) rfl;have fxx_1:=xx.fz 1;have kxx_2:=xx.cell (i:=2) rfl;have fxx_2:=xx.fz 2;have kxx_3:=xx.cell (i:=3) rfl;have fxx_3:=xx.fz 3;have kxx_4:=xx.cell (i:=4) rfl;have fxx_4:=xx.fz 4;have kxx_5:=xx.cell (i:=5) rfl;have fxx_5:=xx.fz 5;clear yy xx HY3 HXB3;go_wp2;refine bodyPost_ret (v:=.agg #[.slice Ah x.hosts.length ch,.slice Ap x.au.length cp,.int .i64 x.next,.int .i64 x.weights.pack,.int .i64 x.weights.spread,.int .i64 x.weights.soft]) (by simp [results,Tryz.results70,go_sem, *]) rfl ?_;exact ⟨x,[.slice Ah x.hosts.length ch,.slice Ap x.au.length cp,.int .i64 x.next,.int .i64 x.weights.pack,.int .i64 x.weights.spread,.int .i64 x.weights.soft],G,rfl,(((((((HO3.out.setCell (p:=⟨w.heap.size,0,none⟩) atX _).setCell (p:=⟨w.heap.size,1,none⟩) atX _).setCell (p:=⟨w.heap.size,2,none⟩) atX _).setCell (p:=⟨w.heap.size,3,none⟩) atX _).setCell (p:=⟨w.heap.size,4,none⟩) atX _).setCell (p:=⟨w.heap.size,5,none⟩) atX _)).mono O',HG.out,((((((HC3.out.far hlt 0 _).far hlt 1 _).far hlt 2 _).far hlt 3 _).far hlt 4 _).far hlt 5 _),((((((HU3.out.new (Nat.le_refl _) 0 _).new (Nat.le_refl _) 1 _).new (Nat.le_refl _) 2 _).new (Nat.le_refl _) 3 _).new (Nat.le_refl _) 4 _).new (Nat.le_refl _) 5 _)⟩
theorem DrawCluster_any (w:World) (A:Option Addr) (n cap:Nat) (hn:(n:Int)≤1048576) (hsrc:∀k,k < n→∃(g o:Nat) (v:Int),A = some ⟨g,o,none⟩∧g < w.heap.size∧w.cell? ⟨g,o+k,none⟩ = some (.int .u8 v)∧0≤v∧v≤255) :
 Calls Tryz.prog 20 #[.slice A n cap] w fun e w'=>∃(x:aU) (cs:List Value) (G:List Nat),e = .returned (.agg cs.toArray)∧Own w' w.heap.size x cs G∧Good x∧Below w.heap.size w w':=by
 have HS:=I' hsrc;clear hsrc;go_enter Tryz.func20,Tryz.ntmps20;go_wp2_with fail
 refine (New_draw _ A n cap hn (fun k hk=>?_)).mono ?_
 ·obtain ⟨g,o,v,e,hg,hv,hv0⟩:=HS.out k hk;exact ⟨g,o,v,e,by simp;omega,((ak (aj w) _).cell (p:=⟨g,o+k,none⟩) hg).trans hv,hv0⟩
 rintro e w1 ⟨c,rfl,hc,H1,hb1⟩;have hz1:=hb1.size;simp at hz1 hc;have HX:=I' ((oG.new w [.slice none 0 0,.slice none 0 0,.int .i64 0,.int .i64 0,.int .i64 0,.int .i64 0] 29).ext hb1);have HB:=I' (ah atT hb1:Below w.heap.size w w1);have HC:=I' H1;clear H1 hb1 HS;go_wp2_with fail
 refine (NewC_draw _ c A n cap HC.out).mono ?_;rintro e w2 ⟨x,cs,G,rfl,hO,hG,H2,hu2⟩;have hR:=hO.rd;obtain ⟨kM,kN,ND,ny,nC,TD,hck,hGr,NG,TF,TG,xI,uD,xJ⟩:=aO hR;subst hck;clear hGr hR;have HO:=I' hO;have HG:=I' hG;have xx:=HX.out.upd hu2 O';have HB2:=I' (HB.out.trans (hu2.below (B:=w.heap.size) (fun b hb=>by rw [List.mem_singleton] at hb;omega) O'));have hz2:=hu2.size;have kxx_0:=xx.cell (i:=0) rfl;have fxx_0:=xx.fz 0;have kxx_1:=xx.cell (i:=1) rfl;have fxx_1:=xx.fz 1;have kxx_2:=xx.cell (i:=2) rfl;have fxx_2:=xx.fz 2;have kxx_3:=xx.cell (i:=3) rfl;have fxx_3:=xx.fz 3;have kxx_4:=xx.cell (i:=4) rfl;have fxx_4:=xx.fz 4;have kxx_5:=xx.cell (i:=5) rfl;have fxx_5:=xx.fz 5;clear xx hO hG H2 hu2 HB HC HX;go_wp2;refine bodyPost_ret (v:=.agg #[.slice kM x.hosts.length kN,.slice ny x.au.length nC,.int .i64 x.next,.int .i64 x.weights.pack,.int .i64 x.weights.spread,.int .i64 x.weights.soft]) (by simp [results,Tryz.results20,go_sem, *]) rfl ?_;refine ⟨x,[.slice kM x.hosts.length kN,.slice ny x.au.length nC,.int .i64 x.next,.int .i64 x.weights.pack,.int .i64 x.weights.spread,.int .i64 x.weights.soft],G,rfl,(((((((HO.out.setCell (p:=⟨w.heap.size,0,none⟩) atX _).setCell (p:=⟨w.heap.size,1,none⟩) atX _).setCell (p:=⟨w.heap.size,2,none⟩) atX _).setCell (p:=⟨w.heap.size,3,none⟩) atX _).setCell (p:=⟨w.heap.size,4,none⟩) atX _).setCell (p:=⟨w.heap.size,5,none⟩) atX _)).mono O',HG.out,?_⟩;exact (by repeat (first | with_reducible exact HB2.out | with_reducible refine aC ?_ atX _))
theorem big_any (A:Option Addr) (n cap:Nat) (w:World):Calls Tryz.prog 8 #[.slice A n cap] w fun e w'=>e = .returned (.bool (decide ((1048576:Int) < n)))∧Below w.heap.size w w':=by
 by_cases h:(1048576:Int) < n
 all_goals
  go_enter Tryz.func8,Tryz.ntmps8;go_wp2;go_ret
  exact ⟨(by simp;omega),aj _⟩
theorem rd_parts {w:World} {x:aU} {Ah Ap:Option Addr} {nh ch np cp:Nat} {r:List Value} {F:List Nat} (h:rd w x (.slice Ah nh ch :: .slice Ap np cp :: r) F):∃F1 F2,Sl w x.hosts Ah ch F1∧Sl w x.au Ap cp F2:=by
 obtain ⟨A1,c1,F1,A2,c2,F2,hck,_,h1,h2,_⟩:=aO h;simp only [List.cons.injEq,Value.slice.injEq] at hck;obtain ⟨⟨rfl,_,rfl⟩,⟨rfl,_,rfl⟩,_⟩:=hck;exact ⟨F1,F2,h1,h2⟩
theorem Own.rdx {α:Type} [Dat α] {w w':World} {B:Nat} {x:α} {cs:List Value} {F:List Nat} (h:Own w B x cs F) (hb:Below w.heap.size w w'):Go.Proofs.YtkjeocdobidadaaGreat.Dat.rd w' x cs F:=(h.ext hb).rd
theorem bytes_src {w:World} {xs:List UInt8} {A:Option Addr} {cap:Nat} {F:List Nat} (h:Sl w xs A cap F):∀k,k < xs.length→∃(g o:Nat) (v:Int),A = some ⟨g,o,none⟩∧g < w.heap.size∧w.cell? ⟨g,o+k,none⟩ = some (.int .u8 v)∧0≤v∧v≤255:=by
 intro k hk;obtain ⟨b,o,ck,Fk,rfl,_,hb,hr,_,hc⟩:=h.get hk;have h0:=hc 0 (.int .u8 (xs[k].toNat:Int)) (by rw [hr.1];rfl);rw [show o+(k * Dat.size UInt8+0) = o+k by show o+(k * 1+0) = o+k;omega] at h0;have:=xs[k].toNat_lt;exact ⟨b,o,_,rfl,hb,h0,O',O'⟩
theorem sameTexts_any (xs:List ByteArray) (A B:Option Addr) (ca cb:Nat) (F G:List Nat) (w:World) (h:Sl w xs A ca F) (h':Sl w xs B cb G) (hl:(xs.length:Int)≤1048576) :
 Calls Tryz.prog 27 #[.slice A xs.length ca,.slice B xs.length cb] w fun e w'=>e = .returned (.bool true)∧Below w.heap.size w w':=by
 go_enter Tryz.func27,Tryz.ntmps27;go_wp2_with fail
 go_loopw [5] (fun i wr=>∃k:Nat,k≤xs.length∧i = .int .i64 k∧Below w.heap.size w wr) (fun i _=>xs.length - (intOf i).toNat)
 case atStart=>exact ⟨0,Nat.zero_le _,rfl,aj _⟩
 case round =>
  obtain ⟨k,hk,rfl,hbl⟩:=hrel;by_cases hlt:k < xs.length
  ·obtain ⟨b,o,ck,Fk,rfl,_,hb,hr,_,hc⟩:=h.get hlt;obtain ⟨b',o',TY,Xw,rfl,_,hb',hr',_,hc'⟩:=h'.get hlt
   have q0:wr.cell? ⟨b,o+k,none⟩ = some (.string xs[k]):=(hbl.cell (p:=⟨b,o+k,none⟩) hb).trans (by
    have h0:=hc 0 (.string xs[k]) (by rw [hr.1];rfl)
    rwa [show o+(k * Dat.size ByteArray+0) = o+k by show o+(k * 1+0) = o+k;omega] at h0)
   have q1:wr.cell? ⟨b',o'+k,none⟩ = some (.string xs[k]):=(hbl.cell (p:=⟨b',o'+k,none⟩) hb').trans (by
    have h0:=hc' 0 (.string xs[k]) (by rw [hr'.1];rfl)
    rwa [show o'+(k * Dat.size ByteArray+0) = o'+k by show o'+(k * 1+0) = o'+k;omega] at h0)
   generalize xs[k] = s at *;clear hc hc' hr hr';have hlti:(k:Int) < xs.length:=O';go_wp2;go_region
   go_wp2;exact ⟨⟨k+1,O',N',aA hbl⟩,by simp [intOf];omega⟩
  ·have hlti:¬(k:Int) < xs.length:=O';go_wp2;go_ret
   exact ⟨rfl,hbl⟩
end Go.Proofs.YtkjeocdobidadaaGreat
