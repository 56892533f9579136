/- Draws of one need. No condition. -/
import Derived.Test.YtkjeocdobidadaaGreatDrawL
import Derived.Test.YtkjeocdobidadaaGreatValsS
import Derived.Test.YtkjeocdobidadaaGreatSortNeedsS
import Derived.Test.YtkjeocdobidadaaGreatStabM
namespace Go.Proofs.YtkjeocdobidadaaGreat
open Go.ChangeShapes Go.WideShapes Go.ChangeAt Go.RowKit
set_option linter.unusedVariables false
set_option linter.unusedSimpArgs false
set_option maxHeartbeats 4000000
set_option maxRecDepth 100000
theorem Own.need {w:World} {B:Nat} {k:ByteArray} {op:Int} {vs:List ByteArray} {A:Option Addr} {c:Nat} {G:List Nat} (h:Own w B vs [.slice A vs.length c] G) (hk:k.size≤maxLen) (ho:I64 op):Own w B (⟨k,op,vs⟩:Need) [.string k,.int .i64 op,.slice A vs.length c] G:=by
 refine Own.up (B':=B) (fun x:Need=>(x.key,x.op,x.values)) ?_ (Nat.le_refl _);exact Own.cons (c1:=[.string k]) (rdStr w k (rV hk)) (Own.cons (c1:=[.int .i64 op]) (jL w op ho) h)
theorem Need_room (w:World) (c:Nat) (A:Option Addr) (n cap:Nat) (h:DCur w c A n cap) :
 Calls Tryz.prog 201 #[.pointer (some ⟨c,0,none⟩)] w fun e w'=>∃(x:Need) (A':Option Addr) (c':Nat) (G:List Nat),e = .returned (.agg #[.string x.key,.int .i64 x.op,.slice A' x.values.length c'])∧Own w' w.heap.size x [.string x.key,.int .i64 x.op,.slice A' x.values.length c'] G∧x.wt≤35∧DCur w' c A n cap∧nN [c] w w'∧RoomS w' w.heap.size 9 1 A' c':=by
 have hlt:=h.lt;have HC:=I' h;clear h;go_enter Tryz.func201,Tryz.ntmps201;go_wp2_with fail
 refine (Key_draw _ c A n cap (HC.out.ext (ak (aj _) _))).mono ?_;rintro e w1 ⟨s1,rfl,hs1,H1,hu1⟩;replace H1:=I' H1;go_wp2_with fail
 refine (Below_draw 4 O' _ c A n cap H1.out).mono ?_;rintro e w2 ⟨r,rfl,hr,H2,hu2⟩;replace H2:=I' H2;have X0:=oG.new w [.string ⟨#[]⟩,.int .i64 0,.slice none 0 0] 110;have X2:=(X0.upd hu1 O').upd hu2 O';have hz1:=hu1.size;have hz2:=hu2.size;simp at hz1;have hc2:=H2.out.lt;have U2:=I' (((nN.lq [c] (ak (aj w) _)).trans hu1).trans hu2);have Y2:=oG.new w2 [.string s1,.int .i64 (1+r),.slice none 0 0] 110;replace X2:=X2.ext (ak (aj _) (.cells [.string s1,.int .i64 (1+r),.slice none 0 0].toArray 110));replace U2:=I' (U2.out.alloc (.cells #[.string s1,.int .i64 (1+r),.slice none 0 0] 110));have HC2:=I' (H2.out.ext (ak (aj _) (.cells #[.string s1,.int .i64 (1+r),.slice none 0 0] 110)));clear X0 hu1 hu2 H1 H2 HC;have hI:I64 (1+(r:Int)):=by unfold I64;omega
 by_cases h3:(1+(r:Int)) < 3
 ·go_wp2_with fail
  go_loopw [4,5] (fun v i wr=>∃(xs:List ByteArray) (ds:List Value) (A':Option Addr) (c' k:Nat),v = .slice A' xs.length c'∧i = .int .i64 k∧(k:Int)≤3∧Hid (xs.length = k∧(∀s∈xs,s.size≤8)∧wr.ownsRow (w2.heap.size+1) 9 1 (.slice A' xs.length c') xs.length ds∧jo wr xs ds []∧oG wr w.heap.size [.string ⟨#[]⟩,.int .i64 0,.slice none 0 0]∧oG wr w2.heap.size [.string s1,.int .i64 (1+r),.slice none 0 0]∧DCur wr c A n cap∧nN [c] w wr∧w2.heap.size+1≤wr.heap.size)) (fun _ i _=>3 - (intOf i).toNat)
  case atStart =>exact ⟨[],[],_,_,0,rfl,rfl,O',I' ⟨rfl,(fun s hs=>by cases hs),D9 _ 9 1 _ S',⟨rfl,rfl⟩,X2.ext (ak (aj _) _),Y2.ext (ak (aj _) _),HC2.out.ext (ak (aj _) _),U2.out.alloc _,S'⟩⟩
  case round =>
   obtain ⟨xs,ds,A',c',k,rfl,rfl,hk,HX⟩:=hrel;obtain ⟨hlk,hsm,hrow,hrc,hX,hY,hC,hU,hz⟩:=HX.out;have HROW:=I' hrow;have HRC:=I' hrc;have HXB:=I' hX;have HYB:=I' hY;have HCU:=I' hC;have HU:=I' hU;have Eo:=I' hsm;have hl3:(xs.length:Int)≤3:=O';have HLK:=I' hlk;clear hrow hrc hX hY hC hU hsm hlk HX X2 Y2 U2 HC2;go_wp2_with fail
   refine (Below_draw 3 O' _ c A n cap HCU.out).mono ?_;rintro e w4 ⟨q,rfl,hq,H4,Td⟩;have HC4:=I' H4;have HROW4:=I' (rQ HROW.out Td O');have HXB4:=I' (HXB.out.upd Td O');have HYB4:=I' (HYB.out.upd Td O');have HU4:=I' (HU.out.trans Td);have Wy:=Td.size;have HRC4:=I' (show jo w4 xs ds [] from HRC.out.frame (fun b hb=>by cases hb) Wy);clear H4 Td HROW HXB HYB HU HCU HRC;by_cases hkq:(k:Int) < 1+q
   ·go_wp2_with fail
    refine (Value_draw _ c A n cap HC4.out).mono ?_;rintro e w5 ⟨s2,rfl,hs2,H5,hu5⟩;have HC5:=I' H5;have hown5:=rQ HROW4.out hu5 (show c < w2.heap.size+1 by omega);have HXB5:=I' (HXB4.out.upd hu5 O');have HYB5:=I' (HYB4.out.upd hu5 O');have HU5:=I' (HU4.out.trans hu5);have Es:=hu5.size;have HZ5:w2.heap.size+1≤w5.heap.size:=O';clear H5 hu5 HROW4 HXB4 HYB4 HU4 HC4
    go_wp2_with (
     at_builtin
     go_must (refine lC qw J' _ _ J' _ _ _ _ _ hown5 J' [.string s2] aue J' aub O' O' HZ5 ?_)
     intro v6 w6 hown6 hg6 hz6;go_must (obtain ⟨A6,c6,hv6⟩:=mY hown6)
     go_must (subst hv6)
     go_must (have hb6:Below (w2.heap.size+1) w5 w6:=lS hown5 hg6 (Below.refl _ _) HZ5))
    have hls:(xs++[s2]).length = xs.length+1:=S';have HR6:jo w6 (xs++[s2]) (ds++[.string s2]) []:=(aY.push (B:=w2.heap.size+1) (B':=w2.heap.size+1) ⟨HRC4.out.frame (fun b hb=>by cases hb) O',List.nodup_nil,(fun b hb=>by cases hb),(fun b hb=>by cases hb)⟩ (Own.flat (rdStr w6 s2 (rV (len8 hs2)))) (Nat.le_refl _) (fun b hb=>by cases hb)).rd;refine ⟨⟨xs++[s2],ds++[.string s2],A6,c6,k+1,(by rw [hls]),N',O',I' ⟨by have:=HLK.out;omega,fun s hs=>?_,(by rw [hls];exact hown6),HR6,HXB5.out.keep (hb6.block _ O'),HYB5.out.keep (hb6.block _ O'),HC5.out.below hb6 O',HU5.out.thenB hb6 O',by have:=hb6.size;omega⟩⟩,by simp only [intOf];omega⟩;rcases List.mem_append.1 hs with hs | hs
    ·exact Eo.out s hs
    ·rw [List.mem_singleton] at hs;subst hs;exact hs2
   ·obtain ⟨A5,c5,G5,hv5,fH⟩:=Own.oJ (α:=ByteArray) HROW4.out ⟨HRC4.out,List.nodup_nil,(fun b hb=>by cases hb),(fun b hb=>by cases hb)⟩ (fun g _ hm=>by cases hm);simp only [Value.slice.injEq,true_and] at hv5;obtain ⟨rfl,rfl⟩:=hv5;have HO5:=I' fH;clear fH HROW4;go_wp2_with fail
    refine (l15Values_room xs A' c' G5 w4 HO5.out.rd O').mono ?_;rintro e w5 ⟨A6,c6,G6,rfl,iD,hb6,Jg⟩;have HR6:=I' (Jg.mono (B':=w2.heap.size+1) O');have Es:=hb6.size;have HC5:=I' (HC4.out.ext hb6);have HU5:=I' (HU4.out.thenB hb6 O');have HO6:=I' iD;have hX5:=HXB4.out.ext hb6;have hY5:=HYB4.out.ext hb6;have khX5_0:=hX5.cell (i:=0) rfl;have fhX5_0:=hX5.fz 0;have khX5_1:=hX5.cell (i:=1) rfl;have fhX5_1:=hX5.fz 1;have khX5_2:=hX5.cell (i:=2) rfl;have fhX5_2:=hX5.fz 2;have khY5_0:=hY5.cell (i:=0) rfl;have fhY5_0:=hY5.fz 0;have khY5_1:=hY5.cell (i:=1) rfl;have fhY5_1:=hY5.fz 1;have khY5_2:=hY5.cell (i:=2) rfl;have fhY5_2:=hY5.fz 2;clear hX5 hY5 hb6 iD HXB4 HYB4 HC4 HU4
    have HWV:=I' (show (⟨s1,1+r,valsR xs⟩:Need).wt≤35 from by
     have h1:=valsR_wt xs;have h2:kL ByteArray.size xs≤3 * (8+1):=wtL_most (n:=3) (b:=8) O' Eo.out;show s1.size+kL ByteArray.size (valsR xs)≤35
     omega)
    have hlv:(valsR xs).length≤xs.length:=valsR_len xs;generalize valsR xs = vs at *;go_wp2;refine bodyPost_ret (v:=.agg #[.string s1,.int .i64 (1+r),.slice A6 vs.length c6]) (by simp [results,Tryz.results201,go_sem, *]) rfl ?_;have hb0:w.heap.size < w4.heap.size:=O';have hb1:w2.heap.size < w4.heap.size:=O';exact ⟨⟨s1,1+r,vs⟩,A6,c6,G6,rfl,Own.need ((((((HO6.out.setCell (p:=⟨w2.heap.size,2,none⟩) hb1 _).setCell (p:=⟨w.heap.size,0,none⟩) hb0 _).setCell (p:=⟨w.heap.size,1,none⟩) hb0 _).setCell (p:=⟨w.heap.size,2,none⟩) hb0 _)).mono O') (len8 hs1) hI,HWV.out,(((HC5.out.far O' 2 _).far hlt 0 _).far hlt 1 _).far hlt 2 _,(((HU5.out.new O' 2 _).new (Nat.le_refl _) 0 _).new (Nat.le_refl _) 1 _).new (Nat.le_refl _) 2 _,((((HR6.out.far O' 2 _).far O' 0 _).far O' 1 _).far O' 2 _).mono O'⟩
 ·have HX2:=X2;have HY2:=Y2;have kHX2_0:=HX2.cell (i:=0) rfl;have fHX2_0:=HX2.fz 0;have kHX2_1:=HX2.cell (i:=1) rfl;have fHX2_1:=HX2.fz 1;have kHX2_2:=HX2.cell (i:=2) rfl;have fHX2_2:=HX2.fz 2;clear HX2 HY2 X2 Y2;go_wp2;refine bodyPost_ret (v:=.agg #[.string s1,.int .i64 (1+r),.slice none 0 0]) (by simp [results,Tryz.results201,go_sem, *]) rfl ?_;exact ⟨⟨s1,1+r,[]⟩,none,0,[],rfl,Own.need (Own.flat (Sl.nil _ none 0 (Nat.zero_le _))) (len8 hs1) hI,(by show s1.size+0≤35;omega),(((HC2.out.far hlt 0 _).far hlt 1 _).far hlt 2 _),((U2.out.new (Nat.le_refl _) 0 _).new (Nat.le_refl _) 1 _).new (Nat.le_refl _) 2 _,.inl ⟨rfl,rfl⟩⟩
theorem Need_draw (w:World) (c:Nat) (A:Option Addr) (n cap:Nat) (h:DCur w c A n cap) :
 Calls Tryz.prog 201 #[.pointer (some ⟨c,0,none⟩)] w fun e w'=>∃(x:Need) (A':Option Addr) (c':Nat) (G:List Nat),e = .returned (.agg #[.string x.key,.int .i64 x.op,.slice A' x.values.length c'])∧Own w' w.heap.size x [.string x.key,.int .i64 x.op,.slice A' x.values.length c'] G∧x.wt≤35∧DCur w' c A n cap∧nN [c] w w' :=
 (Need_room w c A n cap h).mono fun _ _ ⟨xs,A',c',G,a,b,d,e,f,_⟩=>⟨xs,A',c',G,a,b,d,e,f⟩
theorem sortNeedsR_ok {xs:List Need} (h:(sortNeedsR xs).2 = true):aeH (sortNeedsR xs).1 = true:=by
 unfold sortNeedsR at h ⊢;split
 ·rename_i h2;exact h2.2.2
 ·rename_i h2;rw [if_neg h2] at h;cases h
theorem Needs_room (w:World) (c:Nat) (A:Option Addr) (n cap:Nat) (h:DCur w c A n cap) :
 Calls Tryz.prog 167 #[.pointer (some ⟨c,0,none⟩)] w fun e w'=>∃(xs:List Need) (A':Option Addr) (c':Nat) (G:List Nat),e = .returned (.slice A' xs.length c')∧Own w' w.heap.size xs [.slice A' xs.length c'] G∧kL Need.wt xs≤460∧DCur w' c A n cap∧nN [c] w w'∧RoomS w' w.heap.size 110 3 A' c':=by
 have hlt:=h.lt;have HC:=I' h;clear h;go_enter Tryz.func167,Tryz.ntmps167;go_wp2_with fail
 go_loopw [3,4] (fun v i wr=>∃(xs:List Need) (A':Option Addr) (c':Nat) (G:List Nat) (k:Nat),v = .slice A' xs.length c'∧i = .int .i64 k∧(k:Int)≤2∧Own wr w.heap.size xs [.slice A' xs.length c'] G∧Hid (kL Need.wt xs≤460)∧DCur wr c A n cap∧nN [c] w wr∧Hid (RoomS wr w.heap.size 110 3 A' c')) (fun _ i _=>2 - (intOf i).toNat)
 case atStart =>obtain ⟨A',c',G,hv,hO⟩:=Own.oJ (α:=Need) (D9 w 110 3 w.heap.size rfl) (aY.nil _ _) (fun g _ hm=>by cases hm);simp only [Value.slice.injEq,List.length_nil] at hv;obtain ⟨rfl,_,rfl⟩:=hv;exact ⟨[],_,_,G,0,rfl,rfl,O',hO,I' (Nat.zero_le _),HC.out.ext (ak (aj _) _),nN.lq _ (ak (aj _) _),I' (RoomS.oJ (D9 w 110 3 w.heap.size rfl) (Nat.le_refl _))⟩
 case round =>
  obtain ⟨xs,A',c',G,k,rfl,rfl,hk,hO,Du,hcur,hur,HRM⟩:=hrel;have HO:=I' hO;have HCR:=I' hcur;have HUR:=I' hur;have hzr:=hur.size;have hlr:(xs.length:Int)≤460:=by have h1:=gJ Need.wt xs;have:=Du.out;omega
  clear hO hcur hur;go_wp2_with fail
  refine (Below_draw 3 O' _ c A n cap HCR.out).mono ?_;rintro e w1 ⟨r,rfl,hr,H1,hu1⟩;have HO1:=I' (HO.out.drawn hu1 hlt);have HU1:=I' (HUR.out.trans hu1);have HRM1:=I' (HRM.out.drawn hu1 hlt);have hz1:=hu1.size;have HC1:=I' H1;clear H1 hu1 HO HCR HUR HRM;by_cases hkr:(k:Int) < r
  ·have HF1:=I' HO1.out.lt;have HRL:=I' HRM1.out.lt;have hc1:=HC1.out.lt;have HWV:=I' (show ∀l∈xs,l.wt≤460 from fun l hl=>by have h1:=Bq (f:=Need.wt) hl;have:=Du.out;omega);go_wp2_with fail
   refine (l15Copy_row xs A' c' G w1 HO1.out.rd O' (fun l hl=>by have h1:=HWV.out l hl;have h2:l.wt = l.key.size+kL ByteArray.size l.values:=rfl;have h3:=gJ ByteArray.size l.values;omega)).mono ?_;rintro e w2 ⟨v2,ds,F2,rfl,hrow2,hcs2,hne2,hb2⟩;obtain ⟨A2,c2,hv2⟩:=mY hrow2;subst hv2;have HLR:=I' (fun g hg=>(hrow2.lt g hg).2);have HLF:=I' hcs2.lt;have HROW2:=I' hrow2;have HCS2:=I' hcs2;have HNE2:=I' hne2;have HC2:=I' (HC1.out.ext hb2);have RZ:=I' (HO1.out.ext hb2);have HRM2:=I' (HRM1.out.ext hb2);have HU2:=I' (HU1.out.thenB hb2 O');have hz2:=hb2.size;clear hrow2 hcs2 hne2 hb2;go_wp2_with fail
   refine (Need_draw w2 c A n cap HC2.out).mono ?_;rintro e w3 ⟨y,Ay,cy,Gy,rfl,hOy,hwy,H3,hu3⟩;have HC3:=I' H3;have hrow3:=rQ HROW2.out hu3 (show c < w1.heap.size by omega);have HCS3:=I' (HCS2.out.keep (w':=w3) (fun b hb=>hu3.block b (HLF.out b hb) (fun hm=>by have:=HCS2.out.base b hb;rw [List.mem_singleton] at hm;omega)) hu3.size);have HOY:=I' hOy;have HO3:=I' (RZ.out.drawn hu3 hlt);have HRM3:=I' (HRM2.out.drawn hu3 hlt);have HU3:=I' (HU2.out.trans hu3);have hz3:=hu3.size;have HZ3:w1.heap.size≤w3.heap.size:=O';clear H3 hOy HC2 HROW2 HCS2 RZ HU2 hu3
   go_wp2_with (
    at_builtin
    go_must (refine uf elSNeed J' _ _ J' _ _ _ _ _ hrow3 J' [.string y.key,.int .i64 y.op,.slice Ay y.values.length cy] aue J' aub O' O' HZ3 ?_)
    intro v4 w4 hown4 hg4 Wy hat4;go_must (obtain ⟨A4,c4,hv4⟩:=mY hown4)
    go_must (subst hv4)
    go_must (have hb4:Below w1.heap.size w3 w4:=lS hrow3 hg4 (Below.refl _ _) HZ3))
   have hls:(xs++[y]).length = xs.length+1:=S';obtain ⟨hcs4,hne4⟩:=aY.afm hrow3 HCS3.out HNE2.out HOY.out O' HLR.out HLF.out hg4 hat4;obtain ⟨A5,c5,G5,hv5,fH⟩:=Own.oJ (α:=Need) (xs:=xs++[y]) (by rw [hls];exact hown4) hcs4 hne4;rw [hls] at hv5;simp only [Value.slice.injEq,true_and] at hv5;obtain ⟨rfl,rfl⟩:=hv5
   have HS:=SortNeeds_room (xs++[y]) A4 c4 G5 w4 fH.rd O' (fun l hl=>by
    rcases List.mem_append.1 hl with hl | hl
    ·have:=HWV.out l hl;omega
    ·rw [List.mem_singleton] at hl;subst hl;omega)
   rw [hls] at HS;have HC4:=I' (HC3.out.below hb4 O');have HO4:=I' (HO3.out.belowB hb4 HF1.out);have HRM4:=I' (HRM3.out.keep fun g hg=>hb4.block g (HRL.out g hg));have HU4:=I' (HU3.out.thenB hb4 O');have HOK:=I' (fun h=>selR_wt (sortNeedsR_ok (xs:=xs++[y]) h));have hzz:=hb4.size;clear fH hcs4 hne4 hown4 hg4 hb4 hrow3 HO1 HU1 HC1 HC3 HO3 HU3 HF1 HOY HCS3 HNE2 HLR HLF HWV hat4;refine HS.mono ?_;clear HS;generalize sortNeedsR (xs++[y]) = R at *;exact Zabt
  ·exact Zadb
theorem Needs_draw (w:World) (c:Nat) (A:Option Addr) (n cap:Nat) (h:DCur w c A n cap) :
 Calls Tryz.prog 167 #[.pointer (some ⟨c,0,none⟩)] w fun e w'=>∃(xs:List Need) (A':Option Addr) (c':Nat) (G:List Nat),e = .returned (.slice A' xs.length c')∧Own w' w.heap.size xs [.slice A' xs.length c'] G∧kL Need.wt xs≤460∧DCur w' c A n cap∧nN [c] w w' :=
 (Needs_room w c A n cap h).mono fun _ _ ⟨xs,A',c',G,a,b,d,e,f,_⟩=>⟨xs,A',c',G,a,b,d,e,f⟩
end Go.Proofs.YtkjeocdobidadaaGreat
