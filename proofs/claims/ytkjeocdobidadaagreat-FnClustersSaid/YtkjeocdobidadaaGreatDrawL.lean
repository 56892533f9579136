/- Draws of lists of labels, taints, tolerances. No condition. -/
import Derived.Test.YtkjeocdobidadaaGreatDrawW
import Derived.Test.YtkjeocdobidadaaGreatRowK
namespace Go.Proofs.YtkjeocdobidadaaGreat
open Go.ChangeShapes Go.WideShapes Go.ChangeAt Go.RowKit
set_option linter.unusedVariables false
set_option linter.unusedSimpArgs false
set_option maxHeartbeats 4000000
set_option maxRecDepth 100000
theorem len8 {s:ByteArray} (h:s.size≤8):s.size≤maxLen:=by unfold maxLen;omega
theorem DCur.below {w w':World} {c n cap B:Nat} {A:Option Addr} (h:DCur w c A n cap) (hb:Below B w w') (hc:c < B):DCur w' c A n cap:=by
 obtain ⟨⟨i,x,t,h1,h2⟩,h3,h4⟩:=h;refine ⟨⟨i,x,t,(hb.block c hc).trans h1,h2⟩,fun k hk=>?_,h4⟩;obtain ⟨g,o,v,e,hg,hv,hv0⟩:=h3 k hk;exact ⟨g,o,v,e,hg,(World.cell?_of_block (hb.block g O')).trans hv,hv0⟩
theorem nN.thenB {F:List Nat} {w w1 w2:World} {B:Nat} (h:nN F w w1) (hb:Below B w1 w2) (hB:w.heap.size≤B):nN F w w2 :=
 ⟨hb.os.trans h.os,hb.tape.trans h.tape,hb.output.trans h.output,Nat.le_trans h.size hb.size,fun i hi hn=>(hb.block i O').trans (h.block i hi hn)⟩
theorem Own.belowB {α:Type} [Dat α] {w w':World} {B B2:Nat} {x:α} {cs:List Value} {F:List Nat} (h:Own w B x cs F) (hb:Below B2 w w') (hF:∀b∈F,b < B2):Own w' B x cs F :=
 h.keep (fun b hm=>hb.block b (hF b hm)) hb.size
theorem sortTaintsR_ok {xs:List iU} (h:(sortTaintsR xs).2 = true):La (sortTaintsR xs).1 = true:=by
 unfold sortTaintsR at h ⊢;exact Zadu
theorem Taints_room (w:World) (c:Nat) (A:Option Addr) (n cap:Nat) (h:DCur w c A n cap) :
 Calls Tryz.prog 195 #[.pointer (some ⟨c,0,none⟩)] w fun e w'=>∃(xs:List iU) (A':Option Addr) (c':Nat) (G:List Nat),e = .returned (.slice A' xs.length c')∧Own w' w.heap.size xs [.slice A' xs.length c'] G∧kL iU.wt xs≤204∧DCur w' c A n cap∧nN [c] w w'∧RoomS w' w.heap.size 151 3 A' c':=by
 have hlt:=h.lt;have HC:=I' h;clear h;go_enter Tryz.func195,Tryz.ntmps195;go_wp2_with fail
 go_loopw [3,4] (fun v i wr=>∃(xs:List iU) (A':Option Addr) (c':Nat) (G:List Nat) (k:Nat),v = .slice A' xs.length c'∧i = .int .i64 k∧(k:Int)≤2∧Own wr w.heap.size xs [.slice A' xs.length c'] G∧Hid (kL iU.wt xs≤204)∧DCur wr c A n cap∧nN [c] w wr∧Hid (RoomS wr w.heap.size 151 3 A' c')) (fun _ i _=>2 - (intOf i).toNat)
 case atStart =>obtain ⟨A',c',G,hv,hO⟩:=Own.oJ (α:=iU) (D9 w 151 3 w.heap.size rfl) (aY.nil _ _) (fun g _ hm=>by cases hm);simp only [Value.slice.injEq,List.length_nil] at hv;obtain ⟨rfl,_,rfl⟩:=hv;exact ⟨[],_,_,G,0,rfl,rfl,O',hO,I' (Nat.zero_le _),HC.out.ext (ak (aj _) _),nN.lq _ (ak (aj _) _),I' (RoomS.oJ (D9 w 151 3 w.heap.size rfl) (Nat.le_refl _))⟩
 case round =>
  obtain ⟨xs,A',c',G,k,rfl,rfl,hk,hO,Du,hcur,hur,HRM⟩:=hrel;have HO:=I' hO;have HCR:=I' hcur;have HUR:=I' hur;have hzr:=hur.size;have hlr:(xs.length:Int)≤204:=by have h1:=gJ iU.wt xs;have:=Du.out;omega
  clear hO hcur hur;go_wp2_with fail
  refine (Below_draw 3 O' _ c A n cap HCR.out).mono ?_;rintro e w1 ⟨r,rfl,hr,H1,hu1⟩;have HO1:=I' (HO.out.drawn hu1 hlt);have HU1:=I' (HUR.out.trans hu1);have HRM1:=I' (HRM.out.drawn hu1 hlt);have hz1:=hu1.size;have HC1:=I' H1;clear H1 hu1 HO HCR HUR HRM;by_cases hkr:(k:Int) < r
  ·have HF1:=I' HO1.out.lt;have HRL:=I' HRM1.out.lt;have hc1:=HC1.out.lt
   go_wp2_with (
    at_builtin
    go_must (refine rW elSTaint J' J' _ _ J' (w1.alloc (.cells #[] 151)) w1.heap.size _ 0 [] (D9 w1 151 3 w1.heap.size rfl) J' xs A' c' G ((show Sl w1 xs A' c' G from HO1.out.rd).ext (ak (aj _) _)) J' O' O' S' ?_)
    intro v2 w2 ds G2 hrc hsub hown hg hat;go_must (obtain ⟨A2,c2,hv2⟩:=mY hown)
    go_must (subst hv2)
    go_must (have hb2:Below w1.heap.size w1 w2:=lS (World.ownsRow_made (e:=151) (size:=3) w1 #[] 0 (Nat.le_refl _) (Nat.zero_le _) S') hg (ak (aj _) _) S'))
   simp only [Nat.zero_add,List.nil_append] at hown;try simp only [Nat.zero_add]
   obtain rfl:=abn (fun hh=>(oK hh).2.1) hrc;have HRC:=I' hrc;have HCU:=I' (HC1.out.ext hb2);have RZ:=I' (HO1.out.ext hb2);have HRM2:=I' (HRM1.out.ext hb2);have HU2:=I' (HU1.out.thenB hb2 O');have hz2:=hb2.size;have HROW2:=I' hown;clear hrc hsub hown hg hat hb2;refine (Taint_draw _ c A n cap HCU.out).mono ?_;rintro e w3 ⟨y,rfl,hy,H3,hu3⟩;have HC3:=I' H3;clear H3;have HO3:=I' (RZ.out.drawn hu3 hlt);have HRM3:=I' (HRM2.out.drawn hu3 hlt);have HU3:=I' (HU2.out.trans hu3);have hown3:=rQ HROW2.out hu3 (show c < w1.heap.size by omega);have hz3:=hu3.size;have HZ3:w1.heap.size≤w3.heap.size:=O'
   go_wp2_with (
    at_builtin
    go_must (refine lC elSTaint J' _ _ J' _ _ _ _ _ hown3 J' [.string y.key,.string y.value,.int .i64 y.effect] aue J' aub O' O' HZ3 ?_)
    intro v4 w4 hown4 hg4 Wy;go_must (obtain ⟨A4,c4,hv4⟩:=mY hown4)
    go_must (subst hv4)
    go_must (have hb4:Below w1.heap.size w3 w4:=lS hown3 hg4 (Below.refl _ _) HZ3))
   have hls:(xs++[y]).length = xs.length+1:=S';have HCS:aY w4 w1.heap.size (xs++[y]) (ds++[.string y.key,.string y.value,.int .i64 y.effect]) []:=aY.push (B':=w1.heap.size) ⟨HRC.out.frame (fun b hb=>by cases hb) (by simp;omega),List.nodup_nil,(fun b hb=>by cases hb),(fun b hb=>by cases hb)⟩ (Own.flat (Q8 w4 y (len8 hy.1) (len8 hy.2.1) auG)) (Nat.le_refl _) (fun b hb=>by cases hb);obtain ⟨A5,c5,G5,hv5,fH⟩:=Own.oJ (α:=iU) (xs:=xs++[y]) (by rw [hls];exact hown4) HCS (fun g _ hm=>by cases hm);rw [hls] at hv5;simp only [Value.slice.injEq,true_and] at hv5;obtain ⟨rfl,rfl⟩:=hv5
   have HS:=SortTaints_room (xs++[y]) A4 c4 G5 w4 fH.rd O' (fun l hl=>by
    rcases List.mem_append.1 hl with hl | hl
    ·have h1:=Bq (f:=iU.wt) hl;have h2:iU.wt l = l.key.size+l.value.size:=rfl;have:=Du.out;omega
    ·rw [List.mem_singleton] at hl;subst hl;omega)
   rw [hls] at HS;have HC4:=I' (HC3.out.below hb4 O');have HO4:=I' (HO3.out.belowB hb4 HF1.out);have HRM4:=I' (HRM3.out.keep fun g hg=>hb4.block g (HRL.out g hg));have HU4:=I' (HU3.out.thenB hb4 O');have HOK:=I' (fun h=>taintsR_wt (sortTaintsR_ok (xs:=xs++[y]) h));have hzz:=hb4.size;clear fH HCS hown4 hg4 hb4 hown3 hu3 HROW2 HRC HO1 HU1 HC1 RZ HU2 HCU HC3 HO3 HU3 HF1;refine HS.mono ?_;clear HS;generalize sortTaintsR (xs++[y]) = R at *;exact Zabt
  ·exact Zadb
theorem Taints_draw (w:World) (c:Nat) (A:Option Addr) (n cap:Nat) (h:DCur w c A n cap) :
 Calls Tryz.prog 195 #[.pointer (some ⟨c,0,none⟩)] w fun e w'=>∃(xs:List iU) (A':Option Addr) (c':Nat) (G:List Nat),e = .returned (.slice A' xs.length c')∧Own w' w.heap.size xs [.slice A' xs.length c'] G∧kL iU.wt xs≤204∧DCur w' c A n cap∧nN [c] w w' :=
 (Taints_room w c A n cap h).mono fun _ _ ⟨xs,A',c',G,a,b,d,e,f,_⟩=>⟨xs,A',c',G,a,b,d,e,f⟩
theorem sortTolsR_ok {xs:List bH} (h:(sortTolsR xs).2 = true):Ya (sortTolsR xs).1 = true:=by
 unfold sortTolsR at h ⊢;exact Zadu
theorem Tolerances_room (w:World) (c:Nat) (A:Option Addr) (n cap:Nat) (h:DCur w c A n cap) :
 Calls Tryz.prog 168 #[.pointer (some ⟨c,0,none⟩)] w fun e w'=>∃(xs:List bH) (A':Option Addr) (c':Nat) (G:List Nat),e = .returned (.slice A' xs.length c')∧Own w' w.heap.size xs [.slice A' xs.length c'] G∧kL bH.wt xs≤204∧DCur w' c A n cap∧nN [c] w w'∧RoomS w' w.heap.size 148 4 A' c':=by
 have hlt:=h.lt;have HC:=I' h;clear h;go_enter Tryz.func168,Tryz.ntmps168;go_wp2_with fail
 go_loopw [3,4] (fun v i wr=>∃(xs:List bH) (A':Option Addr) (c':Nat) (G:List Nat) (k:Nat),v = .slice A' xs.length c'∧i = .int .i64 k∧(k:Int)≤2∧Own wr w.heap.size xs [.slice A' xs.length c'] G∧Hid (kL bH.wt xs≤204)∧DCur wr c A n cap∧nN [c] w wr∧Hid (RoomS wr w.heap.size 148 4 A' c')) (fun _ i _=>2 - (intOf i).toNat)
 case atStart =>obtain ⟨A',c',G,hv,hO⟩:=Own.oJ (α:=bH) (D9 w 148 4 w.heap.size rfl) (aY.nil _ _) (fun g _ hm=>by cases hm);simp only [Value.slice.injEq,List.length_nil] at hv;obtain ⟨rfl,_,rfl⟩:=hv;exact ⟨[],_,_,G,0,rfl,rfl,O',hO,I' (Nat.zero_le _),HC.out.ext (ak (aj _) _),nN.lq _ (ak (aj _) _),I' (RoomS.oJ (D9 w 148 4 w.heap.size rfl) (Nat.le_refl _))⟩
 case round =>
  obtain ⟨xs,A',c',G,k,rfl,rfl,hk,hO,Du,hcur,hur,HRM⟩:=hrel;have HO:=I' hO;have HCR:=I' hcur;have HUR:=I' hur;have hzr:=hur.size;have hlr:(xs.length:Int)≤204:=by have h1:=gJ bH.wt xs;have:=Du.out;omega
  clear hO hcur hur;go_wp2_with fail
  refine (Below_draw 3 O' _ c A n cap HCR.out).mono ?_;rintro e w1 ⟨r,rfl,hr,H1,hu1⟩;have HO1:=I' (HO.out.drawn hu1 hlt);have HU1:=I' (HUR.out.trans hu1);have HRM1:=I' (HRM.out.drawn hu1 hlt);have hz1:=hu1.size;have HC1:=I' H1;clear H1 hu1 HO HCR HUR HRM;by_cases hkr:(k:Int) < r
  ·have HF1:=I' HO1.out.lt;have HRL:=I' HRM1.out.lt;have hc1:=HC1.out.lt
   go_wp2_with (
    at_builtin
    go_must (refine rW elSTolerance J' J' _ _ J' (w1.alloc (.cells #[] 148)) w1.heap.size _ 0 [] (D9 w1 148 4 w1.heap.size rfl) J' xs A' c' G ((show Sl w1 xs A' c' G from HO1.out.rd).ext (ak (aj _) _)) J' O' O' S' ?_)
    intro v2 w2 ds G2 hrc hsub hown hg hat;go_must (obtain ⟨A2,c2,hv2⟩:=mY hown)
    go_must (subst hv2)
    go_must (have hb2:Below w1.heap.size w1 w2:=lS (World.ownsRow_made (e:=148) (size:=4) w1 #[] 0 (Nat.le_refl _) (Nat.zero_le _) S') hg (ak (aj _) _) S'))
   simp only [Nat.zero_add,List.nil_append] at hown;try simp only [Nat.zero_add]
   obtain rfl:=abn (fun hh=>(jv hh).2.1) hrc;have HRC:=I' hrc;have HCU:=I' (HC1.out.ext hb2);have RZ:=I' (HO1.out.ext hb2);have HRM2:=I' (HRM1.out.ext hb2);have HU2:=I' (HU1.out.thenB hb2 O');have hz2:=hb2.size;have HROW2:=I' hown;clear hrc hsub hown hg hat hb2;refine (Tolerance_draw _ c A n cap HCU.out).mono ?_;rintro e w3 ⟨y,rfl,hy,H3,hu3⟩;have HC3:=I' H3;clear H3;have HO3:=I' (RZ.out.drawn hu3 hlt);have HRM3:=I' (HRM2.out.drawn hu3 hlt);have HU3:=I' (HU2.out.trans hu3);have hown3:=rQ HROW2.out hu3 (show c < w1.heap.size by omega);have hz3:=hu3.size;have HZ3:w1.heap.size≤w3.heap.size:=O'
   go_wp2_with (
    at_builtin
    go_must (refine lC elSTolerance J' _ _ J' _ _ _ _ _ hown3 J' [.string y.key,.bool y.equal,.string y.value,.int .i64 y.effect] aue J' aub O' O' HZ3 ?_)
    intro v4 w4 hown4 hg4 Wy;go_must (obtain ⟨A4,c4,hv4⟩:=mY hown4)
    go_must (subst hv4)
    go_must (have hb4:Below w1.heap.size w3 w4:=lS hown3 hg4 (Below.refl _ _) HZ3))
   have hls:(xs++[y]).length = xs.length+1:=S';have HCS:aY w4 w1.heap.size (xs++[y]) (ds++[.string y.key,.bool y.equal,.string y.value,.int .i64 y.effect]) []:=aY.push (B':=w1.heap.size) ⟨HRC.out.frame (fun b hb=>by cases hb) (by simp;omega),List.nodup_nil,(fun b hb=>by cases hb),(fun b hb=>by cases hb)⟩ (Own.flat (Ov w4 y (len8 hy.1) (len8 hy.2.1) auG)) (Nat.le_refl _) (fun b hb=>by cases hb);obtain ⟨A5,c5,G5,hv5,fH⟩:=Own.oJ (α:=bH) (xs:=xs++[y]) (by rw [hls];exact hown4) HCS (fun g _ hm=>by cases hm);rw [hls] at hv5;simp only [Value.slice.injEq,true_and] at hv5;obtain ⟨rfl,rfl⟩:=hv5
   have HS:=SortTolerances_room (xs++[y]) A4 c4 G5 w4 fH.rd O' (fun l hl=>by
    rcases List.mem_append.1 hl with hl | hl
    ·have h1:=Bq (f:=bH.wt) hl;have h2:bH.wt l = l.key.size+l.value.size:=rfl;have:=Du.out;omega
    ·rw [List.mem_singleton] at hl;subst hl;omega)
   rw [hls] at HS;have HC4:=I' (HC3.out.below hb4 O');have HO4:=I' (HO3.out.belowB hb4 HF1.out);have HRM4:=I' (HRM3.out.keep fun g hg=>hb4.block g (HRL.out g hg));have HU4:=I' (HU3.out.thenB hb4 O');have HOK:=I' (fun h=>tolsR_wt (sortTolsR_ok (xs:=xs++[y]) h));have hzz:=hb4.size;clear fH HCS hown4 hg4 hb4 hown3 hu3 HROW2 HRC HO1 HU1 HC1 RZ HU2 HCU HC3 HO3 HU3 HF1;refine HS.mono ?_;clear HS;generalize sortTolsR (xs++[y]) = R at *;exact Zabt
  ·exact Zadb
theorem Tolerances_draw (w:World) (c:Nat) (A:Option Addr) (n cap:Nat) (h:DCur w c A n cap) :
 Calls Tryz.prog 168 #[.pointer (some ⟨c,0,none⟩)] w fun e w'=>∃(xs:List bH) (A':Option Addr) (c':Nat) (G:List Nat),e = .returned (.slice A' xs.length c')∧Own w' w.heap.size xs [.slice A' xs.length c'] G∧kL bH.wt xs≤204∧DCur w' c A n cap∧nN [c] w w' :=
 (Tolerances_room w c A n cap h).mono fun _ _ ⟨xs,A',c',G,a,b,d,e,f,_⟩=>⟨xs,A',c',G,a,b,d,e,f⟩
theorem sortLabelsR_ok {xs:List Label} (h:(sortLabelsR xs).2 = true):sD (sortLabelsR xs).1 = true:=by
 unfold sortLabelsR at h ⊢;exact Zadu
theorem Labels_room (w:World) (c:Nat) (A:Option Addr) (n cap:Nat) (h:DCur w c A n cap) :
 Calls Tryz.prog 165 #[.pointer (some ⟨c,0,none⟩)] w fun e w'=>∃(xs:List Label) (A':Option Addr) (c':Nat) (G:List Nat),e = .returned (.slice A' xs.length c')∧Own w' w.heap.size xs [.slice A' xs.length c'] G∧kL Label.wt xs≤306∧DCur w' c A n cap∧nN [c] w w'∧RoomS w' w.heap.size 107 2 A' c':=by
 have hlt:=h.lt;have HC:=I' h;clear h;go_enter Tryz.func165,Tryz.ntmps165;go_wp2_with fail
 go_loopw [3,4] (fun v i wr=>∃(xs:List Label) (A':Option Addr) (c':Nat) (G:List Nat) (k:Nat),v = .slice A' xs.length c'∧i = .int .i64 k∧(k:Int)≤3∧Own wr w.heap.size xs [.slice A' xs.length c'] G∧Hid (kL Label.wt xs≤306)∧DCur wr c A n cap∧nN [c] w wr∧Hid (RoomS wr w.heap.size 107 2 A' c')) (fun _ i _=>3 - (intOf i).toNat)
 case atStart =>obtain ⟨A',c',G,hv,hO⟩:=Own.oJ (α:=Label) (D9 w 107 2 w.heap.size rfl) (aY.nil _ _) (fun g _ hm=>by cases hm);simp only [Value.slice.injEq,List.length_nil] at hv;obtain ⟨rfl,_,rfl⟩:=hv;exact ⟨[],_,_,G,0,rfl,rfl,O',hO,I' (Nat.zero_le _),HC.out.ext (ak (aj _) _),nN.lq _ (ak (aj _) _),I' (RoomS.oJ (D9 w 107 2 w.heap.size rfl) (Nat.le_refl _))⟩
 case round =>
  obtain ⟨xs,A',c',G,k,rfl,rfl,hk,hO,Du,hcur,hur,HRM⟩:=hrel;have HO:=I' hO;have HCR:=I' hcur;have HUR:=I' hur;have hzr:=hur.size;have hlr:(xs.length:Int)≤306:=by have h1:=gJ Label.wt xs;have:=Du.out;omega
  clear hO hcur hur;go_wp2_with fail
  refine (Below_draw 4 O' _ c A n cap HCR.out).mono ?_;rintro e w1 ⟨r,rfl,hr,H1,hu1⟩;have HO1:=I' (HO.out.drawn hu1 hlt);have HU1:=I' (HUR.out.trans hu1);have HRM1:=I' (HRM.out.drawn hu1 hlt);have hz1:=hu1.size;have HC1:=I' H1;clear H1 hu1 HO HCR HUR HRM;by_cases hkr:(k:Int) < r
  ·have HF1:=I' HO1.out.lt;have HRL:=I' HRM1.out.lt;have hc1:=HC1.out.lt
   go_wp2_with (
    at_builtin
    go_must (refine rW elSLabel J' J' _ _ J' (w1.alloc (.cells #[] 107)) w1.heap.size _ 0 [] (D9 w1 107 2 w1.heap.size rfl) J' xs A' c' G ((show Sl w1 xs A' c' G from HO1.out.rd).ext (ak (aj _) _)) J' O' O' S' ?_)
    intro v2 w2 ds G2 hrc hsub hown hg hat;go_must (obtain ⟨A2,c2,hv2⟩:=mY hown)
    go_must (subst hv2)
    go_must (have hb2:Below w1.heap.size w1 w2:=lS (World.ownsRow_made (e:=107) (size:=2) w1 #[] 0 (Nat.le_refl _) (Nat.zero_le _) S') hg (ak (aj _) _) S'))
   simp only [Nat.zero_add,List.nil_append] at hown;try simp only [Nat.zero_add]
   obtain rfl:=abn (fun hh=>(vO hh).2.1) hrc;have HRC:=I' hrc;have HCU:=I' (HC1.out.ext hb2);have RZ:=I' (HO1.out.ext hb2);have HRM2:=I' (HRM1.out.ext hb2);have HU2:=I' (HU1.out.thenB hb2 O');have hz2:=hb2.size;have HROW2:=I' hown;clear hrc hsub hown hg hat hb2;refine (Key_draw _ c A n cap HCU.out).mono ?_;rintro e wa ⟨s1,rfl,hs1,Ha,hua⟩;have HCA:=I' Ha;clear Ha;go_wp2_with fail
   refine (Value_draw _ c A n cap HCA.out).mono ?_;rintro e w3 ⟨s2,rfl,hs2,H3,hub⟩;have hu3:nN [c] w2 w3:=hua.trans hub;have HC3:=I' H3;clear H3 HCA hua hub;obtain ⟨y,rfl,rfl⟩:∃y:Label,s1 = y.key∧s2 = y.value:=⟨⟨s1,s2⟩,rfl,rfl⟩;have hy:=And.intro hs1 hs2;have HO3:=I' (RZ.out.drawn hu3 hlt);have HRM3:=I' (HRM2.out.drawn hu3 hlt);have HU3:=I' (HU2.out.trans hu3);have hown3:=rQ HROW2.out hu3 (show c < w1.heap.size by omega);have hz3:=hu3.size;have HZ3:w1.heap.size≤w3.heap.size:=O'
   go_wp2_with (
    at_builtin
    go_must (refine lC elSLabel J' _ _ J' _ _ _ _ _ hown3 J' [.string y.key,.string y.value] aue J' aub O' O' HZ3 ?_)
    intro v4 w4 hown4 hg4 Wy;go_must (obtain ⟨A4,c4,hv4⟩:=mY hown4)
    go_must (subst hv4)
    go_must (have hb4:Below w1.heap.size w3 w4:=lS hown3 hg4 (Below.refl _ _) HZ3))
   have hls:(xs++[y]).length = xs.length+1:=S';have HCS:aY w4 w1.heap.size (xs++[y]) (ds++[.string y.key,.string y.value]) []:=aY.push (B':=w1.heap.size) ⟨HRC.out.frame (fun b hb=>by cases hb) (by simp;omega),List.nodup_nil,(fun b hb=>by cases hb),(fun b hb=>by cases hb)⟩ (Own.flat (alH w4 y (len8 hy.1) (len8 hy.2))) (Nat.le_refl _) (fun b hb=>by cases hb);obtain ⟨A5,c5,G5,hv5,fH⟩:=Own.oJ (α:=Label) (xs:=xs++[y]) (by rw [hls];exact hown4) HCS (fun g _ hm=>by cases hm);rw [hls] at hv5;simp only [Value.slice.injEq,true_and] at hv5;obtain ⟨rfl,rfl⟩:=hv5
   have HS:=SortLabels_room (xs++[y]) A4 c4 G5 w4 fH.rd O' (fun l hl=>by
    rcases List.mem_append.1 hl with hl | hl
    ·have h1:=Bq (f:=Label.wt) hl;have h2:Label.wt l = l.key.size+l.value.size:=rfl;have:=Du.out;omega
    ·rw [List.mem_singleton] at hl;subst hl;omega)
   rw [hls] at HS;have HC4:=I' (HC3.out.below hb4 O');have HO4:=I' (HO3.out.belowB hb4 HF1.out);have HRM4:=I' (HRM3.out.keep fun g hg=>hb4.block g (HRL.out g hg));have HU4:=I' (HU3.out.thenB hb4 O');have HOK:=I' (fun h=>labelsR_wt (sortLabelsR_ok (xs:=xs++[y]) h));have hzz:=hb4.size;clear fH HCS hown4 hg4 hb4 hown3 hu3 HROW2 HRC HO1 HU1 HC1 RZ HU2 HCU HC3 HO3 HU3 HF1;refine HS.mono ?_;clear HS;generalize sortLabelsR (xs++[y]) = R at *;obtain ⟨u,b⟩:=R;rintro e w5 ⟨A6,c6,G6,rfl,iD,hb6,Jg⟩;have HC5:=I' (HC4.out.ext hb6);have HO5:=I' (HO4.out.ext hb6);have HRM5:=I' (HRM4.out.ext hb6);replace Jg:=I' Jg;have HU5:=I' (HU4.out.thenB hb6 O');replace iD:=I' (iD.mono (B':=w.heap.size) O');have hkr1:(k:Int)+1≤3:=O';exact Zae8
  ·exact Zadb
theorem Labels_draw (w:World) (c:Nat) (A:Option Addr) (n cap:Nat) (h:DCur w c A n cap) :
 Calls Tryz.prog 165 #[.pointer (some ⟨c,0,none⟩)] w fun e w'=>∃(xs:List Label) (A':Option Addr) (c':Nat) (G:List Nat),e = .returned (.slice A' xs.length c')∧Own w' w.heap.size xs [.slice A' xs.length c'] G∧kL Label.wt xs≤306∧DCur w' c A n cap∧nN [c] w w' :=
 (Labels_room w c A n cap h).mono fun _ _ ⟨xs,A',c',G,a,b,d,e,f,_⟩=>⟨xs,A',c',G,a,b,d,e,f⟩
end Go.Proofs.YtkjeocdobidadaaGreat
