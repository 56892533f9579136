/- A table of rows in one block: elements are swapped in place. No condition. -/
import Derived.Test.YtkjeocdobidadaaGreatData
import Derived.Test.YtkjeocdobidadaaGreatMark
import Derived.Deep.RegionLaw
import Derived.Deep.RegionWith
import Derived.Test.YtkjeocdobidadaaGreatDeed
import Derived.Test.YtkjeocdobidadaaGreatRowK
namespace Go.Proofs.YtkjeocdobidadaaGreat
open Go.ChangeShapes Go.WideShapes Go.ChangeAt Go.RowKit
set_option linter.unusedVariables false
set_option linter.unusedSimpArgs false
section
variable {β:Type} {row:β→List Value} {S:Nat}
def Tab (row:β→List Value) (S:Nat) (w:World) (b o:Nat) (D:List β):Prop:=∀k x,D[k]? = some x→∀j u,(row x)[j]? = some u→w.cell? ⟨b,o+k * S+j,none⟩ = some u
theorem Tab.put {w:World} {b o:Nat} {D:List β} (h:Tab row S w b o D) (hS:∀x,(row x).length = S) {i:Nat} (hi:i < D.length) (y:β):Tab row S (w.setCells b (o+i * S) (row y)) b o (D.set i y):=by
 intro k x hk j u hj;have hj2:j < S:=by rw [← hS x];exact (List.getElem?_eq_some_iff.1 hj).1
 have hex:∀q,q < (row y).length→(w.cell? ⟨b,o+i * S+q,none⟩).isSome = true:=fun q hq=>by
  rw [hS] at hq;have hx:=h i D[i] (List.getElem?_eq_getElem hi) q ((row D[i])[q]'(by rw [hS];exact hq)) (List.getElem?_eq_getElem _);rw [hx];rfl
 by_cases hik:i = k
 ·subst hik;rw [List.getElem?_set_self hi] at hk;obtain rfl:=Option.some.inj hk;have:=World.cell?_setCells_in b (row y) (o+i * S) w hex j (by rw [hS];exact hj2);rw [this,← hj];exact (List.getElem?_eq_getElem _).symm
 ·rw [List.getElem?_set_ne hik] at hk;rw [World.cell?_setCells_out b _ _ _ _ (fun _ _=>?_)]
  ·exact h k x hk j u hj
  ·dsimp only;rw [hS];rcases Nat.lt_or_gt_of_ne hik with h1 | h1
   ·right;have:(i+1) * S≤k * S:=Nat.mul_le_mul_right _ h1;rw [Nat.succ_mul] at this;omega
   ·left;have:(k+1) * S≤i * S:=Nat.mul_le_mul_right _ h1;rw [Nat.succ_mul] at this;omega
theorem Tab.at_ {w:World} {b o:Nat} {D:List β} (h:Tab row S w b o D) {k:Nat} (hk:k < D.length) {j:Nat} {u:Value} (hj:(row D[k])[j]? = some u):w.cell? ⟨b,o+k * S+j,none⟩ = some u:=h k D[k] (List.getElem?_eq_getElem hk) j u hj
theorem Tab.keep {w w':World} {b o:Nat} {D:List β} (h:Tab row S w b o D) (hk:w'.heap[b]? = w.heap[b]?):Tab row S w' b o D:=fun k x hx j u hj=>(World.cell?_of_block hk).trans (h k x hx j u hj)
theorem Tab.ext {w w':World} {b o:Nat} {D:List β} (h:Tab row S w b o D) (hb:b < w.heap.size) (he:Below w.heap.size w w'):Tab row S w' b o D:=h.keep (he.block b hb)
structure jJ (row:β→List Value) (S:Nat) (w0 w:World) (b o:Nat) (D:List β):Prop where
 tab:Tab row S w b o D
 plain:Plain w b
 upd:nN [b] w0 w
theorem jJ.ext {w0 w w':World} {b o:Nat} {D:List β} (h:jJ row S w0 w b o D) (he:Below w.heap.size w w'):jJ row S w0 w' b o D :=
 ⟨h.tab.ext h.plain.lt he,by obtain ⟨ds,t,hp⟩:=h.plain;exact ⟨ds,t,(he.block b h.plain.lt).trans hp⟩,h.upd.trans (nN.lq _ he)⟩
theorem jJ.put {w0 w:World} {b o:Nat} {D:List β} (h:jJ row S w0 w b o D) (hS:∀x,(row x).length = S) {i:Nat} (hi:i < D.length) (y:β):jJ row S w0 (w.setCells b (o+i * S) (row y)) b o (D.set i y):=by
 refine ⟨h.tab.put hS hi y,EK b _ _ _ h.plain,?_⟩;have e:=F8 b (row y) (o+i * S) w;exact h.upd.trans ⟨e.1,e.2.1,e.2.2,by rw [setCells_size];exact Nat.le_refl _,fun k _ hk=>vV b (by simpa using hk) _ _ _⟩
end
end Go.Proofs.YtkjeocdobidadaaGreat
namespace Go.Proofs.YtkjeocdobidadaaGreat
set_option linter.unusedVariables false
set_option linter.unusedSimpArgs false
def kS {β:Type} (cv:β→β→Int) (x y:β):Bool:=decide (cv x y < 0)
section
variable {β:Type} {lt:β→β→Bool}
theorem Sorted.at_ {l:List β} (h:Sorted lt l) {t u:Nat} (htu:t < u) (hu:u < l.length):lt l[u] (l[t]'O') = false :=
 List.pairwise_iff_getElem.1 h t u O' hu htu
end
end Go.Proofs.YtkjeocdobidadaaGreat
namespace Go.Proofs.YtkjeocdobidadaaGreat
open Go.ChangeShapes Go.WideShapes Go.ChangeAt Go.RowKit
set_option linter.unusedVariables false
set_option linter.unusedSimpArgs false
structure Eb where
 name:ByteArray
 la:Option Addr
 ln:Nat
 lc:Nat
 cpu:Int
 mem:Int
 rank:Int
 na:Option Addr
 nn:Nat
 nc:Nat
 ta:Option Addr
 tn:Nat
 tc:Nat
 on:ByteArray
 seq:Int
def tH (x:Eb):List Value:=[.string x.name,.slice x.la x.ln x.lc,.int .i64 x.cpu,.int .i64 x.mem,.int .i64 x.rank,.slice x.na x.nn x.nc,.slice x.ta x.tn x.tc,.string x.on,.int .i64 x.seq]
section
end
end Go.Proofs.YtkjeocdobidadaaGreat
namespace Go.Proofs.YtkjeocdobidadaaGreat
open Go.ChangeShapes Go.WideShapes Go.ChangeAt Go.RowKit
set_option linter.unusedVariables false
set_option linter.unusedSimpArgs false
abbrev ao9:=ByteArray × Int × Int
def wkI (a b:ao9):List Int:=[Lib.compareInt b.2.1 a.2.1,Lib.compareInt a.2.2 b.2.2]
def wkV (a b:ao9):Int:=Qa (wkI a b)
def wKeyOf (p:Placed):ao9:=(p.aS.name,p.aS.rank,p.seq)
def pend (ps:List Placed):List ao9:=(ps.filter fun p=>p.on.toList == []).map wKeyOf
def GI (ps:List Placed):List ByteArray:=(sortB (kS wkV) [] (pend ps)).map fun k=>k.1
theorem alD (a b:ao9):kS wkV a b = true↔b.2.1 < a.2.1∨(a.2.1 = b.2.1∧a.2.2 < b.2.2):=by
 unfold kS wkV wkI Qa Qa;rw [decide_eq_true_eq];unfold Lib.compareInt;by_cases h1:b.2.1 < a.2.1
 ·simp [h1]
 ·by_cases h2:a.2.1 < b.2.1
  ·simp [h1,h2];omega
  ·have h3:a.2.1 = b.2.1:=O';simp [h3,Qa];by_cases h4:a.2.2 < b.2.2
   ·simp [h4]
   ·by_cases h5:b.2.2 < a.2.2
    ·simp [h4,h5]
    ·simp [h4,h5]
theorem anD {ps:List Placed} {k:Nat} (h:k < ps.length) (hp:(ps[k].on.toList == []) = true):pend (ps.take (k+1)) = pend (ps.take k)++[wKeyOf ps[k]]:=by
 have e:List.filter (fun p:Placed=>p.on.toList == []) [ps[k]] = [ps[k]]:=List.filter_eq_self.2 fun a ha=>by rw [List.mem_singleton.1 ha];exact hp
 unfold pend;rw [List.take_succ_eq_append_getElem h,List.filter_append,List.map_append,e];rfl
theorem apO {ps:List Placed} {k:Nat} (h:k < ps.length) (hp:(ps[k].on.toList == []) = false):pend (ps.take (k+1)) = pend (ps.take k):=by
 have e:List.filter (fun p:Placed=>p.on.toList == []) [ps[k]] = []:=List.filter_eq_nil_iff.2 fun a ha=>by rw [List.mem_singleton.1 ha,hp];simp
 unfold pend;rw [List.take_succ_eq_append_getElem h,List.filter_append,List.map_append,e];simp
theorem anF (ps:List Placed):(pend ps).length≤ps.length:=by unfold pend;rw [List.length_map];exact List.length_filter_le _ _
theorem ap3 (ps:List Placed):(GI ps).length≤ps.length:=by unfold GI;rw [List.length_map,rD];have:=anF ps;simp;omega
end Go.Proofs.YtkjeocdobidadaaGreat
namespace Go.Proofs.YtkjeocdobidadaaGreat
open Go.ChangeShapes Go.WideShapes Go.ChangeAt Go.RowKit
set_option linter.unusedVariables false
set_option linter.unusedSimpArgs false
set_option maxHeartbeats 2000000
set_option maxRecDepth 100000
theorem l15Copy_row (xs:List Need) (A:Option Addr) (c:Nat) (F:List Nat) (w:World) (h:Sl w xs A c F) (hl:(xs.length:Int)≤1048576) (hv:∀x∈xs,(x.values.length:Int)≤1048576) :
 Calls Tryz.prog 72 #[.slice A xs.length c] w fun e w'=>∃v ds F',e = .returned v∧w'.ownsRow w.heap.size 110 3 v xs.length ds∧aY w' w.heap.size xs ds F'∧(∀g,v.ownBlock = some g→g∉F')∧Below w.heap.size w w':=by
 have HV:=I' hv;clear hv;go_enter Tryz.func72,Tryz.ntmps72;go_wp2_with fail
 go_loopw [3,4] (fun v i wr=>∃(k:Nat) (ds:List Value) (F':List Nat),k≤xs.length∧i = .int .i64 k∧wr.ownsRow w.heap.size 110 3 v k ds∧aY wr w.heap.size (xs.take k) ds F'∧(∀g,v.ownBlock = some g→g∉F')∧Below w.heap.size w wr) (fun _ i _=>xs.length - (intOf i).toNat)
 case atStart=>exact ⟨0,[],[],Nat.zero_le _,rfl,World.ownsRow_made (size:=3) w #[] 0 (Nat.le_refl _) (Nat.zero_le _) S',aY.nil _ _,(fun g _ hm=>by cases hm),ak (aj _) _⟩
 case round =>
  obtain ⟨k,ds,F',hk,rfl,hown,hO,hne,hbl⟩:=hrel;by_cases hlt:k < xs.length
  ·obtain ⟨b,o,ck,Fk,rfl,o9,hbs,hr,hsub2,hc⟩:=(h.ext hbl).get hlt;obtain ⟨pX,pY,KG,hck,hF1,xO,hop1,wO⟩:=og hr;subst hck;clear hF1 hr;have q0:wr.cell? ⟨b,o+k * 3,none⟩ = some (.string xs[k].key):=(by exact hc 0 _ rfl);have q1:wr.cell? ⟨b,o+k * 3+1,none⟩ = some (.int .i64 xs[k].op):=(by rw [Nat.add_assoc];exact hc 1 _ rfl);have q2:wr.cell? ⟨b,o+k * 3+2,none⟩ = some (.slice pX xs[k].values.length pY):=(by rw [Nat.add_assoc];exact hc 2 _ rfl);clear hc;have hvl:=HV.out xs[k] (List.getElem_mem hlt);obtain ⟨Av,cv,hv0⟩:=mY hown;subst hv0;have HO:=I' hown;have HN:=I' hne;have HBL:=I' hbl;have Y6:=I' hO.lt;clear hown hne hbl;have hbox:=oG.new wr [.string xs[k].key,.int .i64 xs[k].op,.slice pX xs[k].values.length pY] 110
   have HM:=I' (show ((wr.alloc (.cells ([.string xs[k].key,.int .i64 xs[k].op,.slice pX xs[k].values.length pY]:List Value).toArray 110)).alloc (.cells #[] 9)).ownsRow (wr.heap.size+1) 9 1 (.slice (some ⟨wr.heap.size+1,0,none⟩) 0 0) 0 [] from by
    have:=World.ownsRow_made (base:=wr.heap.size+1) (e:=9) (size:=1) (wr.alloc (.cells ([.string xs[k].key,.int .i64 xs[k].op,.slice pX xs[k].values.length pY]:List Value).toArray 110)) #[] 0 S' (Nat.zero_le _) S';rw [World.size_alloc] at this
    exact this)
   go_wp2_with (first
    | (at_builtin
       refine rW (o:=⟨some 20,_,_,_,_,_⟩) Ud J' J' _ _ J' _ (wr.heap.size+1) _ 0 [] HM.out J' xs[k].values pX pY _ (wO.ext (ak (ak (aj _) _) _)) J' O' O' S' ?_;intro v2 w2 ds2 G hrc hsub hown2 hg hat;go_must (obtain ⟨A2,c2,hv2⟩:=mY hown2)
       go_must (subst hv2)
       go_must (simp only [Nat.zero_add,List.nil_append] at hown2)
       go_must (have hb2:Below wr.heap.size wr w2:=lS (vP HM.out (Nat.le_succ _)) hg (ak (ak (aj _) _) _) (by simp;omega))
       go_must (have afr:oG w2 wr.heap.size [.string xs[k].key,.int .i64 xs[k].op,.slice pX xs[k].values.length pY]:=hbox.keep ((hg.block _ (by simp;omega) avf).trans (heap_alloc_old _ _ S')))
       go_must (have hrc2:jo w2 xs[k].values ds2 G:=hrc.frame (fun b hb=>hg.block b (hrc.lt b hb) (fun e=>by have:=(wO.lt b (hsub b hb));simp [Value.ownBlock] at e;omega)) hg.size)
       go_must (obtain ⟨A3,c3,G3,hv3,hO2⟩:=Own.of_flat P8 hown2 hrc2)
       go_must (simp only [Value.slice.injEq,true_and] at hv3)
       go_must (obtain ⟨rfl,rfl⟩:=hv3)
       go_must (have k0:=afr.cell (i:=0) (u:=.string xs[k].key) rfl)
       go_must (have k1:=afr.cell (i:=1) (u:=.int .i64 xs[k].op) rfl)
       go_must (have k2:=afr.cell (i:=2) (u:=.slice pX xs[k].values.length pY) rfl)
       go_must (have kl:=afr.lt)
       go_must (have kf:=afr.fz 2)
       go_must (have hOn:Own w2 (wr.heap.size+1) xs[k] [.string xs[k].key,.int .i64 xs[k].op,.slice A2 xs[k].values.length c2] G3:=Own.up (B':=wr.heap.size+1) (fun x:Need=>(x.key,x.op,x.values)) (Own.cons (c1:=[.string xs[k].key]) (rdStr _ _ (rV xO)) (Own.cons (c1:=[.int .i64 xs[k].op]) (jL _ _ hop1) hO2)) (Nat.le_refl _))
       go_must (have hOs:=hOn.setCell (p:=⟨wr.heap.size,2,none⟩) (Nat.lt_succ_self _) (.slice A2 xs[k].values.length c2))
       go_must (have hrow:(w2.setCell ⟨wr.heap.size,2,none⟩ (.slice A2 xs[k].values.length c2)).ownsRow w.heap.size 110 3 (.slice Av k cv) k ds:=EJ (mG HO.out hb2) (fun g hg=>by have:=(HO.out.lt g hg).2;omega))
       go_must (have hcs:aY (w2.setCell ⟨wr.heap.size,2,none⟩ (.slice A2 xs[k].values.length c2)) w.heap.size (xs.take k) ds F':=(hO.ext hb2).keep (fun y hy=>Below.heap_setCell _ _ _ _ (by have:=hO.lt y hy;dsimp only;omega)) aua)
       go_must (have hbS:Below wr.heap.size wr (w2.setCell ⟨wr.heap.size,2,none⟩ (.slice A2 xs[k].values.length c2)):=aC hb2 (Nat.le_refl _) _)
       go_must (have hbx:=afr.put 2 (.slice A2 xs[k].values.length c2))
       go_must (have HOS:=I' hOs)
       go_must (have HR:=I' hrow)
       go_must (have HC:=I' hcs)
       go_must (have HBS:=I' hbS)
       go_must (have hzz:=hbS.size)
       go_must (clear hOn hO2 hrc hrc2 hown2 hO hbox afr hg hat hb2 hOs hcs hbS))
    | (at_builtin
       refine uf (o:=⟨some 25,_,_,_,_,_⟩) apf J' _ _ J' _ _ _ _ _ hrow J' [.string xs[k].key,.int .i64 xs[k].op,.slice A2 xs[k].values.length c2] aue J' aub O' O' (by have:=HBL.out.size;omega) ?_
       intro v4 w4 hown4 hg4 Wy hat4))
   have hbl:=HBL.out;obtain ⟨hcs4,hne4⟩:=aY.afm (v':=v4) HR.out HC.out HN.out HOS.out (by have:=hbl.size;omega) (fun g hg=>by have:=(HO.out.lt g hg).2;omega) (fun y hy=>by have:=Y6.out y hy;omega) hg4 hat4;rw [← List.take_succ_eq_append_getElem hlt] at hcs4;exact ⟨⟨k+1,_,_,O',N',hown4,hcs4,hne4,lS (vP HR.out (Nat.le_refl _)) hg4 (ah hbl HBS.out) (by have:=hbl.size;omega)⟩,by simp [intOf];omega⟩
  ·have hkl:k = xs.length:=O';subst hkl;rw [List.take_length] at hO;obtain ⟨Ah,ch,hvh⟩:=mY hown;subst hvh;have HO:=I' hown;clear hown;go_wp2;go_ret
   exact ⟨_,ds,F',rfl,HO.out,hO,hne,hbl⟩
theorem alR (xs:List Need) (A:Option Addr) (c:Nat) (F:List Nat) (w:World) (h:Sl w xs A c F) (hl:(xs.length:Int)≤1048576) (hv:∀x∈xs,(x.values.length:Int)≤1048576) :
 Calls Tryz.prog 72 #[.slice A xs.length c] w fun e w'=>∃A' c' F',e = .returned (.slice A' xs.length c')∧Own w' w.heap.size xs [.slice A' xs.length c'] F'∧Below w.heap.size w w' :=
 (l15Copy_row xs A c F w h hl hv).mono fun e w' ⟨v,ds,F',he,hown,hO,hne,hb⟩=>by
  obtain ⟨Ah,ch,Gh,rfl,Xp⟩:=Own.oJ hown hO hne;exact ⟨_,_,_,he,Xp,hb⟩
end Go.Proofs.YtkjeocdobidadaaGreat
