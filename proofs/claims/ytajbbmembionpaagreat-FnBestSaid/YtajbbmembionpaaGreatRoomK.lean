/- Rows of the call's own whose spare cells are known. No condition. -/
import Derived.Test.YtajbbmembionpaaGreatDrawB
import Derived.Deep.RegionLaw
namespace Go.Proofs.YtajbbmembionpaaGreat
open Go.ChangeShapes Go.WideShapes Go.ChangeAt Go.RowKit
set_option linter.unusedVariables false
set_option linter.unusedSimpArgs false
set_option maxHeartbeats 2000000
set_option maxRecDepth 100000
structure Roomy (α:Type) where
 l:List α
 t:TypeId
instance {α:Type} [ba α]:ba (Roomy α) where
 size:=1
 pos:=by omega
 rd w x cs F:=rd w x.l cs F∧((x.l = []∧cs = [.slice none 0 0])∨∃g c dy G,x.l≠[]∧cs = [.slice (some ⟨g,0,none⟩) x.l.length c]∧F = g :: G∧w.heap[g]? = some (.cells dy x.t (0,0))∧dy.size = c * ba.size α)
 len h:=ba.len h.1
 one h:=ba.one h.1
 lt h:=ba.lt h.1
 frame h hk hz:=⟨ba.frame h.1 hk hz,by
  rcases h.2 with h2 | ⟨g,c,dy,G,h0,h1,h2,h3,h4⟩
  ·exact .inl h2
  ·exact .inr ⟨g,c,dy,G,h0,h1,h2,(hk g (by rw [h2];exact List.mem_cons_self ..)).trans h3,h4⟩⟩
section
variable {α:Type} [ba α] {w:World} {B:Nat} {xs:List α} {ds:List Value} {F:List Nat}
theorem am.list {cs:List Value} {t:TypeId} (h:am w B (Roomy.mk xs t) cs F):am w B xs cs F:=⟨h.rd.1,h.nodup,h.base,h.plain⟩
theorem am.Vs {e:TypeId} {v:Value} (h0:w.ownsRow B e (ba.size α) v xs.length ds) (h:aY w B xs ds F) (bN:∀g,v.ownBlock = some g→g∉F) (hv:xs.length = 0→v = .slice none 0 0):∃A c G,v = .slice A xs.length c∧am w B (Roomy.mk xs e) [.slice A xs.length c] G:=by
 obtain ⟨A,c,G,hA,hO⟩:=am.oJ h0 h bN;refine ⟨A,c,G,hA,⟨⟨hO.rd,?_⟩,hO.nodup,hO.base,hO.plain⟩⟩;by_cases hx:xs = []
 ·left;have:=hv (by rw [hx];rfl);rw [this] at hA;exact ⟨hx,by rw [hA]⟩
 ·right;rcases h0.2 with ⟨_,hn⟩ | ⟨g,cap,dy,h1,h2,h3,h4,h5,h6,h7⟩
  ·exact absurd (List.eq_nil_of_length_eq_zero hn) hx
  ·rw [hA] at h1;simp only [Value.slice.injEq,true_and] at h1;obtain ⟨rfl,rfl⟩:=h1;obtain ⟨A',c',G',ds',e0,_,_,_,h8⟩:=hO.rd;simp only [List.cons.injEq,Value.slice.injEq,and_true,true_and] at e0;obtain ⟨rfl,rfl⟩:=e0;rcases h8 with ⟨h9,_⟩ | ⟨b,o,hb,rfl,_,_⟩
   ·exact absurd h9 hx
   ·simp only [Option.some.injEq,Addr.mk.injEq,and_true] at hb;obtain ⟨rfl,rfl⟩:=hb;exact ⟨g,c,dy,G',hx,rfl,rfl,h3,h6⟩
theorem am.o4 {t:TypeId} {A:Option Addr} {c:Nat} (h:am w B (Roomy.mk xs t) [.slice A xs.length c] F):∃ds G,w.ownsRow B t (ba.size α) (.slice A xs.length c) xs.length ds∧aY w B xs ds G∧(∀g,(Value.slice A xs.length c).ownBlock = some g→g∉G)∧(∀b∈G,b∈F):=by
 obtain ⟨⟨A',c',G,ds,e0,hl,hm,hc,h0⟩,h2⟩:=h.rd;simp only [List.cons.injEq,Value.slice.injEq,and_true,true_and] at e0;obtain ⟨rfl,rfl⟩:=e0;rcases h2 with ⟨hx,he⟩ | ⟨g,c',dy,G',hx0,he,hF,hg,hs⟩
 ·simp only at hx;subst hx;simp only [List.length_nil,List.cons.injEq,Value.slice.injEq,and_true,true_and] at he;obtain ⟨rfl,rfl⟩:=he;exact ⟨[],[],⟨S',.inl ⟨rfl,rfl⟩⟩,aY.nil w B,(fun g hg=>by cases hg),(fun b hb=>by cases hb)⟩
 ·simp only [List.cons.injEq,Value.slice.injEq,and_true,true_and] at he;obtain ⟨rfl,rfl⟩:=he;rcases h0 with ⟨hx,qp⟩ | ⟨b,o,hb,oX,aq,bC⟩
  ·rw [qp] at hF;cases hF
  ·simp only [Option.some.injEq,Addr.mk.injEq,and_true] at hb;obtain ⟨rfl,rfl⟩:=hb;subst oX;have hn:=List.nodup_cons.1 h.nodup;have gD:ds.length = xs.length * ba.size α:=hc.len;refine ⟨ds,G,⟨gD,.inr ⟨g,c,dy,rfl,h.base g (List.mem_cons_self ..),hg,hl,hm,hs,?_⟩⟩,⟨hc,hn.2,fun b hb=>h.base b (List.mem_cons_of_mem _ hb),fun b hb=>h.plain b (List.mem_cons_of_mem _ hb)⟩,(fun q hq=>by simp only [Value.ownBlock,Option.some.injEq] at hq;subst hq;exact hn.1),fun b hb=>List.mem_cons_of_mem _ hb⟩;apply List.ext_getElem?;intro j;rw [List.getElem?_take];by_cases hj:j < xs.length * ba.size α
   ·rw [if_pos hj];have hd:ds[j]? = some ds[j]:=List.getElem?_eq_getElem J;have:=bC j _ hd;rw [Nat.zero_add,cell_of_row w g j dy t (0,0) hg] at this;rw [hd,← this];simp
   ·rw [if_neg hj,List.getElem?_eq_none J]
theorem am.room {t:TypeId} {v:Value} {G:List Nat} (h:am w B xs [v] F) (hr:Go.Proofs.YtajbbmembionpaaGreat.ba.rd w (Roomy.mk xs t) [v] G):am w B (Roomy.mk xs t) [v] F:=by
 refine ⟨⟨h.rd,?_⟩,h.nodup,h.base,h.plain⟩;rcases hr.2 with h1 | ⟨g,c,dy,G',h0,h1,h2,h3,h4⟩
 ·exact .inl h1
 ·refine .inr ⟨g,c,dy,?_⟩;obtain ⟨A',c',G2,ds,e0,hl,hm,hc,h5⟩:=h.rd;rcases h5 with ⟨hx,_⟩ | ⟨b,o,hb,hF,_,_⟩
  ·exact absurd hx h0
  ·subst hb;rw [e0] at h1;simp only [List.cons.injEq,Value.slice.injEq,Option.some.injEq,Addr.mk.injEq,and_true,true_and] at h1;refine ⟨G2,h0,?_,?_,h3,h4⟩
   ·rw [e0,h1.1.1,h1.1.2,h1.2]
   ·rw [hF,h1.1.1]
end
def I0 (x:aU) (w:World) (cs:List Value):Prop:=∃Ah ch Ap cp Gh Gp rest,cs = .slice Ah x.aa.length ch :: .slice Ap x.au.length cp :: rest∧Go.Proofs.YtajbbmembionpaaGreat.ba.rd w (Roomy.mk x.aa 47) [.slice Ah x.aa.length ch] Gh∧Go.Proofs.YtajbbmembionpaaGreat.ba.rd w (Roomy.mk x.au 53) [.slice Ap x.au.length cp] Gp
theorem MN (xs:List aD) (A:Option Addr) (c:Nat) (F:List Nat) (w:World) (h:Sl w xs A c F) (hl:(xs.length:Int)≤1048576) (hv:∀x∈xs,(x.values.length:Int)≤1048576) :
 Calls Tryz.prog 35 #[.slice A xs.length c] w fun e w'=>∃v ds F',e = .returned v∧w'.ownsRow w.heap.size 70 3 v xs.length ds∧aY w' w.heap.size xs ds F'∧(∀g,v.ownBlock = some g→g∉F')∧Below w.heap.size w w':=by
 have HV:=I hv;clear hv;go_enter Tryz.func35,Tryz.ntmps35;go_wp2_with fail
 go_loopw [3,4] (fun v i wr=>∃(k:Nat) (ds:List Value) (F':List Nat),k≤xs.length∧i = .int .i64 k∧wr.ownsRow w.heap.size 70 3 v k ds∧aY wr w.heap.size (xs.take k) ds F'∧(∀g,v.ownBlock = some g→g∉F')∧Below w.heap.size w wr) (fun _ i _=>xs.length - (intOf i).toNat)
 case atStart=>exact ⟨0,[],[],Nat.zero_le _,rfl,World.ownsRow_made (size:=3) w #[] 0 (Nat.le_refl _) (Nat.zero_le _) S',aY.nil _ _,(fun g _ hm=>by cases hm),ak (aj _) _⟩
 case round =>
  obtain ⟨k,ds,F',hk,rfl,bd,hO,bN,ax⟩:=hrel;by_cases aq:k < xs.length
  ·obtain ⟨b,o,ck,Fk,rfl,o9,bc,hr,oY,hc⟩:=(h.ext ax).get aq;obtain ⟨pX,pY,KG,aw,hF1,xO,oa,wO⟩:=og hr;subst aw;clear hF1 hr;obtain ⟨q0,q1,q2⟩:=qB 3 hc;clear hc;have hvl:=HV.out xs[k] (List.getElem_mem aq);obtain ⟨Av,cv,f9⟩:=mY bd;subst f9;have HO:=I bd;have HN:=I bN;have CW:=I ax;have Y6:=I hO.lt;clear bd bN ax;have I5:=oG.new wr [.string xs[k].key,.int .i64 xs[k].op,.slice pX xs[k].values.length pY] 70
   have HM:=I (show ((wr.alloc (.cells ([.string xs[k].key,.int .i64 xs[k].op,.slice pX xs[k].values.length pY]:List Value).toArray 70)).alloc (.cells #[] 9)).ownsRow (wr.heap.size+1) 9 1 (.slice (some ⟨wr.heap.size+1,0,none⟩) 0 0) 0 [] from by
    have:=World.ownsRow_made (base:=wr.heap.size+1) (e:=9) (size:=1) (wr.alloc (.cells ([.string xs[k].key,.int .i64 xs[k].op,.slice pX xs[k].values.length pY]:List Value).toArray 70)) #[] 0 S' (Nat.zero_le _) S';rw [World.size_alloc] at this
    exact this)
   go_wp2_with (first
    | (at_builtin
       refine rW (o:=⟨some 20,_,_,_,_,_⟩) Ud O O _ _ O _ (wr.heap.size+1) _ 0 [] HM.out O xs[k].values pX pY _ (wO.ext (ak (ak (aj _) _) _)) O J J S' ?_;intro v2 w2 PE G dq bv ej hg cQ;go_must (obtain ⟨A2,c2,gF⟩:=mY ej)
       go_must (subst gF)
       go_must (simp only [Nat.zero_add,List.nil_append] at ej)
       go_must (have ap:Below wr.heap.size wr w2:=lS (vP HM.out (Nat.le_succ _)) hg (ak (ak (aj _) _) _) (by simp;omega))
       go_must (have Aw:oG w2 wr.heap.size [.string xs[k].key,.int .i64 xs[k].op,.slice pX xs[k].values.length pY]:=I5.keep ((hg.block _ (by simp;omega) OJ).trans (heap_alloc_old _ _ S')))
       go_must (have qt:jo w2 xs[k].values PE G:=dq.frame (fun b hb=>hg.block b (dq.lt b hb) (fun e=>by have:=(wO.lt b (bv b hb));simp [Value.ownBlock] at e;omega)) hg.size)
       go_must (obtain ⟨A3,c3,G3,kX,bE⟩:=am.of_flat P8 ej qt)
       go_must (simp only [Value.slice.injEq,true_and] at kX)
       go_must (obtain ⟨rfl,rfl⟩:=kX)
       go_must (have k0:=Aw.cell (i:=0) (u:=.string xs[k].key) rfl)
       go_must (have k1:=Aw.cell (i:=1) (u:=.int .i64 xs[k].op) rfl)
       go_must (have k2:=Aw.cell (i:=2) (u:=.slice pX xs[k].values.length pY) rfl)
       go_must (have kl:=Aw.lt)
       go_must (have kf:=Aw.fz 2)
       go_must (have C8:am w2 (wr.heap.size+1) xs[k] [.string xs[k].key,.int .i64 xs[k].op,.slice A2 xs[k].values.length c2] G3:=am.up (B':=wr.heap.size+1) (fun x:aD=>(x.key,x.op,x.values)) (am.cons (c1:=[.string xs[k].key]) (rdStr _ _ (rV xO)) (am.cons (c1:=[.int .i64 xs[k].op]) (jL _ _ oa) bE)) (Nat.le_refl _))
       go_must (have VO:=C8.setCell (p:=⟨wr.heap.size,2,none⟩) (Nat.lt_succ_self _) (.slice A2 xs[k].values.length c2))
       go_must (have bk:(w2.setCell ⟨wr.heap.size,2,none⟩ (.slice A2 xs[k].values.length c2)).ownsRow w.heap.size 70 3 (.slice Av k cv) k ds:=EJ (mG HO.out ap) (fun g hg=>by have:=(HO.out.lt g hg).2;omega))
       go_must (have cA:aY (w2.setCell ⟨wr.heap.size,2,none⟩ (.slice A2 xs[k].values.length c2)) w.heap.size (xs.take k) ds F':=(hO.ext ap).keep (fun y hy=>Below.heap_setCell _ _ _ _ (by have:=hO.lt y hy;dsimp only;omega)) eI)
       go_must (have PF:Below wr.heap.size wr (w2.setCell ⟨wr.heap.size,2,none⟩ (.slice A2 xs[k].values.length c2)):=aC ap (Nat.le_refl _) _)
       go_must (have aE:=Aw.put 2 (.slice A2 xs[k].values.length c2))
       go_must (have HOS:=I VO)
       go_must (have HR:=I bk)
       go_must (have HC:=I cA)
       go_must (have MP:=I PF)
       go_must (have MQ:=PF.size)
       go_must (clear C8 bE dq qt ej hO I5 Aw hg cQ ap VO cA PF))
    | (at_builtin
       refine uf (o:=⟨some 25,_,_,_,_,_⟩) apf O _ _ O _ _ _ _ _ bk O [.string xs[k].key,.int .i64 xs[k].op,.slice A2 xs[k].values.length c2] jI O eC J J (by have:=CW.out.size;omega) ?_
       intro v4 w4 cZ ia Wy ky))
   have ax:=CW.out;obtain ⟨mI,hne4⟩:=aY.qF (v':=v4) HR.out HC.out HN.out HOS.out (by have:=ax.size;omega) (fun g hg=>by have:=(HO.out.lt g hg).2;omega) (fun y hy=>by have:=Y6.out y hy;omega) ia ky;rw [← List.take_succ_eq_append_getElem aq] at mI;exact ⟨⟨k+1,_,_,J,N',cZ,mI,hne4,lS (vP HR.out (Nat.le_refl _)) ia (ah ax MP.out) (by have:=ax.size;omega)⟩,by simp [intOf];omega⟩
  ·have bB:k = xs.length:=J;subst bB;rw [List.take_length] at hO;obtain ⟨Ah,ch,hvh⟩:=mY bd;subst hvh;have HO:=I bd;clear bd;go_wp2;go_ret
   exact ⟨_,ds,F',rfl,HO.out,hO,bN,ax⟩
theorem MR (xs:List aD) (A:Option Addr) (c:Nat) (F:List Nat) (w:World) (h:Sl w xs A c F) (hl:(xs.length:Int)≤1048576) (hv:∀x∈xs,(x.values.length:Int)≤1048576) :
 Calls Tryz.prog 35 #[.slice A xs.length c] w fun e w'=>∃A' c' F',e = .returned (.slice A' xs.length c')∧am w' w.heap.size xs [.slice A' xs.length c'] F'∧Below w.heap.size w w' :=
 (MN xs A c F w h hl hv).mono fun e w' ⟨v,ds,F',he,bd,hO,bN,hb⟩=>by
  obtain ⟨Ah,ch,Gh,rfl,Xp⟩:=am.oJ bd hO bN;exact ⟨_,_,_,he,Xp,hb⟩
def kS {β:Type} (cv:β→β→Int) (x y:β):Bool:=decide (cv x y < 0)
section
variable {β:Type} {lt:β→β→Bool}
theorem bL.at_ {l:List β} (h:bL lt l) {t u:Nat} (htu:t < u) (hu:u < l.length):lt l[u] (l[t]'J) = false :=
 List.pairwise_iff_getElem.1 h t u J hu htu
theorem UX {l:List β} {k:Nat} {z:β} (h:z∈l.take k):∃t,∃ht:t < l.length,t < k∧l[t] = z:=by
 obtain ⟨t,ht,e⟩:=List.mem_iff_getElem.1 h;rw [List.length_take] at ht;exact ⟨t,J,J,by rw [← e,List.getElem_take]⟩
theorem UY {l:List β} {k:Nat} {z:β} (h:z∈l.drop k):∃t,∃ht:t < l.length,k≤t∧l[t] = z:=by
 obtain ⟨t,ht,e⟩:=List.mem_iff_getElem.1 h;rw [List.length_drop] at ht;exact ⟨k+t,J,J,by rw [← e,List.getElem_drop]⟩
theorem acA (W:dm lt) {r:List β} (hr:bL lt r) {x:β} {k:Nat} (hk:k < r.length) (h:lt r[k] x = true):∀y∈r.take (k+1),lt y x = true:=by
 intro y hy;obtain ⟨t,ht,qD,rfl⟩:=UX hy;rcases Nat.lt_or_ge t k with h1 | h1
 ·exact W.right (hr.at_ h1 hk) h
 ·obtain rfl:t = k:=by omega
  exact h
theorem ad7 (W:dm lt) {r:List β} (hr:bL lt r) {x:β} {k:Nat} (hk:k < r.length) (h:lt r[k] x = false):∀y∈r.drop k,lt y x = false:=by
 intro y hy;obtain ⟨t,ht,qD,rfl⟩:=UY hy;rcases Nat.lt_or_ge k t with h1 | h1
 ·exact W.neg _ _ _ (hr.at_ h1 ht) h
 ·obtain rfl:t = k:=by omega
  exact h
theorem acB (W:dm lt) {l:List β} (hl:bL lt l) {y:β} {k:Nat} (hk:k < l.length) (h:lt y l[k] = false):∀x∈l.take (k+1),lt y x = false:=by
 intro x hx;obtain ⟨t,ht,qD,rfl⟩:=UX hx;rcases Nat.lt_or_ge t k with h1 | h1
 ·exact W.neg _ _ _ h (hl.at_ h1 hk)
 ·obtain rfl:t = k:=by omega
  exact h
theorem Z9 (W:dm lt) {l:List β} (hl:bL lt l) {y:β} {k:Nat} (hk:k < l.length) (h:lt y l[k] = true):∀x∈l.drop k,lt y x = true:=by
 intro x hx;obtain ⟨t,ht,qD,rfl⟩:=UY hx;rcases Nat.lt_or_ge k t with h1 | h1
 ·exact W.left h (hl.at_ h1 ht)
 ·obtain rfl:t = k:=by omega
  exact h
theorem Yw {x:β} {r:List β} {k:Nat} (h1:∀y∈r.take k,lt y x = true) (h2:∀y∈r.drop k,lt y x = false):fO lt [x] r = r.take k++x :: r.drop k:=by
 have:=aeO h1 h2;rwa [List.take_append_drop] at this
theorem WR {y:β} {l:List β} {k:Nat} (h1:∀x∈l.take k,lt y x = false) (h2:∀x∈l.drop k,lt y x = true):fO lt l [y] = l.take k++y :: l.drop k:=by
 have:=UU h1 h2;rwa [List.take_append_drop] at this
theorem ali (W:dm lt) {l r:List β} (hl:bL lt l) (hr:bL lt r) {d s lo hi:Nat} (lv:lo = 0∨lo+r.length = d) (t6:hi = l.length∨hi = d) (h1:lo≤s) (h2:s≤hi) (hd:s≤d) (ju:s≤l.length)
 (p1:s = lo∨∃x y,l[s - 1]? = some x∧r[d - s]? = some y∧lt y x = false) (p2:s = hi∨∃x y,l[s]? = some x∧r[d - 1 - s]? = some y∧lt y x = true) :
 fO lt l r = fO lt (l.take s) (r.take (d - s))++fO lt (l.drop s) (r.drop (d - s)):=by
 rw [← aql W (l1:=l.take s) (l2:=l.drop s) (r1:=r.take (d - s)) (r2:=r.drop (d - s))]
 ·rw [List.take_append_drop,List.take_append_drop]
 ·rw [List.take_append_drop];exact hl
 ·rw [List.take_append_drop];exact hr
 ·by_cases e:s = hi
  ·rcases t6 with h | h
   ·right;left;rw [List.drop_eq_nil_iff];omega
   ·left;rw [show d - s = 0 by omega];rfl
  ·obtain ⟨x,y,hx,hy,aq⟩:=p2.resolve_left e;obtain ⟨tB,rfl⟩:=List.getElem?_eq_some_iff.1 hx;obtain ⟨nu,rfl⟩:=List.getElem?_eq_some_iff.1 hy;by_cases e2:s = d
   ·left;rw [show d - s = 0 by omega];rfl
   ·right;right;refine ⟨r.take (d - 1 - s),_,_,l.drop (s+1),?_,(List.getElem_cons_drop tB).symm,aq⟩;rw [← List.take_succ_eq_append_getElem nu];congr 1;omega
 ·by_cases e:s = lo
  ·rcases lv with h | h
   ·left;rw [show s = 0 by omega];rfl
   ·right;left;rw [List.drop_eq_nil_iff];omega
  ·obtain ⟨x,y,hx,hy,aq⟩:=p1.resolve_left e;obtain ⟨tB,rfl⟩:=List.getElem?_eq_some_iff.1 hx;obtain ⟨nu,rfl⟩:=List.getElem?_eq_some_iff.1 hy;right;right;refine ⟨l.take (s - 1),_,_,r.drop (d - s+1),?_,(List.getElem_cons_drop nu).symm,aq⟩;rw [← List.take_succ_eq_append_getElem tB];congr 1;omega
theorem am3 {s:Nat} (hs:0 < s):∀(n:Nat) (xs:List β),xs.length≤n→(runs lt s xs).length = xs.length:=by
 intro n;induction n with
 | zero =>intro xs h;have:xs = []:=List.eq_nil_of_length_eq_zero J;subst this;rw [UI]
 | succ n ih =>
   intro xs h;rcases Nat.lt_or_ge s xs.length with h1 | h1
   ·rw [Ky hs,List.length_append,rD,ih (xs.drop s) Mn,List.length_take,List.length_drop,List.length_nil];omega
   ·rw [zo h1,rD,List.length_nil];omega
theorem wY (p s r:List β) (x y:β) {n:Nat} (hn:p.length+s.length = n):(p++(s++(x :: y :: r)))[n]? = some x:=by
 subst hn;rw [List.getElem?_append_right J,List.getElem?_append_right J,show p.length+s.length - p.length - s.length = 0 by omega];rfl
theorem wZ (p s r:List β) (x y:β) {n:Nat} (hn:p.length+s.length = n):(p++(s++(x :: y :: r)))[n+1]? = some y:=by
 subst hn;rw [List.getElem?_append_right J,List.getElem?_append_right J,show p.length+s.length+1 - p.length - s.length = 1 by omega];rfl
theorem UZ (p s r:List β) (x z:β) {n:Nat} (hn:p.length+s.length = n):(p++(s++(x :: r))).set n z = p++(s++(z :: r)):=by
 have:=jx (p++s) r x z n (by rw [List.length_append,hn]);simpa only [List.append_assoc] using this
theorem U9 (p s r:List β) (x y z:β) {n:Nat} (hn:p.length+s.length = n):(p++(s++(x :: y :: r))).set (n+1) z = p++(s++(x :: z :: r)):=by
 have:=jx (p++(s++[x])) r y z (n+1) (by simp only [List.length_append,List.length_cons,List.length_nil];omega);simpa only [List.append_assoc,List.cons_append,List.nil_append] using this
theorem ajh (p s r:List β) (x y:β) {n:Nat} (hn:p.length+s.length = n):WQ (p++(s++(x :: y :: r))) n (n+1) = p++(s++(y :: x :: r)):=by
 unfold WQ;rw [wY p s r x y hn,wZ p s r x y hn];dsimp only;rw [UZ p s _ x y hn,U9 p s r y y x hn]
theorem V7 (p s r:List β) (x y:β) {n:Nat} (hn:p.length+s.length = n):WQ (p++(s++(x :: y :: r))) (n+1) n = p++(s++(y :: x :: r)):=by
 unfold WQ;rw [wY p s r x y hn,wZ p s r x y hn];dsimp only;rw [U9 p s r x y x hn,UZ p s _ x y hn]
end
section
variable {β:Type} (nm:β→ByteArray)
theorem TW (W0 w:World) (b o c N:Nat) (p u m v q:List β) (a bb n:Nat) (f:Value) (h:jJ (fun x=>[Value.string (nm x)]) 1 W0 w b o (p++(u++(m++(v++q))))) (hN:(p++(u++(m++(v++q)))).length≤N) (BI:N≤1048576) (ha:Hid (p.length = a)) (hu:Hid (u.length = n)) (hv:Hid (v.length = n)) (hm:Hid (p.length+u.length+m.length = bb)) :
 Calls Tryz.prog 165 #[.slice (some ⟨b,o,none⟩) N c,.int .i64 a,.int .i64 bb,.int .i64 n,f] w fun e w'=>e = .returned (.tuple #[])∧jJ (fun x=>[Value.string (nm x)]) 1 W0 w' b o (p++(v++(m++(u++q)))):=by
 have bR:a+n+m.length+n≤N:=by have e1:=ha.out;have e2:=hu.out;have e3:=hv.out;simp only [List.length_append] at hN;omega
 have fL:bb = a+n+m.length:=by have e1:=ha.out;have e2:=hu.out;have e3:=hm.out;omega
 have py:=I fL;have bo:a+n≤bb:=by omega
 have ap:bb+n≤N:=by omega
 clear fL;go_enter Tryz.func165,Tryz.ntmps165;go_wp2_with fail
 go_loopw [10] (fun i wr=>∃k:Nat,k≤n∧i = .int .i64 k∧jJ (fun x=>[Value.string (nm x)]) 1 W0 wr b o (p++(v.take k++(u.drop k++(m++(u.take k++(v.drop k++q))))))) (fun i _=>n - (intOf i).toNat)
 case atStart=>exact ⟨0,Nat.zero_le _,rfl,by simpa using h⟩
 case round =>
  obtain ⟨k,hk,rfl,hS⟩:=hrel;by_cases aq:k < n
  ·have Xo:k < u.length:=(by have:=hu.out;omega);have CA:k < v.length:=(by have:=hv.out;omega);have Ng:u.length = v.length:=(by rw [hu.out,hv.out]);have gl:=am2 p u m v q k Xo Ng;have gr:=ajg p u m v q k CA Ng;have sg:=am1 p u m v q k Xo Ng;rw [hm.out] at gr sg;rw [ha.out] at gl sg;generalize u[k] = x at gl;generalize v[k] = y at gr;have HS:=I hS;have qx:wr.cell? ⟨b,o+(a+k),none⟩ = some (.string (nm x)):=(by have:=hS.tab _ x gl 0 _ rfl;simpa using this);have qy:wr.cell? ⟨b,o+(bb+k),none⟩ = some (.string (nm y)):=(by have:=hS.tab _ y gr 0 _ rfl;simpa using this);have qf:=hS.plain.frozen;have ql:=hS.plain.lt;have yM:=I gl;have HGR:=I gr;have HSG:=I sg;clear hS gl gr sg Ng;go_wp2_with fail
   go_region
   go_wp2;have h2:=HS.out.swap_ (fun _=>rfl) yM.out HGR.out;rw [HSG.out,Nat.mul_one,Nat.mul_one] at h2;exact ⟨⟨k+1,J,N',jJ.ext h2 (aA (aj _))⟩,by simp [intOf];omega⟩
  ·have bB:k = n:=J;subst bB;rw [← hu.out,List.take_of_length_le Up,List.drop_length,List.take_length,List.drop_of_length_le Up,List.nil_append,List.nil_append] at hS;go_wp2;go_end0
   exact ⟨rfl,hS⟩
theorem Ii (W0 w:World) (b o c N:Nat) (p u v q:List β) (a mm bb:Nat) (f:Value) (h:jJ (fun x=>[Value.string (nm x)]) 1 W0 w b o (p++(u++(v++q)))) (hN:(p++(u++(v++q))).length≤N) (BI:N≤1048576) (ha:Hid (p.length = a)) (hm:Hid (a+u.length = mm)) (hb:Hid (mm+v.length = bb)) (hu0:0 < u.length) (f9:0 < v.length) :
 Calls Tryz.prog 158 #[.slice (some ⟨b,o,none⟩) N c,.int .i64 a,.int .i64 mm,.int .i64 bb,f] w fun e w'=>e = .returned (.tuple #[])∧jJ (fun x=>[Value.string (nm x)]) 1 W0 w' b o (p++(v++(u++q))):=by
 have bR:a+u.length+v.length≤N:=by have e1:=ha.out;simp only [List.length_append] at hN;omega
 have M1:a+u.length = mm:=hm.out;have fL:mm+v.length = bb:=hb.out;have HM:=I M1;have HB:=I fL;have h1:a≤mm:=by omega
 have h2:mm≤bb:=by omega
 have h3:bb≤N:=by omega
 have MO:=I hN;clear M1 fL hN;go_enter Tryz.func158,Tryz.ntmps158;go_wp2_with fail
 go_loopw [10,11] (fun i j wr=>∃A U V B:List β,i = .int .i64 U.length∧j = .int .i64 V.length∧0 < U.length∧0 < V.length∧Hid (v++u = A++(V++(U++B)))∧Hid (p.length+A.length+U.length = mm)∧jJ (fun x=>[Value.string (nm x)]) 1 W0 wr b o (p++(A++(U++(V++(B++q)))))) (fun i j _=>(intOf i).toNat+(intOf j).toNat)
 case atStart =>have e1:=ha.out;have e2:=HM.out;have e3:=HB.out;exact ⟨[],u,v,[],by simp;omega,by simp;omega,hu0,f9,I S',I (by simp;omega),by simpa using h⟩
 case round =>
  obtain ⟨A,U,V,B,rfl,rfl,hU,hV,hE,hP,hS⟩:=hrel;have eM:A.length+U.length+V.length+B.length = u.length+v.length:=by have:=congrArg List.length hE.out;simp only [List.length_append] at this;omega
  have xc:p.length+A.length+U.length = mm:=hP.out;have hUm:U.length≤mm:=by omega
  have bw:mm+V.length≤N:=by have e1:=ha.out;have e2:=HM.out;omega
  have Qy:=I eM;have Kb:=I xc;have HS:=I hS;clear eM xc hS;have Kc:(p++(u++(v++q))).length = p.length+u.length+v.length+q.length:=by simp only [List.length_append];omega
  have QA:=I Kc;clear Kc;rcases Nat.lt_trichotomy U.length V.length with aq | zt | tE
  ·have bN:((U.length:Int) != V.length) = true:=(by simp;omega);go_wp2_with fail
   obtain ⟨V1,V2,rfl,hV2⟩:∃V1 V2,V = V1++V2∧V2.length = U.length:=⟨V.take (V.length - U.length),V.drop (V.length - U.length),(List.take_append_drop ..).symm,by rw [List.length_drop];omega⟩;have xc:=Kb.out;have eM:=Qy.out;have hl:(V1++V2).length = V1.length+V2.length:=List.length_append ..;rw [show (mm:Int) - U.length = ((p.length+A.length:Nat):Int) by omega,show (mm:Int)+(V1++V2).length - U.length = ((mm+V1.length:Nat):Int) by omega];refine (TW nm W0 wr b o c N (p++A) U V1 V2 (B++q) (p.length+A.length) (mm+V1.length) U.length f OP ?_ BI (I S') (I rfl) (I hV2) (I ?_)).mono ?_
   ·have:=MO.out;have:=QA.out;simp only [List.length_append] at *;omega
   ·simp only [List.length_append];omega
   rintro e w2 ⟨rfl,ce⟩;clear xc eM;go_wp2;refine ⟨⟨A,V2,V1,U++B,by rw [hV2],by first | rfl | (congr 1;omega),J,J,I Uq,I (by have:=Kb.out;omega),by simpa [List.append_assoc] using ce⟩,by simp only [intOf];omega⟩
  ·have bN:((U.length:Int) != V.length) = false:=(by simp;omega);go_wp2_with fail
   have xc:=Kb.out;have eM:=Qy.out;rw [show (mm:Int) - V.length = ((p.length+A.length:Nat):Int) by omega];refine (TW nm W0 wr b o c N (p++A) U [] V (B++q) (p.length+A.length) mm V.length f OP ?_ BI (I S') (I zt) (I rfl) (I ?_)).mono ?_
   ·have:=MO.out;have:=QA.out;simp only [List.length_append,List.length_nil] at *;omega
   ·simp only [List.length_append,List.length_nil];omega
   rintro e w2 ⟨rfl,ce⟩;clear xc eM zt;go_wp2;go_end0
   refine ⟨rfl,?_⟩;have e9:p++(v++(u++q)) = (p++A)++(V++([]++(U++(B++q)))):=(by rw [← List.append_assoc v u q,hE.out];simp [List.append_assoc]);rw [e9];exact ce
  ·have bN:((U.length:Int) != V.length) = true:=(by simp;omega);go_wp2_with fail
   obtain ⟨U1,U2,rfl,hU1⟩:∃U1 U2,U = U1++U2∧U1.length = V.length:=⟨U.take V.length,U.drop V.length,(List.take_append_drop ..).symm,by rw [List.length_take];omega⟩;have xc:=Kb.out;have eM:=Qy.out;have hl:(U1++U2).length = U1.length+U2.length:=List.length_append ..;rw [show (mm:Int) - (U1++U2).length = ((p.length+A.length:Nat):Int) by omega];refine (TW nm W0 wr b o c N (p++A) U1 U2 V (B++q) (p.length+A.length) mm V.length f OP ?_ BI (I S') (I hU1) (I rfl) (I ?_)).mono ?_
   ·have:=MO.out;have:=QA.out;simp only [List.length_append] at *;omega
   ·simp only [List.length_append];omega
   rintro e w2 ⟨rfl,ce⟩;clear xc eM;go_wp2;refine ⟨⟨A++V,U2,U1,B,by first | rfl | (congr 1;omega),by rw [hU1],J,J,I Uq,I (by have:=Kb.out;simp only [List.length_append] at *;omega),by simpa [List.append_assoc] using ce⟩,by simp only [intOf];omega⟩
end
end Go.Proofs.YtajbbmembionpaaGreat
