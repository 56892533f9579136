/- Rows of the call's own whose spare cells are known. No condition. -/
import Derived.Test.YtjahcnjmjahbaaaGreatDrawB
namespace Go.Proofs.YtjahcnjmjahbaaaGreat
open Go.ChangeShapes Go.WideShapes Go.ChangeAt Go.RowKit
set_option linter.unusedVariables false
set_option linter.unusedSimpArgs false
set_option maxHeartbeats 4000000
set_option maxRecDepth 100000
structure fb (α:Type) where
 l:List α
 t:TypeId
instance {α:Type} [bk α]:bk (fb α) where
 size:=1
 pos:=by omega
 rd w x cs F:=rd w x.l cs F∧((x.l = []∧cs = [.slice none 0 0])∨∃g c ep G,x.l≠[]∧cs = [.slice (some ⟨g,0,none⟩) x.l.length c]∧F = g :: G∧w.heap[g]? = some (.cells ep x.t (0,0))∧ep.size = c * bk.size α)
 len h:=bk.len h.1
 one h:=bk.one h.1
 lt h:=bk.lt h.1
 frame h hk hz:=⟨bk.frame h.1 hk hz,by
  rcases h.2 with h2 | ⟨g,c,ep,G,h0,h1,h2,h3,h4⟩
  ·exact .inl h2
  ·exact .inr ⟨g,c,ep,G,h0,h1,h2,(hk g (by rw [h2];exact List.mem_cons_self ..)).trans h3,h4⟩⟩
section
variable {α:Type} [bk α] {w:World} {B:Nat} {xs:List α} {ds:List Value} {F:List Nat}
theorem am.list {cs:List Value} {t:TypeId} (h:am w B (fb.mk xs t) cs F):am w B xs cs F:=⟨h.rd.1,h.nodup,h.base,h.plain⟩
theorem am.PO {e:TypeId} {v:Value} (h0:w.ownsRow B e (bk.size α) v xs.length ds) (h:aY w B xs ds F) (cA:∀g,v.ownBlock = some g→g∉F) (hv:xs.length = 0→v = .slice none 0 0):∃A c G,v = .slice A xs.length c∧am w B (fb.mk xs e) [.slice A xs.length c] G:=by
 obtain ⟨A,c,G,hA,hO⟩:=am.oJ h0 h cA;refine ⟨A,c,G,hA,⟨⟨hO.rd,?_⟩,hO.nodup,hO.base,hO.plain⟩⟩;by_cases hx:xs = []
 ·left;have:=hv (by rw [hx];rfl);rw [this] at hA;exact ⟨hx,by rw [hA]⟩
 ·right;rcases h0.2 with ⟨_,hn⟩ | ⟨g,aM,ep,h1,h2,h3,h4,h5,h6,h7⟩
  ·exact absurd (List.eq_nil_of_length_eq_zero hn) hx
  ·rw [hA] at h1;simp only [Value.slice.injEq,true_and] at h1;obtain ⟨rfl,rfl⟩:=h1;obtain ⟨A',c',G',ds',e0,_,_,_,h8⟩:=hO.rd;simp only [List.cons.injEq,Value.slice.injEq,and_true,true_and] at e0;obtain ⟨rfl,rfl⟩:=e0;rcases h8 with ⟨h9,_⟩ | ⟨b,o,hb,rfl,_,_⟩
   ·exact absurd h9 hx
   ·simp only [Option.some.injEq,Addr.mk.injEq,and_true] at hb;obtain ⟨rfl,rfl⟩:=hb;exact ⟨g,c,ep,G',hx,rfl,rfl,h3,h6⟩
theorem am.oI {t:TypeId} {A:Option Addr} {c:Nat} (h:am w B (fb.mk xs t) [.slice A xs.length c] F):∃ds G,w.ownsRow B t (bk.size α) (.slice A xs.length c) xs.length ds∧aY w B xs ds G∧(∀g,(Value.slice A xs.length c).ownBlock = some g→g∉G)∧(∀b∈G,b∈F):=by
 obtain ⟨⟨A',c',G,ds,e0,hl,hm,hc,h0⟩,h2⟩:=h.rd;simp only [List.cons.injEq,Value.slice.injEq,and_true,true_and] at e0;obtain ⟨rfl,rfl⟩:=e0;rcases h2 with ⟨hx,he⟩ | ⟨g,c',ep,G',hx0,he,hF,hg,hs⟩
 ·simp only at hx;subst hx;simp only [List.length_nil,List.cons.injEq,Value.slice.injEq,and_true,true_and] at he;obtain ⟨rfl,rfl⟩:=he;exact ⟨[],[],⟨S',.inl ⟨rfl,rfl⟩⟩,aY.nil w B,(fun g hg=>by cases hg),(fun b hb=>by cases hb)⟩
 ·simp only [List.cons.injEq,Value.slice.injEq,and_true,true_and] at he;obtain ⟨rfl,rfl⟩:=he;rcases h0 with ⟨hx,qp⟩ | ⟨b,o,hb,lH,ap,cq⟩
  ·rw [qp] at hF;cases hF
  ·simp only [Option.some.injEq,Addr.mk.injEq,and_true] at hb;obtain ⟨rfl,rfl⟩:=hb;subst lH;have hn:=List.nodup_cons.1 h.nodup;have gw:ds.length = xs.length * bk.size α:=hc.len;refine ⟨ds,G,⟨gw,.inr ⟨g,c,ep,rfl,h.base g (List.mem_cons_self ..),hg,hl,hm,hs,?_⟩⟩,⟨hc,hn.2,fun b hb=>h.base b (List.mem_cons_of_mem _ hb),fun b hb=>h.plain b (List.mem_cons_of_mem _ hb)⟩,(fun q hq=>by simp only [Value.ownBlock,Option.some.injEq] at hq;subst hq;exact hn.1),fun b hb=>List.mem_cons_of_mem _ hb⟩;apply List.ext_getElem?;intro j;rw [List.getElem?_take];by_cases hj:j < xs.length * bk.size α
   ·rw [if_pos hj];have hd:ds[j]? = some ds[j]:=List.getElem?_eq_getElem O;have:=cq j _ hd;rw [Nat.zero_add,cell_of_row w g j ep t (0,0) hg] at this;rw [hd,← this];simp
   ·rw [if_neg hj,List.getElem?_eq_none O]
theorem am.Mj {t:TypeId} {v:Value} {G:List Nat} (h:am w B xs [v] F) (hr:Go.Proofs.YtjahcnjmjahbaaaGreat.bk.rd w (fb.mk xs t) [v] G):am w B (fb.mk xs t) [v] F:=by
 refine ⟨⟨h.rd,?_⟩,h.nodup,h.base,h.plain⟩;rcases hr.2 with h1 | ⟨g,c,ep,G',h0,h1,h2,h3,h4⟩
 ·exact .inl h1
 ·refine .inr ⟨g,c,ep,?_⟩;obtain ⟨A',c',G2,ds,e0,hl,hm,hc,h5⟩:=h.rd;rcases h5 with ⟨hx,_⟩ | ⟨b,o,hb,hF,_,_⟩
  ·exact absurd hx h0
  ·subst hb;rw [e0] at h1;simp only [List.cons.injEq,Value.slice.injEq,Option.some.injEq,Addr.mk.injEq,and_true,true_and] at h1;refine ⟨G2,h0,?_,?_,h3,h4⟩
   ·rw [e0,h1.1.1,h1.1.2,h1.2]
   ·rw [hF,h1.1.1]
end
def x2 (x:aU) (w:World) (cs:List Value):Prop:=∃Ah ch Ap cp Gh Gp rest,cs = .slice Ah x.aa.length ch :: .slice Ap x.J.length cp :: rest∧Go.Proofs.YtjahcnjmjahbaaaGreat.bk.rd w (fb.mk x.aa 38) [.slice Ah x.aa.length ch] Gh∧Go.Proofs.YtjahcnjmjahbaaaGreat.bk.rd w (fb.mk x.J 48) [.slice Ap x.J.length cp] Gp
structure qz (w wk:World) (cs zs os:List Value):Prop where
 cw:oG wk w.heap.size cs
 rb:oG wk (w.heap.size+1) zs
 ob:oG wk (w.heap.size+1+1) os
 aL:Below w.heap.size w wk
section
variable {w wk w':World} {cs zs os:List Value}
theorem qz.new (w:World) (cs zs os:List Value) (t t2 t3:TypeId):qz w (((w.alloc (.cells cs.toArray t)).alloc (.cells zs.toArray t2)).alloc (.cells os.toArray t3)) cs zs os :=
 ⟨((oG.new w cs t).ext (ak (aj _) _)).ext (ak (aj _) _),(by have:=oG.new (w.alloc (.cells cs.toArray t)) zs t2;rw [World.size_alloc] at this;exact this.ext (ak (aj _) _)),(by have:=oG.new ((w.alloc (.cells cs.toArray t)).alloc (.cells zs.toArray t2)) os t3;rw [World.size_alloc,World.size_alloc] at this;exact this),ak (ak (ak (aj _) _) _) _⟩
theorem qz.ext (h:qz w wk cs zs os) (hb:Below wk.heap.size wk w'):qz w w' cs zs os:=⟨h.cw.ext hb,h.rb.ext hb,h.ob.ext hb,ah h.aL hb⟩
theorem qz.put (h:qz w wk cs zs os) (i:Nat) (u:Value):qz w (wk.setCell ⟨w.heap.size+1+1,i,none⟩ u) cs zs (os.set i u):=⟨h.cw.bX O i u,h.rb.bX O i u,h.ob.put i u,aC h.aL bM u⟩
end
theorem OF {α:Type} [bk α] {w w':World} {x:α} {cs:List Value} {F:List Nat} (h:rd w x cs F) (hb:Below w.heap.size w w'):rd w' x cs F:=bk.frame h (fun b ei=>hb.block b (bk.lt h b ei)) hb.size
theorem rQ {w w':World} {B e size n b:Nat} {v:Value} {xs:List Value} (h:w.ownsRow B e size v n xs) (hu:nN [b] w w') (hb:b < B):w'.ownsRow B e size v n xs :=
 h.kept (row:=some b) ⟨hu.os,hu.tape,hu.output,hu.size,fun k hk cA=>hu.block k hk (by simpa using fun e=>cA (by rw [e]))⟩ (by
   by_cases hv:v.ownBlock = some b
   ·have:=(h.lt b hv).1;omega
   ·exact .inr hv)
theorem nN.alloc {F:List Nat} {w w1:World} (h:nN F w w1) (o:Obj):nN F w (w1.alloc o):=h.trans (nN.lq F (ak (aj _) o))
theorem gf (b:Nat):∀(vs:List Value) (o:Nat) (w:World),(w.setCells b o vs).heap.size = w.heap.size
 | [],_,_=>rfl
 | v :: r,o,w=>by rw [World.setCells,gf b r];simp [World.setCell]
theorem vV (b:Nat) {k:Nat} (hk:k≠b):∀(vs:List Value) (o:Nat) (w:World),(w.setCells b o vs).heap[k]? = w.heap[k]?
 | [],_,_=>rfl
 | v :: r,o,w=>by rw [World.setCells,vV b hk r];exact Below.heap_setCell _ _ _ _ bM
theorem F8 (b:Nat):∀(vs:List Value) (o:Nat) (w:World),(w.setCells b o vs).os = w.os∧(w.setCells b o vs).tape = w.tape∧(w.setCells b o vs).output = w.output
 | [],_,_=>⟨rfl,rfl,rfl⟩
 | v :: r,o,w=>by rw [World.setCells];exact F8 b r (o+1) _
theorem EK (b:Nat):∀(vs:List Value) (o:Nat) (w:World),eM w b→eM (w.setCells b o vs) b
 | [],_,_,h=>h
 | v :: r,o,w,h=>by rw [World.setCells];exact EK b r (o+1) _ (h.setCell b o v)
def eV (w:World) (B:Nat) (e:TypeId) (size:Nat) (A:Option Addr) (c:Nat):Prop :=
 (A = none∧c = 0)∨∃g ep,A = some ⟨g,0,none⟩∧B≤g∧w.heap[g]? = some (.cells ep e (0,0))∧c≤maxLen∧ep.size = c * size
section
variable {w w':World} {B size c:Nat} {e:TypeId} {A:Option Addr}
theorem eV.oJ {B' n m:Nat} {xs:List Value} (h:w.ownsRow B' e size (.slice A n c) m xs) (hB:B≤B'):eV w B e size A c:=by
 rcases h.2 with ⟨h1,_⟩ | ⟨g,aM,ep,h1,h2,h3,h4,h5,h6,_⟩
 ·simp only [Value.slice.injEq] at h1;exact .inl ⟨h1.1,h1.2.2⟩
 ·simp only [Value.slice.injEq] at h1;obtain ⟨rfl,_,rfl⟩:=h1;exact .inr ⟨g,ep,rfl,Nat.le_trans hB h2,h3,h5,h6⟩
theorem eV.ext (h:eV w B e size A c) (hb:Below w.heap.size w w'):eV w' B e size A c:=by
 rcases h with h | ⟨g,ep,h1,h2,h3,h4⟩
 ·exact .inl h
 ·have hg:g < w.heap.size:=by
   exact Bn
  exact .inr ⟨g,ep,h1,h2,(hb.block g hg).trans h3,h4⟩
theorem eV.drawn {b:Nat} (h:eV w B e size A c) (hu:nN [b] w w') (hb:b < B):eV w' B e size A c:=by
 rcases h with h | ⟨g,ep,h1,h2,h3,h4⟩
 ·exact .inl h
 ·have hg:g < w.heap.size:=by
   exact Bn
  exact .inr ⟨g,ep,h1,h2,(hu.block g hg (by simp;omega)).trans h3,h4⟩
theorem eV.mono {B':Nat} (h:eV w B e size A c) (hB:B'≤B):eV w B' e size A c:=by
 rcases h with h | ⟨g,ep,h1,h2,h3⟩
 ·exact .inl h
 ·exact .inr ⟨g,ep,h1,Nat.le_trans hB h2,h3⟩
theorem eV.lt (h:eV w B e size A c):∀g,A = some ⟨g,0,none⟩→g < w.heap.size:=by
 rintro g rfl;rcases h with ⟨h,_⟩ | ⟨g,ep,h1,h2,h3,h4⟩
 ·cases h
 ·simp only [Option.some.injEq,Addr.mk.injEq,and_true] at h1;subst h1;exact Bn
theorem eV.bJ (h:eV w B e size A c) (hk:∀g,A = some ⟨g,0,none⟩→w'.heap[g]? = w.heap[g]?):eV w' B e size A c:=by
 rcases h with h | ⟨g,ep,h1,h2,h3,h4⟩
 ·exact .inl h
 ·exact .inr ⟨g,ep,h1,h2,(hk g h1).trans h3,h4⟩
theorem eV.bX {b:Nat} (h:eV w B e size A c) (hb:b < B) (j:Nat) (v:Value):eV (w.setCell ⟨b,j,none⟩ v) B e size A c:=by
 rcases h with h | ⟨g,ep,h1,h2,h3,h4⟩
 ·exact .inl h
 ·exact .inr ⟨g,ep,h1,h2,(Below.heap_setCell _ _ _ _ bM).trans h3,h4⟩
end
theorem ahY (xs:List bj) (A:Option Addr) (c:Nat) (F:List Nat) (w:World) (h:Sl w xs A c F) (hl:(xs.length:Int)≤1048576) (hv:∀x∈xs,(x.values.length:Int)≤1048576) :
 Calls Tryz.prog 146 #[.slice A xs.length c] w fun e w'=>∃A' c' F',e = .returned (.slice A' xs.length c')∧am w' w.heap.size xs [.slice A' xs.length c'] F'∧Below w.heap.size w w':=by
 have HV:=I hv;clear hv;go_enter Tryz.func146,Tryz.ntmps146;go_wp2_with fail
 refine (afq xs A c F w h hl).mono ?_;rintro e w1 ⟨A',c',ds,G,rfl,aR,cJ,br,bm⟩;rcases eo.oJ aR with ⟨hv,hn⟩ | ⟨g,aM,N,hv,hg,hfill,nH,lL⟩
 ·obtain rfl:=List.eq_nil_of_length_eq_zero hn;simp only [Value.slice.injEq] at hv;obtain ⟨rfl,_,rfl⟩:=hv;clear aR cJ;simp only [List.length_nil] at *;have ap:(0:Int) < 0↔False:=by simp
  go_wp2_with fail
  go_loopw [10] (fun i wr=>i = .int .i64 0∧wr = w1) (fun _ _=>0)
  case atStart=>exact ⟨rfl,rfl⟩
  case round =>
   obtain ⟨rfl,rfl⟩:=hrel;go_wp2;go_ret
   exact ⟨_,_,_,rfl,⟨Sl.nil _ none 0 (Nat.zero_le _),List.nodup_nil,(fun b hb=>by cases hb),(fun b hb=>by cases hb)⟩,bm⟩
 ·simp only [Value.slice.injEq,true_and] at hv;obtain ⟨rfl,rfl⟩:=hv;clear aR;go_wp2_with fail
  go_loopw [10] (fun i wr=>∃(k:Nat) (es d2:List Value) (G2 F':List Nat),k≤xs.length∧i = .int .i64 k∧Hid (es.length = k * 3)∧eo wr g 89 N (es++d2)∧jo w1 (xs.drop k) d2 G2∧aY wr (g+1) (xs.take k) es F'∧Below w.heap.size w wr) (fun i _=>xs.length - (intOf i).toNat)
  case atStart=>exact ⟨0,[],ds,G,[],Nat.zero_le _,rfl,by show _ = _;simp,by simpa using hfill,by simpa using cJ,aY.nil _ _,bm⟩
  case round =>
   obtain ⟨k,es,d2,G2,F',hk,rfl,hd,hf,dx,hO,az⟩:=hrel;by_cases ap:k < xs.length
   ·have ZW:xs.drop k = xs[k] :: xs.drop (k+1):=(List.getElem_cons_drop ..).symm;rw [ZW] at dx;obtain ⟨c1,d3,F1,F3,rfl,_,f',pr⟩:=dx;obtain ⟨DT,DU,alQ,ax,hF3,adC,hop3,abp⟩:=og f';subst ax;clear hF3 f' ZW;obtain ⟨b,o,ck,Fk,rfl,o9,hbs,hr,ld,hc⟩:=(h.ext az).get ap;obtain ⟨pX,pY,KG,ax,hF1,xO,iZ,wO⟩:=og hr;subst ax;clear hF1 hr;obtain ⟨q0,q1,q2⟩:=jN 3 hc;clear hc;have ZZ:=HV.out xs[k] (List.getElem_mem ap);have Z0:=hf.lt;have Mn:(es++(([.string xs[k].key,.int .i64 xs[k].op,.slice DT xs[k].values.length DU]:List Value)++d3)).length≤N:=(by obtain ⟨_,_,_,h3,_⟩:=hf;exact h3);simp only [List.length_append,List.length_cons,List.length_nil] at Mn;go_wp2_with fail
    refine (Ox xs[k].values _ _ _ _ (wO.ext bu) ZZ).mono ?_;rintro e w2 ⟨A2,c2,G2',rfl,bC,ao⟩;have iL:Below wr.heap.size wr w2:=ah (ak (aj _) _) ao;have SN:=hf.bJ (iL.block _ Z0);have Mo:=SN.frozen (k * 3+2);obtain ⟨u2,dC⟩:∃u,w2.cell? ⟨g,k * 3+2,none⟩ = some u:=SN.cell (i:=k * 3+2) auz;have Mp:wr.heap.size < w2.heap.size:=(by have:=ao.size;simp at this;omega);go_wp2_with fail
    have hF:=SN.set (i:=k * 3+2) (by have:=hd.out;simp;omega) (.slice A2 xs[k].values.length c2);have SO:(es++(([.string xs[k].key,.int .i64 xs[k].op,.slice DT xs[k].values.length DU]:List Value)++d3)).set (k * 3+2) (.slice A2 xs[k].values.length c2) = (es++[.string xs[k].key,.int .i64 xs[k].op,.slice A2 xs[k].values.length c2])++d3:=by rw [List.set_append_right _ _ (show es.length≤k * 3+2 from by have:=hd.out;omega),show k * 3+2 - es.length = 2 from by have:=hd.out;omega];simp
    rw [SO] at hF;have uc:am w2 (g+1) xs[k] [.string xs[k].key,.int .i64 xs[k].op,.slice A2 xs[k].values.length c2] G2':=by refine am.up (B':=g+1) (fun x:bj=>(x.key,x.op,x.values)) ?_ (Nat.le_refl _);refine am.cons (c1:=[.string xs[k].key]) (d7 _ _ (rV xO)) ?_;refine am.cons (c1:=[.int .i64 xs[k].op]) (jL _ _ iZ) ?_;exact bC.mono (by simp;omega)
    have hP:=(hO.ext iL).push (B':=wr.heap.size) (x:=xs[k]) ⟨uc.rd,uc.nodup,fun b hb=>by have:=bC.base b hb;simp at this;omega,uc.plain⟩ Z0 hO.lt;rw [← List.take_succ_eq_append_getElem ap] at hP;exact ⟨⟨k+1,es++[.string xs[k].key,.int .i64 xs[k].op,.slice A2 xs[k].values.length c2],d3,F3,_,O,N',by show _ = _;(simp [hd.out]) <;> omega,hF,pr,hP.setCell (p:=⟨g,k * 3+2,none⟩) (Nat.lt_succ_self _) _,aC (ah az iL) hg _⟩,by simp [intOf];omega⟩
   ·have bz:k = xs.length:=O;subst bz;rw [List.drop_length] at dx;obtain ⟨rfl,_⟩:=dx;rw [List.append_nil] at hf;rw [List.take_length] at hO;go_wp2;go_ret
    exact ⟨_,_,_,rfl,(am.Ep hf hO nH lL).mono hg,az⟩
theorem Z1 (xs:List bj) (A:Option Addr) (c:Nat) (F:List Nat) (w:World) (h:Sl w xs A c F) (hl:(xs.length:Int)≤1048576) (hv:∀x∈xs,(x.values.length:Int)≤1048576) :
 Calls Tryz.prog 189 #[.slice A xs.length c] w fun e w'=>∃v ds F',e = .returned v∧w'.ownsRow w.heap.size 89 3 v xs.length ds∧aY w' w.heap.size xs ds F'∧(∀g,v.ownBlock = some g→g∉F')∧Below w.heap.size w w':=by
 have HV:=I hv;clear hv;go_enter Tryz.func189,Tryz.ntmps189;go_wp2_with fail
 go_loopw [3,4] (fun v i wr=>∃(k:Nat) (ds:List Value) (F':List Nat),k≤xs.length∧i = .int .i64 k∧wr.ownsRow w.heap.size 89 3 v k ds∧aY wr w.heap.size (xs.take k) ds F'∧(∀g,v.ownBlock = some g→g∉F')∧Below w.heap.size w wr) (fun _ i _=>xs.length - (intOf i).toNat)
 case atStart=>exact ⟨0,[],[],Nat.zero_le _,rfl,World.ownsRow_made (size:=3) w #[] 0 (Nat.le_refl _) (Nat.zero_le _) S',aY.nil _ _,(fun g _ hm=>by cases hm),ak (aj _) _⟩
 case round =>
  obtain ⟨k,ds,F',hk,rfl,aR,hO,cA,az⟩:=hrel;by_cases ap:k < xs.length
  ·obtain ⟨b,o,ck,Fk,rfl,o9,hbs,hr,ld,hc⟩:=(h.ext az).get ap;obtain ⟨pX,pY,KG,ax,hF1,xO,iZ,wO⟩:=og hr;subst ax;clear hF1 hr;obtain ⟨q0,q1,q2⟩:=jN 3 hc;clear hc;have ZZ:=HV.out xs[k] (List.getElem_mem ap);obtain ⟨Av,cv,gb⟩:=mY aR;subst gb;have HO:=I aR;have HN:=I cA;have DX:=I az;have Y6:=I hO.lt;clear aR cA az;have Mq:=oG.new wr [.string xs[k].key,.int .i64 xs[k].op,.slice pX xs[k].values.length pY] 89
   have HM:=I (show ((wr.alloc (.cells ([.string xs[k].key,.int .i64 xs[k].op,.slice pX xs[k].values.length pY]:List Value).toArray 89)).alloc (.cells #[] 9)).ownsRow (wr.heap.size+1) 9 1 (.slice (some ⟨wr.heap.size+1,0,none⟩) 0 0) 0 [] from by
    have:=World.ownsRow_made (base:=wr.heap.size+1) (e:=9) (size:=1) (wr.alloc (.cells ([.string xs[k].key,.int .i64 xs[k].op,.slice pX xs[k].values.length pY]:List Value).toArray 89)) #[] 0 S' (Nat.zero_le _) S';rw [World.size_alloc] at this
    exact this)
   go_wp2_with (first
    | (at_builtin
       refine rW (o:=⟨some 20,_,_,_,_,_⟩) Ud Z Z _ _ Z _ (wr.heap.size+1) _ 0 [] HM.out Z xs[k].values pX pY _ (wO.ext (ak (ak (aj _) _) _)) Z O O S' ?_;intro v2 w2 SP G cJ br dT hg cL;go_must (obtain ⟨A2,c2,eN⟩:=mY dT)
       go_must (subst eN)
       go_must (simp only [Nat.zero_add,List.nil_append] at dT)
       go_must (have ao:Below wr.heap.size wr w2:=lS (vP HM.out (Nat.le_succ _)) hg (ak (ak (aj _) _) _) (by simp;omega))
       go_must (have Ck:oG w2 wr.heap.size [.string xs[k].key,.int .i64 xs[k].op,.slice pX xs[k].values.length pY]:=Mq.bJ ((hg.block _ (by simp;omega) RL).trans (heap_alloc_old _ _ S')))
       go_must (have qh:jo w2 xs[k].values SP G:=cJ.frame (fun b hb=>hg.block b (cJ.lt b hb) (fun e=>by have:=(wO.lt b (br b hb));simp [Value.ownBlock] at e;omega)) hg.size)
       go_must (obtain ⟨A3,c3,G3,iA,bC⟩:=am.cO P8 dT qh)
       go_must (simp only [Value.slice.injEq,true_and] at iA)
       go_must (obtain ⟨rfl,rfl⟩:=iA)
       go_must (have k0:=Ck.cell (i:=0) (u:=.string xs[k].key) rfl)
       go_must (have k1:=Ck.cell (i:=1) (u:=.int .i64 xs[k].op) rfl)
       go_must (have k2:=Ck.cell (i:=2) (u:=.slice pX xs[k].values.length pY) rfl)
       go_must (have kl:=Ck.lt)
       go_must (have kf:=Ck.fz 2)
       go_must (have uc:am w2 (wr.heap.size+1) xs[k] [.string xs[k].key,.int .i64 xs[k].op,.slice A2 xs[k].values.length c2] G3:=am.up (B':=wr.heap.size+1) (fun x:bj=>(x.key,x.op,x.values)) (am.cons (c1:=[.string xs[k].key]) (d7 _ _ (rV xO)) (am.cons (c1:=[.int .i64 xs[k].op]) (jL _ _ iZ) bC)) (Nat.le_refl _))
       go_must (have Z2:=uc.setCell (p:=⟨wr.heap.size,2,none⟩) (Nat.lt_succ_self _) (.slice A2 xs[k].values.length c2))
       go_must (have bA:(w2.setCell ⟨wr.heap.size,2,none⟩ (.slice A2 xs[k].values.length c2)).ownsRow w.heap.size 89 3 (.slice Av k cv) k ds:=EJ (mG HO.out ao) (fun g hg=>by have:=(HO.out.lt g hg).2;omega))
       go_must (have fo:aY (w2.setCell ⟨wr.heap.size,2,none⟩ (.slice A2 xs[k].values.length c2)) w.heap.size (xs.take k) ds F':=(hO.ext ao).bJ (fun y hy=>Below.heap_setCell _ _ _ _ (by have:=hO.lt y hy;dsimp only;omega)) fj)
       go_must (have SQ:Below wr.heap.size wr (w2.setCell ⟨wr.heap.size,2,none⟩ (.slice A2 xs[k].values.length c2)):=aC ao (Nat.le_refl _) _)
       go_must (have bc:=Ck.put 2 (.slice A2 xs[k].values.length c2))
       go_must (have HOS:=I Z2)
       go_must (have HR:=I bA)
       go_must (have HC:=I fo)
       go_must (have HBS:=I SQ)
       go_must (have Mp:=SQ.size)
       go_must (clear uc bC cJ qh dT hO Mq Ck hg cL ao Z2 fo SQ))
    | (at_builtin
       refine uf (o:=⟨some 25,_,_,_,_,_⟩) ZV Z _ _ Z _ _ _ _ _ bA Z [.string xs[k].key,.int .i64 xs[k].op,.slice A2 xs[k].values.length c2] ly Z e' O O (by have:=DX.out.size;omega) ?_
       intro v4 w4 eK nJ Wy vL))
   have az:=DX.out;obtain ⟨sm,hne4⟩:=aY.O0 (v':=v4) HR.out HC.out HN.out HOS.out (by have:=az.size;omega) (fun g hg=>by have:=(HO.out.lt g hg).2;omega) (fun y hy=>by have:=Y6.out y hy;omega) nJ vL;rw [← List.take_succ_eq_append_getElem ap] at sm;exact ⟨⟨k+1,_,_,O,N',eK,sm,hne4,lS (vP HR.out (Nat.le_refl _)) nJ (ah az HBS.out) (by have:=az.size;omega)⟩,by simp [intOf];omega⟩
  ·have bz:k = xs.length:=O;subst bz;rw [List.take_length] at hO;obtain ⟨Ah,ch,hvh⟩:=mY aR;subst hvh;have HO:=I aR;clear aR;go_wp2;go_ret
   exact ⟨_,ds,F',rfl,HO.out,hO,cA,az⟩
theorem PU (xs:List bj) (A:Option Addr) (c:Nat) (F:List Nat) (w:World) (h:Sl w xs A c F) (hl:(xs.length:Int)≤1048576) (hv:∀x∈xs,(x.values.length:Int)≤1048576) :
 Calls Tryz.prog 189 #[.slice A xs.length c] w fun e w'=>∃A' c' F',e = .returned (.slice A' xs.length c')∧am w' w.heap.size xs [.slice A' xs.length c'] F'∧Below w.heap.size w w' :=
 (Z1 xs A c F w h hl hv).mono fun e w' ⟨v,ds,F',he,aR,hO,cA,hb⟩=>by
  obtain ⟨Ah,ch,Gh,rfl,Xp⟩:=am.oJ aR hO cA;exact ⟨_,_,_,he,Xp,hb⟩
theorem OU (W:World) (e:TypeId) (size N:Nat) (hN:W.heap.size = N):(W.alloc (.cells #[] e)).ownsRow N e size (.slice (some ⟨N,0,none⟩) 0 0) 0 []:=by
 subst hN;exact World.ownsRow_made W #[] 0 (Nat.le_refl _) (Nat.zero_le _) S'
structure Cp (w wk:World) (cs zs:List Value):Prop where
 cw:oG wk w.heap.size cs
 rb:oG wk (w.heap.size+1) zs
 aL:Below w.heap.size w wk
section
variable {w wk w':World} {cs zs:List Value}
theorem Cp.new (w:World) (cs zs:List Value) (t t2:TypeId):Cp w ((w.alloc (.cells cs.toArray t)).alloc (.cells zs.toArray t2)) cs zs :=
 ⟨(oG.new w cs t).ext (ak (aj _) _),(by have:=oG.new (w.alloc (.cells cs.toArray t)) zs t2;rw [World.size_alloc] at this;exact this),ak (ak (aj _) _) _⟩
theorem Cp.ext (h:Cp w wk cs zs) (hb:Below wk.heap.size wk w'):Cp w w' cs zs:=⟨h.cw.ext hb,h.rb.ext hb,ah h.aL hb⟩
theorem Cp.put (h:Cp w wk cs zs) (i:Nat) (u:Value):Cp w (wk.setCell ⟨w.heap.size,i,none⟩ u) (cs.set i u) zs:=⟨h.cw.put i u,h.rb.bX O i u,aC h.aL (Nat.le_refl _) u⟩
theorem Cp.lt (h:Cp w wk cs zs):w.heap.size+1 < wk.heap.size:=h.rb.lt
end
theorem ajs (x:ba) (cs:List Value) (F:List Nat) (w:World) (h:rd w x cs F) (fg:(x.labels.length:Int)≤1048576) (cC:(x.aT.length:Int)≤1048576) :
 Calls Tryz.prog 95 #[.agg cs.toArray] w fun e w'=>∃cs F,e = .returned (.agg cs.toArray)∧am w' w.heap.size x cs F∧Below w.heap.size w w':=by
 obtain ⟨gu,gy,jw,kJ,kK,qU,ax,qp,hname,dO,vg,cE,uI,jq⟩:=iy h;subst ax;clear qp h;go_enter Tryz.func95,Tryz.ntmps95;have S0:=Cp.new w [.string x.name,.slice gu x.labels.length gy,.int .i64 x.aw,.int .i64 x.mem,.int .i64 x.aq,.slice kJ x.aT.length kK] [.string ⟨#[]⟩,.slice none 0 0,.int .i64 0,.int .i64 0,.int .i64 0,.slice none 0 0] 38 38;go_wp2_with fail
 refine (Xo x.labels _ _ _ _ (dO.ext S0.aL) fg).mono ?_;rintro e w1 ⟨A1,c1,G1,rfl,jX,bm⟩;have ie:=S0.ext bm;replace jX:=jX.mono (B':=w.heap.size+1+1) D3;have k1:=ie.cw.cell (i:=1) (u:=.slice gu x.labels.length gy) rfl;have f1:=ie.cw.fz 1;have l1:=ie.cw.lt;have sn:=I (show ∀b∈G1,b < w1.heap.size from jX.lt);have S1:=ie.put 1 (.slice A1 x.labels.length c1);replace jX:=jX.setCell (p:=⟨w.heap.size,1,none⟩) Pq (.slice A1 x.labels.length c1);have m1:=S1.cw.cell (i:=5) (u:=.slice kJ x.aT.length kK) rfl;have z1:=ie.lt;go_wp2_with fail
 refine (afo x.aT _ _ _ _ (jq.ext S1.aL) cC).mono ?_;rintro e w2 ⟨A2,c2,G2,rfl,bC,ao⟩;have ic:=S1.ext ao;replace bC:=bC.mono (B':=w1.heap.size) D3;have k2:=ic.cw.cell (i:=5) (u:=.slice kJ x.aT.length kK) rfl;have f2:=ic.cw.fz 5;have l2:=ic.cw.lt;have S2:=ic.put 5 (.slice A2 x.aT.length c2);replace jX:=jX.ext ao;replace jX:=jX.setCell (p:=⟨w.heap.size,5,none⟩) xL (.slice A2 x.aT.length c2);replace bC:=bC.setCell (p:=⟨w.heap.size,5,none⟩) xL (.slice A2 x.aT.length c2);obtain ⟨q0,q1,q2,q3,q4,q5⟩:=cH S2.cw;obtain ⟨r0,r1,r2,r3,r4,r5⟩:=cH S2.rb;have rf:=S2.rb.fz;have rl:=S2.rb.lt;have z2:=ic.lt;have y2:w1.heap.size≤w2.heap.size:=by have:=ao.size;(try simp [World.setCell] at this);omega
 have gP:=I jX;have RZ:=I bC;have HS:=I S2;clear jX bC S1 ie S2 ic S0;try dsimp only
 iterate 200 (first | go_step | skip)
 refine bodyPost_ret (v:=.agg #[.string x.name,.slice A1 x.labels.length c1,.int .i64 x.aw,.int .i64 x.mem,.int .i64 x.aq,.slice A2 x.aT.length c2]) (by simp [results,Tryz.results95,go_sem, *]) rfl ⟨[.string x.name,.slice A1 x.labels.length c1,.int .i64 x.aw,.int .i64 x.mem,.int .i64 x.aq,.slice A2 x.aT.length c2],(G1++G2),rfl,?_,?_⟩;rotate_left
 ·exact D2
 refine am.up (B':=w.heap.size+1+1) (fun x:ba=>(x.name,x.labels,x.aw,x.mem,x.aq,x.aT)) ?_ O;refine am.cons (c1:=[.string x.name]) (d7 _ x.name (rV hname)) ?_;refine am.fa (B2:=w1.heap.size) (c1:=[.slice A1 x.labels.length c1]) (F1:=G1) ?_ ?_ O sn.out
 ·exact Pr
 refine am.cons (c1:=[.int .i64 x.aw]) (jL _ x.aw vg) ?_;refine am.cons (c1:=[.int .i64 x.mem]) (jL _ x.mem cE) ?_;refine am.cons (c1:=[.int .i64 x.aq]) (jL _ x.aq uI) ?_;exact Ps
theorem alS (x:nI) (cs:List Value) (F:List Nat) (w:World) (h:rd w x cs F) (fg:(x.labels.length:Int)≤1048576) (cC:(x.ai.length:Int)≤1048576) (mI:(x.ae.length:Int)≤1048576) (hv:∀y∈x.ai,(y.values.length:Int)≤1048576) :
 Calls Tryz.prog 96 #[.agg cs.toArray] w fun e w'=>∃cs F,e = .returned (.agg cs.toArray)∧am w' w.heap.size x cs F∧Below w.heap.size w w':=by
 have HV:=I hv;clear hv;obtain ⟨gu,gy,jw,oh,nT,wG,fA,fB,jY,ax,qp,hname,dO,vg,cE,BJ,mX,eG⟩:=dL h;subst ax;clear qp h;go_enter Tryz.func96,Tryz.ntmps96;have S0:=Cp.new w [.string x.name,.slice gu x.labels.length gy,.int .i64 x.aw,.int .i64 x.mem,.int .i64 x.av,.slice oh x.ai.length nT,.slice fA x.ae.length fB] [.string ⟨#[]⟩,.slice none 0 0,.int .i64 0,.int .i64 0,.int .i64 0,.slice none 0 0,.slice none 0 0] 46 46;go_wp2_with fail
 refine (Xo x.labels _ _ _ _ (dO.ext S0.aL) fg).mono ?_;rintro e w1 ⟨A1,c1,G1,rfl,jX,bm⟩;have ie:=S0.ext bm;replace jX:=jX.mono (B':=w.heap.size+1+1) D3;have k1:=ie.cw.cell (i:=1) (u:=.slice gu x.labels.length gy) rfl;have f1:=ie.cw.fz 1;have l1:=ie.cw.lt;have sn:=I (show ∀b∈G1,b < w1.heap.size from jX.lt);have S1:=ie.put 1 (.slice A1 x.labels.length c1);replace jX:=jX.setCell (p:=⟨w.heap.size,1,none⟩) Pq (.slice A1 x.labels.length c1);have m1:=S1.cw.cell (i:=5) (u:=.slice oh x.ai.length nT) rfl;have z1:=ie.lt;go_wp2_with fail
 refine (ahY x.ai _ _ _ _ (mX.ext S1.aL) cC HV.out).mono ?_;rintro e w2 ⟨A2,c2,G2,rfl,bC,ao⟩;have ic:=S1.ext ao;replace bC:=bC.mono (B':=w1.heap.size) D3;have k2:=ic.cw.cell (i:=5) (u:=.slice oh x.ai.length nT) rfl;have f2:=ic.cw.fz 5;have l2:=ic.cw.lt;have pw:=I (show ∀b∈G2,b < w2.heap.size from bC.lt);have S2:=ic.put 5 (.slice A2 x.ai.length c2);replace jX:=jX.ext ao;replace jX:=jX.setCell (p:=⟨w.heap.size,5,none⟩) xL (.slice A2 x.ai.length c2);replace bC:=bC.setCell (p:=⟨w.heap.size,5,none⟩) xL (.slice A2 x.ai.length c2);have m2:=S2.cw.cell (i:=6) (u:=.slice fA x.ae.length fB) rfl;have z2:=ic.lt;have y2:w1.heap.size≤w2.heap.size:=by have:=ao.size;(try simp [World.setCell] at this);omega
 go_wp2_with fail
 refine (aap x.ae _ _ _ _ (eG.ext S2.aL) mI).mono ?_;rintro e w3 ⟨A3,c3,G3,rfl,hO3,bd⟩;have oC:=S2.ext bd;replace hO3:=hO3.mono (B':=w2.heap.size) D3;have k3:=oC.cw.cell (i:=6) (u:=.slice fA x.ae.length fB) rfl;have f3:=oC.cw.fz 6;have l3:=oC.cw.lt;have S3:=oC.put 6 (.slice A3 x.ae.length c3);replace jX:=jX.ext bd;replace bC:=bC.ext bd;replace jX:=jX.setCell (p:=⟨w.heap.size,6,none⟩) D4 (.slice A3 x.ae.length c3);replace bC:=bC.setCell (p:=⟨w.heap.size,6,none⟩) D4 (.slice A3 x.ae.length c3);replace hO3:=hO3.setCell (p:=⟨w.heap.size,6,none⟩) D4 (.slice A3 x.ae.length c3);obtain ⟨q0,q1,q2,q3,q4,q5,q6⟩:=o4 S3.cw;obtain ⟨r0,r1,r2,r3,r4,r5,r6⟩:=o4 S3.rb;have rf:=S3.rb.fz;have rl:=S3.rb.lt;have z3:=oC.lt;have y3:w2.heap.size≤w3.heap.size:=by have:=bd.size;(try simp [World.setCell] at this);omega
 have gP:=I jX;have RZ:=I bC;have fG:=I hO3;have HS:=I S3;clear jX bC hO3 S1 ie S2 ic S3 oC S0;try dsimp only
 iterate 200 (first | go_step | skip)
 refine bodyPost_ret (v:=.agg #[.string x.name,.slice A1 x.labels.length c1,.int .i64 x.aw,.int .i64 x.mem,.int .i64 x.av,.slice A2 x.ai.length c2,.slice A3 x.ae.length c3]) (by simp [results,Tryz.results96,go_sem, *]) rfl ⟨[.string x.name,.slice A1 x.labels.length c1,.int .i64 x.aw,.int .i64 x.mem,.int .i64 x.av,.slice A2 x.ai.length c2,.slice A3 x.ae.length c3],(G1++(G2++G3)),rfl,?_,?_⟩;rotate_left
 ·exact D2
 refine am.up (B':=w.heap.size+1+1) (fun x:nI=>(x.name,x.labels,x.aw,x.mem,x.av,x.ai,x.ae)) ?_ O;refine am.cons (c1:=[.string x.name]) (d7 _ x.name (rV hname)) ?_;refine am.fa (B2:=w1.heap.size) (c1:=[.slice A1 x.labels.length c1]) (F1:=G1) ?_ ?_ O sn.out
 ·exact Pr
 refine am.cons (c1:=[.int .i64 x.aw]) (jL _ x.aw vg) ?_;refine am.cons (c1:=[.int .i64 x.mem]) (jL _ x.mem cE) ?_;refine am.cons (c1:=[.int .i64 x.av]) (jL _ x.av BJ) ?_;refine am.fa (B2:=w2.heap.size) (c1:=[.slice A2 x.ai.length c2]) (F1:=G2) ?_ ?_ O pw.out
 ·exact Ps
 exact (by repeat (first | with_reducible exact fG.out | with_reducible refine am.setCell ?_ Pp _))
theorem Re (x:ba) (cs:List Value) (F:List Nat) (w:World) (h:rd w x cs F) (fg:(x.labels.length:Int)≤1048576) (cC:(x.aT.length:Int)≤1048576) :
 Calls Tryz.prog 161 #[.agg cs.toArray] w fun e w'=>∃cs F,e = .returned (.agg cs.toArray)∧am w' w.heap.size x cs F∧Below w.heap.size w w':=by
 obtain ⟨gu,gy,jw,kJ,kK,qU,ax,qp,hname,dO,vg,cE,uI,jq⟩:=iy h;subst ax;clear qp h;go_enter Tryz.func161,Tryz.ntmps161;have S0:=Cp.new w [.string x.name,.slice gu x.labels.length gy,.int .i64 x.aw,.int .i64 x.mem,.int .i64 x.aq,.slice kJ x.aT.length kK] [.string ⟨#[]⟩,.slice none 0 0,.int .i64 0,.int .i64 0,.int .i64 0,.slice none 0 0] 38 38;have Mr:=I (OU ((w.alloc (.cells ([.string x.name,.slice gu x.labels.length gy,.int .i64 x.aw,.int .i64 x.mem,.int .i64 x.aq,.slice kJ x.aT.length kK]:List Value).toArray 38)).alloc (.cells ([.string ⟨#[]⟩,.slice none 0 0,.int .i64 0,.int .i64 0,.int .i64 0,.slice none 0 0]:List Value).toArray 38)) 57 2 (w.heap.size+1+1) fj)
 go_wp2_with (
 first
  | (at_builtin
     refine rW (o:=⟨some 6,_,_,_,_,_⟩) SL Z Z _ _ Z _ (w.heap.size+1+1) _ 0 [] Mr.out Z x.labels gu gy _ (dO.ext (ak S0.aL _)) Z O O fj ?_;intro v1 w1 SR E1 Ms SU j4 kv SV;go_must (obtain ⟨A1,c1,hv1⟩:=mY j4)
     go_must (subst hv1)
     go_must (simp only [Nat.zero_add,List.nil_append] at j4)
     go_must (have bm:Below (w.heap.size+1+1) ((w.alloc (.cells ([.string x.name,.slice gu x.labels.length gy,.int .i64 x.aw,.int .i64 x.mem,.int .i64 x.aq,.slice kJ x.aT.length kK]:List Value).toArray 38)).alloc (.cells ([.string ⟨#[]⟩,.slice none 0 0,.int .i64 0,.int .i64 0,.int .i64 0,.slice none 0 0]:List Value).toArray 38)) w1:=lS Mr.out kv ((Below.refl _ _).alloc fj _) fj)
     go_must (have ie:=Cp.ext S0 (bm.mono fj))
     go_must (have Cl:jo w1 x.labels SR E1:=Ms.frame (fun b hb=>kv.block b (Ms.lt b hb) (fun e=>by have h1:=dO.lt b (SU b hb);have h2:=S0.aL.size;simp [Value.ownBlock,World.setCell] at e h2;omega)) kv.size)
     go_must (obtain ⟨A0,c0,G1,gb,jX⟩:=am.cO SM j4 Cl)
     go_must (simp only [Value.slice.injEq,true_and] at gb)
     go_must (obtain ⟨rfl,rfl⟩:=gb)
     go_must (have k1:=ie.cw.cell (i:=1) (u:=.slice gu x.labels.length gy) rfl)
     go_must (have f1:=ie.cw.fz 1)
     go_must (have l1:=ie.cw.lt)
     go_must (have sn:=I (show ∀b∈G1,b < w1.heap.size from jX.lt))
     go_must (have S1:=ie.put 1 (.slice A1 x.labels.length c1))
     go_must (replace jX:=jX.setCell (p:=⟨w.heap.size,1,none⟩) Pq (.slice A1 x.labels.length c1))
     go_must (have m1:=S1.cw.cell (i:=5) (u:=.slice kJ x.aT.length kK) rfl)
     go_must (have z1:=ie.lt)
     go_must (have Z3:=I (OU (w1.setCell ⟨w.heap.size,1,none⟩ (.slice A1 x.labels.length c1)) 84 3 (w1.heap.size) fj)))
  | (at_builtin
     refine rW (o:=⟨some 11,_,_,_,_,_⟩) ZS Z Z _ _ Z _ (w1.heap.size) _ 0 [] Z3.out Z x.aT kJ kK _ (jq.ext (ak S1.aL _)) Z O O fj ?_;intro v2 w2 SP E2 qh ld dT et PR;go_must (obtain ⟨A2,c2,eN⟩:=mY dT)
     go_must (subst eN)
     go_must (simp only [Nat.zero_add,List.nil_append] at dT)
     go_must (have ao:Below (w1.heap.size) (w1.setCell ⟨w.heap.size,1,none⟩ (.slice A1 x.labels.length c1)) w2:=lS Z3.out et ((Below.refl _ _).alloc fj _) fj)
     go_must (have ic:=Cp.ext S1 (ao.mono fj))
     go_must (have SW:jo w2 x.aT SP E2:=qh.frame (fun b hb=>et.block b (qh.lt b hb) (fun e=>by have h1:=jq.lt b (ld b hb);have h2:=S1.aL.size;simp [Value.ownBlock,World.setCell] at e h2;omega)) et.size)
     go_must (obtain ⟨A0,c0,G2,gb,bC⟩:=am.cO ZT dT SW)
     go_must (simp only [Value.slice.injEq,true_and] at gb)
     go_must (obtain ⟨rfl,rfl⟩:=gb)
     go_must (have k2:=ic.cw.cell (i:=5) (u:=.slice kJ x.aT.length kK) rfl)
     go_must (have f2:=ic.cw.fz 5)
     go_must (have l2:=ic.cw.lt)
     go_must (have S2:=ic.put 5 (.slice A2 x.aT.length c2))
     go_must (replace jX:=jX.ext (ao.mono fj))
     go_must (replace jX:=jX.setCell (p:=⟨w.heap.size,5,none⟩) xL (.slice A2 x.aT.length c2))
     go_must (replace bC:=bC.setCell (p:=⟨w.heap.size,5,none⟩) xL (.slice A2 x.aT.length c2))
     go_must (have q0:=S2.cw.cell (i:=0) (u:=.string x.name) rfl)
     go_must (have q1:=S2.cw.cell (i:=1) (u:=.slice A1 x.labels.length c1) rfl)
     go_must (have q2:=S2.cw.cell (i:=2) (u:=.int .i64 x.aw) rfl)
     go_must (have q3:=S2.cw.cell (i:=3) (u:=.int .i64 x.mem) rfl)
     go_must (have q4:=S2.cw.cell (i:=4) (u:=.int .i64 x.aq) rfl)
     go_must (have q5:=S2.cw.cell (i:=5) (u:=.slice A2 x.aT.length c2) rfl)
     go_must (have r0:=S2.rb.cell (i:=0) (u:=.string ⟨#[]⟩) rfl)
     go_must (have r1:=S2.rb.cell (i:=1) (u:=.slice none 0 0) rfl)
     go_must (have r2:=S2.rb.cell (i:=2) (u:=.int .i64 0) rfl)
     go_must (have r3:=S2.rb.cell (i:=3) (u:=.int .i64 0) rfl)
     go_must (have r4:=S2.rb.cell (i:=4) (u:=.int .i64 0) rfl)
     go_must (have r5:=S2.rb.cell (i:=5) (u:=.slice none 0 0) rfl)
     go_must (have rf:=S2.rb.fz)
     go_must (have rl:=S2.rb.lt)
     go_must (have z2:=ic.lt)
     go_must (have y2:w1.heap.size≤w2.heap.size:=by have:=ao.size;(try simp [World.setCell] at this);omega)))
 have gP:=I jX;have RZ:=I bC;have HS:=I S2;clear jX bC S1 ie S2 ic S0;try dsimp only
 iterate 200 (first | go_step | skip)
 refine bodyPost_ret (v:=.agg #[.string x.name,.slice A1 x.labels.length c1,.int .i64 x.aw,.int .i64 x.mem,.int .i64 x.aq,.slice A2 x.aT.length c2]) (by simp [results,Tryz.results161,go_sem, *]) rfl ⟨[.string x.name,.slice A1 x.labels.length c1,.int .i64 x.aw,.int .i64 x.mem,.int .i64 x.aq,.slice A2 x.aT.length c2],(G1++G2),rfl,?_,?_⟩;rotate_left
 ·exact D2
 refine am.up (B':=w.heap.size+1+1) (fun x:ba=>(x.name,x.labels,x.aw,x.mem,x.aq,x.aT)) ?_ O;refine am.cons (c1:=[.string x.name]) (d7 _ x.name (rV hname)) ?_;refine am.fa (B2:=w1.heap.size) (c1:=[.slice A1 x.labels.length c1]) (F1:=G1) ?_ ?_ O sn.out
 ·exact Pr
 refine am.cons (c1:=[.int .i64 x.aw]) (jL _ x.aw vg) ?_;refine am.cons (c1:=[.int .i64 x.mem]) (jL _ x.mem cE) ?_;refine am.cons (c1:=[.int .i64 x.aq]) (jL _ x.aq uI) ?_;exact Ps
theorem Q4 (x:nI) (cs:List Value) (F:List Nat) (w:World) (h:rd w x cs F) (fg:(x.labels.length:Int)≤1048576) (cC:(x.ai.length:Int)≤1048576) (mI:(x.ae.length:Int)≤1048576) (hv:∀y∈x.ai,(y.values.length:Int)≤1048576) :
 Calls Tryz.prog 162 #[.agg cs.toArray] w fun e w'=>∃cs F,e = .returned (.agg cs.toArray)∧am w' w.heap.size x cs F∧Below w.heap.size w w':=by
 have HV:=I hv;clear hv;obtain ⟨gu,gy,jw,oh,nT,wG,fA,fB,jY,ax,qp,hname,dO,vg,cE,BJ,mX,eG⟩:=dL h;subst ax;clear qp h;go_enter Tryz.func162,Tryz.ntmps162;have S0:=Cp.new w [.string x.name,.slice gu x.labels.length gy,.int .i64 x.aw,.int .i64 x.mem,.int .i64 x.av,.slice oh x.ai.length nT,.slice fA x.ae.length fB] [.string ⟨#[]⟩,.slice none 0 0,.int .i64 0,.int .i64 0,.int .i64 0,.slice none 0 0,.slice none 0 0] 46 46;have Mr:=I (OU ((w.alloc (.cells ([.string x.name,.slice gu x.labels.length gy,.int .i64 x.aw,.int .i64 x.mem,.int .i64 x.av,.slice oh x.ai.length nT,.slice fA x.ae.length fB]:List Value).toArray 46)).alloc (.cells ([.string ⟨#[]⟩,.slice none 0 0,.int .i64 0,.int .i64 0,.int .i64 0,.slice none 0 0,.slice none 0 0]:List Value).toArray 46)) 57 2 (w.heap.size+1+1) fj)
 go_wp2_with (
  at_builtin
  refine rW (o:=⟨some 6,_,_,_,_,_⟩) SL Z Z _ _ Z _ (w.heap.size+1+1) _ 0 [] Mr.out Z x.labels gu gy _ (dO.ext (ak S0.aL _)) Z O O fj ?_;intro v1 w1 SR E1 Ms SU j4 kv SV;go_must (obtain ⟨A1,c1,hv1⟩:=mY j4)
  go_must (subst hv1)
  go_must (simp only [Nat.zero_add,List.nil_append] at j4)
  go_must (have bm:Below (w.heap.size+1+1) ((w.alloc (.cells ([.string x.name,.slice gu x.labels.length gy,.int .i64 x.aw,.int .i64 x.mem,.int .i64 x.av,.slice oh x.ai.length nT,.slice fA x.ae.length fB]:List Value).toArray 46)).alloc (.cells ([.string ⟨#[]⟩,.slice none 0 0,.int .i64 0,.int .i64 0,.int .i64 0,.slice none 0 0,.slice none 0 0]:List Value).toArray 46)) w1:=lS Mr.out kv ((Below.refl _ _).alloc fj _) fj)
  go_must (have ie:=Cp.ext S0 (bm.mono fj))
  go_must (have Cl:jo w1 x.labels SR E1:=Ms.frame (fun b hb=>kv.block b (Ms.lt b hb) (fun e=>by have h1:=dO.lt b (SU b hb);have h2:=S0.aL.size;simp [Value.ownBlock,World.setCell] at e h2;omega)) kv.size)
  go_must (obtain ⟨A0,c0,G1,gb,jX⟩:=am.cO SM j4 Cl)
  go_must (simp only [Value.slice.injEq,true_and] at gb)
  go_must (obtain ⟨rfl,rfl⟩:=gb)
  go_must (have k1:=ie.cw.cell (i:=1) (u:=.slice gu x.labels.length gy) rfl)
  go_must (have f1:=ie.cw.fz 1)
  go_must (have l1:=ie.cw.lt)
  go_must (have sn:=I (show ∀b∈G1,b < w1.heap.size from jX.lt))
  go_must (have S1:=ie.put 1 (.slice A1 x.labels.length c1))
  go_must (replace jX:=jX.setCell (p:=⟨w.heap.size,1,none⟩) Pq (.slice A1 x.labels.length c1))
  go_must (have m1:=S1.cw.cell (i:=5) (u:=.slice oh x.ai.length nT) rfl)
  go_must (have z1:=ie.lt))
 go_wp2_with fail
 refine (PU x.ai _ _ _ _ (mX.ext S1.aL) cC HV.out).mono ?_;rintro e w2 ⟨A2,c2,G2,rfl,bC,ao⟩;have ic:=S1.ext ao;replace bC:=bC.mono (B':=w1.heap.size) D3;have k2:=ic.cw.cell (i:=5) (u:=.slice oh x.ai.length nT) rfl;have f2:=ic.cw.fz 5;have l2:=ic.cw.lt;have pw:=I (show ∀b∈G2,b < w2.heap.size from bC.lt);have S2:=ic.put 5 (.slice A2 x.ai.length c2);replace jX:=jX.ext ao;replace jX:=jX.setCell (p:=⟨w.heap.size,5,none⟩) xL (.slice A2 x.ai.length c2);replace bC:=bC.setCell (p:=⟨w.heap.size,5,none⟩) xL (.slice A2 x.ai.length c2);have m2:=S2.cw.cell (i:=6) (u:=.slice fA x.ae.length fB) rfl;have z2:=ic.lt;have y2:w1.heap.size≤w2.heap.size:=by have:=ao.size;(try simp [World.setCell] at this);omega
 have Z4:=I (OU (w2.setCell ⟨w.heap.size,5,none⟩ (.slice A2 x.ai.length c2)) 91 4 (w2.heap.size) fj)
 go_wp2_with (
  at_builtin
  refine rW (o:=⟨some 15,_,_,_,_,_⟩) ZU Z Z _ _ Z _ (w2.heap.size) _ 0 [] Z4.out Z x.ae fA fB _ (eG.ext (ak S2.aL _)) Z O O fj ?_;intro v3 w3 ds3 E3 Mt NW d8 mU vI;go_must (obtain ⟨A3,c3,iA⟩:=mY d8)
  go_must (subst iA)
  go_must (simp only [Nat.zero_add,List.nil_append] at d8)
  go_must (have bd:Below (w2.heap.size) (w2.setCell ⟨w.heap.size,5,none⟩ (.slice A2 x.ai.length c2)) w3:=lS Z4.out mU ((Below.refl _ _).alloc fj _) fj)
  go_must (have oC:=Cp.ext S2 (bd.mono fj))
  go_must (have SX:jo w3 x.ae ds3 E3:=Mt.frame (fun b hb=>mU.block b (Mt.lt b hb) (fun e=>by have h1:=eG.lt b (NW b hb);have h2:=S2.aL.size;simp [Value.ownBlock,World.setCell] at e h2;omega)) mU.size)
  go_must (obtain ⟨A0,c0,G3,gb,hO3⟩:=am.cO Zk d8 SX)
  go_must (simp only [Value.slice.injEq,true_and] at gb)
  go_must (obtain ⟨rfl,rfl⟩:=gb)
  go_must (have k3:=oC.cw.cell (i:=6) (u:=.slice fA x.ae.length fB) rfl)
  go_must (have f3:=oC.cw.fz 6)
  go_must (have l3:=oC.cw.lt)
  go_must (have S3:=oC.put 6 (.slice A3 x.ae.length c3))
  go_must (replace jX:=jX.ext (bd.mono fj))
  go_must (replace bC:=bC.ext (bd.mono fj))
  go_must (replace jX:=jX.setCell (p:=⟨w.heap.size,6,none⟩) D4 (.slice A3 x.ae.length c3))
  go_must (replace bC:=bC.setCell (p:=⟨w.heap.size,6,none⟩) D4 (.slice A3 x.ae.length c3))
  go_must (replace hO3:=hO3.setCell (p:=⟨w.heap.size,6,none⟩) D4 (.slice A3 x.ae.length c3))
  go_must (have q0:=S3.cw.cell (i:=0) (u:=.string x.name) rfl)
  go_must (have q1:=S3.cw.cell (i:=1) (u:=.slice A1 x.labels.length c1) rfl)
  go_must (have q2:=S3.cw.cell (i:=2) (u:=.int .i64 x.aw) rfl)
  go_must (have q3:=S3.cw.cell (i:=3) (u:=.int .i64 x.mem) rfl)
  go_must (have q4:=S3.cw.cell (i:=4) (u:=.int .i64 x.av) rfl)
  go_must (have q5:=S3.cw.cell (i:=5) (u:=.slice A2 x.ai.length c2) rfl)
  go_must (have q6:=S3.cw.cell (i:=6) (u:=.slice A3 x.ae.length c3) rfl)
  go_must (have r0:=S3.rb.cell (i:=0) (u:=.string ⟨#[]⟩) rfl)
  go_must (have r1:=S3.rb.cell (i:=1) (u:=.slice none 0 0) rfl)
  go_must (have r2:=S3.rb.cell (i:=2) (u:=.int .i64 0) rfl)
  go_must (have r3:=S3.rb.cell (i:=3) (u:=.int .i64 0) rfl)
  go_must (have r4:=S3.rb.cell (i:=4) (u:=.int .i64 0) rfl)
  go_must (have r5:=S3.rb.cell (i:=5) (u:=.slice none 0 0) rfl)
  go_must (have r6:=S3.rb.cell (i:=6) (u:=.slice none 0 0) rfl)
  go_must (have rf:=S3.rb.fz)
  go_must (have rl:=S3.rb.lt)
  go_must (have z3:=oC.lt)
  go_must (have y3:w2.heap.size≤w3.heap.size:=by have:=bd.size;(try simp [World.setCell] at this);omega))
 have gP:=I jX;have RZ:=I bC;have fG:=I hO3;have HS:=I S3;clear jX bC hO3 S1 ie S2 ic S3 oC S0;try dsimp only
 iterate 200 (first | go_step | skip)
 refine bodyPost_ret (v:=.agg #[.string x.name,.slice A1 x.labels.length c1,.int .i64 x.aw,.int .i64 x.mem,.int .i64 x.av,.slice A2 x.ai.length c2,.slice A3 x.ae.length c3]) (by simp [results,Tryz.results162,go_sem, *]) rfl ⟨[.string x.name,.slice A1 x.labels.length c1,.int .i64 x.aw,.int .i64 x.mem,.int .i64 x.av,.slice A2 x.ai.length c2,.slice A3 x.ae.length c3],(G1++(G2++G3)),rfl,?_,?_⟩;rotate_left
 ·exact D2
 refine am.up (B':=w.heap.size+1+1) (fun x:nI=>(x.name,x.labels,x.aw,x.mem,x.av,x.ai,x.ae)) ?_ O;refine am.cons (c1:=[.string x.name]) (d7 _ x.name (rV hname)) ?_;refine am.fa (B2:=w1.heap.size) (c1:=[.slice A1 x.labels.length c1]) (F1:=G1) ?_ ?_ O sn.out
 ·exact Pr
 refine am.cons (c1:=[.int .i64 x.aw]) (jL _ x.aw vg) ?_;refine am.cons (c1:=[.int .i64 x.mem]) (jL _ x.mem cE) ?_;refine am.cons (c1:=[.int .i64 x.av]) (jL _ x.av BJ) ?_;refine am.fa (B2:=w2.heap.size) (c1:=[.slice A2 x.ai.length c2]) (F1:=G2) ?_ ?_ O pw.out
 ·exact Ps
 exact (by repeat (first | with_reducible exact fG.out | with_reducible refine am.setCell ?_ Pp _))
end Go.Proofs.YtjahcnjmjahbaaaGreat
