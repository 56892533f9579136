/- Rows of the call's own whose spare cells are known. No condition. -/
import Derived.Test.YtajbbmembionpaaGreatClone
import Derived.Shelf.Spec.SlicesInsert
import Derived.Lib.AppendZerosOnto
import Derived.Shelf.GgSortFunc.RowK
namespace Go.Proofs.YtajbbmembionpaaGreat
open Go.ChangeShapes Go.WideShapes Go.ChangeAt Go.RowKit
set_option linter.unusedVariables false
set_option linter.unusedSimpArgs false
set_option maxHeartbeats 4000000
set_option maxRecDepth 100000
structure eZ (α:Type) where
 l:List α
 t:TypeId
instance {α:Type} [bc α]:bc (eZ α) where
 size:=1
 pos:=by omega
 rd w x cs F:=rd w x.l cs F∧((x.l = []∧cs = [.slice none 0 0])∨∃g c dx G,x.l≠[]∧cs = [.slice (some ⟨g,0,none⟩) x.l.length c]∧F = g :: G∧w.heap[g]? = some (.cells dx x.t (0,0))∧dx.size = c * bc.size α)
 len h:=bc.len h.1
 one h:=bc.one h.1
 lt h:=bc.lt h.1
 frame h hk hz:=⟨bc.frame h.1 hk hz,by
  rcases h.2 with h2 | ⟨g,c,dx,G,h0,h1,h2,h3,h4⟩
  ·exact .inl h2
  ·exact .inr ⟨g,c,dx,G,h0,h1,h2,(hk g (by rw [h2];exact List.mem_cons_self ..)).trans h3,h4⟩⟩
section
variable {α:Type} [bc α] {w:World} {B:Nat} {xs:List α} {ds:List Value} {F:List Nat}
theorem am.list {cs:List Value} {t:TypeId} (h:am w B (eZ.mk xs t) cs F):am w B xs cs F:=⟨h.rd.1,h.nodup,h.base,h.plain⟩
theorem am.QX {e:TypeId} {v:Value} (h0:w.ownsRow B e (bc.size α) v xs.length ds) (h:aY w B xs ds F) (b4:∀g,v.ownBlock = some g→g∉F) (hv:xs.length = 0→v = .slice none 0 0):∃A c G,v = .slice A xs.length c∧am w B (eZ.mk xs e) [.slice A xs.length c] G:=by
 obtain ⟨A,c,G,hA,hO⟩:=am.oJ h0 h b4;refine ⟨A,c,G,hA,⟨⟨hO.rd,?_⟩,hO.nodup,hO.base,hO.plain⟩⟩;by_cases hx:xs = []
 ·left;have:=hv (by rw [hx];rfl);rw [this] at hA;exact ⟨hx,by rw [hA]⟩
 ·right;rcases h0.2 with ⟨_,Z⟩ | ⟨g,aq,dx,h1,h2,h3,h4,h5,h6,h7⟩
  ·exact absurd (List.eq_nil_of_length_eq_zero Z) hx
  ·rw [hA] at h1;simp only [Value.slice.injEq,true_and] at h1;obtain ⟨rfl,rfl⟩:=h1;obtain ⟨A',c',G',ds',e0,_,_,_,h8⟩:=hO.rd;simp only [List.cons.injEq,Value.slice.injEq,and_true,true_and] at e0;obtain ⟨rfl,rfl⟩:=e0;rcases h8 with ⟨h9,_⟩ | ⟨b,o,X,rfl,_,_⟩
   ·exact absurd h9 hx
   ·simp only [Option.some.injEq,Addr.mk.injEq,and_true] at X;obtain ⟨rfl,rfl⟩:=X;exact ⟨g,c,dx,G',hx,rfl,rfl,h3,h6⟩
theorem am.oc {t:TypeId} {A:Option Addr} {c:Nat} (h:am w B (eZ.mk xs t) [.slice A xs.length c] F):∃ds G,w.ownsRow B t (bc.size α) (.slice A xs.length c) xs.length ds∧aY w B xs ds G∧(∀g,(Value.slice A xs.length c).ownBlock = some g→g∉G)∧(∀b∈G,b∈F):=by
 obtain ⟨⟨A',c',G,ds,e0,hl,hm,hc,h0⟩,h2⟩:=h.rd;simp only [List.cons.injEq,Value.slice.injEq,and_true,true_and] at e0;obtain ⟨rfl,rfl⟩:=e0;rcases h2 with ⟨hx,he⟩ | ⟨g,c',dx,G',hx0,he,hF,hg,hs⟩
 ·simp only at hx;subst hx;simp only [List.length_nil,List.cons.injEq,Value.slice.injEq,and_true,true_and] at he;obtain ⟨rfl,rfl⟩:=he;exact ⟨[],[],⟨S',.inl ⟨rfl,rfl⟩⟩,aY.nil w B,(fun g hg=>by cases hg),(fun b X=>by cases X)⟩
 ·simp only [List.cons.injEq,Value.slice.injEq,and_true,true_and] at he;obtain ⟨rfl,rfl⟩:=he;rcases h0 with ⟨hx,qp⟩ | ⟨b,o,X,nW,ax,bE⟩
  ·rw [qp] at hF;cases hF
  ·simp only [Option.some.injEq,Addr.mk.injEq,and_true] at X;obtain ⟨rfl,rfl⟩:=X;subst nW;have Z:=List.nodup_cons.1 h.nodup;have gj:ds.length = xs.length * bc.size α:=hc.len;refine ⟨ds,G,⟨gj,.inr ⟨g,c,dx,rfl,h.base g (List.mem_cons_self ..),hg,hl,hm,hs,?_⟩⟩,⟨hc,Z.2,fun b X=>h.base b (List.mem_cons_of_mem _ X),fun b X=>h.plain b (List.mem_cons_of_mem _ X)⟩,(fun q hq=>by simp only [Value.ownBlock,Option.some.injEq] at hq;subst hq;exact Z.1),fun b X=>List.mem_cons_of_mem _ X⟩;apply List.ext_getElem?;intro j;rw [List.getElem?_take];by_cases hj:j < xs.length * bc.size α
   ·rw [if_pos hj];have hd:ds[j]? = some ds[j]:=List.getElem?_eq_getElem J;have:=bE j _ hd;rw [Nat.zero_add,cell_of_row w g j dx t (0,0) hg] at this;rw [hd,← this];simp
   ·rw [if_neg hj,List.getElem?_eq_none J]
theorem am.EX {t:TypeId} {v:Value} {G:List Nat} (h:am w B xs [v] F) (hr:Go.Proofs.YtajbbmembionpaaGreat.bc.rd w (eZ.mk xs t) [v] G):am w B (eZ.mk xs t) [v] F:=by
 refine ⟨⟨h.rd,?_⟩,h.nodup,h.base,h.plain⟩;rcases hr.2 with h1 | ⟨g,c,dx,G',h0,h1,h2,h3,h4⟩
 ·exact .inl h1
 ·refine .inr ⟨g,c,dx,?_⟩;obtain ⟨A',c',G2,ds,e0,hl,hm,hc,h5⟩:=h.rd;rcases h5 with ⟨hx,_⟩ | ⟨b,o,X,hF,_,_⟩
  ·exact absurd hx h0
  ·subst X;rw [e0] at h1;simp only [List.cons.injEq,Value.slice.injEq,Option.some.injEq,Addr.mk.injEq,and_true,true_and] at h1;refine ⟨G2,h0,?_,?_,h3,h4⟩
   ·rw [e0,h1.1.1,h1.1.2,h1.2]
   ·rw [hF,h1.1.1]
end
def E0 (x:aU) (w:World) (cs:List Value):Prop:=∃Ah ch Ap cp Gh Gp rest,cs = .slice Ah x.aa.length ch :: .slice Ap x.V.length cp :: rest∧Go.Proofs.YtajbbmembionpaaGreat.bc.rd w (eZ.mk x.aa 47) [.slice Ah x.aa.length ch] Gh∧Go.Proofs.YtajbbmembionpaaGreat.bc.rd w (eZ.mk x.V 53) [.slice Ap x.V.length cp] Gp
theorem JR (xs:List aM) (A:Option Addr) (c:Nat) (F:List Nat) (w:World) (h:Sl w xs A c F) (hl:(xs.length:Int)≤1048576) (hv:∀x∈xs,(x.values.length:Int)≤1048576) :
 Calls Tryz.prog 35 #[.slice A xs.length c] w fun e w'=>∃v ds F',e = .returned v∧w'.ownsRow w.heap.size 70 3 v xs.length ds∧aY w' w.heap.size xs ds F'∧(∀g,v.ownBlock = some g→g∉F')∧Below w.heap.size w w':=by
 have HV:=I hv;clear hv;go_enter Tryz.func35,Tryz.ntmps35;go_wp2_with fail
 go_loopw [3,4] (fun v i wr=>∃(k:Nat) (ds:List Value) (F':List Nat),k≤xs.length∧i = .int .i64 k∧wr.ownsRow w.heap.size 70 3 v k ds∧aY wr w.heap.size (xs.take k) ds F'∧(∀g,v.ownBlock = some g→g∉F')∧Below w.heap.size w wr) (fun _ i _=>xs.length - (intOf i).toNat)
 case atStart=>exact ⟨0,[],[],Nat.zero_le _,rfl,World.ownsRow_made (size:=3) w #[] 0 (Nat.le_refl _) (Nat.zero_le _) S',aY.nil _ _,(fun g _ hm=>by cases hm),ak (aj _) _⟩
 case round =>
  obtain ⟨k,ds,F',hk,rfl,bk,hO,b4,aR⟩:=hrel;by_cases ax:k < xs.length
  ·obtain ⟨b,o,ck,Fk,rfl,o9,hbs,hr,nX,hc⟩:=(h.ext aR).get ax;obtain ⟨pX,pY,KG,aE,hF1,xO,tx,wO⟩:=og hr;subst aE;clear hF1 hr;obtain ⟨q0,q1,q2⟩:=pS 3 hc;clear hc;have hvl:=HV.out xs[k] (List.getElem_mem ax);obtain ⟨Av,cv,fW⟩:=mY bk;subst fW;have HO:=I bk;have HN:=I b4;have AD:=I aR;have Y6:=I hO.lt;clear bk b4 aR;have E7:=oG.new wr [.string xs[k].key,.int .i64 xs[k].op,.slice pX xs[k].values.length pY] 70
   have HM:=I (show ((wr.alloc (.cells ([.string xs[k].key,.int .i64 xs[k].op,.slice pX xs[k].values.length pY]:List Value).toArray 70)).alloc (.cells #[] 9)).ownsRow (wr.heap.size+1) 9 1 (.slice (some ⟨wr.heap.size+1,0,none⟩) 0 0) 0 [] from by
    have:=World.ownsRow_made (base:=wr.heap.size+1) (e:=9) (size:=1) (wr.alloc (.cells ([.string xs[k].key,.int .i64 xs[k].op,.slice pX xs[k].values.length pY]:List Value).toArray 70)) #[] 0 S' (Nat.zero_le _) S';rw [World.size_alloc] at this
    exact this)
   go_wp2_with (first
    | (at_builtin
       refine rW (o:=⟨some 20,_,_,_,_,_⟩) Ud O O _ _ O _ (wr.heap.size+1) _ 0 [] HM.out O xs[k].values pX pY _ (wO.ext (ak (ak (aj _) _) _)) O J J S' ?_;intro v2 w2 Mh G dt bB et hg cY;go_must (obtain ⟨A2,c2,gn⟩:=mY et)
       go_must (subst gn)
       go_must (simp only [Nat.zero_add,List.nil_append] at et)
       go_must (have ar:Below wr.heap.size wr w2:=lS (vP HM.out (Nat.le_succ _)) hg (ak (ak (aj _) _) _) (by simp;omega))
       go_must (have yo:oG w2 wr.heap.size [.string xs[k].key,.int .i64 xs[k].op,.slice pX xs[k].values.length pY]:=E7.bs ((hg.block _ (by simp;omega) Lz).trans (heap_alloc_old _ _ S')))
       go_must (have pq:jo w2 xs[k].values Mh G:=dt.frame (fun b X=>hg.block b (dt.lt b X) (fun e=>by have:=(wO.lt b (bB b X));simp [Value.ownBlock] at e;omega)) hg.size)
       go_must (obtain ⟨A3,c3,G3,jx,bI⟩:=am.cZ P8 et pq)
       go_must (simp only [Value.slice.injEq,true_and] at jx)
       go_must (obtain ⟨rfl,rfl⟩:=jx)
       go_must (have k0:=yo.cell (i:=0) (u:=.string xs[k].key) rfl)
       go_must (have k1:=yo.cell (i:=1) (u:=.int .i64 xs[k].op) rfl)
       go_must (have k2:=yo.cell (i:=2) (u:=.slice pX xs[k].values.length pY) rfl)
       go_must (have kl:=yo.lt)
       go_must (have kf:=yo.fz 2)
       go_must (have AT:am w2 (wr.heap.size+1) xs[k] [.string xs[k].key,.int .i64 xs[k].op,.slice A2 xs[k].values.length c2] G3:=am.up (B':=wr.heap.size+1) (fun x:aM=>(x.key,x.op,x.values)) (am.cons (c1:=[.string xs[k].key]) (dE _ _ (rV xO)) (am.cons (c1:=[.int .i64 xs[k].op]) (jL _ _ tx) bI)) (Nat.le_refl _))
       go_must (have Rg:=AT.setCell (p:=⟨wr.heap.size,2,none⟩) (Nat.lt_succ_self _) (.slice A2 xs[k].values.length c2))
       go_must (have bd:(w2.setCell ⟨wr.heap.size,2,none⟩ (.slice A2 xs[k].values.length c2)).ownsRow w.heap.size 70 3 (.slice Av k cv) k ds:=EJ (mG HO.out ar) (fun g hg=>by have:=(HO.out.lt g hg).2;omega))
       go_must (have cb:aY (w2.setCell ⟨wr.heap.size,2,none⟩ (.slice A2 xs[k].values.length c2)) w.heap.size (xs.take k) ds F':=(hO.ext ar).bs (fun y hy=>Below.heap_setCell _ _ _ _ (by have:=hO.lt y hy;dsimp only;omega)) eC)
       go_must (have Mi:Below wr.heap.size wr (w2.setCell ⟨wr.heap.size,2,none⟩ (.slice A2 xs[k].values.length c2)):=aC ar (Nat.le_refl _) _)
       go_must (have aK:=yo.put 2 (.slice A2 xs[k].values.length c2))
       go_must (have XG:=I Rg)
       go_must (have HR:=I bd)
       go_must (have HC:=I cb)
       go_must (have XH:=I Mi)
       go_must (have JS:=Mi.size)
       go_must (clear AT bI dt pq et hO E7 yo hg cY ar Rg cb Mi))
    | (at_builtin
       refine uf (o:=⟨some 25,_,_,_,_,_⟩) XF O _ _ O _ _ _ _ _ bd O [.string xs[k].key,.int .i64 xs[k].op,.slice A2 xs[k].values.length c2] i6 O ex J J (by have:=AD.out.size;omega) ?_
       intro v4 w4 cX gM Wy j5))
   have aR:=AD.out;obtain ⟨l7,hne4⟩:=aY.px (v':=v4) HR.out HC.out HN.out XG.out (by have:=aR.size;omega) (fun g hg=>by have:=(HO.out.lt g hg).2;omega) (fun y hy=>by have:=Y6.out y hy;omega) gM j5;rw [← List.take_succ_eq_append_getElem ax] at l7;exact ⟨⟨k+1,_,_,J,N',cX,l7,hne4,lS (vP HR.out (Nat.le_refl _)) gM (ah aR XH.out) (by have:=aR.size;omega)⟩,by simp [intOf];omega⟩
  ·have bF:k = xs.length:=J;subst bF;rw [List.take_length] at hO;obtain ⟨Ah,ch,hvh⟩:=mY bk;subst hvh;have HO:=I bk;clear bk;go_wp2;go_ret
   exact ⟨_,ds,F',rfl,HO.out,hO,b4,aR⟩
theorem JT (xs:List aM) (A:Option Addr) (c:Nat) (F:List Nat) (w:World) (h:Sl w xs A c F) (hl:(xs.length:Int)≤1048576) (hv:∀x∈xs,(x.values.length:Int)≤1048576) :
 Calls Tryz.prog 35 #[.slice A xs.length c] w fun e w'=>∃A' c' F',e = .returned (.slice A' xs.length c')∧am w' w.heap.size xs [.slice A' xs.length c'] F'∧Below w.heap.size w w' :=
 (JR xs A c F w h hl hv).mono fun e w' ⟨v,ds,F',he,bk,hO,b4,X⟩=>by
  obtain ⟨Ah,ch,Gh,rfl,Xp⟩:=am.oJ bk hO b4;exact ⟨_,_,_,he,Xp,X⟩
def ld (r:Eb):zk:=(r.name,r.aw,r.seq)
theorem anC:(Tryz.prog.info? 9).map (fun i=>(i.zero,i.size,i.bytes)) = some (some (.string ⟨#[]⟩),1,16):=by kernel_rfl
theorem ajn:DL Tryz.prog 40 9 (.string ⟨#[]⟩) 1 16:=⟨Tryz.underlying40,anC,rfl,J⟩
theorem Th (w:World):∀ys:List ByteArray,(∀y∈ys,y.size≤maxLen)→jo w ys (ys.map Value.string) []
 | [],_=>⟨rfl,rfl⟩
 | y :: ys,h=>⟨[.string y],ys.map Value.string,[],[],rfl,rfl,⟨rfl,rfl,h y (List.mem_cons_self ..)⟩,Th w ys fun z hz=>h z (List.mem_cons_of_mem _ hz)⟩
theorem adz {w:World} {B e B':Nat} {v:Value} {xs:List ByteArray} {n:Nat} (h:w.ownsRow B e 1 v n (xs.map Value.string)) (Z:n = xs.length) (hB:B'≤B) (hz:∀y∈xs,y.size≤maxLen) :
 ∃A c G,v = .slice A xs.length c∧am w B' xs [.slice A xs.length c] G:=by
 subst Z;exact am.oJ (e:=e) (ds:=xs.map Value.string) (F:=[]) (vP h hB) ⟨Th w _ hz,List.nodup_nil,(fun b X=>by cases X),(fun b X=>by cases X)⟩ (fun g _ hm=>by cases hm)
theorem asU:(Tryz.prog.info? 3).map (fun i=>(i.zero,i.size,i.bytes)) = some (some (.int .i64 0),1,8):=by kernel_rfl
theorem Bm:DL Tryz.prog 42 3 (.int .i64 0) 1 8:=⟨Tryz.underlying42,asU,rfl,J⟩
theorem asV {a b:Bool} (h:a = b):Ending.returned (.bool a) = .returned (.bool b):=by rw [h]
theorem Vo (x y:Eb) (w:World) :
 Calls Tryz.prog 160 #[.agg #[.string x.name,.slice x.la x.ln x.lc,.int .i64 x.az,.int .i64 x.mem,.int .i64 x.aw,.slice x.na x.nn x.nc,.slice x.ta x.tn x.tc,.string x.on,.int .i64 x.seq],.agg #[.string y.name,.slice y.la y.ln y.lc,.int .i64 y.az,.int .i64 y.mem,.int .i64 y.aw,.slice y.na y.nn y.nc,.slice y.ta y.tn y.tc,.string y.on,.int .i64 y.seq]] w fun e w'=>e = .returned (.bool (kS pe (ld x) (ld y)))∧Below w.heap.size w w':=by
 have ax:=alD (ld x) (ld y);have e1:(ld x).2.1 = x.aw:=rfl;have e2:(ld y).2.1 = y.aw:=rfl;have e3:(ld x).2.2 = x.seq:=rfl;have e4:(ld y).2.2 = y.seq:=rfl;rw [e1,e2,e3,e4] at ax;clear e1 e2 e3 e4;generalize kS pe (ld x) (ld y) = L at *;cases h1:decide (y.aw < x.aw) <;> cases h2:(x.aw == y.aw) <;> cases h3:decide (x.seq < y.seq)
 all_goals
  have HL:=I ax;have H1:=I h1;have H2:=I h2;have H3:=I h3;clear ax;go_enter Tryz.func160,Tryz.ntmps160;go_wp2;go_ret
  refine ⟨asV ?_,ak (ak (aj _) _) _⟩;have a1:=H1.out;have a2:=H2.out;have a3:=H3.out;have a4:=HL.out;simp at a1 a2 a3;cases L
  ·simp at a4 ⊢;try omega
  ·simp at a4 ⊢;try omega
def ox (ps:List ag) (i:Nat):zk:=match ps[i]? with | some p=>Gj p | none=>(⟨#[]⟩,0,0)
theorem KV {ps:List ag} {i:Nat} (h:i < ps.length):ox ps i = Gj ps[i]:=by unfold ox;rw [List.getElem?_eq_getElem h]
theorem NQ {w:World} {ps:List ag} {A:Option Addr} {c:Nat} {F:List Nat} (h:Sl w ps A c F) (b4:0 < ps.length):∃b o,A = some ⟨b,o,none⟩∧b < w.heap.size ∧
 ∀z (hz:z < ps.length),∃r:Eb,ld r = Gj ps[z]∧r.on = ps[z].on∧r.name.size≤maxLen∧∀j u,(tH r)[j]? = some u→w.cell? ⟨b,o+z * 9+j,none⟩ = some u:=by
 obtain ⟨b,o,_,_,hA,_,hbs,_⟩:=Sl.get (α:=ag) h b4;subst hA;refine ⟨b,o,rfl,hbs,fun z hz=>?_⟩;obtain ⟨b',o',ck,Fk,hA,o9,_,hr,bB,hc⟩:=Sl.get (α:=ag) h hz;simp only [Option.some.injEq,Addr.mk.injEq,and_true] at hA;obtain ⟨rfl,rfl⟩:=hA;obtain ⟨c1,c2,F1,F2,rfl,rfl,QS,_,_,_,_,rfl,rfl,⟨rfl,rfl,gR⟩,⟨rfl,rfl,hseq⟩⟩:=hr;obtain ⟨Al,cl,Fl,An,cn,Fn,At,ct,Ft,aE,su,hpn,_⟩:=dL QS;subst aE;refine ⟨⟨ps[z].aS.name,Al,ps[z].aS.labels.length,cl,ps[z].aS.az,ps[z].aS.mem,ps[z].aS.aw,An,ps[z].aS.ai.length,cn,At,ps[z].aS.ae.length,ct,ps[z].on,ps[z].seq⟩,rfl,rfl,hpn,fun j u hu=>?_⟩;have:=hc j u hu;rw [show o+(z * bc.size ag+j) = o+z * 9+j from by show o+(z * 9+j) = _;omega] at this;exact this
def fJ {α:Type} (i:Nat) (x:α) (xs:List α):List α:=xs.take i++x :: xs.drop i
theorem xe {α:Type} (i:Nat) (x:α) (xs:List α):(fJ i x xs).length = xs.length+1:=by simp [fJ];omega
theorem aY.ins {α:Type} [bc α] {w:World} {B:Nat} {xs:List α} {x:α} {ds cs:List Value} {F G:List Nat} (h:aY w B xs ds F) (hx:am w B x cs G) (hd:∀y∈F,y∉G) (i:Nat) (hi:i≤xs.length) :
 ∃F',aY w B (fJ i x xs) (ds.take (i * bc.size α)++(cs++ds.drop (i * bc.size α))) F'∧(∀y∈F',y∈F∨y∈G):=by
 obtain ⟨hr,Z,X,hp⟩:=h;rw [← List.take_append_drop i xs] at hr;obtain ⟨d1,d2,F1,F2,rfl,rfl,h1,h2⟩:=jo.fu hr;have hl:d1.length = i * bc.size α:=by rw [h1.len,List.length_take,Nat.min_eq_left hi]
 rw [← hl,List.take_left,List.drop_left];have L7:=List.nodup_append.1 Z;have bB:∀y∈F1++(G++F2),y∈F1++F2∨y∈G:=fun y hy=>by
  simp only [List.mem_append] at hy ⊢;rcases hy with hy | hy | hy <;> simp [hy]
 refine ⟨F1++(G++F2),⟨h1.append ⟨cs,d2,G,F2,rfl,rfl,hx.rd,h2⟩,?_,fun y hy=>?_,fun y hy=>?_⟩,bB⟩
 ·rw [List.nodup_append,List.nodup_append];refine ⟨L7.1,⟨hx.nodup,L7.2.1,fun a ha b ek e=>hd b (List.mem_append_right _ ek) (e ▸ ha)⟩,fun a ha b ek e=>?_⟩;rcases List.mem_append.1 ek with ek | ek
  ·exact hd a (List.mem_append_left _ ha) (e ▸ ek)
  ·exact L7.2.2 a ha b ek e
 ·rcases bB y hy with hy | hy
  ·exact X y hy
  ·exact hx.base y hy
 ·rcases bB y hy with hy | hy
  ·exact hp y hy
  ·exact hx.plain y hy
theorem am.IN {α:Type} [bc α] {w:World} {B:Nat} {xs:List α} {ds:List Value} {F:List Nat} {e:TypeId} {v:Value} (h0:w.ownsRow B e (bc.size α) v xs.length ds) (h:aY w B xs ds F) (b4:∀g,v.ownBlock = some g→g∉F):∃A c G,v = .slice A xs.length c∧am w B xs [.slice A xs.length c] G∧∀y∈G,y∈F∨v.ownBlock = some y:=by
 exact CR
theorem Xs:(Tryz.prog.info? 47).map (fun i=>(i.zero,i.size,i.bytes)) = some (some (.agg #[.string ⟨#[]⟩,.slice none 0 0,.int .i64 0,.int .i64 0,.int .i64 0,.slice none 0 0]),6,88):=by kernel_rfl
theorem mN:DL Tryz.prog 24 47 (.agg #[.string ⟨#[]⟩,.slice none 0 0,.int .i64 0,.int .i64 0,.int .i64 0,.slice none 0 0]) 6 88:=⟨Tryz.underlying24,Xs,rfl,J⟩
theorem YP:(Tryz.prog.info? 53).map (fun i=>(i.zero,i.size,i.bytes)) = some (some (.agg #[.string ⟨#[]⟩,.slice none 0 0,.int .i64 0,.int .i64 0,.int .i64 0,.slice none 0 0,.slice none 0 0,.string ⟨#[]⟩,.int .i64 0]),9,136):=by kernel_rfl
theorem mK:DL Tryz.prog 25 53 (.agg #[.string ⟨#[]⟩,.slice none 0 0,.int .i64 0,.int .i64 0,.int .i64 0,.slice none 0 0,.slice none 0 0,.string ⟨#[]⟩,.int .i64 0]) 9 136:=⟨Tryz.underlying25,YP,rfl,J⟩
def gO (x:ap):List Value:=[.string x.key,.string x.value]
def gw (x:iU):List Value:=[.string x.key,.string x.value,.int .i64 x.ao]
def gh (x:bH):List Value:=[.string x.key,.bool x.equal,.string x.value,.int .i64 x.ao]
section
variable {β:Type} {row:β→List Value} {S:Nat}
theorem st (hS:∀x,(row x).length = S):∀(D:List β) (k:Nat) (x:β),D[k]? = some x→∀(j:Nat) (u:Value),(row x)[j]? = some u→(D.flatMap row)[k * S+j]? = some u
 | [],_,_,h,_,_,_=>by simp at h
 | r :: rs,0,x,h,j,u,hj=>by
   simp at h;subst h;rw [List.flatMap_cons,Nat.zero_mul,Nat.zero_add,List.getElem?_append_left (List.getElem?_eq_some_iff.1 hj).1];exact hj
 | r :: rs,k+1,x,h,j,u,hj=>by
   rw [List.getElem?_cons_succ] at h;have hr:=hS r;have hk:(k+1) * S+j = k * S+j+S:=(by rw [Nat.succ_mul];omega);rw [List.flatMap_cons,List.getElem?_append_right J,hr,show (k+1) * S+j - S = k * S+j by omega];exact st hS rs k x h j u hj
theorem kI (hS:∀x,(row x).length = S):∀D:List β,(D.flatMap row).length = D.length * S
 | []=>by simp
 | r :: rs=>by rw [List.flatMap_cons,List.length_append,hS,kI hS rs,List.length_cons,Nat.succ_mul];omega
theorem mR (h1:∀x,∀u∈row x,u.oneCell' = true) (D:List β):∀u∈D.flatMap row,u.oneCell' = true:=fun u hu=>by
 obtain ⟨x,_,hx⟩:=List.mem_flatMap.1 hu;exact h1 x u hx
theorem Mo [bc β] {w:World} {B e g aq:Nat} (hd:bc.size β = S) (D:List β) (h:w.ownsRow B e S (.slice (some ⟨g,0,none⟩) D.length aq) D.length (D.flatMap row)) (hr:∀x∈D,rd w x (row x) []):∃A c G,Value.slice (some ⟨g,0,none⟩) D.length aq = .slice A D.length c∧am w B D [.slice A D.length c] G:=by
 subst hd;have dt:∀D:List β,(∀x∈D,rd w x (row x) [])→jo w D (D.flatMap row) []:=fun D=>by
  induction D with
  | nil=>intro _;exact ⟨rfl,rfl⟩
  | cons x D ih=>intro hD;exact ⟨row x,D.flatMap row,[],[],rfl,rfl,hD x (List.mem_cons_self ..),ih fun y hy=>hD y (List.mem_cons_of_mem _ hy)⟩
 exact D1
end
theorem uy (x:ap):∀u∈gO x,u.oneCell' = true:=by intro u hu;simp only [gO,List.mem_cons,List.not_mem_nil,or_false] at hu;rcases hu with rfl | rfl <;> rfl
theorem ux (x:iU):∀u∈gw x,u.oneCell' = true:=by intro u hu;simp only [gw,List.mem_cons,List.not_mem_nil,or_false] at hu;rcases hu with rfl | rfl | rfl <;> rfl
theorem uv (x:bH):∀u∈gh x,u.oneCell' = true:=by intro u hu;simp only [gh,List.mem_cons,List.not_mem_nil,or_false] at hu;rcases hu with rfl | rfl | rfl | rfl <;> rfl
end Go.Proofs.YtajbbmembionpaaGreat
