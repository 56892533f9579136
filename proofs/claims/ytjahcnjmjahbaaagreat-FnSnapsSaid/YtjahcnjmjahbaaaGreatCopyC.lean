/- copyCluster, of the program. No condition. -/
import Derived.Test.YtjahcnjmjahbaaaGreatRdS
import Derived.Test.YtjahcnjmjahbaaaGreatLaw0
import Derived.Shelf.Spec.SlicesInsert
import Derived.Lib.AppendZerosOnto
import Derived.Shelf.GgSortFunc.RowK
namespace Go.Proofs.YtjahcnjmjahbaaaGreat
open Go.ChangeShapes Go.WideShapes Go.ChangeAt Go.RowKit
set_option linter.unusedVariables false
set_option linter.unusedSimpArgs false
set_option maxHeartbeats 4000000
set_option maxRecDepth 100000
structure Cc (w wk:World) (cs zs os:List Value):Prop where
 bw:oG wk w.heap.size cs
 rb:oG wk (w.heap.size+1) zs
 ob:oG wk (w.heap.size+1+1) os
 aM:Below w.heap.size w wk
section
variable {w wk w':World} {cs zs os:List Value}
theorem Cc.new (w:World) (cs zs os:List Value) (t:TypeId):Cc w (((w.alloc (.cells cs.toArray t)).alloc (.cells zs.toArray t)).alloc (.cells os.toArray t)) cs zs os :=
 have h:=(Cp.new w cs zs t t).ext (ak (aj _) (.cells os.toArray t))
 ⟨h.bw,h.rb,(by have:=oG.new ((w.alloc (.cells cs.toArray t)).alloc (.cells zs.toArray t)) os t;rw [World.size_alloc,World.size_alloc] at this;exact this),h.aM⟩
theorem Cc.ext (h:Cc w wk cs zs os) (hb:Below wk.heap.size wk w'):Cc w w' cs zs os:=⟨h.bw.ext hb,h.rb.ext hb,h.ob.ext hb,ah h.aM hb⟩
theorem Cc.put (h:Cc w wk cs zs os) (i:Nat) (u:Value):Cc w (wk.setCell ⟨w.heap.size+1+1,i,none⟩ u) cs zs (os.set i u):=⟨h.bw.bE J i u,h.rb.bE J i u,h.ob.put i u,aC h.aM bz u⟩
theorem Cc.bE (h:Cc w wk cs zs os) {c:Nat} (hc:w.heap.size+1+1 < c) (i:Nat) (u:Value):Cc w (wk.setCell ⟨c,i,none⟩ u) cs zs os:=⟨h.bw.bE J i u,h.rb.bE J i u,h.ob.bE J i u,aC h.aM bz u⟩
theorem Cc.lt (h:Cc w wk cs zs os):w.heap.size+1+1 < wk.heap.size:=h.ob.lt
theorem Cc.grown {row:Option Nat} (h:Cc w wk cs zs os) (hg:wk.grownBy w' row) (hr:∀q,row = some q→w.heap.size+1+1 < q):Cc w w' cs zs os :=
 ⟨h.bw.br (hg.block _ h.bw.lt vB),h.rb.br (hg.block _ h.rb.lt vB),h.ob.br (hg.block _ h.ob.lt vB),
  ⟨hg.os.trans h.aM.os,hg.tape.trans h.aM.tape,hg.output.trans h.aM.output,Nat.le_trans h.aM.size hg.size,fun i hi=>(hg.block i Sc vB).trans (h.aM.block i hi)⟩⟩
end
theorem oG.grown {w w':World} {g:Nat} {cs:List Value} {row:Option Nat} (h:oG w g cs) (hg:w.grownBy w' row) (hr:∀q,row = some q→q≠g):oG w' g cs:=h.br (hg.block _ h.lt (fun e=>hr g e.symm rfl))
theorem am.aju {α:Type} [bd α] {w w':World} {B B2:Nat} {x:α} {cs:List Value} {F:List Nat} {row:Option Nat} (h:am w B x cs F) (hg:w.grownBy w' row) (hF:∀y∈F,y < B2) (hr:∀q,row = some q→B2≤q):am w' B x cs F :=
 h.br (fun y hy=>hg.block y (h.lt y hy) ZH) hg.size
theorem am.apg {w:World} {B:Nat} {p:nI} {nm:ByteArray} {n:Int} {ps:List Value} {G:List Nat} (h:am w B p ps G) (h1:nm.size≤maxLen) (h2:bi n):am w B (⟨p,nm,n⟩:ai) (ps++[.string nm,.int .i64 n]) G:=by
 refine am.up (B':=B) (fun x:ai=>(x.aS,x.on,x.seq)) ?_ (Nat.le_refl _);have h3:am w (B+w.heap.size) (nm,n) ([.string nm]++[.int .i64 n]) []:=am.cons (cV w nm (rV h1)) (am.dy (jL w n h2));have h4:=am.b9 h h3 J (fun b hb=>by have:=h.lt b hb;omega);simpa using h4
theorem am.alU {w:World} {B B3 B4:Nat} {H:List az} {P:List ai} {n p q f:Int} {Ah Ap:Option Addr} {ch cp:Nat} {Gh Gp:List Nat} (h:am w B3 H [.slice Ah H.length ch] Gh) (k:am w B4 P [.slice Ap P.length cp] Gp) (hB:B≤B3) (rv:B3≤B4) (hG:∀y∈Gh,y < B4) (hn:bi n) (hp:bi p) (hq:bi q) (hf:bi f) :
 am w B (⟨H,P,n,⟨p,q,f⟩⟩:aU) [.slice Ah H.length ch,.slice Ap P.length cp,.int .i64 n,.int .i64 p,.int .i64 q,.int .i64 f] (Gh++Gp):=by
 refine am.up (B':=B3) (fun x:aU=>(x.Z,x.O,x.next,x.weights)) ?_ hB;have h5:am w (B4+w.heap.size) (⟨p,q,f⟩:rZ) ([.int .i64 p]++([.int .i64 q]++[.int .i64 f])) []:=by exact I9
 have h6:=am.cons (jL w n hn) h5;have h7:=am.b9 h (am.b9 k h6 J (fun b hb=>by have:=k.lt b hb;omega)) rv hG;simpa using h7
theorem apR:(Tryz.prog.info? 38).map (fun i=>(i.zero,i.size,i.bytes)) = some (some ((.agg #[.string ⟨#[]⟩,.slice none 0 0,.int .i64 0,.int .i64 0,.int .i64 0,.slice none 0 0])),6,88):=by kernel_rfl
theorem TK:DL Tryz.prog 24 38 ((.agg #[.string ⟨#[]⟩,.slice none 0 0,.int .i64 0,.int .i64 0,.int .i64 0,.slice none 0 0])) 6 88:=⟨Tryz.underlying24,apR,rfl,J⟩
theorem alV:(Tryz.prog.info? 48).map (fun i=>(i.zero,i.size,i.bytes)) = some (some ((.agg #[.string ⟨#[]⟩,.slice none 0 0,.int .i64 0,.int .i64 0,.int .i64 0,.slice none 0 0,.slice none 0 0,.string ⟨#[]⟩,.int .i64 0])),9,136):=by kernel_rfl
theorem YH:DL Tryz.prog 25 48 ((.agg #[.string ⟨#[]⟩,.slice none 0 0,.int .i64 0,.int .i64 0,.int .i64 0,.slice none 0 0,.slice none 0 0,.string ⟨#[]⟩,.int .i64 0])) 9 136:=⟨Tryz.underlying25,alV,rfl,J⟩
theorem adD (x:aU) (hw:(x.wt:Int)≤1048576):(x.Z.length:Int)≤1048576∧(x.O.length:Int)≤1048576∧Hid (∀h∈x.Z,(h.labels.length:Int)≤1048576∧(h.aT.length:Int)≤1048576) ∧
 Hid (∀p∈x.O,(p.aS.labels.length:Int)≤1048576∧(p.aS.ag.length:Int)≤1048576∧(p.aS.ae.length:Int)≤1048576∧∀y∈p.aS.ag,(y.values.length:Int)≤1048576):=by
 have fS:x.wt = kL az.wt x.Z+kL ai.wt x.O:=rfl;have h1:=gJ az.wt x.Z;have h2:=gJ ai.wt x.O;refine ⟨J,J,I fun h hh=>?_,I fun p hp=>?_⟩
 ·have h3:h.name.size+kL ao.wt h.labels+kL iU.wt h.aT≤kL az.wt x.Z:=Bq (f:=az.wt) hh;have h4:=gJ ao.wt h.labels;have h5:=gJ iU.wt h.aT;constructor <;> omega
 ·have h3:(p.aS.name.size+kL ao.wt p.aS.labels+kL ba.wt p.aS.ag+kL bH.wt p.aS.ae)+p.on.size≤kL ai.wt x.O:=Bq (f:=ai.wt) hp;have h4:=gJ ao.wt p.aS.labels;have h5:=gJ ba.wt p.aS.ag;have h6:=gJ bH.wt p.aS.ae;refine ⟨J,J,J,fun y hy=>?_⟩;have h7:y.key.size+kL ByteArray.size y.values≤kL ba.wt p.aS.ag:=Bq (f:=ba.wt) hy;have h8:=gJ ByteArray.size y.values;omega
section
variable {β:Type} {row:β→List Value} {S:Nat}
def pH (row:β→List Value) (S:Nat) (w:World) (b o:Nat) (D:List β):Prop:=∀k x,D[k]? = some x→∀j u,(row x)[j]? = some u→w.cell? ⟨b,o+k * S+j,none⟩ = some u
theorem pH.put {w:World} {b o:Nat} {D:List β} (h:pH row S w b o D) (hS:∀x,(row x).length = S) {i:Nat} (hi:i < D.length) (y:β):pH row S (w.setCells b (o+i * S) (row y)) b o (D.set i y):=by
 intro k x hk j u hj;have Ao:j < S:=by rw [← hS x];exact (List.getElem?_eq_some_iff.1 hj).1
 have hex:∀q,q < (row y).length→(w.cell? ⟨b,o+i * S+q,none⟩).isSome = true:=fun q hq=>by
  rw [hS] at hq;have hx:=h i D[i] (List.getElem?_eq_getElem hi) q ((row D[i])[q]'(by rw [hS];exact hq)) (List.getElem?_eq_getElem _);rw [hx];rfl
 by_cases hik:i = k
 ·subst hik;rw [List.getElem?_set_self hi] at hk;obtain rfl:=Option.some.inj hk;have:=World.cell?_setCells_in b (row y) (o+i * S) w hex j (by rw [hS];exact Ao);rw [this,← hj];exact (List.getElem?_eq_getElem _).symm
 ·rw [List.getElem?_set_ne hik] at hk;rw [World.cell?_setCells_out b _ _ _ _ (fun _ _=>?_)]
  ·exact h k x hk j u hj
  ·dsimp only;rw [hS];rcases Nat.lt_or_gt_of_ne hik with h1 | h1
   ·right;have:(i+1) * S≤k * S:=Nat.mul_le_mul_right _ h1;rw [Nat.succ_mul] at this;omega
   ·left;have:(k+1) * S≤i * S:=Nat.mul_le_mul_right _ h1;rw [Nat.succ_mul] at this;omega
theorem pH.gj {w:World} {b o:Nat} {D:List β} (h:pH row S w b o D) {k:Nat} (hk:k < D.length) {j:Nat} {u:Value} (hj:(row D[k])[j]? = some u):w.cell? ⟨b,o+k * S+j,none⟩ = some u:=h k D[k] (List.getElem?_eq_getElem hk) j u hj
theorem pH.br {w w':World} {b o:Nat} {D:List β} (h:pH row S w b o D) (hk:w'.heap[b]? = w.heap[b]?):pH row S w' b o D:=fun k x hx j u hj=>(World.cell?_of_block hk).trans (h k x hx j u hj)
theorem pH.ext {w w':World} {b o:Nat} {D:List β} (h:pH row S w b o D) (hb:b < w.heap.size) (he:Below w.heap.size w w'):pH row S w' b o D:=h.br (he.block b hb)
structure jJ (row:β→List Value) (S:Nat) (w0 w:World) (b o:Nat) (D:List β):Prop where
 tab:pH row S w b o D
 plain:ew w b
 bX:nN [b] w0 w
theorem jJ.ext {w0 w w':World} {b o:Nat} {D:List β} (h:jJ row S w0 w b o D) (he:Below w.heap.size w w'):jJ row S w0 w' b o D :=
 ⟨h.tab.ext h.plain.lt he,by obtain ⟨ds,t,hp⟩:=h.plain;exact ⟨ds,t,(he.block b h.plain.lt).trans hp⟩,h.bX.trans (nN.lq _ he)⟩
theorem jJ.put {w0 w:World} {b o:Nat} {D:List β} (h:jJ row S w0 w b o D) (hS:∀x,(row x).length = S) {i:Nat} (hi:i < D.length) (y:β):jJ row S w0 (w.setCells b (o+i * S) (row y)) b o (D.set i y):=by
 refine ⟨h.tab.put hS hi y,EK b _ _ _ h.plain,?_⟩;have e:=F8 b (row y) (o+i * S) w;exact h.bX.trans ⟨e.1,e.2.1,e.2.2,by rw [fR];exact Nat.le_refl _,fun k _ hk=>vV b Po _ _ _⟩
end
def kS {β:Type} (cv:β→β→Int) (x y:β):Bool:=decide (cv x y < 0)
section
variable {β:Type} {lt:β→β→Bool}
theorem rh.gj {l:List β} (h:rh lt l) {t u:Nat} (htu:t < u) (hu:u < l.length):lt l[u] (l[t]'J) = false :=
 List.pairwise_iff_getElem.1 h t u J hu htu
end
structure Eb where
 name:ByteArray
 la:Option Addr
 ln:Nat
 lc:Nat
 ax:Int
 mem:Int
 aD:Int
 na:Option Addr
 nn:Nat
 nc:Nat
 ta:Option Addr
 tn:Nat
 tc:Nat
 on:ByteArray
 seq:Int
def tH (x:Eb):List Value:=[.string x.name,.slice x.la x.ln x.lc,.int .i64 x.ax,.int .i64 x.mem,.int .i64 x.aD,.slice x.na x.nn x.nc,.slice x.ta x.tn x.tc,.string x.on,.int .i64 x.seq]
section
end
abbrev Cs:=ByteArray × Int × Int
def wkI (a b:Cs):List Int:=[Lib.compareInt b.2.1 a.2.1,Lib.compareInt a.2.2 b.2.2]
def po (a b:Cs):Int:=Qa (wkI a b)
def Mf (p:ai):Cs:=(p.aS.name,p.aS.aD,p.seq)
def ik (ps:List ai):List Cs:=(ps.filter fun p=>p.on.toList == []).map Mf
def GI (ps:List ai):List ByteArray:=(bJ (kS po) [] (ik ps)).map fun k=>k.1
theorem alD (a b:Cs):kS po a b = true↔b.2.1 < a.2.1∨(a.2.1 = b.2.1∧a.2.2 < b.2.2):=by
 unfold kS po wkI Qa Qa;rw [decide_eq_true_eq];unfold Lib.compareInt;by_cases h1:b.2.1 < a.2.1
 ·simp [h1]
 ·by_cases h2:a.2.1 < b.2.1
  ·simp [h1,h2];omega
  ·have h3:a.2.1 = b.2.1:=J;simp [h3,Qa];by_cases h4:a.2.2 < b.2.2
   ·simp [h4]
   ·by_cases h5:b.2.2 < a.2.2
    ·simp [h4,h5]
    ·simp [h4,h5]
theorem anD {ps:List ai} {k:Nat} (h:k < ps.length) (hp:(ps[k].on.toList == []) = true):ik (ps.take (k+1)) = ik (ps.take k)++[Mf ps[k]]:=by
 have e:List.filter (fun p:ai=>p.on.toList == []) [ps[k]] = [ps[k]]:=List.filter_eq_self.2 fun a ha=>by rw [List.mem_singleton.1 ha];exact hp
 unfold ik;rw [List.take_succ_eq_append_getElem h,List.filter_append,List.map_append,e];rfl
theorem apO {ps:List ai} {k:Nat} (h:k < ps.length) (hp:(ps[k].on.toList == []) = false):ik (ps.take (k+1)) = ik (ps.take k):=by
 have e:List.filter (fun p:ai=>p.on.toList == []) [ps[k]] = []:=List.filter_eq_nil_iff.2 fun a ha=>by rw [List.mem_singleton.1 ha,hp];simp
 unfold ik;rw [List.take_succ_eq_append_getElem h,List.filter_append,List.map_append,e];simp
theorem anF (ps:List ai):(ik ps).length≤ps.length:=by unfold ik;rw [List.length_map];exact List.length_filter_le _ _
theorem ap3 (ps:List ai):(GI ps).length≤ps.length:=by unfold GI;rw [List.length_map,rD];have:=anF ps;simp;omega
def li (r:Eb):Cs:=(r.name,r.aD,r.seq)
theorem anC:(Tryz.prog.info? 9).map (fun i=>(i.zero,i.size,i.bytes)) = some (some (.string ⟨#[]⟩),1,16):=by kernel_rfl
theorem ajn:DL Tryz.prog 61 9 (.string ⟨#[]⟩) 1 16:=⟨Tryz.underlying61,anC,rfl,J⟩
theorem acJ (w:World):∀ys:List ByteArray,(∀y∈ys,y.size≤maxLen)→jo w ys (ys.map Value.string) []
 | [],_=>⟨rfl,rfl⟩
 | y :: ys,h=>⟨[.string y],ys.map Value.string,[],[],rfl,rfl,⟨rfl,rfl,h y (List.mem_cons_self ..)⟩,acJ w ys fun z hz=>h z (List.mem_cons_of_mem _ hz)⟩
theorem adz {w:World} {B e B':Nat} {v:Value} {xs:List ByteArray} {n:Nat} (h:w.ownsRow B e 1 v n (xs.map Value.string)) (hn:n = xs.length) (hB:B'≤B) (hz:∀y∈xs,y.size≤maxLen) :
 ∃A c G,v = .slice A xs.length c∧am w B' xs [.slice A xs.length c] G:=by
 subst hn;exact am.oJ (e:=e) (ds:=xs.map Value.string) (F:=[]) (vP h hB) ⟨acJ w _ hz,List.nodup_nil,(fun b hb=>by cases hb),(fun b hb=>by cases hb)⟩ (fun g _ hm=>by cases hm)
theorem asU:(Tryz.prog.info? 3).map (fun i=>(i.zero,i.size,i.bytes)) = some (some (.int .i64 0),1,8):=by kernel_rfl
theorem EA:DL Tryz.prog 109 3 (.int .i64 0) 1 8:=⟨Tryz.underlying109,asU,rfl,J⟩
theorem asV {a b:Bool} (h:a = b):Ending.returned (.bool a) = .returned (.bool b):=by rw [h]
theorem ajp (x y:Eb) (w:World) :
 Calls Tryz.prog 60 #[.agg #[.string x.name,.slice x.la x.ln x.lc,.int .i64 x.ax,.int .i64 x.mem,.int .i64 x.aD,.slice x.na x.nn x.nc,.slice x.ta x.tn x.tc,.string x.on,.int .i64 x.seq],.agg #[.string y.name,.slice y.la y.ln y.lc,.int .i64 y.ax,.int .i64 y.mem,.int .i64 y.aD,.slice y.na y.nn y.nc,.slice y.ta y.tn y.tc,.string y.on,.int .i64 y.seq]] w fun e w'=>e = .returned (.bool (kS po (li x) (li y)))∧Below w.heap.size w w':=by
 have ap:=alD (li x) (li y);have e1:(li x).2.1 = x.aD:=rfl;have e2:(li y).2.1 = y.aD:=rfl;have e3:(li x).2.2 = x.seq:=rfl;have e4:(li y).2.2 = y.seq:=rfl;rw [e1,e2,e3,e4] at ap;clear e1 e2 e3 e4;generalize kS po (li x) (li y) = L at *;cases h1:decide (y.aD < x.aD) <;> cases h2:(x.aD == y.aD) <;> cases h3:decide (x.seq < y.seq)
 all_goals
  have HL:=I ap;have H1:=I h1;have H2:=I h2;have H3:=I h3;clear ap;go_enter Tryz.func60,Tryz.ntmps60;go_wp2;go_ret
  refine ⟨asV ?_,ak (ak (aj _) _) _⟩;have a1:=H1.out;have a2:=H2.out;have a3:=H3.out;have a4:=HL.out;simp at a1 a2 a3;cases L
  ·simp at a4 ⊢;try omega
  ·simp at a4 ⊢;try omega
def oz (ps:List ai) (i:Nat):Cs:=match ps[i]? with | some p=>Mf p | none=>(⟨#[]⟩,0,0)
theorem Qp {ps:List ai} {i:Nat} (h:i < ps.length):oz ps i = Mf ps[i]:=by unfold oz;rw [List.getElem?_eq_getElem h]
theorem Vh {w:World} {ps:List ai} {A:Option Addr} {c:Nat} {F:List Nat} (h:Sl w ps A c F) (cq:0 < ps.length):∃b o,A = some ⟨b,o,none⟩∧b < w.heap.size ∧
 ∀z (hz:z < ps.length),∃r:Eb,li r = Mf ps[z]∧r.on = ps[z].on∧r.name.size≤maxLen∧∀j u,(tH r)[j]? = some u→w.cell? ⟨b,o+z * 9+j,none⟩ = some u:=by
 obtain ⟨b,o,_,_,hA,_,hbs,_⟩:=Sl.get (α:=ai) h cq;subst hA;refine ⟨b,o,rfl,hbs,fun z hz=>?_⟩;obtain ⟨b',o',ck,Fk,hA,o9,_,hr,bv,hc⟩:=Sl.get (α:=ai) h hz;simp only [Option.some.injEq,Addr.mk.injEq,and_true] at hA;obtain ⟨rfl,rfl⟩:=hA;obtain ⟨c1,c2,F1,F2,rfl,rfl,QS,_,_,_,_,rfl,rfl,⟨rfl,rfl,eO⟩,⟨rfl,rfl,hseq⟩⟩:=hr;obtain ⟨Al,cl,Fl,An,cn,Fn,At,ct,Ft,aw,su,hpn,_⟩:=dL QS;subst aw;refine ⟨⟨ps[z].aS.name,Al,ps[z].aS.labels.length,cl,ps[z].aS.ax,ps[z].aS.mem,ps[z].aS.aD,An,ps[z].aS.ag.length,cn,At,ps[z].aS.ae.length,ct,ps[z].on,ps[z].seq⟩,rfl,rfl,hpn,fun j u hu=>?_⟩;have:=hc j u hu;rw [show o+(z * bd.size ai+j) = o+z * 9+j from by show o+(z * 9+j) = _;omega] at this;exact this
def fI {α:Type} (i:Nat) (x:α) (xs:List α):List α:=xs.take i++x :: xs.drop i
theorem yX {α:Type} (i:Nat) (x:α) (xs:List α):(fI i x xs).length = xs.length+1:=by simp [fI];omega
theorem aY.ins {α:Type} [bd α] {w:World} {B:Nat} {xs:List α} {x:α} {ds cs:List Value} {F G:List Nat} (h:aY w B xs ds F) (hx:am w B x cs G) (hd:∀y∈F,y∉G) (i:Nat) (hi:i≤xs.length) :
 ∃F',aY w B (fI i x xs) (ds.take (i * bd.size α)++(cs++ds.drop (i * bd.size α))) F'∧(∀y∈F',y∈F∨y∈G):=by
 obtain ⟨hr,hn,hb,hp⟩:=h;rw [← List.take_append_drop i xs] at hr;obtain ⟨d1,d2,F1,F2,rfl,rfl,h1,h2⟩:=jo.fu hr;have hl:d1.length = i * bd.size α:=by rw [h1.len,List.length_take,Nat.min_eq_left hi]
 rw [← hl,List.take_left,List.drop_left];have j9:=List.nodup_append.1 hn;have bv:∀y∈F1++(G++F2),y∈F1++F2∨y∈G:=fun y hy=>by
  simp only [List.mem_append] at hy ⊢;rcases hy with hy | hy | hy <;> simp [hy]
 refine ⟨F1++(G++F2),⟨h1.append ⟨cs,d2,G,F2,rfl,rfl,hx.rd,h2⟩,?_,fun y hy=>?_,fun y hy=>?_⟩,bv⟩
 ·rw [List.nodup_append,List.nodup_append];refine ⟨j9.1,⟨hx.nodup,j9.2.1,fun a ha b d9 e=>hd b (List.mem_append_right _ d9) (e ▸ ha)⟩,fun a ha b d9 e=>?_⟩;rcases List.mem_append.1 d9 with d9 | d9
  ·exact hd a (List.mem_append_left _ ha) (e ▸ d9)
  ·exact j9.2.2 a ha b d9 e
 ·rcases bv y hy with hy | hy
  ·exact hb y hy
  ·exact hx.base y hy
 ·rcases bv y hy with hy | hy
  ·exact hp y hy
  ·exact hx.plain y hy
theorem am.OD {α:Type} [bd α] {w:World} {B:Nat} {xs:List α} {ds:List Value} {F:List Nat} {e:TypeId} {v:Value} (h0:w.ownsRow B e (bd.size α) v xs.length ds) (h:aY w B xs ds F) (cq:∀g,v.ownBlock = some g→g∉F):∃A c G,v = .slice A xs.length c∧am w B xs [.slice A xs.length c] G∧∀y∈G,y∈F∨v.ownBlock = some y:=by
 exact GS
theorem aEj:(Tryz.prog.info? 38).map (fun i=>(i.zero,i.size,i.bytes)) = some (some (.agg #[.string ⟨#[]⟩,.slice none 0 0,.int .i64 0,.int .i64 0,.int .i64 0,.slice none 0 0]),6,88):=by kernel_rfl
theorem mN:DL Tryz.prog 24 38 (.agg #[.string ⟨#[]⟩,.slice none 0 0,.int .i64 0,.int .i64 0,.int .i64 0,.slice none 0 0]) 6 88:=⟨Tryz.underlying24,aEj,rfl,J⟩
theorem aCp:(Tryz.prog.info? 48).map (fun i=>(i.zero,i.size,i.bytes)) = some (some (.agg #[.string ⟨#[]⟩,.slice none 0 0,.int .i64 0,.int .i64 0,.int .i64 0,.slice none 0 0,.slice none 0 0,.string ⟨#[]⟩,.int .i64 0]),9,136):=by kernel_rfl
theorem mL:DL Tryz.prog 25 48 (.agg #[.string ⟨#[]⟩,.slice none 0 0,.int .i64 0,.int .i64 0,.int .i64 0,.slice none 0 0,.slice none 0 0,.string ⟨#[]⟩,.int .i64 0]) 9 136:=⟨Tryz.underlying25,aCp,rfl,J⟩
def gA (x:ao):List Value:=[.string x.key,.string x.value]
def gl (x:iU):List Value:=[.string x.key,.string x.value,.int .i64 x.al]
def gb (x:bH):List Value:=[.string x.key,.bool x.equal,.string x.value,.int .i64 x.al]
section
variable {β:Type} {row:β→List Value} {S:Nat}
theorem sX (hS:∀x,(row x).length = S):∀(D:List β) (k:Nat) (x:β),D[k]? = some x→∀(j:Nat) (u:Value),(row x)[j]? = some u→(D.flatMap row)[k * S+j]? = some u
 | [],_,_,h,_,_,_=>by simp at h
 | r :: rs,0,x,h,j,u,hj=>by
   simp at h;subst h;rw [List.flatMap_cons,Nat.zero_mul,Nat.zero_add,List.getElem?_append_left (List.getElem?_eq_some_iff.1 hj).1];exact hj
 | r :: rs,k+1,x,h,j,u,hj=>by
   rw [List.getElem?_cons_succ] at h;have hr:=hS r;have hk:(k+1) * S+j = k * S+j+S:=(by rw [Nat.succ_mul];omega);rw [List.flatMap_cons,List.getElem?_append_right J,hr,show (k+1) * S+j - S = k * S+j by omega];exact sX hS rs k x h j u hj
theorem kO (hS:∀x,(row x).length = S):∀D:List β,(D.flatMap row).length = D.length * S
 | []=>by simp
 | r :: rs=>by rw [List.flatMap_cons,List.length_append,hS,kO hS rs,List.length_cons,Nat.succ_mul];omega
theorem mW (h1:∀x,∀u∈row x,u.oneCell' = true) (D:List β):∀u∈D.flatMap row,u.oneCell' = true:=fun u hu=>by
 obtain ⟨x,_,hx⟩:=List.mem_flatMap.1 hu;exact h1 x u hx
theorem Tv [bd β] {w:World} {B e g aL:Nat} (hd:bd.size β = S) (D:List β) (h:w.ownsRow B e S (.slice (some ⟨g,0,none⟩) D.length aL) D.length (D.flatMap row)) (hr:∀x∈D,rd w x (row x) []):∃A c G,Value.slice (some ⟨g,0,none⟩) D.length aL = .slice A D.length c∧am w B D [.slice A D.length c] G:=by
 subst hd;have dq:∀D:List β,(∀x∈D,rd w x (row x) [])→jo w D (D.flatMap row) []:=fun D=>by
  induction D with
  | nil=>intro _;exact ⟨rfl,rfl⟩
  | cons x D ih=>intro hD;exact ⟨row x,D.flatMap row,[],[],rfl,rfl,hD x (List.mem_cons_self ..),ih fun y hy=>hD y (List.mem_cons_of_mem _ hy)⟩
 exact Ju
end
theorem vA (x:ao):∀u∈gA x,u.oneCell' = true:=by intro u hu;simp only [gA,List.mem_cons,List.not_mem_nil,or_false] at hu;rcases hu with rfl | rfl <;> rfl
theorem vz (x:iU):∀u∈gl x,u.oneCell' = true:=by intro u hu;simp only [gl,List.mem_cons,List.not_mem_nil,or_false] at hu;rcases hu with rfl | rfl | rfl <;> rfl
theorem vy (x:bH):∀u∈gb x,u.oneCell' = true:=by intro u hu;simp only [gb,List.mem_cons,List.not_mem_nil,or_false] at hu;rcases hu with rfl | rfl | rfl | rfl <;> rfl
end Go.Proofs.YtjahcnjmjahbaaaGreat
