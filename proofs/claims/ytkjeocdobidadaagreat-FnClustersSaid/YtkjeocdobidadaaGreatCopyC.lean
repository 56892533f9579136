/- copyCluster, of the program. No condition. -/
import Derived.Test.YtkjeocdobidadaaGreatCopyH
import Derived.Test.YtkjeocdobidadaaGreatRegionCut
import Derived.Test.YtkjeocdobidadaaGreatDeed
import Derived.Test.YtkjeocdobidadaaGreatStabM
import Derived.Test.YtkjeocdobidadaaGreatKit
import Derived.Test.YtkjeocdobidadaaGreatInsP
import Derived.Test.YtkjeocdobidadaaGreatOrdP
import Derived.Test.YtkjeocdobidadaaGreatMark
import Derived.Shelf.Spec.SlicesInsert
import Derived.Lib.AppendZerosOnto
import Derived.Shelf.GgSortFunc.RowK
import Derived.Deep.RegionLaw
import Derived.Test.YtkjeocdobidadaaGreatRowK
namespace Go.Proofs.YtkjeocdobidadaaGreat
open Go.ChangeShapes Go.WideShapes Go.ChangeAt Go.RowKit
set_option linter.unusedVariables false
set_option linter.unusedSimpArgs false
set_option maxHeartbeats 4000000
set_option maxRecDepth 100000
structure Cc (w wk:World) (cs zs os:List Value):Prop where
 box:oG wk w.heap.size cs
 rb:oG wk (w.heap.size+1) zs
 ob:oG wk (w.heap.size+1+1) os
 below:Below w.heap.size w wk
section
variable {w wk w':World} {cs zs os:List Value}
theorem Cc.new (w:World) (cs zs os:List Value) (t:TypeId):Cc w (((w.alloc (.cells cs.toArray t)).alloc (.cells zs.toArray t)).alloc (.cells os.toArray t)) cs zs os :=
 have h:=(Cp.new w cs zs t t).ext (ak (aj _) (.cells os.toArray t))
 ⟨h.box,h.rb,(by have:=oG.new ((w.alloc (.cells cs.toArray t)).alloc (.cells zs.toArray t)) os t;rw [World.size_alloc,World.size_alloc] at this;exact this),h.below⟩
theorem Cc.ext (h:Cc w wk cs zs os) (hb:Below wk.heap.size wk w'):Cc w w' cs zs os:=⟨h.box.ext hb,h.rb.ext hb,h.ob.ext hb,ah h.below hb⟩
theorem Cc.put (h:Cc w wk cs zs os) (i:Nat) (u:Value):Cc w (wk.setCell ⟨w.heap.size+1+1,i,none⟩ u) cs zs (os.set i u):=⟨h.box.far O' i u,h.rb.far O' i u,h.ob.put i u,aC h.below atX u⟩
theorem Cc.far (h:Cc w wk cs zs os) {c:Nat} (hc:w.heap.size+1+1 < c) (i:Nat) (u:Value):Cc w (wk.setCell ⟨c,i,none⟩ u) cs zs os:=⟨h.box.far O' i u,h.rb.far O' i u,h.ob.far O' i u,aC h.below atX u⟩
theorem Cc.lt (h:Cc w wk cs zs os):w.heap.size+1+1 < wk.heap.size:=h.ob.lt
theorem Cc.grown {row:Option Nat} (h:Cc w wk cs zs os) (hg:wk.grownBy w' row) (hr:∀q,row = some q→w.heap.size+1+1 < q):Cc w w' cs zs os :=
 ⟨h.box.keep (hg.block _ h.box.lt auq),h.rb.keep (hg.block _ h.rb.lt auq),h.ob.keep (hg.block _ h.ob.lt auq),
  ⟨hg.os.trans h.below.os,hg.tape.trans h.below.tape,hg.output.trans h.below.output,Nat.le_trans h.below.size hg.size,fun i hi=>(hg.block i avs auq).trans (h.below.block i hi)⟩⟩
end
theorem oG.grown {w w':World} {g:Nat} {cs:List Value} {row:Option Nat} (h:oG w g cs) (hg:w.grownBy w' row) (hr:∀q,row = some q→q≠g):oG w' g cs:=h.keep (hg.block _ h.lt (fun e=>hr g e.symm rfl))
theorem Own.aju {α:Type} [Dat α] {w w':World} {B B2:Nat} {x:α} {cs:List Value} {F:List Nat} {row:Option Nat} (h:Own w B x cs F) (hg:w.grownBy w' row) (hF:∀y∈F,y < B2) (hr:∀q,row = some q→B2≤q):Own w' B x cs F :=
 h.keep (fun y hy=>hg.block y (h.lt y hy) awM) hg.size
theorem Own.apg {w:World} {B:Nat} {p:nI} {nm:ByteArray} {n:Int} {ps:List Value} {G:List Nat} (h:Own w B p ps G) (h1:nm.size≤maxLen) (h2:I64 n):Own w B (⟨p,nm,n⟩:Placed) (ps++[.string nm,.int .i64 n]) G:=by
 refine Own.up (B':=B) (fun x:Placed=>(x.aS,x.on,x.seq)) ?_ (Nat.le_refl _);have h3:Own w (B+w.heap.size) (nm,n) ([.string nm]++[.int .i64 n]) []:=Own.cons (rdStr w nm (rV h1)) (Own.flat (jL w n h2));have h4:=Own.pair h h3 O' (fun b hb=>by have:=h.lt b hb;omega);simpa using h4
theorem Own.alU {w:World} {B B3 B4:Nat} {H:List Host} {P:List Placed} {n p q f:Int} {Ah Ap:Option Addr} {ch cp:Nat} {Gh Gp:List Nat} (h:Own w B3 H [.slice Ah H.length ch] Gh) (k:Own w B4 P [.slice Ap P.length cp] Gp) (hB:B≤B3) (hB4:B3≤B4) (hG:∀y∈Gh,y < B4) (hn:I64 n) (hp:I64 p) (hq:I64 q) (hf:I64 f) :
 Own w B (⟨H,P,n,⟨p,q,f⟩⟩:aU) [.slice Ah H.length ch,.slice Ap P.length cp,.int .i64 n,.int .i64 p,.int .i64 q,.int .i64 f] (Gh++Gp):=by
 refine Own.up (B':=B3) (fun x:aU=>(x.hosts,x.au,x.next,x.weights)) ?_ hB;have h5:Own w (B4+w.heap.size) (⟨p,q,f⟩:rZ) ([.int .i64 p]++([.int .i64 q]++[.int .i64 f])) []:=by refine Own.up (B':=B4+w.heap.size) (fun x:rZ=>(x.pack,x.spread,x.soft)) ?_ (Nat.le_refl _);exact Own.cons (jL w p hp) (Own.cons (jL w q hq) (Own.flat (jL w f hf)))
 have h6:=Own.cons (jL w n hn) h5;have h7:=Own.pair h (Own.pair k h6 O' (fun b hb=>by have:=k.lt b hb;omega)) hB4 hG;simpa using h7
theorem apR:(Tryz.prog.info? 42).map (fun i=>(i.zero,i.size,i.bytes)) = some (some ((.agg #[.string ⟨#[]⟩,.slice none 0 0,.int .i64 0,.int .i64 0,.int .i64 0,.slice none 0 0])),6,88):=by kernel_rfl
theorem aeZ:DL Tryz.prog 24 42 ((.agg #[.string ⟨#[]⟩,.slice none 0 0,.int .i64 0,.int .i64 0,.int .i64 0,.slice none 0 0])) 6 88:=⟨Tryz.underlying24,apR,rfl,O'⟩
theorem alV:(Tryz.prog.info? 53).map (fun i=>(i.zero,i.size,i.bytes)) = some (some ((.agg #[.string ⟨#[]⟩,.slice none 0 0,.int .i64 0,.int .i64 0,.int .i64 0,.slice none 0 0,.slice none 0 0,.string ⟨#[]⟩,.int .i64 0])),9,136):=by kernel_rfl
theorem YH:DL Tryz.prog 25 53 ((.agg #[.string ⟨#[]⟩,.slice none 0 0,.int .i64 0,.int .i64 0,.int .i64 0,.slice none 0 0,.slice none 0 0,.string ⟨#[]⟩,.int .i64 0])) 9 136:=⟨Tryz.underlying25,alV,rfl,O'⟩
theorem adD (x:aU) (hw:(x.wt:Int)≤1048576):(x.hosts.length:Int)≤1048576∧(x.au.length:Int)≤1048576∧Hid (∀h∈x.hosts,(h.labels.length:Int)≤1048576∧(h.aT.length:Int)≤1048576) ∧
 Hid (∀p∈x.au,(p.aS.labels.length:Int)≤1048576∧(p.aS.needs.length:Int)≤1048576∧(p.aS.tolerances.length:Int)≤1048576∧∀y∈p.aS.needs,(y.values.length:Int)≤1048576):=by
 have hwx:x.wt = kL Host.wt x.hosts+kL Placed.wt x.au:=rfl;have h1:=gJ Host.wt x.hosts;have h2:=gJ Placed.wt x.au;refine ⟨O',O',I' fun h hh=>?_,I' fun p hp=>?_⟩
 ·have h3:h.name.size+kL Label.wt h.labels+kL iU.wt h.aT≤kL Host.wt x.hosts:=Bq (f:=Host.wt) hh;have h4:=gJ Label.wt h.labels;have h5:=gJ iU.wt h.aT;constructor <;> omega
 ·have h3:(p.aS.name.size+kL Label.wt p.aS.labels+kL Need.wt p.aS.needs+kL bH.wt p.aS.tolerances)+p.on.size≤kL Placed.wt x.au:=Bq (f:=Placed.wt) hp;have h4:=gJ Label.wt p.aS.labels;have h5:=gJ Need.wt p.aS.needs;have h6:=gJ bH.wt p.aS.tolerances;refine ⟨O',O',O',fun y hy=>?_⟩;have h7:y.key.size+kL ByteArray.size y.values≤kL Need.wt p.aS.needs:=Bq (f:=Need.wt) hy;have h8:=gJ ByteArray.size y.values;omega
def prk (r:Eb):ao9:=(r.name,r.rank,r.seq)
theorem anC:(Tryz.prog.info? 9).map (fun i=>(i.zero,i.size,i.bytes)) = some (some (.string ⟨#[]⟩),1,16):=by kernel_rfl
theorem ajn:DL Tryz.prog 49 9 (.string ⟨#[]⟩) 1 16:=⟨Tryz.underlying49,anC,rfl,O'⟩
theorem acJ (w:World):∀ys:List ByteArray,(∀y∈ys,y.size≤maxLen)→jo w ys (ys.map Value.string) []
 | [],_=>⟨rfl,rfl⟩
 | y :: ys,h=>⟨[.string y],ys.map Value.string,[],[],rfl,rfl,⟨rfl,rfl,h y (List.mem_cons_self ..)⟩,acJ w ys fun z hz=>h z (List.mem_cons_of_mem _ hz)⟩
theorem adz {w:World} {B e B':Nat} {v:Value} {xs:List ByteArray} {n:Nat} (h:w.ownsRow B e 1 v n (xs.map Value.string)) (hn:n = xs.length) (hB:B'≤B) (hz:∀y∈xs,y.size≤maxLen) :
 ∃A c G,v = .slice A xs.length c∧Own w B' xs [.slice A xs.length c] G:=by
 subst hn;exact Own.oJ (e:=e) (ds:=xs.map Value.string) (F:=[]) (vP h hB) ⟨acJ w _ hz,List.nodup_nil,(fun b hb=>by cases hb),(fun b hb=>by cases hb)⟩ (fun g _ hm=>by cases hm)
theorem asU:(Tryz.prog.info? 3).map (fun i=>(i.zero,i.size,i.bytes)) = some (some (.int .i64 0),1,8):=by kernel_rfl
theorem adA:DL Tryz.prog 64 3 (.int .i64 0) 1 8:=⟨Tryz.underlying64,asU,rfl,O'⟩
theorem asV {a b:Bool} (h:a = b):Ending.returned (.bool a) = .returned (.bool b):=by rw [h]
theorem ajp (x y:Eb) (w:World) :
 Calls Tryz.prog 95 #[.agg #[.string x.name,.slice x.la x.ln x.lc,.int .i64 x.cpu,.int .i64 x.mem,.int .i64 x.rank,.slice x.na x.nn x.nc,.slice x.ta x.tn x.tc,.string x.on,.int .i64 x.seq],.agg #[.string y.name,.slice y.la y.ln y.lc,.int .i64 y.cpu,.int .i64 y.mem,.int .i64 y.rank,.slice y.na y.nn y.nc,.slice y.ta y.tn y.tc,.string y.on,.int .i64 y.seq]] w fun e w'=>e = .returned (.bool (kS wkV (prk x) (prk y)))∧Below w.heap.size w w':=by
 have hlt:=alD (prk x) (prk y);have e1:(prk x).2.1 = x.rank:=rfl;have e2:(prk y).2.1 = y.rank:=rfl;have e3:(prk x).2.2 = x.seq:=rfl;have e4:(prk y).2.2 = y.seq:=rfl;rw [e1,e2,e3,e4] at hlt;clear e1 e2 e3 e4;generalize kS wkV (prk x) (prk y) = L at *;cases h1:decide (y.rank < x.rank) <;> cases h2:(x.rank == y.rank) <;> cases h3:decide (x.seq < y.seq)
 all_goals
  have HL:=I' hlt;have H1:=I' h1;have H2:=I' h2;have H3:=I' h3;clear hlt;go_enter Tryz.func95,Tryz.ntmps95;go_wp2;go_ret
  refine ⟨asV ?_,ak (ak (aj _) _) _⟩;have a1:=H1.out;have a2:=H2.out;have a3:=H3.out;have a4:=HL.out;simp at a1 a2 a3;cases L
  ·simp at a4 ⊢;try omega
  ·simp at a4 ⊢;try omega
def kAt (ps:List Placed) (i:Nat):ao9:=match ps[i]? with | some p=>wKeyOf p | none=>(⟨#[]⟩,0,0)
theorem alE {ps:List Placed} {i:Nat} (h:i < ps.length):kAt ps i = wKeyOf ps[i]:=by unfold kAt;rw [List.getElem?_eq_getElem h]
theorem abd {w:World} {ps:List Placed} {A:Option Addr} {c:Nat} {F:List Nat} (h:Sl w ps A c F) (hne:0 < ps.length):∃b o,A = some ⟨b,o,none⟩∧b < w.heap.size ∧
 ∀z (hz:z < ps.length),∃r:Eb,prk r = wKeyOf ps[z]∧r.on = ps[z].on∧r.name.size≤maxLen∧∀j u,(tH r)[j]? = some u→w.cell? ⟨b,o+z * 9+j,none⟩ = some u:=by
 obtain ⟨b,o,_,_,hA,_,hbs,_⟩:=Sl.get (α:=Placed) h hne;subst hA;refine ⟨b,o,rfl,hbs,fun z hz=>?_⟩;obtain ⟨b',o',ck,Fk,hA,o9,_,hr,hsub,hc⟩:=Sl.get (α:=Placed) h hz;simp only [Option.some.injEq,Addr.mk.injEq,and_true] at hA;obtain ⟨rfl,rfl⟩:=hA;obtain ⟨c1,c2,F1,F2,rfl,rfl,QS,_,_,_,_,rfl,rfl,⟨rfl,rfl,hon⟩,⟨rfl,rfl,hseq⟩⟩:=hr;obtain ⟨Al,cl,Fl,An,cn,Fn,At,ct,Ft,hck,su,hpn,_⟩:=dL QS;subst hck;refine ⟨⟨ps[z].aS.name,Al,ps[z].aS.labels.length,cl,ps[z].aS.cpu,ps[z].aS.mem,ps[z].aS.rank,An,ps[z].aS.needs.length,cn,At,ps[z].aS.tolerances.length,ct,ps[z].on,ps[z].seq⟩,rfl,rfl,hpn,fun j u hu=>?_⟩;have:=hc j u hu;rw [show o+(z * Dat.size Placed+j) = o+z * 9+j from by show o+(z * 9+j) = _;omega] at this;exact this
def insAt {α:Type} (i:Nat) (x:α) (xs:List α):List α:=xs.take i++x :: xs.drop i
theorem insAt_len {α:Type} (i:Nat) (x:α) (xs:List α):(insAt i x xs).length = xs.length+1:=by simp [insAt];omega
theorem aY.ins {α:Type} [Dat α] {w:World} {B:Nat} {xs:List α} {x:α} {ds cs:List Value} {F G:List Nat} (h:aY w B xs ds F) (hx:Own w B x cs G) (hd:∀y∈F,y∉G) (i:Nat) (hi:i≤xs.length) :
 ∃F',aY w B (insAt i x xs) (ds.take (i * Dat.size α)++(cs++ds.drop (i * Dat.size α))) F'∧(∀y∈F',y∈F∨y∈G):=by
 obtain ⟨hr,hn,hb,hp⟩:=h;rw [← List.take_append_drop i xs] at hr;obtain ⟨d1,d2,F1,F2,rfl,rfl,h1,h2⟩:=jo.of_append hr;have hl:d1.length = i * Dat.size α:=by rw [h1.len,List.length_take,Nat.min_eq_left hi]
 rw [← hl,List.take_left,List.drop_left];have hn3:=List.nodup_append.1 hn;have hsub:∀y∈F1++(G++F2),y∈F1++F2∨y∈G:=fun y hy=>by
  simp only [List.mem_append] at hy ⊢;rcases hy with hy | hy | hy <;> simp [hy]
 refine ⟨F1++(G++F2),⟨h1.append ⟨cs,d2,G,F2,rfl,rfl,hx.rd,h2⟩,?_,fun y hy=>?_,fun y hy=>?_⟩,hsub⟩
 ·rw [List.nodup_append,List.nodup_append];refine ⟨hn3.1,⟨hx.nodup,hn3.2.1,fun a ha b hb' e=>hd b (List.mem_append_right _ hb') (e ▸ ha)⟩,fun a ha b hb' e=>?_⟩;rcases List.mem_append.1 hb' with hb' | hb'
  ·exact hd a (List.mem_append_left _ ha) (e ▸ hb')
  ·exact hn3.2.2 a ha b hb' e
 ·rcases hsub y hy with hy | hy
  ·exact hb y hy
  ·exact hx.base y hy
 ·rcases hsub y hy with hy | hy
  ·exact hp y hy
  ·exact hx.plain y hy
theorem Own.of_rowI {α:Type} [Dat α] {w:World} {B:Nat} {xs:List α} {ds:List Value} {F:List Nat} {e:TypeId} {v:Value} (h0:w.ownsRow B e (Dat.size α) v xs.length ds) (h:aY w B xs ds F) (hne:∀g,v.ownBlock = some g→g∉F):∃A c G,v = .slice A xs.length c∧Own w B xs [.slice A xs.length c] G∧∀y∈G,y∈F∨v.ownBlock = some y:=by
 exact Zabx
theorem infoIHost:(Tryz.prog.info? 42).map (fun i=>(i.zero,i.size,i.bytes)) = some (some (.agg #[.string ⟨#[]⟩,.slice none 0 0,.int .i64 0,.int .i64 0,.int .i64 0,.slice none 0 0]),6,88):=by kernel_rfl
theorem elIHost:DL Tryz.prog 24 42 (.agg #[.string ⟨#[]⟩,.slice none 0 0,.int .i64 0,.int .i64 0,.int .i64 0,.slice none 0 0]) 6 88:=⟨Tryz.underlying24,infoIHost,rfl,O'⟩
theorem infoIPlaced:(Tryz.prog.info? 53).map (fun i=>(i.zero,i.size,i.bytes)) = some (some (.agg #[.string ⟨#[]⟩,.slice none 0 0,.int .i64 0,.int .i64 0,.int .i64 0,.slice none 0 0,.slice none 0 0,.string ⟨#[]⟩,.int .i64 0]),9,136):=by kernel_rfl
theorem elIPlaced:DL Tryz.prog 25 53 (.agg #[.string ⟨#[]⟩,.slice none 0 0,.int .i64 0,.int .i64 0,.int .i64 0,.slice none 0 0,.slice none 0 0,.string ⟨#[]⟩,.int .i64 0]) 9 136:=⟨Tryz.underlying25,infoIPlaced,rfl,O'⟩
def lrow (x:Label):List Value:=[.string x.key,.string x.value]
def trow (x:iU):List Value:=[.string x.key,.string x.value,.int .i64 x.effect]
def vrow (x:bH):List Value:=[.string x.key,.bool x.equal,.string x.value,.int .i64 x.effect]
section
variable {β:Type} {row:β→List Value} {S:Nat}
theorem rowsAt (hS:∀x,(row x).length = S):∀(D:List β) (k:Nat) (x:β),D[k]? = some x→∀(j:Nat) (u:Value),(row x)[j]? = some u→(D.flatMap row)[k * S+j]? = some u
 | [],_,_,h,_,_,_=>by simp at h
 | r :: rs,0,x,h,j,u,hj=>by
   simp at h;subst h;rw [List.flatMap_cons,Nat.zero_mul,Nat.zero_add,List.getElem?_append_left (List.getElem?_eq_some_iff.1 hj).1];exact hj
 | r :: rs,k+1,x,h,j,u,hj=>by
   rw [List.getElem?_cons_succ] at h;have hr:=hS r;have hk:(k+1) * S+j = k * S+j+S:=(by rw [Nat.succ_mul];omega);rw [List.flatMap_cons,List.getElem?_append_right O',hr,show (k+1) * S+j - S = k * S+j by omega];exact rowsAt hS rs k x h j u hj
theorem rowsLen (hS:∀x,(row x).length = S):∀D:List β,(D.flatMap row).length = D.length * S
 | []=>by simp
 | r :: rs=>by rw [List.flatMap_cons,List.length_append,hS,rowsLen hS rs,List.length_cons,Nat.succ_mul];omega
theorem rowsOne (h1:∀x,∀u∈row x,u.oneCell' = true) (D:List β):∀u∈D.flatMap row,u.oneCell' = true:=fun u hu=>by
 obtain ⟨x,_,hx⟩:=List.mem_flatMap.1 hu;exact h1 x u hx
theorem rows_own [Dat β] {w:World} {B e g cap:Nat} (hd:Dat.size β = S) (D:List β) (h:w.ownsRow B e S (.slice (some ⟨g,0,none⟩) D.length cap) D.length (D.flatMap row)) (hr:∀x∈D,rd w x (row x) []):∃A c G,Value.slice (some ⟨g,0,none⟩) D.length cap = .slice A D.length c∧Own w B D [.slice A D.length c] G:=by
 subst hd;have hrc:∀D:List β,(∀x∈D,rd w x (row x) [])→jo w D (D.flatMap row) []:=fun D=>by
  induction D with
  | nil=>intro _;exact ⟨rfl,rfl⟩
  | cons x D ih=>intro hD;exact ⟨row x,D.flatMap row,[],[],rfl,rfl,hD x (List.mem_cons_self ..),ih fun y hy=>hD y (List.mem_cons_of_mem _ hy)⟩
 exact Own.oJ h ⟨hrc D hr,List.nodup_nil,(fun b hb=>by cases hb),(fun b hb=>by cases hb)⟩ (fun g hg hm=>by cases hm)
end
theorem lrow_one (x:Label):∀u∈lrow x,u.oneCell' = true:=by intro u hu;simp only [lrow,List.mem_cons,List.not_mem_nil,or_false] at hu;rcases hu with rfl | rfl <;> rfl
theorem trow_one (x:iU):∀u∈trow x,u.oneCell' = true:=by intro u hu;simp only [trow,List.mem_cons,List.not_mem_nil,or_false] at hu;rcases hu with rfl | rfl | rfl <;> rfl
theorem vrow_one (x:bH):∀u∈vrow x,u.oneCell' = true:=by intro u hu;simp only [vrow,List.mem_cons,List.not_mem_nil,or_false] at hu;rcases hu with rfl | rfl | rfl | rfl <;> rfl
end Go.Proofs.YtkjeocdobidadaaGreat
