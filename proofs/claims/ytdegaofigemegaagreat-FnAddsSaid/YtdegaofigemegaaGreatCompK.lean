/- Pressing a row of elements together: what slices.Compact and slices.CompactFunc do to memory. No condition. -/
import Derived.Test.YtdegaofigemegaaGreatAt
import Derived.Test.YtdegaofigemegaaGreatCopyH
import Derived.Shelf.Spec.SlicesInsert
import Derived.Lib.AppendZerosOnto
import Derived.Test.YtdegaofigemegaaGreatNeedLess
namespace Go.Proofs.YtdegaofigemegaaGreat
open Go.ChangeShapes Go.WideShapes Go.ChangeAt Go.RowKit
set_option linter.unusedVariables false
set_option linter.unusedSimpArgs false
set_option maxHeartbeats 4000000
set_option maxRecDepth 100000
theorem ir {P:Program} (w:World) (t e ty:TypeId) (z:Value) (ht:P.underlying t = some (.slice e)) (hv:∀w,(zeroValue e).run P w = .ok z w) (h1:∀u∈z.cells.toList,u.oneCell' = true) (b o n c:Nat) (hn:0 < n)
 (hc:∀j,j < n * z.cells.size->(w.cell? ⟨b,o+j,none⟩).isSome = true) (hf:∀j,j < n * z.cells.size->w.frozen? ⟨b,o+j,none⟩ = false) :
 (Builtin.clear_ #[t] ty #[.slice (some ⟨b,o,none⟩) n c]).run P w = .ok (.tuple #[]) (w.setCells b o (Builtin.zeroCells z.cells n).toList):=by
 have hl:(Builtin.zeroCells z.cells n).toList.length = n * z.cells.size:=by simp [Builtin.zeroCells]
 have lM:=run_storeCells_cells (P:=P) b o (Builtin.zeroCells z.cells n).toList 0 w (by rw [hl];simpa using hc) (by rw [hl];simpa using hf) (by
  intro u hu;simp only [Builtin.zeroCells,Array.toList_map,List.mem_map] at hu;obtain ⟨i,hi,rfl⟩:=hu;have xN:i < n * z.cells.size:=by simpa using hi
  have h0:0 < z.cells.size:=by rcases Nat.eq_zero_or_pos z.cells.size with h | h;· rw [h] at xN;simp at xN
                               ·exact h
  have hm:=Nat.mod_lt i h0;rw [getElem!_pos z.cells _ hm]
  exact h1 _ S')
 simp only [Nat.add_zero] at lM;obtain ⟨m,rfl⟩:∃m,n = m+1:=⟨n - 1,J⟩;simp [Builtin.clear_,run_underlying ht,hv,lM]
theorem aER {α β:Type} (f:α->List β) {a b:List α} (h:a.Sublist b):(a.flatMap f).Sublist (b.flatMap f):=by
 induction h with
 | slnil=>exact .refl _
 | cons x _ ih=>rw [List.flatMap_cons];exact ih.trans (List.sublist_append_right _ _)
 | cons_cons x _ ih=>rw [List.flatMap_cons,List.flatMap_cons];exact (List.Sublist.refl _).append ih
section
variable {T:Type} [ax T] {w w' wr:World} {B g o:Nat} {D L:List (El T)}
structure lf (w w':World) (g o:Nat) (D L:List (El T)):Prop where
 sub:∀e∈L,e∈D
 tab:nt El.cs (ax.size T) w' g o L
 plain:Plain w' g
 ce:nN [g] w w'
theorem lf.start (R:mB w B g o D):lf w w g o D D:=⟨λ_ h=>h,R.tab,R.plain g (List.mem_cons_self ..),.refl _ _⟩
theorem lf.ext (h:lf w w' g o D L) (hb:Below w'.heap.size w' wr):lf w wr g o D L :=
 ⟨h.sub,h.tab.ext h.plain.lt hb,by obtain ⟨ds,t,hp⟩:=h.plain;exact ⟨ds,t,(hb.block g h.plain.lt).trans hp⟩,h.ce.trans (nN.lq _ hb)⟩
theorem lf.put (h:lf w w' g o D L) (R:mB w B g o D) {i:Nat} (hi:i < L.length) {y:El T} (hy:y∈D):lf w (w'.setCells g (o+i * ax.size T) y.cs) g o D (L.set i y):=by
 have hS:∀x∈L,x.cs.length = ax.size T:=λx hx=>R.len x (h.sub x hx);have hSy:=R.len y hy;refine ⟨λe he=>?_,?_,EK g _ _ _ h.plain,?_⟩
 ·rcases List.mem_or_eq_of_mem_set he with he | he
  ·exact h.sub e he
  ·rw [he];exact hy
 ·intro k x hk j u hj;have hex:∀q,q < y.cs.length->(w'.cell? ⟨g,o+i * ax.size T+q,none⟩).isSome = true:=λq hq=>by
   rw [hSy] at hq;have hx:=h.tab i L[i] (List.getElem?_eq_getElem hi) q ((L[i]).cs[q]'(by rw [hS _ (List.getElem_mem ..)];exact hq)) (List.getElem?_eq_getElem _);rw [hx];rfl
  by_cases od:i = k
  ·subst od;rw [List.getElem?_set_self hi] at hk;obtain rfl:=Option.some.inj hk;have oM:=(List.getElem?_eq_some_iff.1 hj).1;have:=World.cell?_setCells_in g y.cs (o+i * ax.size T) w' hex j oM;rw [this,<- hj];exact (List.getElem?_eq_getElem _).symm
  ·rw [List.getElem?_set_ne od] at hk;have oM:j < ax.size T:=(by rw [<- hS x (List.mem_of_getElem? hk)];exact (List.getElem?_eq_some_iff.1 hj).1);rw [World.cell?_setCells_out g _ _ _ _ (λ_ _=>?_)]
   ·exact h.tab k x hk j u hj
   ·dsimp only;rw [hSy];rcases Nat.lt_or_gt_of_ne od with h1 | h1
    ·right;have:(i+1) * ax.size T<=k * ax.size T:=Nat.mul_le_mul_right _ h1;rw [Nat.succ_mul] at this;omega
    ·left;have:(k+1) * ax.size T<=i * ax.size T:=Nat.mul_le_mul_right _ h1;rw [Nat.succ_mul] at this;omega
 ·have e:=F8 g y.cs (o+i * ax.size T) w';exact MJ
theorem lf.own (h:lf w w' g o D L) (R:mB w B g o D) (hL:L = D) {c:Nat} (hc:D.length<=c) (hm:c<=maxLen):ai w' B (D.map El.x) [.slice (some ⟨g,o,none⟩) (D.map El.x).length c] (g :: D.flatMap El.F):=by
 subst hL;exact (R.GG h.ce h.plain h.sub (List.nodup_cons.1 R.nodup).2 h.tab).own hc hm
theorem lf.isSome (h:lf w w' g o D L) (R:mB w B g o D) {j:Nat} (hj:j < L.length * ax.size T):(w'.cell? ⟨g,o+j,none⟩).isSome = true:=by
 have h1:j / ax.size T < L.length:=Nat.div_lt_of_lt_mul (by rw [Nat.mul_comm];exact hj);have h2:j % ax.size T < ax.size T:=Nat.mod_lt _ ax.pos;have hl:=R.len L[j / ax.size T] (h.sub _ (List.getElem_mem ..));have:=h.tab (j / ax.size T) L[j / ax.size T] (List.getElem?_eq_getElem h1) (j % ax.size T) _ (List.getElem?_eq_getElem (by rw [hl];exact h2));rw [show o+j / ax.size T * ax.size T+j % ax.size T = o+j by have:=Nat.div_add_mod j (ax.size T);rw [Nat.mul_comm] at this;omega] at this;rw [this];rfl
theorem lf.nG (h:lf w w' g o D L) (k:Nat) (zs:List Value):nN [g] w (w'.setCells g k zs):=by
 have e:=F8 g zs k w';exact MJ
theorem lf.yL {ne:El T->El T->Bool} {k c:Nat} (h:lf w w' g o D L) (R:mB w B g o D) (hP:py ne D D.length k L) (zs:List Value) (hc:D.length<=c) (hm:c<=maxLen) :
 ai (w'.setCells g (o+k * ax.size T) zs) B ((kept ne D D.length).map El.x) [.slice (some ⟨g,o,none⟩) ((kept ne D D.length).map El.x).length c] (g :: (kept ne D D.length).flatMap El.F):=by
 have e:=F8 g zs (o+k * ax.size T) w';have hu:nN [g] w (w'.setCells g (o+k * ax.size T) zs):=h.ce.trans ⟨e.1,e.2.1,e.2.2,by rw [bk];exact Nat.le_refl _,λk _ hk=>vV g Ih _ _ _⟩;have bi:=QU ne D D.length;rw [List.take_length] at bi;refine (R.GG hu (EK g _ _ _ h.plain) (λe he=>aES he) ?_ ?_).own (Nat.le_trans (tM _ _ _) hc) hm
 ·exact (List.nodup_cons.1 R.nodup).2.sublist (aER El.F bi)
 ·intro q x hq j u hj;have pB:q < k:=by rw [hP.at_];exact (List.getElem?_eq_some_iff.1 hq).1
  rw [<- hP.low,List.getElem?_take,if_pos pB] at hq;have oM:j < ax.size T:=by rw [<- R.len x (h.sub x (List.mem_of_getElem? hq))];exact (List.getElem?_eq_some_iff.1 hj).1
  rw [World.cell?_setCells_out g _ _ _ _ (λ_ _=>?_)]
  ·exact h.tab q x hq j u hj
  ·left;dsimp only;have:(q+1) * ax.size T<=k * ax.size T:=Nat.mul_le_mul_right _ pB;rw [Nat.succ_mul] at this;omega
end
def nB (r:Eb):FO:=(r.name,r.av,r.seq)
theorem anC:(Tryz.prog.info? 9).map (λi=>(i.zero,i.size,i.bytes)) = some (some (.string ⟨#[]⟩),1,16):=by kernel_rfl
theorem ajn:DL Tryz.prog 101 9 (.string ⟨#[]⟩) 1 16:=⟨Tryz.underlying101,anC,rfl,J⟩
theorem acJ (w:World):∀ys:List ByteArray,(∀y∈ys,y.size<=maxLen)->jo w ys (ys.map Value.string) []
 | [],_=>⟨rfl,rfl⟩
 | y :: ys,h=>⟨[.string y],ys.map Value.string,[],[],rfl,rfl,⟨rfl,rfl,h y (List.mem_cons_self ..)⟩,acJ w ys λz hz=>h z (List.mem_cons_of_mem _ hz)⟩
theorem adz {w:World} {B e B':Nat} {v:Value} {xs:List ByteArray} {n:Nat} (h:w.ownsRow B e 1 v n (xs.map Value.string)) (hn:n = xs.length) (hB:B'<=B) (hz:∀y∈xs,y.size<=maxLen) :
 ∃A c G,v = .slice A xs.length c/\ai w B' xs [.slice A xs.length c] G:=by
 subst hn;exact ai.oJ (e:=e) (ds:=xs.map Value.string) (F:=[]) (vP h hB) ⟨acJ w _ hz,List.nodup_nil,(λb hb=>by cases hb),(λb hb=>by cases hb)⟩ (λg _ hm=>by cases hm)
theorem asU:(Tryz.prog.info? 3).map (λi=>(i.zero,i.size,i.bytes)) = some (some (.int .i64 0),1,8):=by kernel_rfl
theorem IP:DL Tryz.prog 96 3 (.int .i64 0) 1 8:=⟨Tryz.underlying96,asU,rfl,J⟩
theorem asV {a b:Bool} (h:a = b):Ending.returned (.bool a) = .returned (.bool b):=by rw [h]
theorem ajp (x y:Eb) (w:World) :
 Calls Tryz.prog 135 #[.agg #[.string x.name,.slice x.la x.ln x.lc,.int .i64 x.aq,.int .i64 x.mem,.int .i64 x.av,.slice x.na x.nn x.nc,.slice x.ta x.tn x.tc,.string x.on,.int .i64 x.seq],.agg #[.string y.name,.slice y.la y.ln y.lc,.int .i64 y.aq,.int .i64 y.mem,.int .i64 y.av,.slice y.na y.nn y.nc,.slice y.ta y.tn y.tc,.string y.on,.int .i64 y.seq]] w λe w'=>e = .returned (.bool (kS sP (nB x) (nB y)))/\Below w.heap.size w w':=by
 have ap:=alD (nB x) (nB y);have e1:(nB x).2.1 = x.av:=rfl;have e2:(nB y).2.1 = y.av:=rfl;have e3:(nB x).2.2 = x.seq:=rfl;have e4:(nB y).2.2 = y.seq:=rfl;rw [e1,e2,e3,e4] at ap;clear e1 e2 e3 e4;generalize kS sP (nB x) (nB y) = L at *;cases h1:decide (y.av < x.av) <;> cases h2:(x.av == y.av) <;> cases h3:decide (x.seq < y.seq)
 all_goals
  have HL:=I ap;have H1:=I h1;have H2:=I h2;have H3:=I h3;clear ap;go_enter Tryz.func135,Tryz.ntmps135;go_wp2;go_ret
  refine ⟨asV ?_,ak (ak (aj _) _) _⟩;have a1:=H1.out;have a2:=H2.out;have a3:=H3.out;have a4:=HL.out;simp at a1 a2 a3;cases L
  ·simp at a4 |-;try omega
  ·simp at a4 |-;try omega
def rT (ps:List ag) (i:Nat):FO:=match ps[i]? with | some p=>Px p | none=>(⟨#[]⟩,0,0)
theorem SI {ps:List ag} {i:Nat} (h:i < ps.length):rT ps i = Px ps[i]:=by unfold rT;rw [List.getElem?_eq_getElem h]
theorem Xy {w:World} {ps:List ag} {A:Option Addr} {c:Nat} {F:List Nat} (h:Sl w ps A c F) (bI:0 < ps.length):∃b o,A = some ⟨b,o,none⟩/\b < w.heap.size /\
 ∀z (hz:z < ps.length),∃r:Eb,nB r = Px ps[z]/\r.on = ps[z].on/\r.name.size<=maxLen/\∀j u,(tH r)[j]? = some u->w.cell? ⟨b,o+z * 9+j,none⟩ = some u:=by
 obtain ⟨b,o,_,_,hA,_,hbs,_⟩:=Sl.get (α:=ag) h bI;subst hA;refine ⟨b,o,rfl,hbs,λz hz=>?_⟩;obtain ⟨b',o',ck,Fk,hA,o9,_,hr,bi,hc⟩:=Sl.get (α:=ag) h hz;simp only [Option.some.injEq,Addr.mk.injEq,and_true] at hA;obtain ⟨rfl,rfl⟩:=hA;obtain ⟨c1,c2,F1,F2,rfl,rfl,QS,_,_,_,_,rfl,rfl,⟨rfl,rfl,eC⟩,⟨rfl,rfl,hseq⟩⟩:=hr;obtain ⟨Al,cl,Fl,An,cn,Fn,At,ct,Ft,ar,su,hpn,_⟩:=dL QS;subst ar;refine ⟨⟨ps[z].aS.name,Al,ps[z].aS.labels.length,cl,ps[z].aS.aq,ps[z].aS.mem,ps[z].aS.av,An,ps[z].aS.af.length,cn,At,ps[z].aS.ae.length,ct,ps[z].on,ps[z].seq⟩,rfl,rfl,hpn,λj u hu=>?_⟩;have:=hc j u hu;rw [show o+(z * ax.size ag+j) = o+z * 9+j from by show o+(z * 9+j) = _;omega] at this;exact this
theorem db {P:Program} (w:World) (dT sT ty elem:TypeId) (b o EX Ve:Nat) (a:Addr) (E0 Vf S:Nat) (cs:List Value)
 (hu:P.underlying dT = some (.slice elem)) (hs:(P.info? elem).map (·.size) = some S) (hn:cs.length = Nat.min E0 EX * S)
 (cC:∀j v,cs[j]? = some v->w.cell? (a.add j) = some v) (hc:∀j,j < cs.length->(w.cell? ⟨b,o+j,none⟩).isSome = true) (hf:∀j,j < cs.length->w.frozen? ⟨b,o+j,none⟩ = false) (h1:∀v∈cs,v.oneCell' = true) :
 (Builtin.copy_ #[dT,sT] ty #[.slice (some ⟨b,o,none⟩) EX Ve,.slice (some a) E0 Vf]).run P w = .ok (goInt (Nat.min E0 EX)) (w.setCells b o cs):=by
 have hl:=run_loadCells_list (P:=P) w a cs cC;have lM:=run_storeCells_cells (P:=P) b o cs 0 w (by simpa using hc) (by simpa using hf) h1;cases hq:P.info? elem with
 | none=>simp [hq] at hs
 | some i =>have hi:i.size = S:=(by simpa [hq] using hs);simp [Builtin.copy_,run_underlying hu,Builtin.lenOf,Builtin.firstCells,sizeOf,typeInfo,hq,hi,<- hn,hl,lM]
theorem zg (b:Nat):∀(vs:List Value) (o:Nat) (w:World) (cj:Array Value) (t:TypeId) (m:Nat × Nat),w.heap[b]? = some (.cells cj t m)->(w.setCells b o vs).heap[b]? = some (.cells (Go.Sort.setMany cj o vs) t m)
 | [],_,_,_,_,_,h=>h
 | v :: r,o,w,cj,t,m,h=>by
   rw [World.setCells,Go.Sort.setMany];exact zg b r (o+1) _ _ t m Ug
theorem aDR {R:List Value} {N S:Nat} {arr:Array Value} (hl:R.length = N+S) (hs:N+S<=arr.size) (h:∀j,j < N+S->arr[j]! = R[j]!):arr.toList.take (N+S) = R:=by
 apply List.ext_getElem
 ·rw [List.length_take,Array.length_toList,hl];omega
 ·intro j h1 h2;have hj:j < N+S:=by rw [<- hl];exact h2
  have:=h j hj;rw [getElem!_pos arr j J,getElem!_pos R j h2] at this;rw [List.getElem_take,Array.getElem_toList];exact this
theorem aFL (ds cs:List Value) (A N S:Nat) (cR:cs.length = S) (cM:ds.length = N) (hA:A<=N) (j:Nat) (hj:j < N+S) :
 (ds.take A++(cs++ds.drop A))[j]! = if j < A then ds[j]! else if j < A+S then cs[j - A]! else ds[j - S]!:=by
 have hl:(ds.take A++(cs++ds.drop A)).length = N+S:=by simp only [List.length_append,List.length_take,List.length_drop];omega
 rw [getElem!_pos _ j J];by_cases h1:j < A
 ·rw [if_pos h1,getElem!_pos ds j J,List.getElem_append_left Ak,List.getElem_take]
 ·rw [if_neg h1,List.getElem_append_right Ak];by_cases h2:j < A+S
  ·rw [if_pos h2,getElem!_pos cs _ J,List.getElem_append_left Ak];congr 1;rw [List.length_take];omega
  ·rw [if_neg h2,getElem!_pos ds _ J,List.getElem_append_right Ak,List.getElem_drop];congr 1;simp only [List.length_take];omega
theorem oW (cj:Array Value) (ds cs:List Value) (A N S:Nat) (cR:cs.length = S) (cM:ds.length = N) (hA:A<=N) (d9:N+S<=cj.size) (nv:∀t,t < A->cj[t]! = ds[t]!) :
 (Go.Sort.setMany (Go.Sort.setMany cj (A+S) (ds.drop A)) A cs).toList.take (N+S) = ds.take A++(cs++ds.drop A):=by
 refine aDR (by simp only [List.length_append,List.length_take,List.length_drop];omega) (by simpa using d9) λj hj=>?_;rw [aFL ds cs A N S cR cM hA j hj,Go.Sort.get_setMany _ _ _ _ (by simp;omega),Go.Sort.get_setMany _ _ _ _ J,cR,List.length_drop];by_cases h1:j < A
 ·rw [if_neg J,if_neg J,if_pos h1];exact nv j h1
 ·rw [if_neg h1];by_cases h2:j < A+S
  ·rw [if_pos J,if_pos h2]
  ·rw [if_neg J,if_pos J,if_neg h2,getElem!_pos (ds.drop A) _ Iq,getElem!_pos ds _ J,List.getElem_drop];congr 1;omega
theorem mP (cj:Array Value) (ds cs:List Value) (A N S:Nat) (cR:cs.length = S) (cM:ds.length = N) (hA:A<=N) (d9:N+S<=cj.size) (nv:∀t,t < A->cj[t]! = ds[t]!) :
 (Go.Sort.setMany (Go.Sort.setMany cj A cs) (A+S) (ds.drop A)).toList.take (N+S) = ds.take A++(cs++ds.drop A):=by
 refine aDR (by simp only [List.length_append,List.length_take,List.length_drop];omega) (by simpa using d9) λj hj=>?_;rw [aFL ds cs A N S cR cM hA j hj,Go.Sort.get_setMany _ _ _ _ (by simp;omega),Go.Sort.get_setMany _ _ _ _ J,cR,List.length_drop];by_cases h1:j < A
 ·rw [if_neg J,if_neg J,if_pos h1];exact nv j h1
 ·rw [if_neg h1];by_cases h2:j < A+S
  ·rw [if_neg J,if_pos J,if_pos h2]
  ·rw [if_pos J,if_neg h2,getElem!_pos (ds.drop A) _ Iq,getElem!_pos ds _ J,List.getElem_drop];congr 1;omega
theorem Vg:(Tryz.prog.info? 38).map (λi=>(i.zero,i.size,i.bytes)) = some (some (.agg #[.string ⟨#[]⟩,.slice none 0 0,.int .i64 0,.int .i64 0,.int .i64 0,.slice none 0 0]),6,88):=by kernel_rfl
theorem ox:DL Tryz.prog 24 38 (.agg #[.string ⟨#[]⟩,.slice none 0 0,.int .i64 0,.int .i64 0,.int .i64 0,.slice none 0 0]) 6 88:=⟨Tryz.underlying24,Vg,rfl,J⟩
theorem oX (w:World) (B vb:Nat) (cs:List Value) (hB:B<=w.heap.size) (tv:TypeId) (cR:cs.length = 6) (h1:∀u∈cs,u.oneCell' = true) (hv:w.heap[vb]? = some (.cells cs.toArray tv (0,0))) :
 Calls Tryz.prog 41 #[.slice none 0 0,.int .i64 0,.slice (some ⟨vb,0,none⟩) 1 1] w λe w'=>∃v',e = .returned v'/\w'.ownsRow B 38 6 v' 1 cs/\w.grownBy w' none/\(v'.ownBlock = none∨v'.ownBlock = some w.heap.size):=by
 have fL:∀q u,cs[q]? = some u->w.cell? ((⟨vb,0,none⟩:Addr).add q) = some u:=λq u hu=>by
  exact oI
 have HV:=I hv;clear hv;go_enter Tryz.func41,Tryz.ntmps41
 go_wp2_with (
  at_builtin
  go_must (refine xW ox J' _ _ J' w B _ 0 [] (World.ownsRow_nil w _ _ _) J' ⟨vb,0,none⟩ 1 1 cs J' (by rw [cR]) fL h1 J J hB ?_)
  intro v2 w2 aw hg cF)
 rw [Nat.zero_add,List.nil_append] at aw;go_ret
 exact ⟨v2,rfl,aw,hg,cF⟩
theorem oY (w:World) (B g n c vb:Nat) (ds cs:List Value) (hB:B<=w.heap.size) (aw:w.ownsRow B 38 6 (.slice (some ⟨g,0,none⟩) n c) n ds) (hn:n<=1048576) (hc:c<=9223372036854775807) (tv:TypeId) (cR:cs.length = 6) (h1:∀u∈cs,u.oneCell' = true) (hv:w.heap[vb]? = some (.cells cs.toArray tv (0,0))) :
 Calls Tryz.prog 41 #[.slice (some ⟨g,0,none⟩) n c,.int .i64 n,.slice (some ⟨vb,0,none⟩) 1 1] w λe w'=>∃v',e = .returned v'/\w'.ownsRow B 38 6 v' (n+1) (ds++cs)/\w.grownBy w' (some g)/\(v'.ownBlock = some g∨v'.ownBlock = some w.heap.size):=by
 have fL:∀q u,cs[q]? = some u->w.cell? ((⟨vb,0,none⟩:Addr).add q) = some u:=λq u hu=>by
  exact oI
 obtain ⟨_,iJ,hnc,_⟩:=IE aw;have HV:=I hv;have di:=I aw;clear hv aw;go_enter Tryz.func41,Tryz.ntmps41
 go_wp2_with (
  at_builtin
  go_must (refine xW ox J' _ _ J' w B _ n ds di.out J' ⟨vb,0,none⟩ 1 1 cs J' (by rw [cR]) fL h1 J J hB ?_)
  intro v2 w2 aw hg cF)
 all_goals
  go_ret
  exact ⟨v2,rfl,aw,hg,cF⟩
theorem mu (w:World) (B g n c i vb:Nat) (ds cs:List Value) (hB:B<=w.heap.size) (aw:w.ownsRow B 38 6 (.slice (some ⟨g,0,none⟩) n c) n ds) (hn:n<=1048576) (hc:c<=9223372036854775807) (hi:i < n) (ja:n+1<=c) (zh:vb≠g) (ke:∀u∈ds,u.oneCell' = true) (tv:TypeId) (cR:cs.length = 6) (h1:∀u∈cs,u.oneCell' = true) (hv:w.heap[vb]? = some (.cells cs.toArray tv (0,0))) :
 Calls Tryz.prog 41 #[.slice (some ⟨g,0,none⟩) n c,.int .i64 i,.slice (some ⟨vb,0,none⟩) 1 1] w λe w'=>e = .returned (.slice (some ⟨g,0,none⟩) (n+1) c)/\w'.ownsRow B 38 6 (.slice (some ⟨g,0,none⟩) (n+1) c) (n+1) (ds.take (i * 6)++(cs++ds.drop (i * 6)))/\w.grownBy w' (some g):=by
 have fL:∀q u,cs[q]? = some u->w.cell? ((⟨vb,0,none⟩:Addr).add q) = some u:=λq u hu=>by
  exact oI
 obtain ⟨zj,iJ,_,bv⟩:=IE aw;have cM:ds.length = n * 6:=aw.1;obtain ⟨cj,hcur,dC,hct⟩:∃cj:Array Value,w.heap[g]? = some (.cells cj 38 (0,0))/\cj.size = c * 6/\cj.toList.take (n * 6) = ds:=by exact L8
 have nw:∀j,j < c * 6->(w.cell? ⟨g,j,none⟩).isSome = true:=λj hj=>by rw [cell_of_row w g j cj _ (0,0) hcur,Array.getElem?_eq_getElem (by rw [dC];exact hj)];rfl
 have sC:∀j,w.frozen? ⟨g,j,none⟩ = false:=λj=>by simp [World.frozen?,hcur]
 have d9:(Tryz.prog.info? 38).map (·.size) = some 6:=by obtain ⟨i0,gw,h0,h1,h2⟩:=info_parts Vg;rw [gw];simp [h1]
 have Oc:∀lb cb,(callFunc 79 #[.slice (some ⟨vb,0,none⟩) 1 1,.slice (some ⟨g,(i+1) * 6,none⟩) lb cb]).run Tryz.prog w = .ok (.value (.bool false)) w:=λlb cb=>by
  rw [run_callFunc_extern Tryz.func79 U' U' U' (e:=Extern.SlicesOverlaps.overlaps #[24,24] #[4]) U',
    Lib.run_overlaps_apart w 24 4 38 Tryz.underlying24 6 Tryz.sizeOf38 ⟨vb,0,none⟩ ⟨g,(i+1) * 6,none⟩ 1 1 lb cb zh tv 38 cs.length cj.size (by simp [World.shape?,hv]) (by simp [World.shape?,hcur]) (by rw [dC];omega) (by simp [World.frozen?,hv]) (by simp [World.frozen?,hv])]
  rfl
 have pP:(ds.drop (i * 6)).length = (n - i) * 6:=by rw [List.length_drop,cM];omega
 have pQ:∀ty dc sc,(Builtin.copy_ #[24,24] ty #[.slice (some ⟨g,(i+1) * 6,none⟩) (n - i) dc,.slice (some ⟨g,i * 6,none⟩) (n+1 - i) sc]).run Tryz.prog w.drew = .ok (goInt ((n - i:Nat):Int)) (w.drew.setCells g ((i+1) * 6) (ds.drop (i * 6))):=λty dc sc=>by
  have:=db (P:=Tryz.prog) w.drew 24 24 ty 38 g ((i+1) * 6) (n - i) dc ⟨g,i * 6,none⟩ (n+1 - i) sc 6 (ds.drop (i * 6)) Tryz.underlying24 d9 (by rw [pP];simp only [Nat.min_def];split <;> omega)
   (λj v hj=>by rw [Addr.add_lit];exact bv (i * 6+j) v (by rwa [List.getElem?_drop] at hj)) (λj hj=>nw _ J) (λj _=>sC _) (λv tk=>ke v (List.mem_of_mem_drop tk))
  exact MN
 have pS:∀(W:World),(∀x,W.cell? x = (w.drew.setCells g ((i+1) * 6) (ds.drop (i * 6))).cell? x)->(∀x,W.frozen? x = (w.drew.setCells g ((i+1) * 6) (ds.drop (i * 6))).frozen? x)->∀ty dc,(Builtin.copy_ #[24,24] ty #[.slice (some ⟨g,i * 6,none⟩) (n+1 - i) dc,.slice (some ⟨vb,0,none⟩) 1 1]).run Tryz.prog W = .ok (goInt 1) (W.setCells g (i * 6) cs):=λW o0 uR ty dc=>by
  have:=db (P:=Tryz.prog) W 24 24 ty 38 g (i * 6) (n+1 - i) dc ⟨vb,0,none⟩ 1 1 6 cs Tryz.underlying24 d9 (by rw [cR];simp only [Nat.min_def];split <;> omega)
   (λj v hj=>by rw [o0,Addr.add_lit,World.cell?_setCells_out g _ _ _ _ (λh _=>absurd h zh)];have:=fL j v hj;rwa [Addr.add_lit] at this)
   (λj hj=>by rw [o0];exact isSome_setCells g _ _ w.drew (λt ht=>nw ((i+1) * 6+t) (by rw [pP] at ht;omega)) _ (nw (i * 6+j) (by rw [cR] at hj;omega))) (λj _=>by rw [uR,World.frozen?_setCells];exact sC _) h1
  rw [show Nat.min 1 (n+1 - i) = 1 by simp only [Nat.min_def];split <;> omega] at this;exact this
 have br:∀W:World,W = (w.drew.setCells g ((i+1) * 6) (ds.drop (i * 6))).setCells g (i * 6) cs->W.ownsRow B 38 6 (.slice (some ⟨g,0,none⟩) (n+1) c) (n+1) (ds.take (i * 6)++(cs++ds.drop (i * 6)))/\w.grownBy W (some g):=λW hW=>by
  subst hW;have e1:=F8 g (ds.drop (i * 6)) ((i+1) * 6) w.drew;have e2:=F8 g cs (i * 6) (w.drew.setCells g ((i+1) * 6) (ds.drop (i * 6)));have hh:=zg g cs (i * 6) _ _ _ _ (zg g (ds.drop (i * 6)) ((i+1) * 6) w.drew cj 38 (0,0) hcur);refine ⟨⟨by simp only [List.length_append,List.length_take,List.length_drop];omega,.inr ⟨g,c,_,rfl,zj,hh,ja,by unfold maxLen;omega,by simp [dC],?_⟩⟩,⟨e2.1.trans e1.1,e2.2.1.trans e1.2.1,e2.2.2.trans e1.2.2,by rw [bk,bk];exact Nat.le_refl _,λk hk bI=>?_⟩⟩
  ·have:=oW cj ds cs (i * 6) (n * 6) 6 cR cM J (by rw [dC];omega) (λt ht=>by
    have h2:t < n * 6:=J;rw [getElem!_pos cj t (by rw [dC];omega),getElem!_pos ds t J];have h3:(cj.toList.take (n * 6))[t]? = ds[t]?:=(by rw [hct]);rw [List.getElem?_take,if_pos h2,List.getElem?_eq_getElem (by rw [Array.length_toList,dC];omega),List.getElem?_eq_getElem J] at h3
    simpa using h3)
   rw [show (i+1) * 6 = i * 6+6 by omega,show (n+1) * 6 = n * 6+6 by omega];exact this
  ·have Od:k≠g:=λe=>bI (by rw [e]);rw [vV g Od,vV g Od];rfl
 have HF:=I br;obtain ⟨W1,hW1⟩:∃W1,W1 = w.drew.setCells g ((i+1) * 6) (ds.drop (i * 6)):=⟨_,rfl⟩;rw [<- hW1] at pQ pS;have Vh:=I hW1;have E4:=I pQ;have E6:=I pS;have Vi:=I Oc;have HHV:=I hv;have mH:IntKind.i64.wrap ((i:Int)+1) = (i:Int)+1:=by rw [IntKind.wrap_i64];omega
 have aR:(0:Int)<=(i:Int)+1:=by omega
 have Vj:((i:Int)+1).toNat = i+1:=by omega
 have ca:¬((i:Int) = (n:Int)):=by omega
 have am:¬(c = i+1):=by omega
 have az:(i:Int)<=(n:Int)+1:=by omega
 have bm:¬(c = i):=by omega
 have mv:i<=n:=by omega
 clear br hcur dC hct nw sC d9 pP hW1 pQ pS Oc fL aw bv cM hv ke h1 cR;go_enter Tryz.func41,Tryz.ntmps41;go_wp2_with (simp only [Vi.out])
 go_region_law (refine step_copy_runI rfl _ _ 24 24 rfl (.slice (some ⟨g,(i+1) * 6,none⟩) (n - i) (c - (i+1))) (.slice (some ⟨g,i * 6,none⟩) (n+1 - i) (c - i)) tw tw (E4.out _ _ _) ?_)
 go_wp2_with (refine wpList_copy_runI _ rfl _ _ 24 24 rfl _ _ rfl rfl (E6.out _ (λ_=>rfl) (λ_=>rfl) _ _) ?_)
 go_ret
 exact ⟨rfl,HF.out _ (by rw [Vh.out])⟩
theorem nx (w:World) (B g n c i vb:Nat) (ds cs:List Value) (hB:B<=w.heap.size) (aw:w.ownsRow B 38 6 (.slice (some ⟨g,0,none⟩) n c) n ds) (hn:n<=1048576) (hi:i < n) (ja:c < n+1) (zh:vb < w.heap.size) (ke:∀u∈ds,u.oneCell' = true) (tv:TypeId) (cR:cs.length = 6) (h1:∀u∈cs,u.oneCell' = true) (hv:w.heap[vb]? = some (.cells cs.toArray tv (0,0))) :
 Calls Tryz.prog 41 #[.slice (some ⟨g,0,none⟩) n c,.int .i64 i,.slice (some ⟨vb,0,none⟩) 1 1] w λe w'=>∃v',e = .returned v'/\w'.ownsRow B 38 6 v' (n+1) (ds.take (i * 6)++(cs++ds.drop (i * 6)))/\w.grownBy w' (some g)/\v'.ownBlock = some w.heap.size:=by
 have fL:∀q u,cs[q]? = some u->w.cell? ((⟨vb,0,none⟩:Addr).add q) = some u:=λq u hu=>by
  exact oI
 obtain ⟨zj,iJ,hnc,bv⟩:=IE aw;have cM:ds.length = n * 6:=aw.1;have kq:c = n:=by omega
 subst kq;have yK:(Value.cells (.agg #[.string ⟨#[]⟩,.slice none 0 0,.int .i64 0,.int .i64 0,.int .i64 0,.slice none 0 0])).size = 6:=by rfl
 obtain ⟨i0,gw,bX,gP,o3⟩:=info_parts Vg;have d9:(Tryz.prog.info? 38).map (·.size) = some 6:=by rw [gw];simp [gP]
 have pT:(c:Int)+1 - (i:Int) = ((c+1 - i:Nat):Int):=by omega
 have od:i+(c+1 - i) = c+1:=by omega
 have gg:(ds.take (i * 6)).length = i * 6:=by rw [List.length_take,cM];omega
 have hold:(Builtin.firstCells i0.size i (.slice (some ⟨g,0,none⟩) i c)).run Tryz.prog w.drew = .ok (ds.take (i * 6)).toArray w.drew:=by
  rw [gP]
  exact run_firstCells_some w.drew 6 i ⟨g,0,none⟩ i c (ds.take (i * 6)) (by rw [gg]) (λj v hj=>by
   rw [Addr.add_lit,Nat.zero_add];rw [List.getElem?_take] at hj;split at hj
   ·exact bv j v hj
   ·cases hj)
 have pr:∀ty,(Builtin.append_ #[24,3] ty #[.slice (some ⟨g,0,none⟩) i c,.int .i64 ((c:Int)+1 - (i:Int))]).run Tryz.prog w =
     .ok (.slice (some ⟨w.heap.size,0,none⟩) (c+1) (grownCap w (c+1) c 38)) (w.drew.alloc (.cells ((ds.take (i * 6)).toArray++Builtin.zeroCells (Value.cells (.agg #[.string ⟨#[]⟩,.slice none 0 0,.int .i64 0,.int .i64 0,.int .i64 0,.slice none 0 0])) (c+1 - i)++Builtin.zeroCells (Value.cells (.agg #[.string ⟨#[]⟩,.slice none 0 0,.int .i64 0,.int .i64 0,.int .i64 0,.slice none 0 0])) (grownCap w (c+1) c 38 - (c+1))) 38)):=λty=>by
  have h:=Lib.run_append_grow_zeros (P:=Tryz.prog) w 24 3 ty 38 i0 _ .i64 .i64 Tryz.underlying24 U' gw bX (some ⟨g,0,none⟩) i c (ds.take (i * 6)) hold (c+1 - i) J J J J (by rw [o3];omega) (by rw [o3,od];exact growslice_fits J J);rw [od] at h;rw [pT];exact h
 obtain ⟨G,hG⟩:∃G,G = grownCap w (c+1) c 38:=⟨_,rfl⟩;obtain ⟨gv,hROW⟩:∃gv:Array Value,gv = (ds.take (i * 6)).toArray++Builtin.zeroCells (Value.cells (.agg #[.string ⟨#[]⟩,.slice none 0 0,.int .i64 0,.int .i64 0,.int .i64 0,.slice none 0 0])) (c+1 - i)++Builtin.zeroCells (Value.cells (.agg #[.string ⟨#[]⟩,.slice none 0 0,.int .i64 0,.int .i64 0,.int .i64 0,.slice none 0 0])) (G - (c+1)):=⟨_,rfl⟩;rw [<- hG] at pr;rw [<- hROW] at pr;have Vk:c+1<=G:=by rw [hG];exact grownCap_ge w _ _ _
 have uS:G<=maxLen:=by rw [hG];exact grownCap_le_maxLen w (c+1) c 38 pE
 have E7:gv.size = G * 6:=by exact MA
 have nv:∀t,t < i * 6->gv[t]! = ds[t]!:=λt ht=>by
  exact L7
 clear hROW;obtain ⟨W1,hW1⟩:∃W1,W1 = w.drew.alloc (.cells gv 38):=⟨_,rfl⟩;rw [<- hW1] at pr;have hN:∀j,j < (c+1) * 6->(W1.cell? ⟨w.heap.size,j,none⟩).isSome = true:=λj hj=>by
  exact MS
 have E9:∀j,W1.frozen? ⟨w.heap.size,j,none⟩ = false:=λj=>by rw [hW1];exact World.frozen?_alloc_at (w:=w.drew) gv _ w.heap.size j rfl
 have Oe:∀j v,w.cell? ⟨g,j,none⟩ = some v->W1.cell? ⟨g,j,none⟩ = some v:=λj v h=>by rw [hW1,World.cell?_alloc_past (w:=w.drew) _ g j iJ];exact h
 have tC:∀j v,w.cell? ⟨vb,j,none⟩ = some v->W1.cell? ⟨vb,j,none⟩ = some v:=λj v h=>by rw [hW1,World.cell?_alloc_past (w:=w.drew) _ vb j zh];exact h
 have uT:∀(W:World),(∀x,W.cell? x = W1.cell? x)->(∀x,W.frozen? x = W1.frozen? x)->∀ty dc,(Builtin.copy_ #[24,24] ty #[.slice (some ⟨w.heap.size,i * 6,none⟩) (c+1 - i) dc,.slice (some ⟨vb,0,none⟩) 1 1]).run Tryz.prog W = .ok (goInt 1) (W.setCells w.heap.size (i * 6) cs):=λW o0 uR ty dc=>by
  have:=db (P:=Tryz.prog) W 24 24 ty 38 w.heap.size (i * 6) (c+1 - i) dc ⟨vb,0,none⟩ 1 1 6 cs Tryz.underlying24 d9 (by rw [cR];simp only [Nat.min_def];split <;> omega)
   (λj v hj=>by rw [o0,Addr.add_lit];have:=fL j v hj;rw [Addr.add_lit] at this;exact tC _ v this)
   (λj hj=>by rw [o0];exact hN _ (by rw [cR] at hj;omega)) (λj _=>by rw [uR];exact E9 _) h1
  rw [show Nat.min 1 (c+1 - i) = 1 by simp only [Nat.min_def];split <;> omega] at this;exact this
 have Vl:g≠w.heap.size:=by omega
 have pP:(ds.drop (i * 6)).length = (c - i) * 6:=by rw [List.length_drop,cM];omega
 have uW:∀(W:World),(∀x,W.cell? x = (W1.setCells w.heap.size (i * 6) cs).cell? x)->(∀x,W.frozen? x = (W1.setCells w.heap.size (i * 6) cs).frozen? x)->∀ty dc sc,(Builtin.copy_ #[24,24] ty #[.slice (some ⟨w.heap.size,(i+1) * 6,none⟩) (c - i) dc,.slice (some ⟨g,i * 6,none⟩) (c - i) sc]).run Tryz.prog W = .ok (goInt ((c - i:Nat):Int)) (W.setCells w.heap.size ((i+1) * 6) (ds.drop (i * 6))):=λW o0 uR ty dc sc=>by
  have:=db (P:=Tryz.prog) W 24 24 ty 38 w.heap.size ((i+1) * 6) (c - i) dc ⟨g,i * 6,none⟩ (c - i) sc 6 (ds.drop (i * 6)) Tryz.underlying24 d9 (by rw [pP];simp only [Nat.min_def];split <;> omega)
   (λj v hj=>by
    rw [Addr.add_lit,o0,World.cell?_setCells_out _ _ _ _ _ (λh _=>absurd h Vl)]
    exact Oe _ v (bv (i * 6+j) v (by rwa [List.getElem?_drop] at hj)))
   (λj hj=>by rw [o0];exact isSome_setCells _ _ _ _ (λt ht=>hN _ (by rw [cR] at ht;omega)) _ (hN _ (by rw [pP] at hj;omega)))
   (λj _=>by rw [uR,World.frozen?_setCells];exact E9 _) (λv tk=>ke v (List.mem_of_mem_drop tk))
  exact MP
 have br:∀W:World,W = ((W1.setCells w.heap.size (i * 6) cs).drew.setCells w.heap.size ((i+1) * 6) (ds.drop (i * 6)))->W.ownsRow B 38 6 (.slice (some ⟨w.heap.size,0,none⟩) (c+1) G) (c+1) (ds.take (i * 6)++(cs++ds.drop (i * 6)))/\w.grownBy W (some g):=λW hW=>by
  subst hW;subst hW1;have e1:=F8 w.heap.size cs (i * 6) (w.drew.alloc (.cells gv 38));have e2:=F8 w.heap.size (ds.drop (i * 6)) ((i+1) * 6) ((w.drew.alloc (.cells gv 38)).setCells w.heap.size (i * 6) cs).drew;have h0:(w.drew.alloc (.cells gv 38)).heap[w.heap.size]? = some (.cells gv 38 (0,0)):=by show (w.heap.push _)[w.heap.size]? = _;simp
  have hh:=zg w.heap.size (ds.drop (i * 6)) ((i+1) * 6) _ _ _ _ (show (((w.drew.alloc (.cells gv 38)).setCells w.heap.size (i * 6) cs).drew).heap[w.heap.size]? = _ from zg w.heap.size cs (i * 6) (w.drew.alloc (.cells gv 38)) gv 38 (0,0) h0);refine ⟨⟨by simp only [List.length_append,List.length_take,List.length_drop];omega,.inr ⟨w.heap.size,G,_,rfl,hB,hh,Vk,uS,by simp [E7],?_⟩⟩,⟨e2.1.trans e1.1,e2.2.1.trans e1.2.1,e2.2.2.trans e1.2.2,?_,λk hk bI=>?_⟩⟩
  ·have:=mP gv ds cs (i * 6) (c * 6) 6 cR cM J (by rw [E7];omega) nv;rw [show (i+1) * 6 = i * 6+6 by omega,show (c+1) * 6 = c * 6+6 by omega];exact this
  ·rw [bk];show _<=((w.drew.alloc (.cells gv 38)).setCells w.heap.size (i * 6) cs).heap.size;rw [bk];show _<=(w.heap.push _).size;simp
  ·have E':k≠w.heap.size:=J;rw [vV w.heap.size E'];show ((w.drew.alloc (.cells gv 38)).setCells w.heap.size (i * 6) cs).heap[k]? = _;rw [vV w.heap.size E'];show (w.heap.push _)[k]? = _;rw [Array.getElem?_push,if_neg E']
 have HF:=I br;have Ib:=I pr;have Fc:=I uT;have Fe:=I uW;have ca:¬((i:Int) = (c:Int)):=by omega
 have eB:(c:Int) < (c:Int)+1:=by omega
 have mH:IntKind.i64.wrap ((i:Int)+1) = (i:Int)+1:=by rw [IntKind.wrap_i64];omega
 have aR:(0:Int)<=(i:Int)+1:=by omega
 have Vj:((i:Int)+1).toNat = i+1:=by omega
 have Vn:G<=9223372036854775807:=by unfold maxLen at uS;omega
 have hGi:¬(G = i):=by omega
 have Vt:¬(G = i+1):=by omega
 have Bi:¬(c = i):=by omega
 have mv:i<=c:=by omega
 have hig:i<=G:=by omega
 have Vu:i<=c+1:=by omega
 have hHV:=I hv;clear br pr uT uW hN E9 Oe tC nv hold pT od gg aw bv cM pP fL hv h1 ke cR E7 hW1 d9 gw bX gP o3 yK uS hG;go_enter Tryz.func41,Tryz.ntmps41
 go_wp2_with (first
  | (at_builtin;refine Lib.wpList_append_run _ rfl _ _ _ _ rfl _ _ rfl rfl _ _ (Ib.out _) ?_)
  | (refine wpList_copy_runI _ rfl _ _ 24 24 rfl _ _ rfl rfl (Fc.out _ (λ_=>rfl) (λ_=>rfl) _ _) ?_))
 go_region_law (refine step_copy_runI rfl _ _ 24 24 rfl (.slice (some ⟨w.heap.size,(i+1) * 6,none⟩) (c - i) (G - (i+1))) (.slice (some ⟨g,i * 6,none⟩) (c - i) (c - i)) tw tw (Fe.out (W1.setCells w.heap.size (i * 6) cs).drew (λ_=>rfl) (λ_=>rfl) _ _ _) ?_)
 go_wp2;go_ret
 exact ⟨_,rfl,(HF.out _ rfl).1,(HF.out _ rfl).2,rfl⟩
end Go.Proofs.YtdegaofigemegaaGreat
namespace Go.Proofs.YtdegaofigemegaaGreat
open Go.ChangeShapes Go.WideShapes Go.ChangeAt Go.RowKit Go.Shelf
def r9:Go.Shelf.Ren:={
 f:=λx=>match x with
  | 6=>122
  | 14=>156
  | 15=>155
  | 20=>189
  | 21=>190
  | 22=>191
  | 23=>192
  | 24=>193
  | 25=>194
  | 26=>195
  | 27=>196
  | 28=>187
  | 29=>188
  | 46=>228
  | 47=>223
  | 48=>224
  | 49=>229
  | 50=>230
  | 57=>244
  | n=>n
 t:=λx=>match x with
  | 0=>0
  | 3=>3
  | 4=>4
  | 5=>5
  | 9=>9
  | 22=>32
  | 24=>138
  | 25=>158
  | 39=>133
  | 45=>187
  | 46=>188
  | 50=>142
  | 53=>194
  | 55=>196
  | 66=>213
  | 70=>217
  | 76=>227
  | 77=>228
  | n=>n
 g:=λn=>n }
theorem s8:SlLaysF0.n6 Tryz.prog r9:={
 mixed:=rfl
 f6:=⟨_,U',Tryz.func122.trans (congrArg some rfl)⟩
 f14:=⟨_,U',Tryz.func156.trans (congrArg some rfl)⟩
 f15:=Tryz.func155.trans (congrArg some rfl)
 f20:=⟨_,U',Tryz.func189.trans (congrArg some rfl)⟩
 f21:=⟨_,U',Tryz.func190.trans (congrArg some rfl)⟩
 f22:=⟨_,U',Tryz.func191.trans (congrArg some rfl)⟩
 f23:=⟨_,U',Tryz.func192.trans (congrArg some rfl)⟩
 f24:=⟨_,U',Tryz.func193.trans (congrArg some rfl)⟩
 f25:=⟨_,U',Tryz.func194.trans (congrArg some rfl)⟩
 f26:=⟨_,U',Tryz.func195.trans (congrArg some rfl)⟩
 f27:=⟨_,U',Tryz.func196.trans (congrArg some rfl)⟩
 f28:=Tryz.func187.trans (congrArg some rfl)
 f29:=Tryz.func188.trans (congrArg some rfl)
 f46:=⟨_,U',Tryz.func228.trans (congrArg some rfl)⟩
 f47:=Tryz.func223.trans (congrArg some rfl)
 f48:=Tryz.func224.trans (congrArg some rfl)
 f49:=⟨_,U',Tryz.func229.trans (congrArg some rfl)⟩
 f50:=⟨_,U',Tryz.func230.trans (congrArg some rfl)⟩
 f57:=⟨_,U',Tryz.func244.trans (congrArg some rfl)⟩
 t0:=Tryz.underlying0
 a0:=Tryz.isAgg0
 z0:=Tryz.sizeOf0
 v0:=Tryz.zeroValue0
 t3:=Tryz.underlying3
 a3:=Tryz.isAgg3
 z3:=Tryz.sizeOf3
 v3:=Tryz.zeroValue3
 t4:=Tryz.underlying4
 a4:=Tryz.isAgg4
 z4:=Tryz.sizeOf4
 v4:=Tryz.zeroValue4
 t5:=Tryz.underlying5
 a5:=Tryz.isAgg5
 z5:=Tryz.sizeOf5
 v5:=Tryz.zeroValue5
 t9:=Tryz.underlying9
 a9:=Tryz.isAgg9
 z9:=Tryz.sizeOf9
 v9:=Tryz.zeroValue9
 t22:=Tryz.underlying32
 a22:=Tryz.isAgg32
 z22:=Tryz.sizeOf32
 v22:=Tryz.zeroValue32
 t25:=Tryz.underlying158
 a25:=Tryz.isAgg158
 z25:=Tryz.sizeOf158
 v25:=Tryz.zeroValue158
 t39:=Tryz.underlying133
 a39:=Tryz.isAgg133
 z39:=Tryz.sizeOf133
 v39:=Tryz.zeroValue133
 t45:=Tryz.underlying187
 a45:=Tryz.isAgg187
 z45:=Tryz.sizeOf187
 v45:=Tryz.zeroValue187
 t46:=Tryz.underlying188
 a46:=Tryz.isAgg188
 z46:=Tryz.sizeOf188
 v46:=Tryz.zeroValue188
 t50:=Tryz.underlying142
 a50:=Tryz.isAgg142
 z50:=Tryz.sizeOf142
 v50:=Tryz.zeroValue142
 t53:=Tryz.underlying194
 a53:=Tryz.isAgg194
 z53:=Tryz.sizeOf194
 v53:=Tryz.zeroValue194
 t55:=Tryz.underlying196
 a55:=Tryz.isAgg196
 z55:=Tryz.sizeOf196
 v55:=Tryz.zeroValue196
 t66:=Tryz.underlying213
 a66:=Tryz.isAgg213
 z66:=Tryz.sizeOf213
 v66:=Tryz.zeroValue213
 t70:=Tryz.underlying217
 a70:=Tryz.isAgg217
 z70:=Tryz.sizeOf217
 v70:=Tryz.zeroValue217
 t76:=Tryz.underlying227
 a76:=Tryz.isAgg227
 z76:=Tryz.sizeOf227
 v76:=Tryz.zeroValue227
 t77:=Tryz.underlying228
 a77:=Tryz.isAgg228
 z77:=Tryz.sizeOf228
 v77:=Tryz.zeroValue228 }
theorem wJ (xs:List aL) (A:Option Addr) (c:Nat) (F:List Nat) (w:World) (B:Nat) (h:ai w B xs [.slice A xs.length c] F) (hB:B<=w.heap.size) (hl:(xs.length:Int)<=1048576) (eN:∀x∈xs,(x.values.length:Int)<=1048576) :
 Calls Tryz.prog 122 #[.slice A xs.length c,.func (.func 123) #[] #[]] w λe w'=>e = .returned (.tuple #[])/\∃(ys:List aL) (F':List Nat),ys.Perm xs/\ys.Pairwise (λx y=>decide (Qa (W9 y x) < 0) = false)/\ai w' B ys [.slice A xs.length c] F'/\Below B w w' :=
 Yp (T:=aL) r9 s8 Tryz.isAgg138 Tryz.sizeOf138 (λx y:aL=>Qa (W9 x y)) Is 123 (enters_of Tryz.func123 U' rfl) (λx:aL=>(x.values.length:Int)<=1048576) (λx y cs ds F G W h h' o1 o2=>ayN x y cs ds F G W h h' o1 o2) xs A c F w B h hB hl eN
def pg:Go.Shelf.Ren:={
 f:=λx=>match x with
  | 6=>129
  | 14=>160
  | 15=>155
  | 20=>206
  | 21=>207
  | 22=>208
  | 23=>209
  | 24=>210
  | 25=>211
  | 26=>212
  | 27=>213
  | 28=>187
  | 29=>188
  | 46=>234
  | 47=>223
  | 48=>224
  | 49=>235
  | 50=>236
  | 57=>246
  | n=>n
 t:=λx=>match x with
  | 0=>0
  | 3=>3
  | 4=>4
  | 5=>5
  | 9=>9
  | 22=>36
  | 24=>116
  | 25=>146
  | 39=>133
  | 45=>187
  | 46=>188
  | 50=>142
  | 53=>194
  | 55=>196
  | 66=>213
  | 70=>217
  | 76=>227
  | 77=>228
  | n=>n
 g:=λn=>n }
theorem qB:SlLaysF0.n6 Tryz.prog pg:={
 mixed:=rfl
 f6:=⟨_,U',Tryz.func129.trans (congrArg some rfl)⟩
 f14:=⟨_,U',Tryz.func160.trans (congrArg some rfl)⟩
 f15:=Tryz.func155.trans (congrArg some rfl)
 f20:=⟨_,U',Tryz.func206.trans (congrArg some rfl)⟩
 f21:=⟨_,U',Tryz.func207.trans (congrArg some rfl)⟩
 f22:=⟨_,U',Tryz.func208.trans (congrArg some rfl)⟩
 f23:=⟨_,U',Tryz.func209.trans (congrArg some rfl)⟩
 f24:=⟨_,U',Tryz.func210.trans (congrArg some rfl)⟩
 f25:=⟨_,U',Tryz.func211.trans (congrArg some rfl)⟩
 f26:=⟨_,U',Tryz.func212.trans (congrArg some rfl)⟩
 f27:=⟨_,U',Tryz.func213.trans (congrArg some rfl)⟩
 f28:=Tryz.func187.trans (congrArg some rfl)
 f29:=Tryz.func188.trans (congrArg some rfl)
 f46:=⟨_,U',Tryz.func234.trans (congrArg some rfl)⟩
 f47:=Tryz.func223.trans (congrArg some rfl)
 f48:=Tryz.func224.trans (congrArg some rfl)
 f49:=⟨_,U',Tryz.func235.trans (congrArg some rfl)⟩
 f50:=⟨_,U',Tryz.func236.trans (congrArg some rfl)⟩
 f57:=⟨_,U',Tryz.func246.trans (congrArg some rfl)⟩
 t0:=Tryz.underlying0
 a0:=Tryz.isAgg0
 z0:=Tryz.sizeOf0
 v0:=Tryz.zeroValue0
 t3:=Tryz.underlying3
 a3:=Tryz.isAgg3
 z3:=Tryz.sizeOf3
 v3:=Tryz.zeroValue3
 t4:=Tryz.underlying4
 a4:=Tryz.isAgg4
 z4:=Tryz.sizeOf4
 v4:=Tryz.zeroValue4
 t5:=Tryz.underlying5
 a5:=Tryz.isAgg5
 z5:=Tryz.sizeOf5
 v5:=Tryz.zeroValue5
 t9:=Tryz.underlying9
 a9:=Tryz.isAgg9
 z9:=Tryz.sizeOf9
 v9:=Tryz.zeroValue9
 t22:=Tryz.underlying36
 a22:=Tryz.isAgg36
 z22:=Tryz.sizeOf36
 v22:=Tryz.zeroValue36
 t25:=Tryz.underlying146
 a25:=Tryz.isAgg146
 z25:=Tryz.sizeOf146
 v25:=Tryz.zeroValue146
 t39:=Tryz.underlying133
 a39:=Tryz.isAgg133
 z39:=Tryz.sizeOf133
 v39:=Tryz.zeroValue133
 t45:=Tryz.underlying187
 a45:=Tryz.isAgg187
 z45:=Tryz.sizeOf187
 v45:=Tryz.zeroValue187
 t46:=Tryz.underlying188
 a46:=Tryz.isAgg188
 z46:=Tryz.sizeOf188
 v46:=Tryz.zeroValue188
 t50:=Tryz.underlying142
 a50:=Tryz.isAgg142
 z50:=Tryz.sizeOf142
 v50:=Tryz.zeroValue142
 t53:=Tryz.underlying194
 a53:=Tryz.isAgg194
 z53:=Tryz.sizeOf194
 v53:=Tryz.zeroValue194
 t55:=Tryz.underlying196
 a55:=Tryz.isAgg196
 z55:=Tryz.sizeOf196
 v55:=Tryz.zeroValue196
 t66:=Tryz.underlying213
 a66:=Tryz.isAgg213
 z66:=Tryz.sizeOf213
 v66:=Tryz.zeroValue213
 t70:=Tryz.underlying217
 a70:=Tryz.isAgg217
 z70:=Tryz.sizeOf217
 v70:=Tryz.zeroValue217
 t76:=Tryz.underlying227
 a76:=Tryz.isAgg227
 z76:=Tryz.sizeOf227
 v76:=Tryz.zeroValue227
 t77:=Tryz.underlying228
 a77:=Tryz.isAgg228
 z77:=Tryz.sizeOf228
 v77:=Tryz.zeroValue228 }
theorem s6 (xs:List iU) (A:Option Addr) (c:Nat) (F:List Nat) (w:World) (B:Nat) (h:ai w B xs [.slice A xs.length c] F) (hB:B<=w.heap.size) (hl:(xs.length:Int)<=1048576) :
 Calls Tryz.prog 129 #[.slice A xs.length c,.func (.func 108) #[] #[]] w λe w'=>e = .returned (.tuple #[])/\∃(ys:List iU) (F':List Nat),ys.Perm xs/\ys.Pairwise (λx y=>decide (Qa (rA y x) < 0) = false)/\ai w' B ys [.slice A xs.length c] F'/\Below B w w' :=
 Yp (T:=iU) pg qB Tryz.isAgg116 Tryz.sizeOf116 (λx y:iU=>Qa (rA x y)) EN 108 (enters_of Tryz.func108 U' rfl) (λ_:iU=>True) (λx y cs ds F G W h h' o1 o2=>ayk x y cs ds F G W h h') xs A c F w B h hB hl (λ_ _=>trivial)
def jn:Go.Shelf.Ren:={
 f:=λx=>match x with
  | 6=>126
  | 14=>158
  | 15=>155
  | 20=>198
  | 21=>199
  | 22=>200
  | 23=>201
  | 24=>202
  | 25=>203
  | 26=>204
  | 27=>205
  | 28=>187
  | 29=>188
  | 46=>231
  | 47=>223
  | 48=>224
  | 49=>232
  | 50=>233
  | 57=>245
  | n=>n
 t:=λx=>match x with
  | 0=>0
  | 3=>3
  | 4=>4
  | 5=>5
  | 9=>9
  | 22=>33
  | 24=>120
  | 25=>150
  | 39=>133
  | 45=>187
  | 46=>188
  | 50=>142
  | 53=>194
  | 55=>196
  | 66=>213
  | 70=>217
  | 76=>227
  | 77=>228
  | n=>n
 g:=λn=>n }
theorem ma:SlLaysF0.n6 Tryz.prog jn:={
 mixed:=rfl
 f6:=⟨_,U',Tryz.func126.trans (congrArg some rfl)⟩
 f14:=⟨_,U',Tryz.func158.trans (congrArg some rfl)⟩
 f15:=Tryz.func155.trans (congrArg some rfl)
 f20:=⟨_,U',Tryz.func198.trans (congrArg some rfl)⟩
 f21:=⟨_,U',Tryz.func199.trans (congrArg some rfl)⟩
 f22:=⟨_,U',Tryz.func200.trans (congrArg some rfl)⟩
 f23:=⟨_,U',Tryz.func201.trans (congrArg some rfl)⟩
 f24:=⟨_,U',Tryz.func202.trans (congrArg some rfl)⟩
 f25:=⟨_,U',Tryz.func203.trans (congrArg some rfl)⟩
 f26:=⟨_,U',Tryz.func204.trans (congrArg some rfl)⟩
 f27:=⟨_,U',Tryz.func205.trans (congrArg some rfl)⟩
 f28:=Tryz.func187.trans (congrArg some rfl)
 f29:=Tryz.func188.trans (congrArg some rfl)
 f46:=⟨_,U',Tryz.func231.trans (congrArg some rfl)⟩
 f47:=Tryz.func223.trans (congrArg some rfl)
 f48:=Tryz.func224.trans (congrArg some rfl)
 f49:=⟨_,U',Tryz.func232.trans (congrArg some rfl)⟩
 f50:=⟨_,U',Tryz.func233.trans (congrArg some rfl)⟩
 f57:=⟨_,U',Tryz.func245.trans (congrArg some rfl)⟩
 t0:=Tryz.underlying0
 a0:=Tryz.isAgg0
 z0:=Tryz.sizeOf0
 v0:=Tryz.zeroValue0
 t3:=Tryz.underlying3
 a3:=Tryz.isAgg3
 z3:=Tryz.sizeOf3
 v3:=Tryz.zeroValue3
 t4:=Tryz.underlying4
 a4:=Tryz.isAgg4
 z4:=Tryz.sizeOf4
 v4:=Tryz.zeroValue4
 t5:=Tryz.underlying5
 a5:=Tryz.isAgg5
 z5:=Tryz.sizeOf5
 v5:=Tryz.zeroValue5
 t9:=Tryz.underlying9
 a9:=Tryz.isAgg9
 z9:=Tryz.sizeOf9
 v9:=Tryz.zeroValue9
 t22:=Tryz.underlying33
 a22:=Tryz.isAgg33
 z22:=Tryz.sizeOf33
 v22:=Tryz.zeroValue33
 t25:=Tryz.underlying150
 a25:=Tryz.isAgg150
 z25:=Tryz.sizeOf150
 v25:=Tryz.zeroValue150
 t39:=Tryz.underlying133
 a39:=Tryz.isAgg133
 z39:=Tryz.sizeOf133
 v39:=Tryz.zeroValue133
 t45:=Tryz.underlying187
 a45:=Tryz.isAgg187
 z45:=Tryz.sizeOf187
 v45:=Tryz.zeroValue187
 t46:=Tryz.underlying188
 a46:=Tryz.isAgg188
 z46:=Tryz.sizeOf188
 v46:=Tryz.zeroValue188
 t50:=Tryz.underlying142
 a50:=Tryz.isAgg142
 z50:=Tryz.sizeOf142
 v50:=Tryz.zeroValue142
 t53:=Tryz.underlying194
 a53:=Tryz.isAgg194
 z53:=Tryz.sizeOf194
 v53:=Tryz.zeroValue194
 t55:=Tryz.underlying196
 a55:=Tryz.isAgg196
 z55:=Tryz.sizeOf196
 v55:=Tryz.zeroValue196
 t66:=Tryz.underlying213
 a66:=Tryz.isAgg213
 z66:=Tryz.sizeOf213
 v66:=Tryz.zeroValue213
 t70:=Tryz.underlying217
 a70:=Tryz.isAgg217
 z70:=Tryz.sizeOf217
 v70:=Tryz.zeroValue217
 t76:=Tryz.underlying227
 a76:=Tryz.isAgg227
 z76:=Tryz.sizeOf227
 v76:=Tryz.zeroValue227
 t77:=Tryz.underlying228
 a77:=Tryz.isAgg228
 z77:=Tryz.sizeOf228
 v77:=Tryz.zeroValue228 }
theorem mE (xs:List bH) (A:Option Addr) (c:Nat) (F:List Nat) (w:World) (B:Nat) (h:ai w B xs [.slice A xs.length c] F) (hB:B<=w.heap.size) (hl:(xs.length:Int)<=1048576) :
 Calls Tryz.prog 126 #[.slice A xs.length c,.func (.func 112) #[] #[]] w λe w'=>e = .returned (.tuple #[])/\∃(ys:List bH) (F':List Nat),ys.Perm xs/\ys.Pairwise (λx y=>decide (Qa (pN y x) < 0) = false)/\ai w' B ys [.slice A xs.length c] F'/\Below B w w' :=
 Yp (T:=bH) jn ma Tryz.isAgg120 Tryz.sizeOf120 (λx y:bH=>Qa (pN x y)) EO 112 (enters_of Tryz.func112 U' rfl) (λ_:bH=>True) (λx y cs ds F G W h h' o1 o2=>aw1 x y cs ds F G W h h') xs A c F w B h hB hl (λ_ _=>trivial)
end Go.Proofs.YtdegaofigemegaaGreat
namespace Go.Proofs.YtdegaofigemegaaGreat
open Go.ChangeShapes Go.WideShapes Go.ChangeAt Go.RowKit
set_option linter.unusedVariables false
set_option linter.unusedSimpArgs false
set_option maxHeartbeats 4000000
set_option maxRecDepth 100000
def nJ (x y:aL):Bool:=!(Qa (W9 y x) == 0)
theorem qD (x y:aL):nJ x y = true↔x≠y:=by
 unfold nJ;constructor
 ·rintro h rfl;have:Qa (W9 x x) = 0:=UB.refl x;simp [this] at h
 ·intro h;cases h2:(Qa (W9 y x) == 0) with
  | false=>rfl
  | true =>exfalso;apply h;have h3:Qa (W9 y x) = 0:=(by simpa using h2);have h4:Qa (W9 y x) = - Qa (W9 x y):=UB.fZ x y;exact Is.xR x y (by simp;omega) (by simp;omega)
theorem km (x y:aL) (cs ds:List Value) (F G:List Nat) (w:World) (h:rd w x cs F) (h':rd w y ds G) (hl:(x.values.length:Int)<=1048576) (pq:(y.values.length:Int)<=1048576) :
 Calls Tryz.prog 125 #[.agg cs.toArray,.agg ds.toArray] w λe w'=>e = .returned (.bool (Qa (W9 x y) == 0))/\Below w.heap.size w w':=by
 have hC:∀wq,Below w.heap.size w wq->Calls Tryz.prog 123 #[.agg cs.toArray,.agg ds.toArray] wq λe w'=>e = .returned (.int .i64 (Qa (W9 x y)))/\Below wq.heap.size wq w' :=
  λwq hq=>UA x y cs ds F G wq (ax.frame h (λb dP=>hq.block b (ax.lt h b dP)) hq.size) (ax.frame h' (λb dP=>hq.block b (ax.lt h' b dP)) hq.size) hl pq
 generalize Qa (W9 x y) = z at hC |-;obtain ⟨pX,pY,KG,ar,hF1,xO,kw,wO⟩:=og h;obtain ⟨qO,qP,KL,jU,mI,vC,hop2,zS⟩:=og h';subst ar jU;have HC:=I hC;clear hC;go_enter Tryz.func125,Tryz.ntmps125;go_wp2_with fail
 refine (HC.out _ bJ).mono ?_;rintro e w2 ⟨rfl,am⟩;go_wp2;go_ret
 exact ⟨rfl,bJ⟩
theorem wK (xs:List aL) (A:Option Addr) (c:Nat) (F:List Nat) (w:World) (B:Nat) (h:ai w B xs [.slice A xs.length c] F) (hB:B<=w.heap.size) (hl:(xs.length:Int)<=1048576) (eN:∀x∈xs,(x.values.length:Int)<=1048576) :
 Calls Tryz.prog 124 #[.slice A xs.length c,.func (.func 125) #[] #[]] w λe w'=>∃F',e = .returned (.slice A (kept nJ xs xs.length).length c)/\ai w' B (kept nJ xs xs.length) [.slice A (kept nJ xs xs.length).length c] F'/\Below B w w':=by
 by_cases bI:xs = []
 ·subst bI;go_enter Tryz.func124,Tryz.ntmps124;go_wp2;go_ret
  exact ⟨F,rfl,h,.refl _ _⟩
 ·have eS:=Sl.cap (α:=aL) h.rd;unfold maxLen at eS;obtain ⟨lI,hcap2⟩:=eS;obtain ⟨g,o,D,rfl,rfl,rfl,R⟩:=h.wv bI;clear h bI;have en:=I (show ∀e∈D,(e.x.values.length:Int)<=1048576 from λe he=>eN e.x (List.mem_map.2 ⟨e,he,rfl⟩));clear eN;have zx:(D.map El.x).length = D.length:=List.length_map ..;have HR:=I (show kept nJ (D.map El.x) D.length = (kept (λx y:El aL=>nJ x.x y.x) D D.length).map El.x from (Ja El.x nJ D D.length).symm);rw [zx] at lI hl |-;clear zx;have iJ:=R.lt;have AN:B<=g:=R.base g (List.mem_cons_self ..);have fin:∀(w':World),lf w w' g o D D->(∀j,j < D.length->jt (λx y:El aL=>nJ x.x y.x) D j = true)->∃F',Ending.returned (.slice (some ⟨g,o,none⟩) D.length c) = .returned (.slice (some ⟨g,o,none⟩) (kept nJ (D.map El.x) D.length).length c)/\ai w' B (kept nJ (D.map El.x) D.length) [.slice (some ⟨g,o,none⟩) (kept nJ (D.map El.x) D.length).length c] F'/\Below B w w':=λw' ht ha=>by
   have e:kept nJ (D.map El.x) D.length = D.map El.x:=(by rw [HR.out,I9 ha,List.take_length]);exact DE
  have HF:=I fin;clear fin;by_cases h2:D.length < 2
  ·go_enter Tryz.func124,Tryz.ntmps124;exact D6
  ·go_enter Tryz.func124,Tryz.ntmps124;go_wp2;go_loopg [5] D.length (λgh s3 wr=>∃k:Nat,1<=k/\k<=D.length/\D.length - k<=gh/\s3 = .int .i64 k/\lf w wr g o D D/\Hid (∀j,j < k->jt (λx y:El aL=>nJ x.x y.x) D j = true))
   case atStart=>exact ⟨1,Nat.le_refl _,J,J,rfl,.start R,I (ft _ _)⟩
   case round =>
    obtain ⟨k,B6,hk,hg,rfl,hS,HA⟩:=hrel;by_cases ap:k < D.length
    ·have mL:g < wr.heap.size:=hS.plain.lt;obtain ⟨p,HP⟩:∃p,D[k]? = some p:=⟨_,List.getElem?_eq_getElem J⟩;obtain ⟨q,HQ⟩:∃q,D[k - 1]? = some q:=⟨_,List.getElem?_eq_getElem J⟩;have mC:p∈D:=List.mem_of_getElem? HP;have om:q∈D:=List.mem_of_getElem? HQ;obtain ⟨Ap,cp,Fp,hckp,hFkp,_,_,_⟩:=og (R.rd p mC);have gR:=I hckp;clear hckp hFkp;obtain ⟨Aq,cq,Fq,hckq,hFkq,_,_,_⟩:=og (R.rd q om);have iG:=I hckq;clear hckq hFkq;have Hp:=I (show D[k]? = some p from HP);have Hq:=I (show D[k - 1]? = some q from HQ);have p0:wr.cell? ⟨g,o+k * 3,none⟩ = some (.string p.x.key):=(by have:=hS.tab (k) p Hp.out 0 (.string p.x.key) (by rw [gR.out];rfl);rwa [show o+(k) * ax.size aL+0 = o+k * 3 by show o+(k) * 3+0 = _;omega] at this);have p1:wr.cell? ⟨g,o+k * 3+1,none⟩ = some (.int .i64 p.x.op):=(by have:=hS.tab (k) p Hp.out 1 (.int .i64 p.x.op) (by rw [gR.out];rfl);rwa [show o+(k) * ax.size aL+1 = o+k * 3+1 by show o+(k) * 3+1 = _;omega] at this);have p2:wr.cell? ⟨g,o+k * 3+2,none⟩ = some (.slice Ap p.x.values.length cp):=(by have:=hS.tab (k) p Hp.out 2 (.slice Ap p.x.values.length cp) (by rw [gR.out];rfl);rwa [show o+(k) * ax.size aL+2 = o+k * 3+2 by show o+(k) * 3+2 = _;omega] at this);have q0:wr.cell? ⟨g,o+(k - 1) * 3,none⟩ = some (.string q.x.key):=(by have:=hS.tab (k - 1) q Hq.out 0 (.string q.x.key) (by rw [iG.out];rfl);rwa [show o+(k - 1) * ax.size aL+0 = o+(k - 1) * 3 by show o+(k - 1) * 3+0 = _;omega] at this);have q1:wr.cell? ⟨g,o+(k - 1) * 3+1,none⟩ = some (.int .i64 q.x.op):=(by have:=hS.tab (k - 1) q Hq.out 1 (.int .i64 q.x.op) (by rw [iG.out];rfl);rwa [show o+(k - 1) * ax.size aL+1 = o+(k - 1) * 3+1 by show o+(k - 1) * 3+1 = _;omega] at this);have q2:wr.cell? ⟨g,o+(k - 1) * 3+2,none⟩ = some (.slice Aq q.x.values.length cq):=(by have:=hS.tab (k - 1) q Hq.out 2 (.slice Aq q.x.values.length cq) (by rw [iG.out];rfl);rwa [show o+(k - 1) * ax.size aL+2 = o+(k - 1) * 3+2 by show o+(k - 1) * 3+2 = _;omega] at this);have wA:=I HP;have HK:=I (show jt (λx y:El aL=>nJ x.x y.x) D (k) = !(Qa (W9 p.x q.x) == 0) from Ai J HQ HP);clear HP HQ;have cV:IntKind.i64.wrap ((k:Int) - 1) = ((k - 1:Nat):Int):=(by rw [IntWalk.i64_in _ J];omega);have cJ:0<=((k - 1:Nat):Int):=J;have Cj:((k - 1:Nat):Int) < (D.length:Int):=J;have RW:=I (show ∀e∈D,rd wr e.x e.cs e.F from λe he=>ax.frame (R.rd e he) (λb hb=>hS.ce.block b (ax.lt (R.rd e he) b hb) (λhg=>by rw [List.mem_singleton] at hg;subst hg;exact R.free he hb)) hS.ce.size);have Di:=I (show ∀wq,jG wr wq->Calls Tryz.prog 125 #[.agg #[.string p.x.key,.int .i64 p.x.op,.slice Ap p.x.values.length cp],.agg #[.string q.x.key,.int .i64 q.x.op,.slice Aq q.x.values.length cq]] wq (λe w'=>e = .returned (.bool (Qa (W9 p.x q.x) == 0))/\Below wq.heap.size wq w') from λwq hq=>km p.x q.x _ _ p.F q.F wq (by have:=RW.out p mC;rw [gR.out] at this;exact ax.frame this (λb hb=>hq.out.block b (ax.lt this b hb)) hq.out.size) (by have:=RW.out q om;rw [iG.out] at this;exact ax.frame this (λb hb=>hq.out.block b (ax.lt this b hb)) hq.out.size) (en.out p mC) (en.out q om));cases hv:(Qa (W9 p.x q.x) == 0) with
     | true =>
       have HV:=I hv;clear hv;go_wp2_with fail
       refine aF wr U' U' (aj _) ?_
       repeat ((first | refine aG J' ?_ | refine aH _ J' yd ?_);simp only [Act.put,pz])
       refine aN ?_;intro wn hn;replace hn:=hn.out;go_wp2_with fail
       go_loopg [5,7] D.length (λgh s3 s5 wz=>∃(kk k2:Nat) (L:List (El aL)),s3 = .int .i64 kk/\s5 = .int .i64 k2/\1<=k2/\k+k2<=D.length/\D.length - (k+k2)<=gh/\lf w wz g o D L/\Hid (py (λx y:El aL=>nJ x.x y.x) D (k+k2) kk L))
       case atStart=>exact ⟨k,1,D,rfl,rfl,Nat.le_refl _,J,J,hS.ext hn,I (py.start ap HA.out (by rw [HK.out,HV.out];rfl))⟩
       case round =>
        obtain ⟨kk,k2,L,rfl,rfl,h1,eW,fT,bS,HI⟩:=hrel;have pT:=HI.out.lt;have lR:=HI.out.size;have tJ:g < wr.heap.size:=bS.plain.lt;clear mC om gR iG Hp Hq wA p0 p1 p2 q0 q1 q2 RW Di HK HV cV cJ Cj;by_cases sR:k+k2 < D.length
        ·obtain ⟨p,HP⟩:∃p,D[k+k2]? = some p:=⟨_,List.getElem?_eq_getElem J⟩;obtain ⟨q,HQ⟩:∃q,D[k+k2 - 1]? = some q:=⟨_,List.getElem?_eq_getElem J⟩;have mC:p∈D:=List.mem_of_getElem? HP;have om:q∈D:=List.mem_of_getElem? HQ;obtain ⟨Ap,cp,Fp,hckp,hFkp,_,_,_⟩:=og (R.rd p mC);have gR:=I hckp;clear hckp hFkp;obtain ⟨Aq,cq,Fq,hckq,hFkq,_,_,_⟩:=og (R.rd q om);have iG:=I hckq;clear hckq hFkq;have Hp:=I (show L[k+k2]? = some p from (HI.out.high _ J).trans HP);have Hq:=I (show L[k+k2 - 1]? = some q from (HI.out.high _ J).trans HQ);have p0:wr.cell? ⟨g,o+k * 3+k2 * 3,none⟩ = some (.string p.x.key):=(by have:=bS.tab (k+k2) p Hp.out 0 (.string p.x.key) (by rw [gR.out];rfl);rwa [show o+(k+k2) * ax.size aL+0 = o+k * 3+k2 * 3 by show o+(k+k2) * 3+0 = _;omega] at this);have p1:wr.cell? ⟨g,o+k * 3+k2 * 3+1,none⟩ = some (.int .i64 p.x.op):=(by have:=bS.tab (k+k2) p Hp.out 1 (.int .i64 p.x.op) (by rw [gR.out];rfl);rwa [show o+(k+k2) * ax.size aL+1 = o+k * 3+k2 * 3+1 by show o+(k+k2) * 3+1 = _;omega] at this);have p2:wr.cell? ⟨g,o+k * 3+k2 * 3+2,none⟩ = some (.slice Ap p.x.values.length cp):=(by have:=bS.tab (k+k2) p Hp.out 2 (.slice Ap p.x.values.length cp) (by rw [gR.out];rfl);rwa [show o+(k+k2) * ax.size aL+2 = o+k * 3+k2 * 3+2 by show o+(k+k2) * 3+2 = _;omega] at this);have q0:wr.cell? ⟨g,o+k * 3+(k2 - 1) * 3,none⟩ = some (.string q.x.key):=(by have:=bS.tab (k+k2 - 1) q Hq.out 0 (.string q.x.key) (by rw [iG.out];rfl);rwa [show o+(k+k2 - 1) * ax.size aL+0 = o+k * 3+(k2 - 1) * 3 by show o+(k+k2 - 1) * 3+0 = _;omega] at this);have q1:wr.cell? ⟨g,o+k * 3+(k2 - 1) * 3+1,none⟩ = some (.int .i64 q.x.op):=(by have:=bS.tab (k+k2 - 1) q Hq.out 1 (.int .i64 q.x.op) (by rw [iG.out];rfl);rwa [show o+(k+k2 - 1) * ax.size aL+1 = o+k * 3+(k2 - 1) * 3+1 by show o+(k+k2 - 1) * 3+1 = _;omega] at this);have q2:wr.cell? ⟨g,o+k * 3+(k2 - 1) * 3+2,none⟩ = some (.slice Aq q.x.values.length cq):=(by have:=bS.tab (k+k2 - 1) q Hq.out 2 (.slice Aq q.x.values.length cq) (by rw [iG.out];rfl);rwa [show o+(k+k2 - 1) * ax.size aL+2 = o+k * 3+(k2 - 1) * 3+2 by show o+(k+k2 - 1) * 3+2 = _;omega] at this);have wA:=I HP;have HK:=I (show jt (λx y:El aL=>nJ x.x y.x) D (k+k2) = !(Qa (W9 p.x q.x) == 0) from Ai J HQ HP);clear HP HQ;have cV:IntKind.i64.wrap ((k2:Int) - 1) = ((k2 - 1:Nat):Int):=(by rw [IntWalk.i64_in _ J];omega);have cJ:0<=((k2 - 1:Nat):Int):=J;have Cj:((k2 - 1:Nat):Int) < ((D.length - k:Nat):Int):=J;have RW:=I (show ∀e∈D,rd wr e.x e.cs e.F from λe he=>ax.frame (R.rd e he) (λb hb=>bS.ce.block b (ax.lt (R.rd e he) b hb) (λhg=>by rw [List.mem_singleton] at hg;subst hg;exact R.free he hb)) bS.ce.size);have Di:=I (show ∀wq,jG wr wq->Calls Tryz.prog 125 #[.agg #[.string p.x.key,.int .i64 p.x.op,.slice Ap p.x.values.length cp],.agg #[.string q.x.key,.int .i64 q.x.op,.slice Aq q.x.values.length cq]] wq (λe w'=>e = .returned (.bool (Qa (W9 p.x q.x) == 0))/\Below wq.heap.size wq w') from λwq hq=>km p.x q.x _ _ p.F q.F wq (by have:=RW.out p mC;rw [gR.out] at this;exact ax.frame this (λb hb=>hq.out.block b (ax.lt this b hb)) hq.out.size) (by have:=RW.out q om;rw [iG.out] at this;exact ax.frame this (λb hb=>hq.out.block b (ax.lt this b hb)) hq.out.size) (en.out p mC) (en.out q om));cases hv:(Qa (W9 p.x q.x) == 0) with
         | true =>
           have HV:=I hv;clear hv;go_wp2_with fail
           refine aF wr U' U' (aj _) ?_
           repeat ((first | refine aG J' ?_ | refine aH _ J' yd ?_);simp only [Act.put,pz])
           refine aN ?_;intro wm hn;replace hn:=hn.out;go_wp2;go_roundg (D.length - (k+(k2+1)))
           case measure=>omega
           case rel=>exact ⟨kk,k2+1,L,rfl,N',J,J,Nat.le_refl _,bS.ext hn,I (HI.out.skip (by rw [HK.out,HV.out];rfl))⟩
         | false =>
           have HV:=I hv;clear hv;go_wp2_with fail
           refine aF wr U' U' (aj _) ?_
           repeat ((first | refine aG J' ?_ | refine aH _ J' yd ?_);simp only [Act.put,pz])
           refine aN ?_;intro wm hn;replace hn:=hn.out;have cG:=bS.ext hn;have jz:g < wm.heap.size:=cG.plain.lt;replace p0:=r' hn p0 tJ;replace p1:=r' hn p1 tJ;replace p2:=r' hn p2 tJ;have wC:=I (cG.put R (i:=kk) (by rw [lR];omega) mC);obtain ⟨r,rU⟩:∃r,L[kk]? = some r:=⟨_,List.getElem?_eq_getElem (by rw [lR];omega)⟩;have P':r∈D:=cG.sub r (List.mem_of_getElem? rU);obtain ⟨Ar,cr,Fr,hckr,hFkr,_,_,_⟩:=og (R.rd r P');have tK:=I hckr;clear hckr hFkr;have Hr:=I rU;clear rU;have r0:wm.cell? ⟨g,o+kk * 3,none⟩ = some (.string r.x.key):=(by have:=cG.tab (kk) r Hr.out 0 (.string r.x.key) (by rw [tK.out];rfl);rwa [show o+(kk) * ax.size aL+0 = o+kk * 3 by show o+(kk) * 3+0 = _;omega] at this);have r1:wm.cell? ⟨g,o+kk * 3+1,none⟩ = some (.int .i64 r.x.op):=(by have:=cG.tab (kk) r Hr.out 1 (.int .i64 r.x.op) (by rw [tK.out];rfl);rwa [show o+(kk) * ax.size aL+1 = o+kk * 3+1 by show o+(kk) * 3+1 = _;omega] at this);have r2:wm.cell? ⟨g,o+kk * 3+2,none⟩ = some (.slice Ar r.x.values.length cr):=(by have:=cG.tab (kk) r Hr.out 2 (.slice Ar r.x.values.length cr) (by rw [tK.out];rfl);rwa [show o+(kk) * ax.size aL+2 = o+kk * 3+2 by show o+(kk) * 3+2 = _;omega] at this);have rf0:wm.frozen? ⟨g,o+kk * 3,none⟩ = false:=cG.plain.frozen _;have rf1:wm.frozen? ⟨g,o+kk * 3+1,none⟩ = false:=cG.plain.frozen _;have rf2:wm.frozen? ⟨g,o+kk * 3+2,none⟩ = false:=cG.plain.frozen _;go_wp2;go_roundg (D.length - (k+(k2+1)))
           case measure=>omega
           case rel=>exact ⟨kk+1,k2+1,L.set kk p,N',N',J,J,Nat.le_refl _,by have:=wC.out;rw [gR.out] at this;exact this,I (HI.out.keep wA.out (by rw [HK.out,HV.out];rfl))⟩
        ·have wD:k+k2 = D.length:=J;have HZ:=I bS
         have cR:∀ty,(Builtin.clear_ #[32] ty #[.slice (some ⟨g,o+kk * 3,none⟩) (D.length - kk) (c - kk)]).run Tryz.prog wr = .ok (.tuple #[]) (wr.setCells g (o+kk * 3) (Builtin.zeroCells (.agg #[.string ⟨#[]⟩,.int .i64 0,.slice none 0 0]:Value).cells (D.length - kk)).toList) :=
          λty=>ir wr _ _ ty _ Tryz.underlying32 Tryz.zeroValue138 (show ∀u∈([.string ⟨#[]⟩,.int .i64 0,.slice none 0 0]:List Value),u.oneCell' = true by intro u hu;simp only [List.mem_cons,List.not_mem_nil,or_false] at hu;rcases hu with rfl | rfl | rfl <;> rfl) g _ _ _ J (λj hj=>by
           rw [Nat.add_assoc];refine HZ.out.isSome R ?_;have oM:j < (D.length - kk) * 3:=hj;show kk * 3+j < L.length * 3
           rw [lR];omega) (λj _=>HZ.out.plain.frozen _)
         generalize gP:(Builtin.zeroCells (.agg #[.string ⟨#[]⟩,.int .i64 0,.slice none 0 0]:Value).cells (D.length - kk)).toList = zs at cR;have hI:=HI.out;rw [wD] at hI;have kt:=I hI;clear gP hI bS;go_wp2;go_ret
         refine ⟨g :: (kept (λx y:El aL=>nJ x.x y.x) D D.length).flatMap El.F,?_,?_,(HZ.out.nG _ _).below (λb hb=>by rw [List.mem_singleton.1 hb];exact AN) hB⟩
         ·exact Ei
         ·exact Ek
     | false =>
       have HV:=I hv;clear hv;go_wp2_with fail
       refine aF wr U' U' (aj _) ?_
       repeat ((first | refine aG J' ?_ | refine aH _ J' yd ?_);simp only [Act.put,pz])
       refine aN ?_;intro wn hn;replace hn:=hn.out;go_wp2;go_roundg (D.length - (k+1))
       case measure=>omega
       case rel =>exact DC
    ·exact DH
end Go.Proofs.YtdegaofigemegaaGreat
