/- What an insertion into a cluster needs, in plain Lean. No condition. -/
import Derived.Test.YtkbkikggodlbbaaGreatMiStr
import Derived.Test.YtkbkikggodlbbaaGreatWords
import Derived.Test.YtkbkikggodlbbaaGreatLaw0
import Derived.Test.YtkbkikggodlbbaaGreatMwTaint
import Derived.Test.YtkbkikggodlbbaaGreatSortLabelsP
import Derived.Test.YtkbkikggodlbbaaGreatSortLabelsS
import Derived.Test.YtkbkikggodlbbaaGreatSortTaintsS
import Derived.Test.YtkbkikggodlbbaaGreatSortTolerancesS
import Derived.Deep.MidRow
import Derived.Laws.CopyRow
namespace Go.Proofs.YtkbkikggodlbbaaGreat
open Go.ChangeShapes Go.WideShapes Go.ChangeAt Go.RowKit
set_option linter.unusedVariables false
set_option linter.unusedSimpArgs false
theorem Own.joinA {α β:Type} [Dat α] [Dat β] {w:World} {B:Nat} {x:α} {y:β} {c1 c2:List Value} {F1 F2:List Nat} (h1:Own w B x c1 F1) (h2:Own w B y c2 F2) (hd:∀b∈F1,b∉F2):Own w B (x,y) (c1++c2) (F1++F2):=by
 refine ⟨⟨c1,c2,F1,F2,rfl,rfl,h1.rd,h2.rd⟩,?_,?_,?_⟩
 ·rw [List.nodup_append];exact ⟨h1.nodup,h2.nodup,fun a ha b hb e=>hd a ha (e ▸ hb)⟩
 ·intro b hb;rcases List.mem_append.1 hb with hb | hb
  ·exact h1.base b hb
  ·exact h2.base b hb
 ·intro b hb;rcases List.mem_append.1 hb with hb | hb
  ·exact h1.plain b hb
  ·exact h2.plain b hb
theorem Own.partsA {w:World} {B:Nat} {x:aU} {Ah Ap:Option Addr} {nh ch np cp:Nat} {n p q f:Int} {G:List Nat} (h:Own w B x [.slice Ah nh ch,.slice Ap np cp,.int .i64 n,.int .i64 p,.int .i64 q,.int .i64 f] G) :
 ∃Gh Gp,Own w B x.hosts [.slice Ah nh ch] Gh∧Own w B x.au [.slice Ap np cp] Gp∧(∀y∈Gh,y∉Gp)∧(∀y∈Gh,y∈G)∧(∀y∈Gp,y∈G):=by
 obtain ⟨⟨c1,c2,F1,F2,e1,rfl,hh,d1,d2,G1,G2,e3,rfl,hp,g1,g2,H1,H2,e5,e6,⟨e7,e8,hn⟩,hwt⟩,hnd,hb,hpl⟩:=h;obtain ⟨A,c,rfl,_⟩:=jB hh;obtain ⟨A2,c2',rfl,_⟩:=jB hp;subst e7 e5 e3;simp only [List.cons_append,List.nil_append,List.cons.injEq] at e1;obtain ⟨ea,eb,_⟩:=e1;rw [List.nodup_append,List.nodup_append] at hnd;refine ⟨F1,G1,⟨by rw [ea];exact hh,hnd.1,fun y hy=>hb y (by simp [hy]),fun y hy=>hpl y (by simp [hy])⟩,⟨by rw [eb];exact hp,hnd.2.1.1,fun y hy=>hb y (by simp [hy]),fun y hy=>hpl y (by simp [hy])⟩,fun y hy hy'=>hnd.2.2 y hy y (by simp [hy']) rfl,fun y hy=>by simp [hy],fun y hy=>by simp [hy]⟩
theorem Own.wholeA {w:World} {B:Nat} {H:List Host} {Q:List Placed} {Ah Ap:Option Addr} {nh ch np cp:Nat} {n p q f:Int} {Gh Gp:List Nat} (h:Own w B H [.slice Ah nh ch] Gh) (k:Own w B Q [.slice Ap np cp] Gp) (hd:∀y∈Gh,y∉Gp) (hn:I64 n) (hp:I64 p) (hq:I64 q) (hf:I64 f) :
 Own w B (⟨H,Q,n,⟨p,q,f⟩⟩:aU) [.slice Ah nh ch,.slice Ap np cp,.int .i64 n,.int .i64 p,.int .i64 q,.int .i64 f] (Gh++Gp):=by
 refine Own.up (B':=B) (fun x:aU=>(x.hosts,x.au,x.next,x.weights)) ?_ (Nat.le_refl _);have h5:Own w B (⟨p,q,f⟩:rZ) ([.int .i64 p]++([.int .i64 q]++[.int .i64 f])) []:=by refine Own.up (B':=B) (fun x:rZ=>(x.pack,x.spread,x.soft)) ?_ (Nat.le_refl _);exact Own.cons (jL w p hp) (Own.cons (jL w q hq) (Own.flat (jL w f hf)))
 have h6:=Own.cons (jL w n hn) h5;have h7:=Own.joinA h (Own.joinA k h6 (fun b _ hb=>by cases hb)) (fun b hb hb'=>hd b hb (by simpa using hb'));simpa using h7
theorem wp_append0 {P:Program} {t e:TypeId} {z:Value} {size bytes:Nat} (hE:DL P t e z size bytes) {o:Oper} {a:Act} {K:Act→World→Prop} {Q:Exit→Act→World→Prop} (s x:Operand)
 (ho:o.op = .call { callee:=.builtin .append,args:=#[s,x],argTypes:=#[t,t] })
 (w:World) (base:Nat) (v:Value) (n:Nat) (xs:List Value) (hown:w.ownsRow base e size v n xs) (hs:a.eval s = v) (c:Nat) (hx:a.eval x = .slice none 0 c)
 (h:∀v' w',w'.ownsRow base e size v' (n+0) (xs++[])→w.grownBy w' v.ownBlock→(v'.ownBlock = v.ownBlock∨v'.ownBlock = some w.heap.size)→K (a.put o.dst v') w'):o.wp P a w K Q:=by
 obtain ⟨ht,hi0,hzs,hsz⟩:=hE;obtain ⟨i,hi,hz,hsize,hb⟩:=info_parts hi0;have fin:∀(A2:Option Addr) (cap:Nat),v = .slice A2 n cap→n≤cap→o.wp P a w K Q:=by intro A2 cap hv hle;have hr:=run_append_nothing (P:=P) w t t o.type e i ht hi A2 n cap hle (.slice none 0 c) (Src.ofNil w ht c);unfold Oper.wp execOp;simp only [ho,resolve,invoke,builtin,Sem.run_bind,Sem.run_pure,Result.andThen_ok,List.map_toArray,List.map_cons,List.map_nil,hs,hv,hx,hr];subst hv;exact h _ w (by simpa using hown) ⟨rfl,rfl,rfl,Nat.le_refl _,fun _ _ _=>rfl⟩ (.inl rfl)
 rcases hown.2 with ⟨hv,hn0⟩ | ⟨g,cap,cur,hv,_,_,hle,_⟩
 ·exact fin none 0 (by rw [hv,hn0]) O'
 ·exact fin _ cap hv hle
theorem wpList_append0 {P:Program} {t e:TypeId} {z:Value} {size bytes:Nat} (hE:DL P t e z size bytes) {ops:Array Oper} {rest:List Oper} {o:Oper} {a:Act} {Q:Exit→Act→World→Prop} (hgd:o.guard = none) (s x:Operand)
 (ho:o.op = .call { callee:=.builtin .append,args:=#[s,x],argTypes:=#[t,t] })
 (w:World) (base:Nat) (v:Value) (n:Nat) (xs:List Value) (hown:w.ownsRow base e size v n xs) (hs:a.eval s = v) (c:Nat) (hx:a.eval x = .slice none 0 c)
 (h:∀v' w',w'.ownsRow base e size v' (n+0) (xs++[])→w.grownBy w' v.ownBlock→(v'.ownBlock = v.ownBlock∨v'.ownBlock = some w.heap.size)→wpList P ops Q rest (a.put o.dst v') w'):wpList P ops Q (o :: rest) a w :=
 wpList_plain hgd fun K hK=>wp_append0 hE s x ho w base v n xs hown hs c hx fun v' w' h1 h2 h3=>hK _ _ (h v' w' h1 h2 h3)
theorem ownNeA {α:Type} [Dat α] {w:World} {B c i:Nat} {u:Value} {x:α} {cs:List Value} {F:List Nat} (h:Own w B x cs F) (hF:∀y∈F,y≠c):Own (w.setCell ⟨c,i,none⟩ u) B x cs F :=
 h.keep (fun y hy=>Below.heap_setCell _ _ _ _ avg) aua
theorem cntL_insAt {α:Type} {cnt:α→Nat} (i:Nat) (x:α) (xs:List α):cO cnt (insAt i x xs) = cO cnt xs+cnt x:=by
 have:=XP (cnt:=cnt) (xs.take i) (xs.drop i);rw [List.take_append_drop] at this;unfold insAt;rw [XP,cO];omega
def nameLt (nm:ByteArray) (h:Host):Bool:=Op.bytesLess h.name.toList nm.toList
def insIx (nm:ByteArray) (xs:List Host):Nat:=(xs.takeWhile (nameLt nm)).length
theorem insIx_le (nm:ByteArray) (xs:List Host):insIx nm xs≤xs.length:=by
 unfold insIx;induction xs with
 | nil=>simp
 | cons a l ih=>rw [List.takeWhile_cons];split <;> simp <;> omega
theorem insIx_lt {nm:ByteArray} : ∀{xs:List Host} {k:Nat},k < insIx nm xs→∀(hk:k < xs.length),nameLt nm xs[k] = true
 | [],_,h,hk=>absurd hk S'
 | a :: l,0,h,hk=>by
   unfold insIx at h;rw [List.takeWhile_cons] at h;split at h
   ·rename_i h2;simpa using h2
   ·simp at h
 | a :: l,k+1,h,hk=>by
   unfold insIx at h;rw [List.takeWhile_cons] at h;split at h
   ·simp only [List.getElem_cons_succ];exact insIx_lt (xs:=l) (by unfold insIx;simpa using h) (by simpa using hk)
   ·simp at h
theorem insIx_at {nm:ByteArray} : ∀{xs:List Host} (hk:insIx nm xs < xs.length),nameLt nm xs[insIx nm xs] = false
 | [],hk=>absurd hk S'
 | a :: l,hk=>by
   by_cases h:nameLt nm a = true
   ·have e:insIx nm (a :: l) = insIx nm l+1:=(by unfold insIx;rw [List.takeWhile_cons,if_pos h];rfl);have:=insIx_at (nm:=nm) (xs:=l) (by rw [e] at hk;simpa using hk);simp only [e,List.getElem_cons_succ];exact this
   ·have e:insIx nm (a :: l) = 0:=(by unfold insIx;rw [List.takeWhile_cons,if_neg h];rfl);simp only [e,List.getElem_cons_zero];simpa using h
theorem insIx_of {nm:ByteArray} {xs:List Host} {k:Nat} (h1:k≤insIx nm xs) (h2:∀hk:k < xs.length,nameLt nm xs[k] = false):k = insIx nm xs:=by
 have:=insIx_le nm xs;by_cases h:k < insIx nm xs
 ·have h3:=insIx_lt h O';rw [h2 O'] at h3;cases h3
 ·omega
def addH (x:aU) (u:Host):aU × Int :=
 if iI x = true∧(hostNormalR u).2 = true then (if 0≤pK (iM (hostNormalR u).1.name) x.hosts then (x,2) else if 8≤x.hosts.length then (x,4) else (⟨insAt (insIx (hostNormalR u).1.name x.hosts) (hostNormalR u).1 x.hosts,x.au,x.next,x.weights⟩,0)) else (x,1)
theorem addH_cnt (x:aU) (u:Host):iw (addH x u).1≤iw x+lI (hostNormalR u).1:=by
 unfold addH;split
 ·split
  ·exact Nat.le_add_right _ _
  ·split
   ·exact Nat.le_add_right _ _
   ·have h1:=cntL_insAt (cnt:=lI) (insIx (hostNormalR u).1.name x.hosts) (hostNormalR u).1 x.hosts;simp only [iw] at h1 ⊢;omega
 ·exact Nat.le_add_right _ _
def podLt (nm:ByteArray) (h:Placed):Bool:=Op.bytesLess h.aS.name.toList nm.toList
def insPx (nm:ByteArray) (xs:List Placed):Nat:=(xs.takeWhile (podLt nm)).length
theorem insPx_le (nm:ByteArray) (xs:List Placed):insPx nm xs≤xs.length:=by
 unfold insPx;induction xs with
 | nil=>simp
 | cons a l ih=>rw [List.takeWhile_cons];split <;> simp <;> omega
theorem insPx_lt {nm:ByteArray} : ∀{xs:List Placed} {k:Nat},k < insPx nm xs→∀(hk:k < xs.length),podLt nm xs[k] = true
 | [],_,h,hk=>absurd hk S'
 | a :: l,0,h,hk=>by
   unfold insPx at h;rw [List.takeWhile_cons] at h;split at h
   ·rename_i h2;simpa using h2
   ·simp at h
 | a :: l,k+1,h,hk=>by
   unfold insPx at h;rw [List.takeWhile_cons] at h;split at h
   ·simp only [List.getElem_cons_succ];exact insPx_lt (xs:=l) (by unfold insPx;simpa using h) (by simpa using hk)
   ·simp at h
theorem insPx_at {nm:ByteArray} : ∀{xs:List Placed} (hk:insPx nm xs < xs.length),podLt nm xs[insPx nm xs] = false
 | [],hk=>absurd hk S'
 | a :: l,hk=>by
   by_cases h:podLt nm a = true
   ·have e:insPx nm (a :: l) = insPx nm l+1:=(by unfold insPx;rw [List.takeWhile_cons,if_pos h];rfl);have:=insPx_at (nm:=nm) (xs:=l) (by rw [e] at hk;simpa using hk);simp only [e,List.getElem_cons_succ];exact this
   ·have e:insPx nm (a :: l) = 0:=(by unfold insPx;rw [List.takeWhile_cons,if_neg h];rfl);simp only [e,List.getElem_cons_zero];simpa using h
theorem insPx_of {nm:ByteArray} {xs:List Placed} {k:Nat} (h1:k≤insPx nm xs) (h2:∀hk:k < xs.length,podLt nm xs[k] = false):k = insPx nm xs:=by
 have:=insPx_le nm xs;by_cases h:k < insPx nm xs
 ·have h3:=insPx_lt h O';rw [h2 O'] at h3;cases h3
 ·omega
def newP (x:aU) (n:nI):Placed:=⟨n,⟨#[]⟩,x.next⟩
theorem clusterR_next {x:aU} (h:iI x = true):1≤x.next∧x.next≤1000000000:=by
 unfold iI Em at h;simp only [Bool.and_eq_true,decide_eq_true_eq] at h;exact h.1.2.2.1
def addQ (x:aU) (u:nI):aU × Int :=
 if iI x = true∧(podNormalR u).2 = true then (if 0≤pK (CG (podNormalR u).1.name) x.au then (x,2) else if 12≤x.au.length∨1000000000≤x.next then (x,4) else (⟨x.hosts,insAt (insPx (podNormalR u).1.name x.au) (newP x (podNormalR u).1) x.au,x.next+1,x.weights⟩,0)) else (x,1)
theorem addQ_cnt (x:aU) (u:nI):iw (addQ x u).1≤iw x+jh (newP x (podNormalR u).1):=by
 unfold addQ;split
 ·split
  ·exact Nat.le_add_right _ _
  ·split
   ·exact Nat.le_add_right _ _
   ·have h1:=cntL_insAt (cnt:=jh) (insPx (podNormalR u).1.name x.au) (newP x (podNormalR u).1) x.au;simp only [iw] at h1 ⊢;omega
 ·exact Nat.le_add_right _ _
theorem Own.newP {w:World} {B:Nat} {x:aU} {n:nI} {cs:List Value} {G:List Nat} (h:Own w B n cs G) (hn:I64 x.next):Own w B (newP x n) (cs++[.string ⟨#[]⟩,.int .i64 x.next]) G:=by
 have h5:Own w B ((⟨#[]⟩:ByteArray),x.next) ([.string ⟨#[]⟩]++[.int .i64 x.next]) []:=Own.cons (rdStr w ⟨#[]⟩ (rV (Nat.zero_le _))) (Own.flat (jL w x.next hn));have h6:=Own.joinA h h5 (fun _ _ hb=>by cases hb);rw [List.append_nil] at h6;exact Own.up (B':=B) (fun x:Placed=>(x.aS,x.on,x.seq)) h6 (Nat.le_refl _)
theorem nN.new {F:List Nat} {w w1:World} (h:nN F w w1) {b:Nat} (hb:w.heap.size≤b) (i:Nat) (u:Value):nN F w (w1.setCell ⟨b,i,none⟩ u) :=
 ⟨h.os,h.tape,h.output,by simp [World.setCell];exact h.size,fun k hk hn=>(Below.heap_setCell _ _ _ _ atX).trans (h.block k hk hn)⟩
theorem nN.alloc {F:List Nat} {w w1:World} (h:nN F w w1) (o:Obj):nN F w (w1.alloc o):=h.trans (nN.lq F (ak (aj _) o))
structure Only (g:Nat) (w w':World):Prop where
 os:w'.os = w.os
 tape:w'.tape = w.tape
 output:w'.output = w.output
 size:w'.heap.size = w.heap.size
 block:∀b,b≠g→w'.heap[b]? = w.heap[b]?
section
variable {P:Program} {w w':World} {g:Nat}
theorem oG.only {b:Nat} {cs:List Value} (h:oG w b cs) (ho:Only g w w') (hb:b≠g):oG w' b cs:=h.keep (ho.block b hb)
theorem nN.only {F:List Nat} {w0:World} (h:nN F w0 w) (ho:Only g w w') (hg:w0.heap.size≤g):nN F w0 w' :=
 ⟨ho.os.trans h.os,ho.tape.trans h.tape,ho.output.trans h.output,by rw [ho.size];exact h.size,fun i hi hn=>(ho.block i O').trans (h.block i hi hn)⟩
theorem DCur.only {c n cap:Nat} {A:Option Addr} (h:DCur w c A n cap) (ho:Only g w w') (hg:c < g):DCur w' c A n cap:=by
 obtain ⟨⟨i,x,t,h1,h2⟩,h3,h4⟩:=h;refine ⟨⟨i,x,t,(ho.block c O').trans h1,h2⟩,fun k hk=>?_,h4⟩;obtain ⟨q,o,v,e,hq,hv,hv0⟩:=h3 k hk;exact ⟨q,o,v,e,hq,(World.cell?_of_block (ho.block q O')).trans hv,hv0⟩
theorem Own.only {α:Type} [Dat α] {B:Nat} {x:α} {cs:List Value} {F:List Nat} (h:Own w B x cs F) (ho:Only g w w') (hg:∀b∈F,b≠g):Own w' B x cs F :=
 h.keep (fun b hb=>ho.block b (hg b hb)) (by rw [ho.size];exact Nat.le_refl _)
theorem ext_only {w0:World} (h:Below w0.heap.size w0 w) (ho:Only g w w') (hg:w0.heap.size≤g):Below w0.heap.size w0 w' :=
 ⟨ho.os.trans h.os,ho.tape.trans h.tape,ho.output.trans h.output,by rw [ho.size];exact h.size,fun i hi=>(ho.block i O').trans (h.block i hi)⟩
theorem oG.new3 (w:World) (a b:Obj) (cs:List Value) (t:TypeId):oG (((w.alloc a).alloc b).alloc (.cells cs.toArray t)) (w.heap.size+1+1) cs:=by
 have h:=oG.new ((w.alloc a).alloc b) cs t;have e:((w.alloc a).alloc b).heap.size = w.heap.size+1+1:=by simp
 rw [e] at h;exact h
theorem oG.range {cs:List Value} (h:oG w g cs):w.rangeAt g 0 cs:=fun j v hv=>by
 rw [Nat.zero_add];exact h.cell hv
theorem wp_storeB {op:Oper} {a:Act} {K:Act→World→Prop} {Q:Exit→Act→World→Prop} (ty:TypeId) (x y:Operand) (ho:op.op = .store ty x y)
 (g o:Nat) (cs old:List Value) (hx:a.eval x = .pointer (some ⟨g,o,none⟩)) (hy:a.eval y = .agg cs.toArray) (hB:oG w g old) (hl:o+cs.length≤old.length)
 (hi:(P.info? ty).map (·.size) = some cs.length) (h1:∀v∈cs,v.oneCell' = true)
 (h:∀w',oG w' g (old.take o++cs++old.drop (o+cs.length))→Only g w w'→K (a.put op.dst undef) w'):op.wp P a w K Q:=by
 obtain ⟨t,hg⟩:=hB;have hr:=run_storeCells_at (P:=P) g o t cs 0 old.toArray w hg (by simpa using hl) h1;have hv:(storeVar ty ⟨g,o,none⟩ (.agg cs.toArray)).run P w = .ok () (w.setRow g (old.take o++cs++old.drop (o+cs.length)).toArray):=by
  cases hq:P.info? ty with
  | none=>simp [hq] at hi
  | some i =>have hs:cs.length = i.size:=(by simp [hq] at hi;omega);simp only [Nat.add_zero,List.toList_toArray] at hr;simp [storeVar,sizeOf,typeInfo,hq,Value.cells,hs,hr]
 unfold Oper.wp execOp;simp only [ho,hx,hy,Instr.storeAt,Instr.sureAddr,Sem.run_bind,Sem.run_pure,Result.andThen_ok,hv];refine h _ ⟨t,setRow_heap w g _ _ t _ hg⟩ ⟨rfl,rfl,rfl,by simp [World.setRow],fun b hb=>?_⟩;simp [World.setRow,Array.getElem?_modify,hb,Ne.symm hb]
theorem results_cellB2 {fn:Func} {p u:Tmp} {ty:TypeId} (h:fn.results = #[.cell p ty,.tmp u]) (tmps:Array Value) (g:Nat) (cs:List Value) (d:TypeDesc) (v:Value) (hp:tmps.getD p undef = .pointer (some ⟨g,0,none⟩)) (hv:tmps.getD u undef = v) (hB:oG w g cs)
 (hu:P.underlying ty = some d) (hd:d.isRow = true) (hi:(P.info? ty).map (·.size) = some cs.length):(results fn tmps).run P w = .ok (.tuple #[.agg cs.toArray,v]) w:=by
 have hr:=run_loadVar_mid (P:=P) w g 0 ty cs d hB.range hu hd hi;have hp':tmps[p]?.getD undef = .pointer (some ⟨g,0,none⟩):=by simpa using hp
 have hv':tmps[u]?.getD undef = v:=by simpa using hv
 simp [results,h,hp',hv',asAddr,hr]
end
end Go.Proofs.YtkbkikggodlbbaaGreat
