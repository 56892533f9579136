/- What FnWaits asks, in plain Lean. No condition. -/
import Derived.Test.YtkjeocdobidadaaGreatStabM
import Derived.Test.YtkjeocdobidadaaGreatUsedP
import Derived.Test.YtkjeocdobidadaaGreatRankP
import Derived.Test.YtkjeocdobidadaaGreatSelOk
import Derived.Test.YtkjeocdobidadaaGreatCopyC
import Derived.Test.YtkjeocdobidadaaGreatAt
import Derived.Test.YtkjeocdobidadaaGreatClusterP
import Derived.Test.YtkjeocdobidadaaGreatLabAt
import Derived.Test.YtkjeocdobidadaaGreatMark
import Derived.Test.YtkjeocdobidadaaGreatData
import Derived.Test.YtkjeocdobidadaaGreatRowK
import Derived.Test.YtkjeocdobidadaaGreatCopyH
import Derived.Test.YtkjeocdobidadaaGreatSortLabelsS
import Derived.Test.YtkjeocdobidadaaGreatSortTaintsS
import Derived.Deep.CutRange
namespace Go.Proofs.YtkjeocdobidadaaGreat
open Go.ChangeShapes Go.WideShapes Go.ChangeAt Go.RowKit
set_option linter.unusedVariables false
set_option linter.unusedSimpArgs false
set_option maxHeartbeats 8000000
set_option maxRecDepth 100000
theorem pod_at_self {x:aU} (G:Good x) {k:Nat} (hk:k < x.au.length):pK (CG x.au[k].aS.name) x.au = k:=by
 have h0:0≤pK (CG x.au[k].aS.name) x.au:=idxI_nonneg.2 ⟨_,List.getElem_mem hk,podatP_iff.2 rfl⟩;obtain ⟨h1,h2,h3⟩:=idxI_at (idxI_toNat h0);rw [podatP_iff] at h2;rw [idxI_toNat h0];by_cases he:(pK (CG x.au[k].aS.name) x.au).toNat = k
 ·rw [he]
 ·exact absurd h2 (pnames_neP G.ps h1 hk he)
where
 pnames_neP {xs:List Placed} (h:xs.Pairwise fun a b=>dw a b = true) {i j:Nat} (hi:i < xs.length) (hj:j < xs.length) (hij:i≠j):xs[i].aS.name≠xs[j].aS.name:=by
  exact Zadv
theorem host_at_self {x:aU} (G:Good x) {k:Nat} (hk:k < x.hosts.length):pK (iM x.hosts[k].name) x.hosts = k:=by
 have h0:0≤pK (iM x.hosts[k].name) x.hosts:=idxI_nonneg.2 ⟨_,List.getElem_mem hk,hostatP_iff.2 rfl⟩;obtain ⟨h1,h2,h3⟩:=idxI_at (idxI_toNat h0);rw [hostatP_iff] at h2;rw [idxI_toNat h0];by_cases he:(pK (iM x.hosts[k].name) x.hosts).toNat = k
 ·rw [he]
 ·exfalso;rcases Nat.lt_or_gt_of_ne he with h4 | h4
  ·exact absurd h2 (bl_ne (List.pairwise_iff_getElem.1 G.hs _ _ h1 hk h4))
  ·exact absurd h2.symm (bl_ne (List.pairwise_iff_getElem.1 G.hs _ _ hk h1 h4))
def podN (x:nI):nI:=⟨x.name,(sortLabelsR x.labels).1,x.cpu,x.mem,x.rank,(sortNeedsR x.needs).1,(sortTolsR x.tolerances).1⟩
def podNormalR (x:nI):nI × Bool:=if (sortLabelsR x.labels).2 = true∧(sortNeedsR x.needs).2 = true∧(sortTolsR x.tolerances).2 = true∧GU (podN x) = true then (podN x,true) else (x,false)
theorem podN_wt (x:nI):(podN x).wt≤x.wt:=by
 have h1:=sortLabelsR_wt x.labels;have h2:=sortNeedsR_wt x.needs;have h3:=sortTolsR_wt x.tolerances;unfold podN nI.wt;dsimp only;omega
def hostN (x:Host):Host:=⟨x.name,(sortLabelsR x.labels).1,x.cpu,x.mem,x.slots,(sortTaintsR x.aT).1⟩
def hostNormalR (x:Host):Host × Bool:=if (sortLabelsR x.labels).2 = true∧(sortTaintsR x.aT).2 = true∧Aj (hostN x) = true then (hostN x,true) else (x,false)
theorem hostN_wt (x:Host):(hostN x).wt≤x.wt:=by
 have h1:=sortLabelsR_wt x.labels;have h2:=sortTaintsR_wt x.aT;unfold hostN Host.wt;dsimp only;omega
theorem hostNormalR_ok {x:Host} (h:(hostNormalR x).2 = true):(hostNormalR x).1 = hostN x∧Aj (hostN x) = true:=by
 unfold hostNormalR at h ⊢;split
 ·rename_i hh;exact ⟨rfl,hh.2.2⟩
 ·rename_i hh;rw [if_neg hh] at h;cases h
theorem Own.joinA {α β:Type} [Dat α] [Dat β] {w:World} {B:Nat} {x:α} {y:β} {c1 c2:List Value} {F1 F2:List Nat} (h1:Own w B x c1 F1) (h2:Own w B y c2 F2) (hd:∀b∈F1,b∉F2):Own w B (x,y) (c1++c2) (F1++F2):=by
 exact Zab7
theorem Own.partsA {w:World} {B:Nat} {x:aU} {Ah Ap:Option Addr} {nh ch np cp:Nat} {n p q f:Int} {G:List Nat} (h:Own w B x [.slice Ah nh ch,.slice Ap np cp,.int .i64 n,.int .i64 p,.int .i64 q,.int .i64 f] G) :
 ∃Gh Gp,Own w B x.hosts [.slice Ah nh ch] Gh∧Own w B x.au [.slice Ap np cp] Gp∧(∀y∈Gh,y∉Gp)∧(∀y∈Gh,y∈G)∧(∀y∈Gp,y∈G):=by
 obtain ⟨⟨c1,c2,F1,F2,e1,rfl,hh,d1,d2,G1,G2,e3,rfl,hp,g1,g2,H1,H2,e5,e6,⟨e7,e8,hn⟩,hwt⟩,hnd,hb,hpl⟩:=h;obtain ⟨A,c,rfl,_⟩:=jB hh;obtain ⟨A2,c2',rfl,_⟩:=jB hp;subst e7 e5 e3;simp only [List.cons_append,List.nil_append,List.cons.injEq] at e1;obtain ⟨ea,eb,_⟩:=e1;rw [List.nodup_append,List.nodup_append] at hnd;refine ⟨F1,G1,⟨by rw [ea];exact hh,hnd.1,fun y hy=>hb y (by simp [hy]),fun y hy=>hpl y (by simp [hy])⟩,⟨by rw [eb];exact hp,hnd.2.1.1,fun y hy=>hb y (by simp [hy]),fun y hy=>hpl y (by simp [hy])⟩,fun y hy hy'=>hnd.2.2 y hy y (by simp [hy']) rfl,fun y hy=>by simp [hy],fun y hy=>by simp [hy]⟩
theorem Own.wholeA {w:World} {B:Nat} {H:List Host} {Q:List Placed} {Ah Ap:Option Addr} {nh ch np cp:Nat} {n p q f:Int} {Gh Gp:List Nat} (h:Own w B H [.slice Ah nh ch] Gh) (k:Own w B Q [.slice Ap np cp] Gp) (hd:∀y∈Gh,y∉Gp) (hn:I64 n) (hp:I64 p) (hq:I64 q) (hf:I64 f) :
 Own w B (⟨H,Q,n,⟨p,q,f⟩⟩:aU) [.slice Ah nh ch,.slice Ap np cp,.int .i64 n,.int .i64 p,.int .i64 q,.int .i64 f] (Gh++Gp):=by
 refine Own.up (B':=B) (fun x:aU=>(x.hosts,x.au,x.next,x.weights)) ?_ (Nat.le_refl _);have h5:Own w B (⟨p,q,f⟩:rZ) ([.int .i64 p]++([.int .i64 q]++[.int .i64 f])) []:=by exact Zacz
 have h6:=Own.cons (jL w n hn) h5;have h7:=Own.joinA h (Own.joinA k h6 (fun b _ hb=>by cases hb)) (fun b hb hb'=>hd b hb (by simpa using hb'));simpa using h7
theorem wp_append0 {P:Program} {t e:TypeId} {z:Value} {size bytes:Nat} (hE:DL P t e z size bytes) {o:Oper} {a:Act} {K:Act→World→Prop} {Q:Exit→Act→World→Prop} (s x:Operand)
 (ho:o.op = .call { callee:=.builtin .append,args:=#[s,x],argTypes:=#[t,t] })
 (w:World) (base:Nat) (v:Value) (n:Nat) (xs:List Value) (hown:w.ownsRow base e size v n xs) (hs:a.eval s = v) (c:Nat) (hx:a.eval x = .slice none 0 c)
 (h:∀v' w',w'.ownsRow base e size v' (n+0) (xs++[])→w.grownBy w' v.ownBlock→(v'.ownBlock = v.ownBlock∨v'.ownBlock = some w.heap.size)→K (a.put o.dst v') w'):o.wp P a w K Q:=by
 obtain ⟨ht,hi0,hzs,hsz⟩:=hE;obtain ⟨i,hi,hz,hsize,hb⟩:=info_parts hi0;have fin:∀(A2:Option Addr) (cap:Nat),v = .slice A2 n cap→n≤cap→o.wp P a w K Q:=by intro A2 cap hv hle;have hr:=run_append_nothing (P:=P) w t t o.type e i ht hi A2 n cap hle (.slice none 0 c) (Src.ofNil w ht c);unfold Oper.wp execOp;simp only [ho,resolve,invoke,builtin,Sem.run_bind,Sem.run_pure,Result.andThen_ok,List.map_toArray,List.map_cons,List.map_nil,hs,hv,hx,hr];subst hv;exact h _ w (by simpa using hown) ⟨rfl,rfl,rfl,Nat.le_refl _,fun _ _ _=>rfl⟩ (.inl rfl)
 rcases hown.2 with ⟨hv,hn0⟩ | ⟨g,cap,cur,hv,_,_,hle,_⟩
 ·exact fin none 0 (by rw [hv,hn0]) O'
 ·exact fin _ cap hv hle
theorem wpList_append0 {P:Program} {t e:TypeId} {z:Value} {size bytes:Nat} (hE:DL P t e z size bytes) {ops:Array Oper} {rest:List Oper} {o:Oper} {a:Act} {Q:Exit→Act→World→Prop} (hgd:o.guard = none) (s x:Operand)
 (ho:o.op = .call { callee:=.builtin .append,args:=#[s,x],argTypes:=#[t,t] })
 (w:World) (base:Nat) (v:Value) (n:Nat) (xs:List Value) (hown:w.ownsRow base e size v n xs) (hs:a.eval s = v) (c:Nat) (hx:a.eval x = .slice none 0 c)
 (h:∀v' w',w'.ownsRow base e size v' (n+0) (xs++[])→w.grownBy w' v.ownBlock→(v'.ownBlock = v.ownBlock∨v'.ownBlock = some w.heap.size)→wpList P ops Q rest (a.put o.dst v') w'):wpList P ops Q (o :: rest) a w :=
 wpList_plain hgd fun K hK=>wp_append0 hE s x ho w base v n xs hown hs c hx fun v' w' h1 h2 h3=>hK _ _ (h v' w' h1 h2 h3)
theorem ownNeA {α:Type} [Dat α] {w:World} {B c i:Nat} {u:Value} {x:α} {cs:List Value} {F:List Nat} (h:Own w B x cs F) (hF:∀y∈F,y≠c):Own (w.setCell ⟨c,i,none⟩ u) B x cs F :=
 h.keep (fun y hy=>Below.heap_setCell _ _ _ _ avg) aua
def nameLt (nm:ByteArray) (h:Host):Bool:=Op.bytesLess h.name.toList nm.toList
def insIx (nm:ByteArray) (xs:List Host):Nat:=(xs.takeWhile (nameLt nm)).length
theorem insIx_le (nm:ByteArray) (xs:List Host):insIx nm xs≤xs.length:=by
 unfold insIx;induction xs with
 | nil=>simp
 | cons a l ih=>rw [List.takeWhile_cons];split <;> simp <;> omega
theorem insIx_lt {nm:ByteArray} : ∀{xs:List Host} {k:Nat},k < insIx nm xs→∀(hk:k < xs.length),nameLt nm xs[k] = true
 | [],_,h,hk=>absurd hk S'
 | a :: l,0,h,hk=>by
   unfold insIx at h;rw [List.takeWhile_cons] at h;split at h
   ·rename_i h2;simpa using h2
   ·simp at h
 | a :: l,k+1,h,hk=>by
   unfold insIx at h;rw [List.takeWhile_cons] at h;split at h
   ·simp only [List.getElem_cons_succ];exact insIx_lt (xs:=l) (by unfold insIx;simpa using h) (by simpa using hk)
   ·simp at h
theorem insIx_at {nm:ByteArray} : ∀{xs:List Host} (hk:insIx nm xs < xs.length),nameLt nm xs[insIx nm xs] = false
 | [],hk=>absurd hk S'
 | a :: l,hk=>by
   by_cases h:nameLt nm a = true
   ·have e:insIx nm (a :: l) = insIx nm l+1:=(by unfold insIx;rw [List.takeWhile_cons,if_pos h];rfl);have:=insIx_at (nm:=nm) (xs:=l) (by rw [e] at hk;simpa using hk);simp only [e,List.getElem_cons_succ];exact this
   ·have e:insIx nm (a :: l) = 0:=(by unfold insIx;rw [List.takeWhile_cons,if_neg h];rfl);simp only [e,List.getElem_cons_zero];simpa using h
theorem insIx_of {nm:ByteArray} {xs:List Host} {k:Nat} (h1:k≤insIx nm xs) (h2:∀hk:k < xs.length,nameLt nm xs[k] = false):k = insIx nm xs:=by
 have:=insIx_le nm xs;by_cases h:k < insIx nm xs
 ·have h3:=insIx_lt h O';rw [h2 O'] at h3;cases h3
 ·omega
def addH (x:aU) (u:Host):aU × Int :=
 if iI x = true∧(hostNormalR u).2 = true then (if 0≤pK (iM (hostNormalR u).1.name) x.hosts then (x,2) else if 8≤x.hosts.length then (x,4) else (⟨insAt (insIx (hostNormalR u).1.name x.hosts) (hostNormalR u).1 x.hosts,x.au,x.next,x.weights⟩,0)) else (x,1)
def podLt (nm:ByteArray) (h:Placed):Bool:=Op.bytesLess h.aS.name.toList nm.toList
def insPx (nm:ByteArray) (xs:List Placed):Nat:=(xs.takeWhile (podLt nm)).length
theorem insPx_le (nm:ByteArray) (xs:List Placed):insPx nm xs≤xs.length:=by
 unfold insPx;induction xs with
 | nil=>simp
 | cons a l ih=>rw [List.takeWhile_cons];split <;> simp <;> omega
theorem insPx_lt {nm:ByteArray} : ∀{xs:List Placed} {k:Nat},k < insPx nm xs→∀(hk:k < xs.length),podLt nm xs[k] = true
 | [],_,h,hk=>absurd hk S'
 | a :: l,0,h,hk=>by
   unfold insPx at h;rw [List.takeWhile_cons] at h;split at h
   ·rename_i h2;simpa using h2
   ·simp at h
 | a :: l,k+1,h,hk=>by
   unfold insPx at h;rw [List.takeWhile_cons] at h;split at h
   ·simp only [List.getElem_cons_succ];exact insPx_lt (xs:=l) (by unfold insPx;simpa using h) (by simpa using hk)
   ·simp at h
theorem insPx_at {nm:ByteArray} : ∀{xs:List Placed} (hk:insPx nm xs < xs.length),podLt nm xs[insPx nm xs] = false
 | [],hk=>absurd hk S'
 | a :: l,hk=>by
   by_cases h:podLt nm a = true
   ·have e:insPx nm (a :: l) = insPx nm l+1:=(by unfold insPx;rw [List.takeWhile_cons,if_pos h];rfl);have:=insPx_at (nm:=nm) (xs:=l) (by rw [e] at hk;simpa using hk);simp only [e,List.getElem_cons_succ];exact this
   ·have e:insPx nm (a :: l) = 0:=(by unfold insPx;rw [List.takeWhile_cons,if_neg h];rfl);simp only [e,List.getElem_cons_zero];simpa using h
theorem insPx_of {nm:ByteArray} {xs:List Placed} {k:Nat} (h1:k≤insPx nm xs) (h2:∀hk:k < xs.length,podLt nm xs[k] = false):k = insPx nm xs:=by
 have:=insPx_le nm xs;by_cases h:k < insPx nm xs
 ·have h3:=insPx_lt h O';rw [h2 O'] at h3;cases h3
 ·omega
def newP (x:aU) (n:nI):Placed:=⟨n,⟨#[]⟩,x.next⟩
theorem clusterR_next {x:aU} (h:iI x = true):1≤x.next∧x.next≤1000000000:=by
 unfold iI Em at h;simp only [Bool.and_eq_true,decide_eq_true_eq] at h;exact h.1.2.2.1
def addQ (x:aU) (u:nI):aU × Int :=
 if iI x = true∧(podNormalR u).2 = true then (if 0≤pK (CG (podNormalR u).1.name) x.au then (x,2) else if 12≤x.au.length∨1000000000≤x.next then (x,4) else (⟨x.hosts,insAt (insPx (podNormalR u).1.name x.au) (newP x (podNormalR u).1) x.au,x.next+1,x.weights⟩,0)) else (x,1)
theorem Own.newP {w:World} {B:Nat} {x:aU} {n:nI} {cs:List Value} {G:List Nat} (h:Own w B n cs G) (hn:I64 x.next):Own w B (newP x n) (cs++[.string ⟨#[]⟩,.int .i64 x.next]) G:=by
 have h5:Own w B ((⟨#[]⟩:ByteArray),x.next) ([.string ⟨#[]⟩]++[.int .i64 x.next]) []:=Own.cons (rdStr w ⟨#[]⟩ (rV (Nat.zero_le _))) (Own.flat (jL w x.next hn));have h6:=Own.joinA h h5 (fun _ _ hb=>by cases hb);rw [List.append_nil] at h6;exact Own.up (B':=B) (fun x:Placed=>(x.aS,x.on,x.seq)) h6 (Nat.le_refl _)
theorem HostNormal_spec (x:Host) (cs:List Value) (F:List Nat) (w:World) (h:rd w x cs F) (hw:(x.wt:Int)≤1048576) :
 Calls Tryz.prog 149 #[.agg cs.toArray] w fun e w'=>∃ds G,e = .returned (.tuple #[.agg ds.toArray,.bool (hostNormalR x).2])∧Own w' w.heap.size (hostNormalR x).1 ds G∧Below w.heap.size w w':=by
 have h0:=h;obtain ⟨gu,gy,jw,kJ,kK,qU,hck,qp,hname,dO,vg,hmem,uI,jq⟩:=iy h;subst hck;clear qp h;have HX:=I' h0;have Du:=I' hw;clear h0;have hwx:x.wt = x.name.size+kL Label.wt x.labels+kL iU.wt x.aT:=rfl;have hl1:(x.labels.length:Int)≤1048576:=by have:=gJ Label.wt x.labels;omega
 have hl2:(x.aT.length:Int)≤1048576:=by have:=gJ iU.wt x.aT;omega
 have hm1:∀l∈x.labels,(l.key.size:Int)≤1048576∧(l.value.size:Int)≤1048576:=fun l hl=>by have h9:=Bq (f:=Label.wt) hl;have h8:Label.wt l = l.key.size+l.value.size:=rfl;omega
 have hm2:∀l∈x.aT,(l.key.size:Int)≤1048576∧(l.value.size:Int)≤1048576:=fun l hl=>by have h9:=Bq (f:=iU.wt) hl;have h8:iU.wt l = l.key.size+l.value.size:=rfl;omega
 have S0:Cq3 w (((w.alloc (.cells #[.string x.name,.slice gu x.labels.length gy,.int .i64 x.cpu,.int .i64 x.mem,.int .i64 x.slots,.slice kJ x.aT.length kK] 42)).alloc (.cells #[.string ⟨#[]⟩,.slice none 0 0,.int .i64 0,.int .i64 0,.int .i64 0,.slice none 0 0] 42)).alloc (.cells #[.string x.name,.slice gu x.labels.length gy,.int .i64 x.cpu,.int .i64 x.mem,.int .i64 x.slots,.slice kJ x.aT.length kK] 42)) [.string x.name,.slice gu x.labels.length gy,.int .i64 x.cpu,.int .i64 x.mem,.int .i64 x.slots,.slice kJ x.aT.length kK] [.string ⟨#[]⟩,.slice none 0 0,.int .i64 0,.int .i64 0,.int .i64 0,.slice none 0 0] [.string x.name,.slice gu x.labels.length gy,.int .i64 x.cpu,.int .i64 x.mem,.int .i64 x.slots,.slice kJ x.aT.length kK]:=Cq3.new w _ _ _ 42 42 42;obtain ⟨v0,hW0⟩:∃v0,(((w.alloc (.cells #[.string x.name,.slice gu x.labels.length gy,.int .i64 x.cpu,.int .i64 x.mem,.int .i64 x.slots,.slice kJ x.aT.length kK] 42)).alloc (.cells #[.string ⟨#[]⟩,.slice none 0 0,.int .i64 0,.int .i64 0,.int .i64 0,.slice none 0 0] 42)).alloc (.cells #[.string x.name,.slice gu x.labels.length gy,.int .i64 x.cpu,.int .i64 x.mem,.int .i64 x.slots,.slice kJ x.aT.length kK] 42)) = v0:=⟨_,rfl⟩;rw [hW0] at S0;have HW0:=I' hW0;have i1:=S0.box.cell (i:=1) (u:=.slice gu x.labels.length gy) rfl;have j1:=S0.ob.lt;clear hW0 hw hwx;go_enter Tryz.func149,Tryz.ntmps149;go_wp2_with fail
 rw [HW0.out];clear HW0;refine (SortLabels_spec x.labels _ _ _ v0 (dO.ext S0.below) hl1 hm1).mono ?_;obtain ⟨L1,b1,e1⟩:∃L b,sortLabelsR x.labels = (L,b):=⟨_,_,rfl⟩;rw [e1];have E1:=I' e1;clear e1 i1;rintro e w1 ⟨A1,c1,G1,rfl,jX,hb1⟩;have T1:=S0.ext hb1;replace jX:=jX.mono (B':=w.heap.size+1+1+1) O';obtain ⟨z1,hz1⟩:∃z,z = w1.heap.size:=⟨_,rfl⟩;have anS:=I' (show ∀b∈G1,b < z1 from fun b hb=>by rw [hz1];exact jX.lt b hb);have hzz1:w.heap.size+1+1+1≤z1:=by have:=hb1.size;omega
 clear hb1;have i2:=T1.box.cell (i:=5) (u:=.slice kJ x.aT.length kK) rfl;have j2:=T1.ob.lt;go_wp2_with fail
 clear S0;refine (SortTaints_spec x.aT _ _ _ w1 (jq.ext T1.below) hl2 hm2).mono ?_;obtain ⟨L2,b2,e2⟩:∃L b,sortTaintsR x.aT = (L,b):=⟨_,_,rfl⟩;rw [e2];have E2:=I' e2;clear e2 i2;rintro e w2 ⟨A2,c2,G2,rfl,hO2,hb2⟩;have T2:=T1.ext hb2;replace hO2:=hO2.mono (B':=z1) (by have:=hz1;omega);replace jX:=jX.ext hb2;obtain ⟨z2,hz2⟩:∃z,z = w2.heap.size:=⟨_,rfl⟩;have HLT2:=I' (show ∀b∈G2,b < z2 from fun b hb=>by rw [hz2];exact hO2.lt b hb);have hzz2:z1≤z2:=by have:=hb2.size;omega
 clear hb2;have k1:=T2.ob.cell (i:=1) (u:=.slice gu x.labels.length gy) rfl;have f1:=T2.ob.fz 1;have S1:=T2.put 1 (.slice A1 L1.length c1);replace jX:=jX.setCell (p:=⟨w.heap.size+1+1,1,none⟩) atX (.slice A1 L1.length c1);replace hO2:=hO2.setCell (p:=⟨w.heap.size+1+1,1,none⟩) atX (.slice A1 L1.length c1);have k2:=T2.ob.cell (i:=5) (u:=.slice kJ x.aT.length kK) rfl;have f2:=T2.ob.fz 5;have S2:=S1.put 5 (.slice A2 L2.length c2);replace jX:=jX.setCell (p:=⟨w.heap.size+1+1,5,none⟩) atX (.slice A2 L2.length c2);replace hO2:=hO2.setCell (p:=⟨w.heap.size+1+1,5,none⟩) atX (.slice A2 L2.length c2);have l9:=T2.ob.lt;go_upto_region 6 with fail
 obtain ⟨v2,hv⟩:∃v,((w2.setCell ⟨w.heap.size+1+1,1,none⟩ (.slice A1 L1.length c1)).setCell ⟨w.heap.size+1+1,5,none⟩ (.slice A2 L2.length c2)) = v:=⟨_,rfl⟩;have hs:v2.heap.size = z2:=by rw [← hv,hz2];simp [World.setCell]
 rw [hv] at S2 jX hO2;try rw [hv]
 clear hv T2 k1 f1 k2 f2 l9 hz2;have hz2:=hs;clear hs
 have HOWN:=I' (show Own v2 (w.heap.size+1+1+1) (⟨x.name,L1,x.cpu,x.mem,x.slots,L2⟩:Host) [.string x.name,.slice A1 L1.length c1,.int .i64 x.cpu,.int .i64 x.mem,.int .i64 x.slots,.slice A2 L2.length c2] (G1++G2) from by
  refine Own.up (B':=w.heap.size+1+1+1) (fun x:Host=>(x.name,x.labels,x.cpu,x.mem,x.slots,x.aT)) ?_ (Nat.le_refl _);refine Own.cons (c1:=[.string x.name]) (rdStr _ x.name (rV hname)) ?_;refine Own.pair (B2:=z1) (c1:=[.slice A1 L1.length c1]) (F1:=G1) jX ?_ O' anS.out;refine Own.cons (c1:=[.int .i64 x.cpu]) (jL _ x.cpu vg) ?_;refine Own.cons (c1:=[.int .i64 x.mem]) (jL _ x.mem hmem) ?_;refine Own.cons (c1:=[.int .i64 x.slots]) (jL _ x.slots uI) ?_
  exact hO2)
 have HN:=I' (show hostN x = ⟨x.name,L1,x.cpu,x.mem,x.slots,L2⟩ by unfold hostN;rw [E1.out,E2.out]);have HR:=I' (show hostNormalR x = if b1 = true∧b2 = true∧Aj (hostN x) = true then (hostN x,true) else (x,false) by unfold hostNormalR;rw [E1.out,E2.out]);have HS:=I' S2;have HYW:=I' (show ((hostN x).wt:Int)≤1048576 by have:=hostN_wt x;have:=Du.out;omega);clear jX hO2 S2;have q_:=HS.out.ob.lt;have p0:=HS.out.box.cell (i:=0) (u:=.string x.name) rfl;have p1:=HS.out.box.cell (i:=1) (u:=.slice gu x.labels.length gy) rfl;have p2:=HS.out.box.cell (i:=2) (u:=.int .i64 x.cpu) rfl;have p3:=HS.out.box.cell (i:=3) (u:=.int .i64 x.mem) rfl;have p4:=HS.out.box.cell (i:=4) (u:=.int .i64 x.slots) rfl;have p5:=HS.out.box.cell (i:=5) (u:=.slice kJ x.aT.length kK) rfl;cases b1 with
 | false =>have HRN:=I' (show hostNormalR x = (x,false) by rw [HR.out];exact if_neg (by rintro ⟨hh,_⟩;cases hh));exact Zabf
 | true =>
   cases b2 with
   | false =>have HRN:=I' (show hostNormalR x = (x,false) by rw [HR.out];exact if_neg (by rintro ⟨_,hh,_⟩;cases hh));exact Zabf
   | true =>
     have HYN:=HN;cases hr:Aj (hostN x) with
     | false =>
       have HOK:=I' hr;have q0:=HS.out.ob.cell (i:=0) (u:=.string x.name) rfl;have q1:=HS.out.ob.cell (i:=1) (u:=.slice A1 L1.length c1) rfl;have q2:=HS.out.ob.cell (i:=2) (u:=.int .i64 x.cpu) rfl;have q3:=HS.out.ob.cell (i:=3) (u:=.int .i64 x.mem) rfl;have q4:=HS.out.ob.cell (i:=4) (u:=.int .i64 x.slots) rfl;have q5:=HS.out.ob.cell (i:=5) (u:=.slice A2 L2.length c2) rfl;go_wp2_with fail
       refine (tZ (⟨x.name,L1,x.cpu,x.mem,x.slots,L2⟩:Host) _ _ v2 HOWN.out.rd (by have:=HYW.out;rw [HN.out] at this;exact this)).mono ?_;rw [← HN.out,HOK.out];rintro e w7 ⟨rfl,hb7⟩;have HS7:=I' (HS.out.ext hb7);have HOWN7:=I' (HOWN.out.ext hb7);clear p0 p1 p2 p3 p4 p5 q0 q1 q2 q3 q4 q5 q_ hb7;have HRN:=I' (show hostNormalR x = (x,false) by rw [HR.out];exact if_neg (by rintro ⟨_,_,hh⟩;rw [HOK.out] at hh;cases hh));have rr:=HS7.out.box.lt;have p0:=HS7.out.box.cell (i:=0) (u:=.string x.name) rfl;have p1:=HS7.out.box.cell (i:=1) (u:=.slice gu x.labels.length gy) rfl;have p2:=HS7.out.box.cell (i:=2) (u:=.int .i64 x.cpu) rfl;have p3:=HS7.out.box.cell (i:=3) (u:=.int .i64 x.mem) rfl;have p4:=HS7.out.box.cell (i:=4) (u:=.int .i64 x.slots) rfl;have p5:=HS7.out.box.cell (i:=5) (u:=.slice kJ x.aT.length kK) rfl;go_wp2_with fail
       refine (alT x _ _ w7 (rd_extN HX.out HS7.out.below) hl1 hl2).mono ?_;rintro e w8 ⟨ds8,G8,rfl,sV,hb8⟩;have T8:=HS7.out.ext hb8;have SY:=sV;obtain ⟨Alabels9,clabels9,Flabels9,Ataints9,ctaints9,Ftaints9,hck9,hF9,hname9,hlabels9,hcpu9,hmem9,hslots9,htaints9⟩:=iy sV.rd;subst hck9;clear hF9 sV;have r0:=T8.rb.cell (i:=0) (u:=.string ⟨#[]⟩) rfl;have r1:=T8.rb.cell (i:=1) (u:=.slice none 0 0) rfl;have r2:=T8.rb.cell (i:=2) (u:=.int .i64 0) rfl;have r3:=T8.rb.cell (i:=3) (u:=.int .i64 0) rfl;have r4:=T8.rb.cell (i:=4) (u:=.int .i64 0) rfl;have r5:=T8.rb.cell (i:=5) (u:=.slice none 0 0) rfl;have rf:=T8.rb.fz;have rl:=T8.rb.lt;have HO9:=I' SY;have HT8:=I' T8;have hzw:w.heap.size+1 < w7.heap.size:=HS7.out.rb.lt;clear SY T8 hb8;go_wp2_with fail
       try dsimp only
       iterate 60 (first | go_step | skip)
       refine bodyPost_ret (v:=.tuple #[.agg #[.string x.name,.slice Alabels9 x.labels.length clabels9,.int .i64 x.cpu,.int .i64 x.mem,.int .i64 x.slots,.slice Ataints9 x.aT.length ctaints9],.bool false]) (by simp [results,Tryz.results149,go_sem, *]) rfl ⟨[.string x.name,.slice Alabels9 x.labels.length clabels9,.int .i64 x.cpu,.int .i64 x.mem,.int .i64 x.slots,.slice Ataints9 x.aT.length ctaints9],G8,by rw [HRN.out];try rfl,?_,?_⟩
       ·rw [HRN.out];refine Own.mono (B:=w7.heap.size) ?_ O';exact Zabs
       ·exact Zafg
     | true =>
       have HOK:=I' hr;have q0:=HS.out.ob.cell (i:=0) (u:=.string x.name) rfl;have q1:=HS.out.ob.cell (i:=1) (u:=.slice A1 L1.length c1) rfl;have q2:=HS.out.ob.cell (i:=2) (u:=.int .i64 x.cpu) rfl;have q3:=HS.out.ob.cell (i:=3) (u:=.int .i64 x.mem) rfl;have q4:=HS.out.ob.cell (i:=4) (u:=.int .i64 x.slots) rfl;have q5:=HS.out.ob.cell (i:=5) (u:=.slice A2 L2.length c2) rfl;go_wp2_with fail
       refine (tZ (⟨x.name,L1,x.cpu,x.mem,x.slots,L2⟩:Host) _ _ v2 HOWN.out.rd (by have:=HYW.out;rw [HN.out] at this;exact this)).mono ?_;rw [← HN.out,HOK.out];rintro e w7 ⟨rfl,hb7⟩;have HS7:=I' (HS.out.ext hb7);have HOWN7:=I' (HOWN.out.ext hb7);clear p0 p1 p2 p3 p4 p5 q0 q1 q2 q3 q4 q5 q_ hb7;have HRY:=I' (show hostNormalR x = (hostN x,true) by rw [HR.out];exact if_pos (by simp [HOK.out]));have q0:=HS7.out.ob.cell (i:=0) (u:=.string x.name) rfl;have q1:=HS7.out.ob.cell (i:=1) (u:=.slice A1 L1.length c1) rfl;have q2:=HS7.out.ob.cell (i:=2) (u:=.int .i64 x.cpu) rfl;have q3:=HS7.out.ob.cell (i:=3) (u:=.int .i64 x.mem) rfl;have q4:=HS7.out.ob.cell (i:=4) (u:=.int .i64 x.slots) rfl;have q5:=HS7.out.ob.cell (i:=5) (u:=.slice A2 L2.length c2) rfl;have r0:=HS7.out.rb.cell (i:=0) (u:=.string ⟨#[]⟩) rfl;have r1:=HS7.out.rb.cell (i:=1) (u:=.slice none 0 0) rfl;have r2:=HS7.out.rb.cell (i:=2) (u:=.int .i64 0) rfl;have r3:=HS7.out.rb.cell (i:=3) (u:=.int .i64 0) rfl;have r4:=HS7.out.rb.cell (i:=4) (u:=.int .i64 0) rfl;have r5:=HS7.out.rb.cell (i:=5) (u:=.slice none 0 0) rfl;have rf:=HS7.out.rb.fz;have rl:=HS7.out.rb.lt;have ql:=HS7.out.ob.lt;go_wp2_with fail
       try dsimp only
       iterate 60 (first | go_step | skip)
       refine bodyPost_ret (v:=.tuple #[.agg #[.string x.name,.slice A1 L1.length c1,.int .i64 x.cpu,.int .i64 x.mem,.int .i64 x.slots,.slice A2 L2.length c2],.bool true]) (by simp [results,Tryz.results149,go_sem, *]) rfl ⟨[.string x.name,.slice A1 L1.length c1,.int .i64 x.cpu,.int .i64 x.mem,.int .i64 x.slots,.slice A2 L2.length c2],G1++G2,by rw [HRY.out];try rfl,?_,?_⟩
       ·exact Zadn
       ·exact (by repeat (first | with_reducible exact HS7.out.below | with_reducible refine aC ?_ atX _))
end Go.Proofs.YtkjeocdobidadaaGreat
