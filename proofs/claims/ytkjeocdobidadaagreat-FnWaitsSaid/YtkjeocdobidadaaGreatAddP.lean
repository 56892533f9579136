/- AddHost in plain Lean. No condition. -/
import Derived.Test.YtkjeocdobidadaaGreatHostNormP
import Derived.Test.YtkjeocdobidadaaGreatOpsP
import Derived.Test.YtkjeocdobidadaaGreatRankP
namespace Go.Proofs.YtkjeocdobidadaaGreat
open Go.ChangeShapes Go.WideShapes Go.ChangeAt Go.RowKit
set_option linter.unusedVariables false
set_option linter.unusedSimpArgs false
def nameLt (nm:ByteArray) (h:Host):Bool:=Op.bytesLess h.name.toList nm.toList
def insIx (nm:ByteArray) (xs:List Host):Nat:=(xs.takeWhile (nameLt nm)).length
theorem insIx_le (nm:ByteArray) (xs:List Host):insIx nm xs≤xs.length:=by
 unfold insIx;induction xs with
 | nil=>simp
 | cons a l ih=>rw [List.takeWhile_cons];split <;> simp <;> omega
theorem insIx_lt {nm:ByteArray} : ∀{xs:List Host} {k:Nat},k < insIx nm xs→∀(hk:k < xs.length),nameLt nm xs[k] = true
 | [],_,h,hk=>absurd hk S'
 | a :: l,0,h,hk=>by
   unfold insIx at h;rw [List.takeWhile_cons] at h;split at h
   ·rename_i h2;simpa using h2
   ·simp at h
 | a :: l,k+1,h,hk=>by
   unfold insIx at h;rw [List.takeWhile_cons] at h;split at h
   ·simp only [List.getElem_cons_succ];exact insIx_lt (xs:=l) (by unfold insIx;simpa using h) (by simpa using hk)
   ·simp at h
theorem insIx_at {nm:ByteArray} : ∀{xs:List Host} (hk:insIx nm xs < xs.length),nameLt nm xs[insIx nm xs] = false
 | [],hk=>absurd hk S'
 | a :: l,hk=>by
   by_cases h:nameLt nm a = true
   ·have e:insIx nm (a :: l) = insIx nm l+1:=(by unfold insIx;rw [List.takeWhile_cons,if_pos h];rfl);have:=insIx_at (nm:=nm) (xs:=l) (by rw [e] at hk;simpa using hk);simp only [e,List.getElem_cons_succ];exact this
   ·have e:insIx nm (a :: l) = 0:=(by unfold insIx;rw [List.takeWhile_cons,if_neg h];rfl);simp only [e,List.getElem_cons_zero];simpa using h
theorem insIx_of {nm:ByteArray} {xs:List Host} {k:Nat} (h1:k≤insIx nm xs) (h2:∀hk:k < xs.length,nameLt nm xs[k] = false):k = insIx nm xs:=by
 have:=insIx_le nm xs;by_cases h:k < insIx nm xs
 ·have h3:=insIx_lt h O';rw [h2 O'] at h3;cases h3
 ·omega
def addH (x:aU) (u:Host):aU × Int :=
 if iI x = true∧(hostNormalR u).2 = true then (if 0≤pK (iM (hostNormalR u).1.name) x.hosts then (x,2) else if 8≤x.hosts.length then (x,4) else (⟨insAt (insIx (hostNormalR u).1.name x.hosts) (hostNormalR u).1 x.hosts,x.au,x.next,x.weights⟩,0)) else (x,1)
def podLt (nm:ByteArray) (h:Placed):Bool:=Op.bytesLess h.aS.name.toList nm.toList
def insPx (nm:ByteArray) (xs:List Placed):Nat:=(xs.takeWhile (podLt nm)).length
theorem insPx_le (nm:ByteArray) (xs:List Placed):insPx nm xs≤xs.length:=by
 unfold insPx;induction xs with
 | nil=>simp
 | cons a l ih=>rw [List.takeWhile_cons];split <;> simp <;> omega
theorem insPx_lt {nm:ByteArray} : ∀{xs:List Placed} {k:Nat},k < insPx nm xs→∀(hk:k < xs.length),podLt nm xs[k] = true
 | [],_,h,hk=>absurd hk S'
 | a :: l,0,h,hk=>by
   unfold insPx at h;rw [List.takeWhile_cons] at h;split at h
   ·rename_i h2;simpa using h2
   ·simp at h
 | a :: l,k+1,h,hk=>by
   unfold insPx at h;rw [List.takeWhile_cons] at h;split at h
   ·simp only [List.getElem_cons_succ];exact insPx_lt (xs:=l) (by unfold insPx;simpa using h) (by simpa using hk)
   ·simp at h
theorem insPx_at {nm:ByteArray} : ∀{xs:List Placed} (hk:insPx nm xs < xs.length),podLt nm xs[insPx nm xs] = false
 | [],hk=>absurd hk S'
 | a :: l,hk=>by
   by_cases h:podLt nm a = true
   ·have e:insPx nm (a :: l) = insPx nm l+1:=(by unfold insPx;rw [List.takeWhile_cons,if_pos h];rfl);have:=insPx_at (nm:=nm) (xs:=l) (by rw [e] at hk;simpa using hk);simp only [e,List.getElem_cons_succ];exact this
   ·have e:insPx nm (a :: l) = 0:=(by unfold insPx;rw [List.takeWhile_cons,if_neg h];rfl);simp only [e,List.getElem_cons_zero];simpa using h
theorem insPx_of {nm:ByteArray} {xs:List Placed} {k:Nat} (h1:k≤insPx nm xs) (h2:∀hk:k < xs.length,podLt nm xs[k] = false):k = insPx nm xs:=by
 have:=insPx_le nm xs;by_cases h:k < insPx nm xs
 ·have h3:=insPx_lt h O';rw [h2 O'] at h3;cases h3
 ·omega
def newP (x:aU) (n:nI):Placed:=⟨n,⟨#[]⟩,x.next⟩
theorem clusterR_next {x:aU} (h:iI x = true):1≤x.next∧x.next≤1000000000:=by
 unfold iI Em at h;simp only [Bool.and_eq_true,decide_eq_true_eq] at h;exact h.1.2.2.1
def addQ (x:aU) (u:nI):aU × Int :=
 if iI x = true∧(podNormalR u).2 = true then (if 0≤pK (CG (podNormalR u).1.name) x.au then (x,2) else if 12≤x.au.length∨1000000000≤x.next then (x,4) else (⟨x.hosts,insAt (insPx (podNormalR u).1.name x.au) (newP x (podNormalR u).1) x.au,x.next+1,x.weights⟩,0)) else (x,1)
theorem Own.newP {w:World} {B:Nat} {x:aU} {n:nI} {cs:List Value} {G:List Nat} (h:Own w B n cs G) (hn:I64 x.next):Own w B (newP x n) (cs++[.string ⟨#[]⟩,.int .i64 x.next]) G:=by
 have h5:Own w B ((⟨#[]⟩:ByteArray),x.next) ([.string ⟨#[]⟩]++[.int .i64 x.next]) []:=Own.cons (rdStr w ⟨#[]⟩ (rV (Nat.zero_le _))) (Own.flat (jL w x.next hn));have h6:=Own.joinA h h5 (fun _ _ hb=>by cases hb);rw [List.append_nil] at h6;exact Own.up (B':=B) (fun x:Placed=>(x.aS,x.on,x.seq)) h6 (Nat.le_refl _)
theorem wtL_most {α:Type} {f:α→Nat} {xs:List α} {n b:Nat} (hl:xs.length≤n) (h:∀x∈xs,f x≤b):kL f xs≤n * (b+1):=by
 have key:∀ys:List α,(∀x∈ys,f x≤b)→kL f ys≤ys.length * (b+1):=by
  intro ys;induction ys with
  | nil=>intro _;simp [kL]
  | cons a l ih =>intro hh;have h1:=ih (fun x hx=>hh x (List.mem_cons_of_mem _ hx));have h2:=hh a (List.mem_cons_self ..);unfold kL at *;simp only [List.length_cons,List.map_cons,List.sum_cons,Nat.add_mul,Nat.one_mul] at *;omega
 exact Nat.le_trans (key xs h) (Nat.mul_le_mul_right _ hl)
theorem rowR_mem {α:Type} {ok:α→Bool} {less:α→α→Bool} {most:Int} {xs:List α} (h:adb ok less most xs = true):(xs.length:Int)≤most∧∀x∈xs,ok x = true:=by
 unfold adb at h;rw [Bool.and_eq_true,decide_eq_true_eq] at h;refine ⟨h.1,fun x hx=>?_⟩;obtain ⟨j,hj,rfl⟩:=List.getElem_of_mem hx;have:=List.all_eq_true.1 h.2 j (List.mem_range.2 hj);cases j with
 | zero=>rwa [rowAt_zero hj] at this
 | succ i=>rw [yS hj,Bool.and_eq_true] at this;exact this.1
theorem keyR_size {s:ByteArray} (h:Cm s = true):s.size≤30:=by
 unfold Cm at h;rw [Bool.and_eq_true,decide_eq_true_eq] at h;omega
theorem valR_size {s:ByteArray} (h:AQ s = true):s.size≤20:=by
 unfold AQ at h;simp only [Bool.or_eq_true,Bool.and_eq_true,decide_eq_true_eq] at h;omega
theorem nameR_size {s:ByteArray} (h:Qs s = true):s.size≤20:=by
 unfold Qs at h;exact Zad1
theorem labelsR_wt {xs:List Label} (h:sD xs = true):kL Label.wt xs≤306:=by
 obtain ⟨h1,h2⟩:=rowR_mem h;refine wtL_most (n:=6) (b:=50) O' fun l hl=>?_;have h3:=h2 l hl;unfold zX at h3;rw [Bool.and_eq_true] at h3;have:=keyR_size h3.1;have:=valR_size h3.2;have e:Label.wt l = l.key.size+l.value.size:=rfl;omega
theorem taintsR_wt {xs:List iU} (h:La xs = true):kL iU.wt xs≤204:=by
 obtain ⟨h1,h2⟩:=rowR_mem h;refine wtL_most (n:=4) (b:=50) O' fun l hl=>?_;have h3:=h2 l hl;unfold Dp at h3;rw [Bool.and_eq_true,Bool.and_eq_true] at h3;have:=keyR_size h3.1.1;have:=valR_size h3.1.2;have e:iU.wt l = l.key.size+l.value.size:=rfl;omega
theorem tolsR_wt {xs:List bH} (h:Ya xs = true):kL bH.wt xs≤204:=by
 obtain ⟨h1,h2⟩:=rowR_mem h;refine wtL_most (n:=4) (b:=50) O' fun l hl=>?_;have h3:=h2 l hl;unfold Q5 at h3;simp only [Bool.and_eq_true] at h3;have h4:l.key.size≤30:=by
  have h5:=h3.1.1.1;rw [Bool.or_eq_true,Bool.and_eq_true] at h5;rcases h5 with h5 | h5
  ·exact keyR_size h5
  ·rw [toList_nil.1 h5.1];decide
 have:=valR_size h3.1.1.2;have e:bH.wt l = l.key.size+l.value.size:=rfl;omega
theorem selR_wt {xs:List Need} (h:aeH xs = true):kL Need.wt xs≤460:=by
 obtain ⟨h1,h2⟩:=rowR_mem h;refine wtL_most (n:=4) (b:=114) O' fun l hl=>?_;have h3:=h2 l hl;unfold uh at h3;rw [Bool.and_eq_true,Bool.and_eq_true] at h3;have h4:=keyR_size h3.1.1;have e:Need.wt l = l.key.size+wtS l.values:=rfl;have h5:wtS l.values≤84:=by
  have h6:=h3.2;split at h6
  ·rw [decide_eq_true_eq] at h6;rw [List.eq_nil_of_length_eq_zero h6];decide
  ·rw [Bool.and_eq_true] at h6;obtain ⟨h7,h8⟩:=rowR_mem h6.2;exact wtL_most (n:=4) (b:=20) O' fun v hv=>valR_size (h8 v hv)
 omega
theorem hostR_wt {h:Host} (hr:Aj h = true):h.wt≤530:=by
 unfold Aj at hr;simp only [Bool.and_eq_true] at hr;have h1:=nameR_size hr.1.1.1.1;have h2:=labelsR_wt hr.1.1.1.2;have h3:=taintsR_wt hr.1.1.2;have e:h.wt = h.name.size+kL Label.wt h.labels+kL iU.wt h.aT:=rfl;omega
theorem podR_wt {p:nI} (hr:GU p = true):p.wt≤990:=by
 unfold GU at hr;simp only [Bool.and_eq_true] at hr;have h1:=nameR_size hr.1.1.1.1.1;have h2:=labelsR_wt hr.1.1.1.1.2;have h3:=selR_wt hr.1.1.1.2;have h4:=tolsR_wt hr.1.1.2;have e:p.wt = p.name.size+kL Label.wt p.labels+kL Need.wt p.needs+kL bH.wt p.tolerances:=rfl;omega
theorem good_wt {x:aU} (G:Good x):x.wt≤20000:=by
 have e:x.wt = kL Host.wt x.hosts+kL Placed.wt x.au:=rfl;have h1:=wtL_most (f:=Host.wt) G.h8 (b:=530) fun h hh=>hostR_wt (G.hok h hh);have h2:=wtL_most (f:=Placed.wt) G.p12 (b:=1010) fun p hp=>by
  have h3:=podR_wt (G.pok p hp);have e2:p.wt = p.aS.wt+p.on.size:=rfl;have h4:p.on.size≤20:=by
   rcases G.pon p hp with h5 | ⟨h,hh,h5⟩
   ·rw [h5];decide
   ·rw [← h5];exact nameR_size (hostR_name (G.hok h hh))
  omega
 omega
theorem del_good {x:aU} (G:Good x) (i:Nat):Good ⟨x.hosts,x.au.eraseIdx i,x.next,x.weights⟩ :=
 have hs:(x.au.eraseIdx i).Sublist x.au:=List.eraseIdx_sublist ..
 ⟨G.h8,Nat.le_trans hs.length_le G.p12,G.n1,G.n2,G.wt,G.hok,fun h hh=>(G.hin h hh).sub hs G.pok,G.hs,fun p hp=>G.pok p (hs.subset hp),fun p hp=>G.pseq p (hs.subset hp),fun p hp=>G.pon p (hs.subset hp),G.ps.sublist hs,G.pf.sublist hs⟩
theorem names_ne {xs:List Host} (h:xs.Pairwise fun a b=>dQ a b = true) {i j:Nat} (hi:i < xs.length) (hj:j < xs.length) (hij:i≠j):xs[i].name≠xs[j].name:=by
 exact Zadr
theorem add_good {x:aU} (G:Good x) {n:Host} (hn:Aj n = true) (hno:∀h∈x.hosts,h.name≠n.name) (hl:x.hosts.length < 8):Good ⟨insAt (insIx n.name x.hosts) n x.hosts,x.au,x.next,x.weights⟩:=by
 have hm:∀h,h∈insAt (insIx n.name x.hosts) n x.hosts↔h = n∨h∈x.hosts:=by
  intro h;unfold insAt;rw [List.mem_append,List.mem_cons];have e:h∈x.hosts↔h∈x.hosts.take (insIx n.name x.hosts)∨h∈x.hosts.drop (insIx n.name x.hosts):=by
   rw [← List.mem_append,List.take_append_drop]
  rw [e];constructor
  ·exact Zac2
  ·exact Zac2
 refine ⟨by dsimp only;rw [insAt_len];omega,G.p12,G.n1,G.n2,G.wt,fun h hh=>?_,fun h hh=>?_,?_,G.pok,G.pseq,fun p hp=>?_,G.ps,G.pf⟩
 ·rcases (hm h).1 hh with rfl | hh
  ·exact hn
  ·exact G.hok h hh
 ·rcases (hm h).1 hh with rfl | hh
  ·have e:F7 h.name x.au = []:=by
    unfold F7;rw [List.map_eq_nil_iff,List.filter_eq_nil_iff];intro p hp hon;obtain ⟨h1,h2⟩:=onP_iff.1 hon;rcases G.pon p hp with h3 | ⟨g,hg,h3⟩
    ·exact h1 (h2.symm.trans h3)
    ·exact hno g hg (h3.trans h2)
   have:=hostR_nn hn;unfold Room sumAt;rw [e];simp only [List.map_nil,List.sum_nil,List.length_nil];omega
  ·exact G.hin h hh
 ·show (insAt (insIx n.name x.hosts) n x.hosts).Pairwise fun a b=>dQ a b = true;unfold insAt;have h0:=G.hs;rw [← List.take_append_drop (insIx n.name x.hosts) x.hosts,List.pairwise_append] at h0;have ha:∀a∈x.hosts.take (insIx n.name x.hosts),dQ a n = true:=by
   intro a ha;obtain ⟨i,hi,rfl⟩:=List.mem_take_iff_getElem.1 ha;exact insIx_lt O' O'
  have hb:∀b∈x.hosts.drop (insIx n.name x.hosts),dQ n b = true:=by
   intro b hb;obtain ⟨i,hi,rfl⟩:=List.mem_drop_iff_getElem.1 hb;have h1:dQ n (x.hosts[insIx n.name x.hosts]'O') = true:=by
    have h2:=insIx_at (nm:=n.name) (xs:=x.hosts) O';have h3:=hno _ (List.getElem_mem (l:=x.hosts) (n:=insIx n.name x.hosts) O');unfold nameLt at h2;unfold dQ;cases h4:Op.bytesLess n.name.toList (x.hosts[insIx n.name x.hosts]'O').name.toList with
    | true=>rfl
    | false=>exact absurd (bytes_eq (aoA _ _ h2 h4)) h3
   cases i with
   | zero=>simpa using h1
   | succ i=>exact hostLess_tr _ _ _ h1 (List.pairwise_iff_getElem.1 G.hs _ _ O' O' O')
  exact Zadk
 ·rcases G.pon p hp with h3 | ⟨g,hg,h3⟩
  ·exact .inl h3
  ·exact .inr ⟨g,(hm g).2 (.inr hg),h3⟩
theorem addH_good {x:aU} (G:Good x) (u:Host):Good (addH x u).1:=by
 unfold addH;split
 ·rename_i hc;split
  ·exact G
  ·rename_i hx;split
   ·exact G
   ·rename_i hl;refine add_good G ?_ (fun h hh e=>hx (idxI_nonneg.2 ⟨h,hh,hostatP_iff.2 e⟩)) O';have h2:=hc.2;unfold hostNormalR at h2 ⊢;split
    ·rename_i h3;exact h3.2.2
    ·rename_i h3;rw [if_neg h3] at h2;cases h2
 ·exact G
theorem submit_good {x:aU} (G:Good x) {n:nI} (hn:GU n = true) (hno:∀p∈x.au,p.aS.name≠n.name) (hl:x.au.length < 12) (hx:x.next < 1000000000):Good ⟨x.hosts,insAt (insPx n.name x.au) (newP x n) x.au,x.next+1,x.weights⟩:=by
 have hm:∀h,h∈insAt (insPx n.name x.au) (newP x n) x.au↔h = newP x n∨h∈x.au:=by
  intro h;unfold insAt;rw [List.mem_append,List.mem_cons];have e:h∈x.au↔h∈x.au.take (insPx n.name x.au)∨h∈x.au.drop (insPx n.name x.au):=by
   rw [← List.mem_append,List.take_append_drop]
  rw [e];constructor
  ·exact Zac2
  ·exact Zac2
 have hlt:∀{i:Nat} (hi:i < x.au.length),i < insPx n.name x.au→dw x.au[i] (newP x n) = true:=fun hi h=>insPx_lt h hi;have n1:=G.n1;refine ⟨G.h8,by dsimp only;rw [insAt_len];omega,by dsimp only;omega,by dsimp only;omega,G.wt,G.hok,fun h hh=>?_,G.hs,fun p hp=>?_,fun p hp=>?_,fun p hp=>?_,?_,?_⟩
 ·refine (G.hin h hh).same ?_;show F7 h.name (insAt _ _ _) = _;unfold insAt;rw [onL_app,onL_consN (onP_not (.inl rfl)),← onL_app,List.take_append_drop]
 ·rcases (hm p).1 hp with rfl | hp
  ·exact hn
  ·exact G.pok p hp
 ·rcases (hm p).1 hp with rfl | hp
  ·show 1≤x.next∧x.next≤x.next+1 - 1;omega
  ·have:=G.pseq p hp;show 1≤p.seq∧p.seq≤x.next+1 - 1;omega
 ·rcases (hm p).1 hp with rfl | hp
  ·exact .inl rfl
  ·exact G.pon p hp
 ·show (insAt (insPx n.name x.au) (newP x n) x.au).Pairwise fun a b=>dw a b = true;unfold insAt;have h0:=G.ps;rw [← List.take_append_drop (insPx n.name x.au) x.au,List.pairwise_append] at h0;have ha:∀a∈x.au.take (insPx n.name x.au),dw a (newP x n) = true:=by
   intro a ha;obtain ⟨i,hi,rfl⟩:=List.mem_take_iff_getElem.1 ha;exact hlt O' O'
  have hb:∀b∈x.au.drop (insPx n.name x.au),dw (newP x n) b = true:=by
   intro b hb;obtain ⟨i,hi,rfl⟩:=List.mem_drop_iff_getElem.1 hb;have h1:dw (newP x n) (x.au[insPx n.name x.au]'O') = true:=by
    have h2:=insPx_at (nm:=n.name) (xs:=x.au) O';have h3:=hno _ (List.getElem_mem (l:=x.au) (n:=insPx n.name x.au) O');unfold podLt at h2;unfold dw newP;dsimp only;cases h4:Op.bytesLess n.name.toList (x.au[insPx n.name x.au]'O').aS.name.toList with
    | true=>rfl
    | false=>exact absurd (bytes_eq (aoA _ _ h2 h4)) h3
   cases i with
   | zero=>simpa using h1
   | succ i=>exact placedLess_tr _ _ _ h1 (List.pairwise_iff_getElem.1 G.ps _ _ O' O' O')
  exact Zadk
 ·show (insAt (insPx n.name x.au) (newP x n) x.au).Pairwise fun a b=>a.seq≠b.seq;unfold insAt;have h0:=G.pf;rw [← List.take_append_drop (insPx n.name x.au) x.au,List.pairwise_append] at h0;have hq:∀p∈x.au,p.seq≠x.next:=fun p hp=>by have:=G.pseq p hp;omega
  rw [List.pairwise_append,List.pairwise_cons];refine ⟨h0.1,⟨fun b hb=>(hq b (List.mem_of_mem_drop hb)).symm,h0.2.1⟩,fun a ha' b hb'=>?_⟩;rcases List.mem_cons.1 hb' with rfl | hb'
  ·exact hq a (List.mem_of_mem_take ha')
  ·exact h0.2.2 a ha' b hb'
theorem addQ_good {x:aU} (G:Good x) (u:nI):Good (addQ x u).1:=by
 unfold addQ;split
 ·rename_i hc;split
  ·exact G
  ·rename_i hx;split
   ·exact G
   ·rename_i hl;refine submit_good G ?_ (fun h hh e=>hx (idxI_nonneg.2 ⟨h,hh,podatP_iff.2 e⟩)) O' O';have h2:=hc.2;unfold podNormalR at h2 ⊢;split
    ·rename_i h3;exact h3.2.2.2
    ·rename_i h3;rw [if_neg h3] at h2;cases h2
 ·exact G
theorem delP_good {x:aU} (G:Good x) (nm:ByteArray):Good (Ut x nm).1:=by
 unfold Ut;split
 ·split
  ·exact G
  ·exact del_good G _
 ·exact G
theorem onL_off {nm nm':ByteArray} (h:nm'≠nm):∀xs:List Placed,F7 nm' (xs.map (QW nm)) = F7 nm' xs
 | []=>rfl
 | p :: xs=>by
   have ih:=onL_off h xs;rw [List.map_cons];by_cases hp:p.on = nm
   ·have h1:onP nm' (QW nm p) = false:=onP_not (.inl (by unfold QW;rw [if_pos (by rw [hp];simp)]));have h2:onP nm' p = false:=onP_not (.inr (fun e=>h (e.symm.trans hp)));rw [onL_consN h1,onL_consN h2,ih]
   ·have h1:QW nm p = p:=(by unfold QW;rw [if_neg (fun e=>hp (bytes_eq (by simpa using e)))]);rw [h1];cases h2:onP nm' p with
    | false=>rw [onL_consN h2,onL_consN h2,ih]
    | true=>rw [onL_consY h2,onL_consY h2,ih]
theorem offP_pod (nm:ByteArray) (p:Placed):(QW nm p).aS = p.aS:=by unfold QW;split <;> rfl
theorem offP_seq (nm:ByteArray) (p:Placed):(QW nm p).seq = p.seq:=by unfold QW;split <;> rfl
theorem drop_good {x:aU} (G:Good x) {nm:ByteArray} {k:Nat} (hk:pK (iM nm) x.hosts = k):Good ⟨x.hosts.eraseIdx k,x.au.map (QW nm),x.next,x.weights⟩:=by
 obtain ⟨hkl,hkn,_⟩:=idxI_at hk;rw [hostatP_iff] at hkn;have hs:(x.hosts.eraseIdx k).Sublist x.hosts:=List.eraseIdx_sublist ..;have hm:∀h∈x.hosts.eraseIdx k,h.name≠nm:=by intro h hh;obtain ⟨i,hi,hne,rfl⟩:=List.mem_eraseIdx_iff_getElem.1 hh;rw [← hkn];exact names_ne G.hs _ _ O'
 have hin:∀h∈x.hosts,h.name≠nm→h∈x.hosts.eraseIdx k:=by intro h hh hn;obtain ⟨i,hi,rfl⟩:=List.getElem_of_mem hh;refine List.mem_eraseIdx_iff_getElem.2 ⟨i,hi,fun e=>?_,rfl⟩;subst e;exact hn hkn
 refine ⟨Nat.le_trans hs.length_le G.h8,by rw [List.length_map];exact G.p12,G.n1,G.n2,G.wt,fun h hh=>G.hok h (hs.subset hh),fun h hh=>(G.hin h (hs.subset hh)).same (onL_off (hm h hh) _),G.hs.sublist hs,fun p hp=>?_,fun p hp=>?_,fun p hp=>?_,?_,?_⟩
 ·obtain ⟨q,hq,rfl⟩:=List.mem_map.1 hp;rw [offP_pod];exact G.pok q hq
 ·obtain ⟨q,hq,rfl⟩:=List.mem_map.1 hp;rw [offP_seq];exact G.pseq q hq
 ·obtain ⟨q,hq,rfl⟩:=List.mem_map.1 hp;by_cases he:q.on = nm
  ·exact .inl (by unfold QW;rw [if_pos (by rw [he];simp)])
  ·have h1:QW nm q = q:=(by unfold QW;rw [if_neg (fun e=>he (bytes_eq (by simpa using e)))]);rw [h1];rcases G.pon q hq with h2 | ⟨g,hg,h2⟩
   ·exact .inl h2
   ·exact .inr ⟨g,hin g hg (fun e=>he (h2.symm.trans e)),h2⟩
 ·show (x.au.map (QW nm)).Pairwise fun a b=>dw a b = true;rw [List.pairwise_map];exact G.ps.imp (fun {a b} h=>by unfold dw at *;rw [offP_pod,offP_pod];exact h)
 ·show (x.au.map (QW nm)).Pairwise fun a b=>a.seq≠b.seq;rw [List.pairwise_map];exact G.pf.imp (fun {a b} h=>by rw [offP_seq,offP_seq];exact h)
theorem dropH_good {x:aU} (G:Good x) (nm:ByteArray):Good (Ko x nm).1:=by
 unfold Ko;split
 ·split
  ·exact G
  ·rename_i h;exact drop_good G (idxI_toNat O')
 ·exact G
theorem setW_good {x:aU} (G:Good x) (u:rZ):Good (setW x u).1:=by
 unfold setW;split
 ·rename_i h;exact ⟨G.h8,G.p12,G.n1,G.n2,h.2,G.hok,G.hin,G.hs,G.pok,G.pseq,G.pon,G.ps,G.pf⟩
 ·exact G
theorem mem_ins1 {β:Type} {lt:β→β→Bool} {y z:β} : ∀{l:List β},z∈OM lt y l→z = y∨z∈l
 | [],h=>by simp only [OM,List.mem_singleton] at h;exact .inl h
 | x :: l,h=>by
   unfold OM at h;split at h
   ·simpa using h
   ·rcases List.mem_cons.1 h with rfl | h
    ·exact .inr (List.mem_cons_self ..)
    ·rcases mem_ins1 h with h | h
     ·exact .inl h
     ·exact .inr (List.mem_cons_of_mem _ h)
theorem mem_srt {β:Type} {lt:β→β→Bool} {z:β} : ∀{ys acc:List β},z∈sortB lt acc ys→z∈acc∨z∈ys
 | [],acc,h=>.inl h
 | y :: ys,acc,h=>by
   rcases mem_srt (ys:=ys) (acc:=OM lt y acc) h with h | h
   ·rcases mem_ins1 h with rfl | h
    ·exact .inr (List.mem_cons_self ..)
    ·exact .inl h
   ·exact .inr (List.mem_cons_of_mem _ h)
theorem rank_mem {x:aU} {p:nI} {nm:ByteArray} (h:nm∈Jh x p):∃g∈x.hosts,g.name = nm∧oH nm x p = 0:=by
 unfold Jh at h;rcases mem_srt h with h | h
 ·cases h
 ·unfold Ar at h;obtain ⟨g,hg,rfl⟩:=List.mem_map.1 h;obtain ⟨h1,h2⟩:=List.mem_filter.1 hg;unfold al8 at h2;exact ⟨g,h1,rfl,by simpa using h2⟩
theorem best_mem {x:aU} {p:nI} (h:afg x p = true):∃g∈x.hosts,g.name = aff x p∧oH (aff x p) x p = 0:=by
 refine rank_mem ?_;unfold afg aff at *;cases e:Jh x p with
 | nil=>rw [e] at h;cases h
 | cons a l=>simp
theorem fitsR_of {a b c:Int} (h:Jo a b c = true):a+b≤c∧a+b≤9223372036854775807:=by
 unfold Jo at h;split at h
 ·rename_i s e;rw [decide_eq_true_eq] at h;unfold GX at e;split at e
  ·cases e
  ·cases e;omega
 ·cases h
theorem reason_room {x:aU} {nm:ByteArray} {p:nI} (h:oH nm x p = 0):∃g∈x.hosts,g.name = nm∧sumAt nI.cpu nm x.au+p.cpu≤g.cpu∧sumAt nI.cpu nm x.au+p.cpu≤9223372036854775807∧sumAt nI.mem nm x.au+p.mem≤g.mem∧sumAt nI.mem nm x.au+p.mem≤9223372036854775807∧((F7 nm x.au).length:Int) < g.slots:=by
 by_cases h1:pK (iM nm) x.hosts < 0
 ·unfold oH at h;rw [if_pos h1] at h;omega
 ·obtain ⟨k,hk⟩:∃k:Nat,pK (iM nm) x.hosts = k:=⟨_,idxI_toNat O'⟩;obtain ⟨hkl,hkn,_⟩:=idxI_at hk;cases e:vU (F7 nm x.au) with
  | none=>rw [abG e] at h;omega
  | some ab =>
    obtain ⟨a,b⟩:=ab;rw [afI hkl hk e] at h;obtain ⟨rfl,rfl,_,_⟩:=sumsR_of e;refine ⟨_,List.getElem_mem hkl,hostatP_iff.1 hkn,?_⟩;unfold Vm at h;split at h
    ·omega
    ·split at h
     ·omega
     ·split at h
      ·omega
      ·rename_i h3;split at h
       ·omega
       ·rename_i h4;split at h
        ·omega
        ·rename_i h5;have h3:=fitsR_of (by simpa using h3);have h4:=fitsR_of (by simpa using h4);omega
theorem set_split {α:Type} {xs:List α} {k:Nat} (hk:k < xs.length) (v:α):xs.set k v = xs.take k++v :: xs.drop (k+1):=by
 rw [List.set_eq_take_append_cons_drop,if_pos hk]
theorem self_split {α:Type} {xs:List α} {k:Nat} (hk:k < xs.length):xs = xs.take k++xs[k] :: xs.drop (k+1):=by
 rw [← set_split hk xs[k],List.set_getElem_self]
theorem map_set_same {α β:Type} (f:α→β) {xs:List α} {k:Nat} (hk:k < xs.length) {v:α} (h:f v = f xs[k]):(xs.set k v).map f = xs.map f:=by
 have e:f xs[k] = (xs.map f)[k]'(by rw [List.length_map];exact hk):=by simp
 rw [List.map_set,h,e,List.set_getElem_self]
theorem onL_setY {xs:List Placed} {k:Nat} (hk:k < xs.length) {v:Placed} {nm:ByteArray} (h0:xs[k].on = ⟨#[]⟩) (h1:onP nm v = true) (hp:v.aS = xs[k].aS) (f:nI→Int):sumAt f nm (xs.set k v) = sumAt f nm xs+f v.aS∧(F7 nm (xs.set k v)).length = (F7 nm xs).length+1:=by
 have e1:F7 nm xs = F7 nm (xs.take k)++F7 nm (xs.drop (k+1)):=by
  conv=>lhs;rw [self_split hk]
  rw [onL_app,onL_consN (onP_not (.inl h0))]
 have e2:F7 nm (xs.set k v) = F7 nm (xs.take k)++v.aS :: F7 nm (xs.drop (k+1)):=by rw [set_split hk,onL_app,onL_consY h1]
 unfold sumAt;rw [e1,e2];simp only [List.map_append,List.map_cons,List.sum_append,List.sum_cons,List.length_append,List.length_cons];omega
theorem onL_setN {xs:List Placed} {k:Nat} (hk:k < xs.length) {v:Placed} {nm:ByteArray} (h0:xs[k].on = ⟨#[]⟩) (h1:onP nm v = false):F7 nm (xs.set k v) = F7 nm xs:=by
 conv=>rhs;rw [self_split hk]
 rw [set_split hk,onL_app,onL_app,onL_consN h1,onL_consN (onP_not (.inl h0))]
theorem place_good {x:aU} (G:Good x) {k:Nat} (hk:k < x.au.length) {nm:ByteArray} (ho:x.au[k].on = ⟨#[]⟩) (hr:oH nm x x.au[k].aS = 0):Good ⟨x.hosts,x.au.set k ⟨x.au[k].aS,nm,x.au[k].seq⟩,x.next,x.weights⟩:=by
 obtain ⟨g,hg,hgn,r1,r2,r3,r4,r5⟩:=reason_room hr;have hne:=nameR_ne (hostR_name (G.hok g hg));have hm:∀p∈x.au.set k ⟨x.au[k].aS,nm,x.au[k].seq⟩,p = ⟨x.au[k].aS,nm,x.au[k].seq⟩∨p∈x.au:=fun p hp=>by
  rcases List.mem_or_eq_of_mem_set hp with h | h
  ·exact .inr h
  ·exact .inl h
 refine ⟨G.h8,by rw [List.length_set];exact G.p12,G.n1,G.n2,G.wt,G.hok,fun h hh=>?_,G.hs,fun p hp=>?_,fun p hp=>?_,fun p hp=>?_,?_,?_⟩
 ·by_cases he:h.name = nm
  ·obtain rfl:h = g:=by
    obtain ⟨i,hi,rfl⟩:=List.getElem_of_mem hh;obtain ⟨j,hj,rfl⟩:=List.getElem_of_mem hg;by_cases hij:i = j
    ·subst hij;rfl
    ·exact absurd (he.trans hgn.symm) (names_ne G.hs hi hj hij)
   have hon:onP h.name (⟨x.au[k].aS,nm,x.au[k].seq⟩:Placed) = true:=onP_iff.2 ⟨hne,he.symm⟩;obtain ⟨e1,e3⟩:=onL_setY (nm:=h.name) hk (v:=⟨x.au[k].aS,nm,x.au[k].seq⟩) ho hon rfl nI.cpu;obtain ⟨e2,_⟩:=onL_setY (nm:=h.name) hk (v:=⟨x.au[k].aS,nm,x.au[k].seq⟩) ho hon rfl nI.mem;subst he;unfold Room;dsimp only at e1 e2 e3 ⊢;rw [e1,e2,e3];omega
  ·refine (G.hin h hh).same (onL_setN hk ho (onP_not (.inr ?_)));exact fun e=>he e.symm
 ·rcases hm p hp with rfl | hp
  ·exact G.pok x.au[k] (List.getElem_mem hk)
  ·exact G.pok p hp
 ·rcases hm p hp with rfl | hp
  ·exact G.pseq x.au[k] (List.getElem_mem hk)
  ·exact G.pseq p hp
 ·rcases hm p hp with rfl | hp
  ·exact .inr ⟨g,hg,hgn⟩
  ·exact G.pon p hp
 ·have h1:∀ys:List Placed,ys.Pairwise (fun a b=>dw a b = true)↔(ys.map fun p=>p.aS.name).Pairwise fun a b=>Op.bytesLess a.toList b.toList = true:=fun ys=>by rw [List.pairwise_map];rfl
  show (x.au.set k _).Pairwise fun a b=>dw a b = true;rw [h1,map_set_same (fun p:Placed=>p.aS.name) hk (v:=⟨x.au[k].aS,nm,x.au[k].seq⟩) rfl,← h1];exact G.ps
 ·have h1:∀ys:List Placed,ys.Pairwise (fun a b=>a.seq≠b.seq)↔(ys.map fun p=>p.seq).Pairwise fun a b=>a≠b:=fun ys=>by rw [List.pairwise_map]
  show (x.au.set k _).Pairwise fun a b=>a.seq≠b.seq;rw [h1,map_set_same (fun p:Placed=>p.seq) hk (v:=⟨x.au[k].aS,nm,x.au[k].seq⟩) rfl,← h1];exact G.pf
theorem placeP_good {x:aU} (G:Good x) (nm:ByteArray):Good (placeP x nm).1:=by
 have hc:=(good_iff x).2 G;by_cases h1:pK (CG nm) x.au < 0
 ·rw [placeP_none hc h1];exact G
 ·obtain ⟨k,hk⟩:∃k:Nat,pK (CG nm) x.au = k:=⟨_,idxI_toNat O'⟩;obtain ⟨hkl,hkn,_⟩:=idxI_at hk;rw [placeP_at hc hk hkl];unfold placeQ;split
  ·rename_i h2;have ho:x.au[k].on = ⟨#[]⟩:=by
    refine bytes_eq ?_;have h3:x.au[k].on.toList = []:=by rw [ByteArray.toList_eq];exact List.eq_nil_of_length_eq_zero (by simpa using h2)
    rw [h3,ByteArray.toList_eq]
   split
   ·rename_i h3;obtain ⟨g,hg,hgn,hr⟩:=best_mem h3;exact place_good G hkl ho hr
   ·exact G
  ·exact G
theorem placeNextP_good {x:aU} (G:Good x):Good (placeNextP x).1:=by
 unfold placeNextP;split
 ·split
  ·exact placeP_good G _
  ·exact G
 ·exact G
end Go.Proofs.YtkjeocdobidadaaGreat
