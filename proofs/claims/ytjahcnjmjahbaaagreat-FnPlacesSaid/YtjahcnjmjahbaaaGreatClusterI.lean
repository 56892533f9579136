/- ClusterOk, of the program. No condition. -/
import Derived.Test.YtjahcnjmjahbaaaGreatClusterIC
import Derived.Test.YtjahcnjmjahbaaaGreatClusterSC
import Derived.Test.YtjahcnjmjahbaaaGreatSortTolerancesS
namespace Go.Proofs.YtjahcnjmjahbaaaGreat
open Go.ChangeShapes Go.WideShapes Go.ChangeAt Go.RowKit
set_option linter.unusedVariables false
set_option linter.unusedSimpArgs false
set_option maxHeartbeats 2000000
set_option maxRecDepth 100000
theorem qL (x:aU) (cs:List Value) (F:List Nat) (w:World) (h:rd w x cs F) (hw:(x.wt:Int)≤1048576) :
 Calls Tryz.prog 28 #[.agg cs.toArray] w fun e w'=>e = .returned (.bool (iI x))∧Below w.heap.size w w':=by
 have ga:x.wt = kL ba.wt x.aa+kL ag.wt x.J:=rfl;have b5:(x.aa.length:Int)≤1048576:=by have:=gJ ba.wt x.aa;omega
 have vk:(x.J.length:Int)≤1048576:=by have:=gJ ag.wt x.J;omega
 refine aeh x cs F w h b5 vk (fun y hy=>?_) (fun y hy=>?_)
 ·obtain ⟨k,hk,rfl⟩:=List.getElem_of_mem hy;exact U6.oy _ (by have:=rM (f:=ba.wt) hk;omega)
 ·exact Kk
theorem qM (x:aU) (cs:List Value) (F:List Nat) (w:World) (h:rd w x cs F) (hw:(x.wt:Int)≤1048576) :
 Calls Tryz.prog 20 #[.agg cs.toArray] w fun e w'=>e = .returned (.bool (iI x))∧Below w.heap.size w w':=by
 have ga:x.wt = kL ba.wt x.aa+kL ag.wt x.J:=rfl;have b5:(x.aa.length:Int)≤1048576:=by have:=gJ ba.wt x.aa;omega
 have vk:(x.J.length:Int)≤1048576:=by have:=gJ ag.wt x.J;omega
 refine Dx x cs F w h b5 vk (fun y hy=>?_) (fun y hy=>?_)
 ·obtain ⟨k,hk,rfl⟩:=List.getElem_of_mem hy;exact U6.oy _ (by have:=rM (f:=ba.wt) hk;omega)
 ·exact Kk
theorem aCs {α:Type} {ok:α→Bool} {less:α→α→Bool} (tr:∀a b c,less a b = true→less b c = true→less a c = true) (xs:List α) :
 (List.range xs.length).all (bI ok less xs) = true↔(∀x∈xs,ok x = true)∧xs.Pairwise fun a b=>less a b = true:=by
 constructor
 ·intro h;have h':∀j,j < xs.length→bI ok less xs j = true:=fun j hj=>List.all_eq_true.1 h j (List.mem_range.2 hj);constructor
  ·intro x hx;obtain ⟨j,hj,rfl⟩:=List.getElem_of_mem hx;have:=h' j hj;exact K9
  ·rw [List.pairwise_iff_getElem];intro i j hi hj lr;obtain ⟨d,rfl⟩:∃d,j = i+d+1:=⟨j - i - 1,O⟩;clear lr;induction d with
   | zero=>have:=h' (i+1) hj;rw [yS (j:=i) hj,Bool.and_eq_true] at this;exact this.2
   | succ d ih =>have h1:=ih O;have:=h' (i+d+1+1) hj;rw [yS (j:=i+d+1) hj,Bool.and_eq_true] at this;exact tr _ _ _ h1 this.2
 ·intro ⟨h1,h2⟩;refine YG fun j hj=>?_;cases j with
  | zero=>rw [b8 hj];exact h1 _ (List.getElem_mem hj)
  | succ i=>rw [yS hj,Bool.and_eq_true];exact ⟨h1 _ (List.getElem_mem hj),List.pairwise_iff_getElem.1 h2 i (i+1) O hj O⟩
theorem aEk (xs:List ag):(List.range xs.length).all (DN xs) = true↔xs.Pairwise fun a b=>a.seq≠b.seq:=by
 rw [List.pairwise_iff_getElem];constructor
 ·intro h i j hi hj lr e;have h1:=List.all_eq_true.1 h j (List.mem_range.2 hj);rw [sG hj] at h1;have h2:cV (xs.take j) xs[j].seq = true:=by
   unfold cV;rw [List.any_eq_true];exact ⟨xs[i],List.mem_take_iff_getElem.2 ⟨i,O,rfl⟩,by simp [e]⟩
  rw [h2] at h1;cases h1
 ·intro h;refine YG fun j hj=>?_;rw [sG hj];have h2:cV (xs.take j) xs[j].seq = false:=by
   unfold cV;rw [List.any_eq_false];intro q hq;obtain ⟨i,hi,rfl⟩:=List.mem_take_iff_getElem.1 hq;have:=h i j O hj O;simpa using this
  rw [h2];rfl
theorem ew {a b:ByteArray} (h:a.toList = b.toList):a = b:=(PW a b).1 (by unfold lf;rw [h];simp)
theorem toList_nil {a:ByteArray} : (a.toList == []) = true↔a = ⟨#[]⟩:=by
 constructor
 ·intro h;refine ew ?_;have h1:a.toList = []:=by simpa using h
  rw [h1,ByteArray.toList_eq]
 ·intro h;subst h;rw [ByteArray.toList_eq];rfl
theorem MU {α:Type} {p:α→Bool} : ∀{xs:List α},0≤pK p xs↔∃x∈xs,p x = true
 | []=>by simp [pK]
 | x :: xs=>by
   have ih:=MU (p:=p) (xs:=xs);unfold pK;by_cases h:p x = true
   ·simp [h]
   ·rw [if_neg h];by_cases h1:pK p xs < 0
    ·rw [if_pos h1];constructor
     ·intro hh;omega
     ·intro ⟨y,hy,hp⟩;rcases List.mem_cons.1 hy with rfl | hy
      ·exact absurd hp h
      ·exact absurd (ih.2 ⟨y,hy,hp⟩) O
    ·rw [if_neg h1];obtain ⟨y,hy,hp⟩:=ih.1 O;exact ⟨fun _=>⟨y,List.mem_cons_of_mem _ hy,hp⟩,fun _=>by omega⟩
theorem MW {α:Type} {p:α→Bool} : ∀{xs:List α} {k:Nat},pK p xs = k→∃hk:k < xs.length,p xs[k] = true∧∀j (hj:j < k),p (xs[j]'O) = false
 | [],k,h=>by simp only [pK] at h;omega
 | x :: xs,k,h=>by
   unfold pK at h;by_cases hp:p x = true
   ·rw [if_pos hp] at h;obtain rfl:k = 0:=by omega
    exact ⟨S',hp,fun j hj=>absurd hj O⟩
   ·rw [if_neg hp] at h;by_cases h1:pK p xs < 0
    ·rw [if_pos h1] at h;omega
    ·rw [if_neg h1] at h;obtain ⟨i,rfl⟩:∃i,k = i+1:=⟨k - 1,O⟩;obtain ⟨hk,h2,h3⟩:=MW (p:=p) (xs:=xs) (k:=i) O;refine ⟨by simpa using hk,by simpa using h2,fun j hj=>?_⟩;cases j with
     | zero=>simpa using hp
     | succ j=>simpa using h3 j O
theorem MX {α:Type} {p:α→Bool} {xs:List α} (h:0≤pK p xs):pK p xs = (pK p xs).toNat:=by omega
theorem Tt:∀{xs:List Int} {s:Int},(∀x∈xs,0≤x)→0≤s→s+xs.sum≤9223372036854775807→GZ xs s = some (s+xs.sum)
 | [],s,_,_,_=>by simp [GZ]
 | x :: xs,s,h,hs,hm=>by
   have hx:=h x (List.mem_cons_self ..);have h2:∀y∈xs,0≤y:=fun y hy=>h y (List.mem_cons_of_mem _ hy);have h3:0≤xs.sum:=by
    clear hm h;induction xs with
    | nil=>simp
    | cons a l ih=>simp only [List.sum_cons];have:=h2 a (List.mem_cons_self ..);have:=ih (fun y hy=>h2 y (List.mem_cons_of_mem _ hy));omega
   simp only [List.sum_cons] at hm ⊢;have e:GX s x = some (s+x):=(by unfold GX;rw [if_neg O]);simp only [GZ,e];rw [Tt h2 O O];congr 1;omega
theorem Tu:∀{xs:List Int} {s t:Int},GZ xs s = some t→s≤9223372036854775807→t = s+xs.sum∧t≤9223372036854775807
 | [],s,t,h,hs=>by simp only [GZ,Option.some.injEq] at h;subst h;simp;omega
 | x :: xs,s,t,h,hs=>by
   simp only [GZ] at h;cases e:GX s x with
   | none=>rw [e] at h;cases h
   | some m =>
     rw [e] at h;unfold GX at e;split at e
     ·cases e
     ·rename_i hn;cases e
      have:=Tu h O;simp only [List.sum_cons];omega
def ki (f:nI→Int) (nm:ByteArray) (xs:List ag):Int:=((F7 nm xs).map f).sum
theorem Ev (nm:ByteArray) (xs ys:List ag):F7 nm (xs++ys) = F7 nm xs++F7 nm ys:=by unfold F7;rw [List.filter_append,List.map_append]
theorem ya {nm:ByteArray} {p:ag} {xs:List ag} (h:kd nm p = false):F7 nm (p :: xs) = F7 nm xs:=by unfold F7;rw [List.filter_cons,if_neg (by rw [h];simp)]
theorem Tv {nm:ByteArray} {p:ag} {xs:List ag} (h:kd nm p = true):F7 nm (p :: xs) = p.aS :: F7 nm xs:=by unfold F7;rw [List.filter_cons,if_pos h];rfl
theorem Tw {nm:ByteArray} {p:ag} : kd nm p = true↔nm≠⟨#[]⟩∧p.on = nm:=by
 unfold kd;rw [Bool.and_eq_true,Bool.not_eq_true'];constructor
 ·intro ⟨h1,h2⟩;exact ⟨fun e=>(by rw [toList_nil.2 e] at h1;cases h1),ew Ol⟩
 ·intro ⟨h1,h2⟩;refine ⟨?_,by rw [h2];simp⟩;cases h:nm.toList == [] with
  | false=>rfl
  | true=>exact absurd (toList_nil.1 h) h1
theorem Ew {nm:ByteArray} {p:ag} (h:p.on = ⟨#[]⟩∨p.on≠nm):kd nm p = false:=by
 cases e:kd nm p with
 | false=>rfl
 | true =>
   obtain ⟨h1,h2⟩:=Tw.1 e;rcases h with h | h
   ·exact absurd (h2.symm.trans h) h1
   ·exact absurd h2 h
theorem P5 {p:nI} (h:GU p = true):0≤p.aw∧0≤p.mem:=by
 unfold GU at h;simp only [Bool.and_eq_true,decide_eq_true_eq] at h;exact h.1.2
theorem aDS {α:Type} {f:α→Int} {xs ys:List α} (h:xs.Sublist ys) (hn:∀y∈ys,0≤f y):(xs.map f).sum≤(ys.map f).sum:=by
 induction h with
 | slnil=>simp
 | cons a h ih =>have:=ih (fun y hy=>hn y (List.mem_cons_of_mem _ hy));have:=hn a (List.mem_cons_self ..);exact qF
 | cons_cons a h ih =>have:=ih (fun y hy=>hn y (List.mem_cons_of_mem _ hy));exact qF
theorem Tx {nm:ByteArray} {xs ys:List ag} (h:xs.Sublist ys):(F7 nm xs).Sublist (F7 nm ys):=(h.filter _).map _
theorem P6 {nm:ByteArray} {xs:List ag} {p:nI} (h:p∈F7 nm xs):∃q∈xs,p = q.aS:=by
 unfold F7 at h;obtain ⟨q,hq,rfl⟩:=List.mem_map.1 h;exact ⟨q,(List.mem_filter.1 hq).1,rfl⟩
def jb (xs:List ag) (h:ba):Prop:=ki nI.aw h.name xs≤9223372036854775807∧ki nI.mem h.name xs≤9223372036854775807∧ki nI.aw h.name xs≤h.aw∧ki nI.mem h.name xs≤h.mem∧((F7 h.name xs).length:Int)≤h.aq
theorem aAz {nm:ByteArray} {xs:List ag} (hp:∀p∈xs,GU p.aS = true) (h1:ki nI.aw nm xs≤9223372036854775807) (h2:ki nI.mem nm xs≤9223372036854775807):vU (F7 nm xs) = some (ki nI.aw nm xs,ki nI.mem nm xs):=by
 unfold vU ki at *
 have e1:=Tt (xs:=(F7 nm xs).map nI.aw) (s:=0) (fun v hv=>by
  obtain ⟨p,hpm,rfl⟩:=List.mem_map.1 hv;obtain ⟨q,hq,rfl⟩:=P6 hpm
  exact (P5 (hp q hq)).1) O O
 have e2:=Tt (xs:=(F7 nm xs).map nI.mem) (s:=0) (fun v hv=>by
  obtain ⟨p,hpm,rfl⟩:=List.mem_map.1 hv;obtain ⟨q,hq,rfl⟩:=P6 hpm
  exact (P5 (hp q hq)).2) O O
 rw [e1,e2];simp
theorem aCt {nm:ByteArray} {xs:List ag} {a b:Int} (h:vU (F7 nm xs) = some (a,b)):a = ki nI.aw nm xs∧b = ki nI.mem nm xs∧a≤9223372036854775807∧b≤9223372036854775807:=by
 unfold vU at h;cases e1:GZ ((F7 nm xs).map nI.aw) 0 with
 | none=>rw [e1] at h;cases h
 | some m =>
   cases e2:GZ ((F7 nm xs).map nI.mem) 0 with
   | none=>rw [e1,e2] at h;cases h
   | some n =>rw [e1,e2] at h;simp only [Option.some.injEq,Prod.mk.injEq] at h;obtain ⟨rfl,rfl⟩:=h;have h1:=Tu e1 O;have h2:=Tu e2 O;unfold ki;omega
theorem azO {x:aU} {h:ba} (hp:∀p∈x.J,GU p.aS = true):Ch x h = true↔jb x.J h:=by
 constructor
 ·intro hf;cases e:vU (F7 h.name x.J) with
  | none=>rw [ZH e] at hf;cases hf
  | some ab =>obtain ⟨a,b⟩:=ab;rw [Sz e] at hf;simp only [Bool.and_eq_true,decide_eq_true_eq] at hf;obtain ⟨rfl,rfl,h3,h4⟩:=aCt e;exact ⟨h3,h4,hf.1,hf.2.1,hf.2.2⟩
 ·intro ⟨h1,h2,h3,h4,h5⟩;rw [Sz (aAz hp h1 h2)];simp only [Bool.and_eq_true,decide_eq_true_eq];exact ⟨h3,h4,h5⟩
structure cr (x:aU):Prop where
 h8:x.aa.length≤8
 ws:x.J.length≤12
 n1:1≤x.next
 n2:x.next≤1000000000
 wt:zL x.weights.pack x.weights.af x.weights.al = true
 ij:∀h∈x.aa,Aj h = true
 wu:∀h∈x.aa,jb x.J h
 hs:x.aa.Pairwise fun a b=>dQ a b = true
 sI:∀p∈x.J,GU p.aS = true
 wv:∀p∈x.J,1≤p.seq∧p.seq≤x.next - 1
 wy:∀p∈x.J,p.on = ⟨#[]⟩∨∃h∈x.aa,h.name = p.on
 ps:x.J.Pairwise fun a b=>dw a b = true
 pf:x.J.Pairwise fun a b=>a.seq≠b.seq
theorem ayw (a b c:ba) (h1:dQ a b = true) (h2:dQ b c = true):dQ a c = true:=CD _ _ _ h1 h2
theorem axm (a b c:ag) (h1:dw a b = true) (h2:dw b c = true):dw a c = true:=CD _ _ _ h1 h2
theorem P7 {nm:ByteArray} {h:ba} : iM nm h = true↔h.name = nm:=PW _ _
theorem Ty {nm:ByteArray} {p:ag} : CG nm p = true↔p.aS.name = nm:=PW _ _
theorem P' (x:aU):iI x = true↔cr x:=by
 unfold iI Em;simp only [Bool.and_eq_true,decide_eq_true_eq];rw [aCs ayw,aCs axm,aEk];have Qd:∀p,jT x p = true↔GU p.aS = true∧(1≤p.seq∧p.seq≤x.next - 1)∧(p.on = ⟨#[]⟩∨∃h∈x.aa,h.name = p.on):=by
  intro p;unfold jT;simp only [Bool.and_eq_true,Bool.or_eq_true,decide_eq_true_eq,toList_nil,MU,P7]
 constructor
 ·rintro ⟨⟨a,b,⟨c,d⟩,e⟩,⟨f,g⟩,⟨h,i⟩,j⟩;have hp:∀p∈x.J,GU p.aS = true:=fun p hp=>((Qd p).1 (h p hp)).1;refine ⟨O,O,c,d,e,fun y hy=>?_,fun y hy=>?_,g,hp,fun p hp=>((Qd p).1 (h p hp)).2.1,fun p hp=>((Qd p).1 (h p hp)).2.2,i,j⟩
  ·have:=f y hy;unfold dY at this;rw [Bool.and_eq_true] at this;exact this.1
  ·have:=f y hy;unfold dY at this;rw [Bool.and_eq_true] at this;exact (azO hp).1 this.2
 ·intro G;refine ⟨⟨by have:=G.h8;omega,by have:=G.ws;omega,⟨G.n1,G.n2⟩,G.wt⟩,⟨fun y hy=>?_,G.hs⟩,⟨fun p hp=>(Qd p).2 ⟨G.sI p hp,G.wv p hp,G.wy p hp⟩,G.ps⟩,G.pf⟩;unfold dY;rw [Bool.and_eq_true];exact ⟨G.ij y hy,(azO G.sI).2 (G.wu y hy)⟩
theorem jb.sub {xs ys:List ag} {h:ba} (hr:jb ys h) (hs:xs.Sublist ys) (hp:∀p∈ys,GU p.aS = true):jb xs h:=by
 obtain ⟨h1,h2,h3,h4,h5⟩:=hr;have a:=aDS (f:=nI.aw) (Tx (nm:=h.name) hs) (fun y hy=>by obtain ⟨q,hq,rfl⟩:=P6 hy;exact (P5 (hp q hq)).1);have b:=aDS (f:=nI.mem) (Tx (nm:=h.name) hs) (fun y hy=>by obtain ⟨q,hq,rfl⟩:=P6 hy;exact (P5 (hp q hq)).2);have c:=(Tx (nm:=h.name) hs).length_le;unfold jb ki at *;omega
theorem jb.same {xs ys:List ag} {h:ba} (hr:jb ys h) (he:F7 h.name xs = F7 h.name ys):jb xs h:=by unfold jb ki at *;rw [he];exact hr
theorem aJ2 {s:ByteArray} (h:Qs s = true):s≠⟨#[]⟩:=by
 intro e;subst e;unfold Qs at h;simp only [Bool.and_eq_true,decide_eq_true_eq] at h;exact absurd h.1.1.1 (by decide)
theorem TA {h:ba} (hr:Aj h = true):Qs h.name = true:=by
 unfold Aj at hr;simp only [Bool.and_eq_true] at hr;exact hr.1.1.1.1
theorem aFP {h:ba} (hr:Aj h = true):0≤h.aw∧0≤h.mem∧1≤h.aq:=by
 unfold Aj at hr;simp only [Bool.and_eq_true,decide_eq_true_eq] at hr;exact ⟨hr.1.2.1,hr.1.2.2,hr.2.1⟩
theorem Xt {a b:ByteArray} (h:Op.bytesLess a.toList b.toList = true):a≠b:=by
 intro e;subst e;rw [Ek] at h;cases h
def sk (x:ba):ba:=⟨x.name,(BG x.labels).1,x.aw,x.mem,x.aq,(Fq x.aT).1⟩
def bf (x:ba):ba × Bool:=if (BG x.labels).2 = true∧(Fq x.aT).2 = true∧Aj (sk x) = true then (sk x,true) else (x,false)
theorem aCl (x:ba):(sk x).wt≤x.wt:=by
 have h1:=YW x.labels;have h2:=azM x.aT;unfold sk ba.wt;dsimp only;omega
def sB (x:nI):nI:=⟨x.name,(BG x.labels).1,x.aw,x.mem,x.av,(kg x.ai).1,(kw x.ae).1⟩
def jf (x:nI):nI × Bool:=if (BG x.labels).2 = true∧(kg x.ai).2 = true∧(kw x.ae).2 = true∧GU (sB x) = true then (sB x,true) else (x,false)
theorem aDX (x:nI):(sB x).wt≤x.wt:=by
 have h1:=YW x.labels;have h2:=aAu x.ai;have h3:=aBz x.ae;unfold sB nI.wt;dsimp only;omega
theorem aBa {β:Type} {lt:β→β→Bool} (y:β):∀l:List β,(OM lt y l).Perm (y :: l)
 | []=>.refl _
 | x :: l=>by
   unfold OM;split
   ·exact .refl _
   ·exact ((aBa y l).cons x).trans (.swap ..)
theorem axI {β:Type} {lt:β→β→Bool} : ∀ys acc:List β,(aE lt acc ys).Perm (acc++ys)
 | [],acc=>by rw [List.append_nil];exact .refl _
 | y :: ys,acc=>by
   have h:=axI (lt:=lt) ys (OM lt y acc);refine h.trans ?_;have h1:(OM lt y acc++ys).Perm ((y :: acc)++ys):=(aBa y acc).append_right ys;exact h1.trans (List.perm_middle.symm)
theorem aym {x:aU} {i:Nat} (hi:i < (aE (kS jl) [] (eI x.J)).length):∃k,∃hk:k < x.J.length,(aE (kS jl) [] (eI x.J))[i] = EC x.J[k]∧x.J[k].on = ⟨#[]⟩:=by
 have h:=(axI (lt:=kS jl) (eI x.J) []).mem_iff.1 (List.getElem_mem hi);rw [List.nil_append] at h;unfold eI at h;obtain ⟨p,hp,he⟩:=List.mem_map.1 h;obtain ⟨h1,h2⟩:=List.mem_filter.1 hp;obtain ⟨k,hk,rfl⟩:=List.getElem_of_mem h1;exact ⟨k,hk,he.symm,toList_nil.1 h2⟩
theorem ayn {ps:List ag} {i:Nat} (hi:i < (GI ps).length) (VA:i < (aE (kS jl) [] (eI ps)).length):(GI ps)[i] = ((aE (kS jl) [] (eI ps))[i]).1:=List.getElem_map (fun k:ym=>k.1)
theorem aAe (ps:List ag):(GI ps).length = (aE (kS jl) [] (eI ps)).length:=List.length_map ..
theorem aw2 {x:aU} (G:cr x) {k:Nat} (hk:k < x.J.length):pK (CG x.J[k].aS.name) x.J = k:=by
 have h0:0≤pK (CG x.J[k].aS.name) x.J:=MU.2 ⟨_,List.getElem_mem hk,Ty.2 rfl⟩;obtain ⟨h1,h2,h3⟩:=MW (MX h0);rw [Ty] at h2;rw [MX h0];by_cases he:(pK (CG x.J[k].aS.name) x.J).toNat = k
 ·rw [he]
 ·exact absurd h2 (aDC G.ps h1 hk he)
where
 aDC {xs:List ag} (h:xs.Pairwise fun a b=>dw a b = true) {i j:Nat} (hi:i < xs.length) (hj:j < xs.length) (lr:i≠j):xs[i].aS.name≠xs[j].aS.name:=by
  exact Kl
theorem wT {x:aU} (G:cr x) {i:Nat} (hi:i < (GI x.J).length):∃k,∃hk:k < x.J.length,pK (CG (GI x.J)[i]) x.J = k∧(GI x.J)[i] = x.J[k].aS.name∧x.J[k].on = ⟨#[]⟩:=by
 have VA:i < (aE (kS jl) [] (eI x.J)).length:=by rw [← aAe];exact hi
 obtain ⟨k,hk,h1,h2⟩:=aym VA;have e:(GI x.J)[i] = x.J[k].aS.name:=by rw [ayn hi VA,h1];rfl
 exact ⟨k,hk,by rw [e];exact aw2 G hk,e,h2⟩
def Cj (nm:ByteArray) (h:ba):Bool:=Op.bytesLess h.name.toList nm.toList
def fY (nm:ByteArray) (xs:List ba):Nat:=(xs.takeWhile (Cj nm)).length
theorem SF (nm:ByteArray) (xs:List ba):fY nm xs≤xs.length:=by
 unfold fY;induction xs with
 | nil=>simp
 | cons a l ih=>rw [List.takeWhile_cons];split <;> simp <;> omega
theorem SI {nm:ByteArray} : ∀{xs:List ba} {k:Nat},k < fY nm xs→∀(hk:k < xs.length),Cj nm xs[k] = true
 | [],_,h,hk=>absurd hk S'
 | a :: l,0,h,hk=>by
   unfold fY at h;rw [List.takeWhile_cons] at h;split at h
   ·rename_i h2;simpa using h2
   ·simp at h
 | a :: l,k+1,h,hk=>by
   unfold fY at h;rw [List.takeWhile_cons] at h;split at h
   ·simp only [List.getElem_cons_succ];exact SI (xs:=l) (by unfold fY;simpa using h) L7
   ·simp at h
theorem SJ {nm:ByteArray} : ∀{xs:List ba} (hk:fY nm xs < xs.length),Cj nm xs[fY nm xs] = false
 | [],hk=>absurd hk S'
 | a :: l,hk=>by
   by_cases h:Cj nm a = true
   ·have e:fY nm (a :: l) = fY nm l+1:=(by unfold fY;rw [List.takeWhile_cons,if_pos h];rfl);have:=SJ (nm:=nm) (xs:=l) (by rw [e] at hk;simpa using hk);simp only [e,List.getElem_cons_succ];exact this
   ·have e:fY nm (a :: l) = 0:=(by unfold fY;rw [List.takeWhile_cons,if_neg h];rfl);simp only [e,List.getElem_cons_zero];simpa using h
theorem SK {nm:ByteArray} {xs:List ba} {k:Nat} (h1:k≤fY nm xs) (h2:∀hk:k < xs.length,Cj nm xs[k] = false):k = fY nm xs:=by
 have:=SF nm xs;by_cases h:k < fY nm xs
 ·have h3:=SI h O;rw [h2 O] at h3;cases h3
 ·omega
def mW (x:aU) (u:ba):aU × Int :=
 if iI x = true∧(bf u).2 = true then (if 0≤pK (iM (bf u).1.name) x.aa then (x,2) else if 8≤x.aa.length then (x,4) else (⟨f9 (fY (bf u).1.name x.aa) (bf u).1 x.aa,x.J,x.next,x.weights⟩,0)) else (x,1)
def CI (nm:ByteArray) (h:ag):Bool:=Op.bytesLess h.aS.name.toList nm.toList
def fr (nm:ByteArray) (xs:List ag):Nat:=(xs.takeWhile (CI nm)).length
theorem Tj (nm:ByteArray) (xs:List ag):fr nm xs≤xs.length:=by
 unfold fr;induction xs with
 | nil=>simp
 | cons a l ih=>rw [List.takeWhile_cons];split <;> simp <;> omega
theorem Tk {nm:ByteArray} : ∀{xs:List ag} {k:Nat},k < fr nm xs→∀(hk:k < xs.length),CI nm xs[k] = true
 | [],_,h,hk=>absurd hk S'
 | a :: l,0,h,hk=>by
   unfold fr at h;rw [List.takeWhile_cons] at h;split at h
   ·rename_i h2;simpa using h2
   ·simp at h
 | a :: l,k+1,h,hk=>by
   unfold fr at h;rw [List.takeWhile_cons] at h;split at h
   ·simp only [List.getElem_cons_succ];exact Tk (xs:=l) (by unfold fr;simpa using h) L7
   ·simp at h
theorem Tl {nm:ByteArray} : ∀{xs:List ag} (hk:fr nm xs < xs.length),CI nm xs[fr nm xs] = false
 | [],hk=>absurd hk S'
 | a :: l,hk=>by
   by_cases h:CI nm a = true
   ·have e:fr nm (a :: l) = fr nm l+1:=(by unfold fr;rw [List.takeWhile_cons,if_pos h];rfl);have:=Tl (nm:=nm) (xs:=l) (by rw [e] at hk;simpa using hk);simp only [e,List.getElem_cons_succ];exact this
   ·have e:fr nm (a :: l) = 0:=(by unfold fr;rw [List.takeWhile_cons,if_neg h];rfl);simp only [e,List.getElem_cons_zero];simpa using h
theorem Tm {nm:ByteArray} {xs:List ag} {k:Nat} (h1:k≤fr nm xs) (h2:∀hk:k < xs.length,CI nm xs[k] = false):k = fr nm xs:=by
 have:=Tj nm xs;by_cases h:k < fr nm xs
 ·have h3:=Tk h O;rw [h2 O] at h3;cases h3
 ·omega
def eh (x:aU) (n:nI):ag:=⟨n,⟨#[]⟩,x.next⟩
theorem aAf {x:aU} (h:iI x = true):1≤x.next∧x.next≤1000000000:=by
 unfold iI Em at h;simp only [Bool.and_eq_true,decide_eq_true_eq] at h;exact h.1.2.2.1
def l8 (x:aU) (u:nI):aU × Int :=
 if iI x = true∧(jf u).2 = true then (if 0≤pK (CG (jf u).1.name) x.J then (x,2) else if 12≤x.J.length∨1000000000≤x.next then (x,4) else (⟨x.aa,f9 (fr (jf u).1.name x.J) (eh x (jf u).1) x.J,x.next+1,x.weights⟩,0)) else (x,1)
theorem am.eh {w:World} {B:Nat} {x:aU} {n:nI} {cs:List Value} {G:List Nat} (h:am w B n cs G) (hn:bv x.next):am w B (eh x n) (cs++[.string ⟨#[]⟩,.int .i64 x.next]) G:=by
 have h5:am w B ((⟨#[]⟩:ByteArray),x.next) ([.string ⟨#[]⟩]++[.int .i64 x.next]) []:=am.cons (d7 w ⟨#[]⟩ (rV (Nat.zero_le _))) (am.en (jL w x.next hn));have h6:=am.SA h h5 (fun _ _ hb=>by cases hb);rw [List.append_nil] at h6;exact am.up (B':=B) (fun x:ag=>(x.aS,x.on,x.seq)) h6 (Nat.le_refl _)
theorem yb {α:Type} {f:α→Nat} {xs:List α} {n b:Nat} (hl:xs.length≤n) (h:∀x∈xs,f x≤b):kL f xs≤n * (b+1):=by
 have key:∀ys:List α,(∀x∈ys,f x≤b)→kL f ys≤ys.length * (b+1):=by
  intro ys;induction ys with
  | nil=>intro _;simp [kL]
  | cons a l ih =>intro hh;have h1:=ih (fun x hx=>hh x (List.mem_cons_of_mem _ hx));have h2:=hh a (List.mem_cons_self ..);unfold kL at *;simp only [List.length_cons,List.map_cons,List.sum_cons,Nat.add_mul,Nat.one_mul] at *;omega
 exact Nat.le_trans (key xs h) (Nat.mul_le_mul_right _ hl)
theorem M0 {α:Type} {ok:α→Bool} {less:α→α→Bool} {most:Int} {xs:List α} (h:nF ok less most xs = true):(xs.length:Int)≤most∧∀x∈xs,ok x = true:=by
 unfold nF at h;rw [Bool.and_eq_true,decide_eq_true_eq] at h;refine ⟨h.1,fun x hx=>?_⟩;obtain ⟨j,hj,rfl⟩:=List.getElem_of_mem hx;have:=List.all_eq_true.1 h.2 j (List.mem_range.2 hj);exact K9
theorem Qf {s:ByteArray} (h:Cm s = true):s.size≤30:=by
 unfold Cm at h;rw [Bool.and_eq_true,decide_eq_true_eq] at h;omega
theorem Qg {s:ByteArray} (h:AQ s = true):s.size≤20:=by
 unfold AQ at h;simp only [Bool.or_eq_true,Bool.and_eq_true,decide_eq_true_eq] at h;omega
theorem TB {s:ByteArray} (h:Qs s = true):s.size≤20:=by
 unfold Qs at h;exact vt
theorem TC {xs:List aD} (h:sD xs = true):kL aD.wt xs≤306:=by
 obtain ⟨h1,h2⟩:=M0 h;refine yb (n:=6) (b:=50) O fun l hl=>?_;have h3:=h2 l hl;unfold zX at h3;rw [Bool.and_eq_true] at h3;have:=Qf h3.1;have:=Qg h3.2;have e:aD.wt l = l.key.size+l.value.size:=rfl;omega
theorem azE {xs:List iU} (h:La xs = true):kL iU.wt xs≤204:=by
 obtain ⟨h1,h2⟩:=M0 h;refine yb (n:=4) (b:=50) O fun l hl=>?_;have h3:=h2 l hl;unfold Dp at h3;rw [Bool.and_eq_true,Bool.and_eq_true] at h3;have:=Qf h3.1.1;have:=Qg h3.1.2;have e:iU.wt l = l.key.size+l.value.size:=rfl;omega
theorem aBZ {xs:List bH} (h:Ya xs = true):kL bH.wt xs≤204:=by
 obtain ⟨h1,h2⟩:=M0 h;refine yb (n:=4) (b:=50) O fun l hl=>?_;have h3:=h2 l hl;unfold Q5 at h3;simp only [Bool.and_eq_true] at h3;have h4:l.key.size≤30:=by
  have h5:=h3.1.1.1;rw [Bool.or_eq_true,Bool.and_eq_true] at h5;rcases h5 with h5 | h5
  ·exact Qf h5
  ·rw [toList_nil.1 h5.1];decide
 have:=Qg h3.1.1.2;have e:bH.wt l = l.key.size+l.value.size:=rfl;omega
theorem aDL {xs:List bj} (h:mz xs = true):kL bj.wt xs≤460:=by
 obtain ⟨h1,h2⟩:=M0 h;refine yb (n:=4) (b:=114) O fun l hl=>?_;have h3:=h2 l hl;unfold uh at h3;rw [Bool.and_eq_true,Bool.and_eq_true] at h3;have h4:=Qf h3.1.1;have e:bj.wt l = l.key.size+Ea l.values:=rfl;have h5:Ea l.values≤84:=by
  have h6:=h3.2;split at h6
  ·rw [decide_eq_true_eq] at h6;rw [List.eq_nil_of_length_eq_zero h6];decide
  ·rw [Bool.and_eq_true] at h6;obtain ⟨h7,h8⟩:=M0 h6.2;exact yb (n:=4) (b:=20) O fun v hv=>Qg (h8 v hv)
 omega
theorem aFM {h:ba} (hr:Aj h = true):h.wt≤530:=by
 unfold Aj at hr;simp only [Bool.and_eq_true] at hr;have h1:=TB hr.1.1.1.1;have h2:=TC hr.1.1.1.2;have h3:=azE hr.1.1.2;have e:h.wt = h.name.size+kL aD.wt h.labels+kL iU.wt h.aT:=rfl;omega
theorem aGv {p:nI} (hr:GU p = true):p.wt≤990:=by
 unfold GU at hr;simp only [Bool.and_eq_true] at hr;have h1:=TB hr.1.1.1.1.1;have h2:=TC hr.1.1.1.1.2;have h3:=aDL hr.1.1.1.2;have h4:=aBZ hr.1.1.2;have e:p.wt = p.name.size+kL aD.wt p.labels+kL bj.wt p.ai+kL bH.wt p.ae:=rfl;omega
theorem Qh {x:aU} (G:cr x):x.wt≤20000:=by
 have e:x.wt = kL ba.wt x.aa+kL ag.wt x.J:=rfl;have h1:=yb (f:=ba.wt) G.h8 (b:=530) fun h hh=>aFM (G.ij h hh);have h2:=yb (f:=ag.wt) G.ws (b:=1010) fun p hp=>by
  have h3:=aGv (G.sI p hp);have e2:p.wt = p.aS.wt+p.on.size:=rfl;have h4:p.on.size≤20:=by
   rcases G.wy p hp with h5 | ⟨h,hh,h5⟩
   ·rw [h5];decide
   ·rw [← h5];exact TB (TA (G.ij h hh))
  omega
 omega
theorem aFN {x:aU} (G:cr x) (i:Nat):cr ⟨x.aa,x.J.eraseIdx i,x.next,x.weights⟩ :=
 have hs:(x.J.eraseIdx i).Sublist x.J:=List.eraseIdx_sublist ..
 ⟨G.h8,Nat.le_trans hs.length_le G.ws,G.n1,G.n2,G.wt,G.ij,fun h hh=>(G.wu h hh).sub hs G.sI,G.hs,fun p hp=>G.sI p (hs.subset hp),fun p hp=>G.wv p (hs.subset hp),fun p hp=>G.wy p (hs.subset hp),G.ps.sublist hs,G.pf.sublist hs⟩
theorem aCq {xs:List ba} (h:xs.Pairwise fun a b=>dQ a b = true) {i j:Nat} (hi:i < xs.length) (hj:j < xs.length) (lr:i≠j):xs[i].name≠xs[j].name:=by
 exact Kl
theorem aFO {x:aU} (G:cr x) {n:ba} (hn:Aj n = true) (sf:∀h∈x.aa,h.name≠n.name) (hl:x.aa.length < 8):cr ⟨f9 (fY n.name x.aa) n x.aa,x.J,x.next,x.weights⟩:=by
 have hm:∀h,h∈f9 (fY n.name x.aa) n x.aa↔h = n∨h∈x.aa:=by
  intro h;unfold f9;rw [List.mem_append,List.mem_cons];have e:h∈x.aa↔h∈x.aa.take (fY n.name x.aa)∨h∈x.aa.drop (fY n.name x.aa):=by
   rw [← List.mem_append,List.take_append_drop]
  rw [e];constructor
  ·exact vl
  ·exact vl
 refine ⟨by dsimp only;rw [Aw];omega,G.ws,G.n1,G.n2,G.wt,fun h hh=>?_,fun h hh=>?_,?_,G.sI,G.wv,fun p hp=>?_,G.ps,G.pf⟩
 ·rcases (hm h).1 hh with rfl | hh
  ·exact hn
  ·exact G.ij h hh
 ·rcases (hm h).1 hh with rfl | hh
  ·have e:F7 h.name x.J = []:=by
    unfold F7;rw [List.map_eq_nil_iff,List.filter_eq_nil_iff];intro p hp ed;obtain ⟨h1,h2⟩:=Tw.1 ed;rcases G.wy p hp with h3 | ⟨g,hg,h3⟩
    ·exact h1 (h2.symm.trans h3)
    ·exact sf g hg (h3.trans h2)
   have:=aFP hn;unfold jb ki;rw [e];simp only [List.map_nil,List.sum_nil,List.length_nil];omega
  ·exact G.wu h hh
 ·show (f9 (fY n.name x.aa) n x.aa).Pairwise fun a b=>dQ a b = true;unfold f9;have h0:=G.hs;rw [← List.take_append_drop (fY n.name x.aa) x.aa,List.pairwise_append] at h0;have ha:∀a∈x.aa.take (fY n.name x.aa),dQ a n = true:=by
   intro a ha;obtain ⟨i,hi,rfl⟩:=List.mem_take_iff_getElem.1 ha;exact SI O O
  have hb:∀b∈x.aa.drop (fY n.name x.aa),dQ n b = true:=by
   intro b hb;obtain ⟨i,hi,rfl⟩:=List.mem_drop_iff_getElem.1 hb;have h1:dQ n (x.aa[fY n.name x.aa]'O) = true:=by
    have h2:=SJ (nm:=n.name) (xs:=x.aa) O;have h3:=sf _ (List.getElem_mem (l:=x.aa) (n:=fY n.name x.aa) O);unfold Cj at h2;unfold dQ;cases h4:Op.bytesLess n.name.toList (x.aa[fY n.name x.aa]'O).name.toList with
    | true=>rfl
    | false=>exact absurd (ew (El _ _ h2 h4)) h3
   cases i with
   | zero=>simpa using h1
   | succ i=>exact ayw _ _ _ h1 (List.pairwise_iff_getElem.1 G.hs _ _ O O O)
  exact Ke
 ·rcases G.wy p hp with h3 | ⟨g,hg,h3⟩
  ·exact .inl h3
  ·exact .inr ⟨g,(hm g).2 (.inr hg),h3⟩
theorem aD4 {x:aU} (G:cr x) (u:ba):cr (mW x u).1:=by
 unfold mW;split
 ·rename_i hc;split
  ·exact G
  ·rename_i hx;split
   ·exact G
   ·rename_i hl;refine aFO G ?_ (fun h hh e=>hx (MU.2 ⟨h,hh,P7.2 e⟩)) O;have h2:=hc.2;unfold bf at h2 ⊢;split
    ·rename_i h3;exact h3.2.2
    ·rename_i h3;rw [if_neg h3] at h2;cases h2
 ·exact G
theorem aCr {x:aU} (G:cr x) {n:nI} (hn:GU n = true) (sf:∀p∈x.J,p.aS.name≠n.name) (hl:x.J.length < 12) (hx:x.next < 1000000000):cr ⟨x.aa,f9 (fr n.name x.J) (eh x n) x.J,x.next+1,x.weights⟩:=by
 have hm:∀h,h∈f9 (fr n.name x.J) (eh x n) x.J↔h = eh x n∨h∈x.J:=by
  intro h;unfold f9;rw [List.mem_append,List.mem_cons];have e:h∈x.J↔h∈x.J.take (fr n.name x.J)∨h∈x.J.drop (fr n.name x.J):=by
   rw [← List.mem_append,List.take_append_drop]
  rw [e];constructor
  ·exact vl
  ·exact vl
 have ap:∀{i:Nat} (hi:i < x.J.length),i < fr n.name x.J→dw x.J[i] (eh x n) = true:=fun hi h=>Tk h hi;have n1:=G.n1;refine ⟨G.h8,by dsimp only;rw [Aw];omega,by dsimp only;omega,by dsimp only;omega,G.wt,G.ij,fun h hh=>?_,G.hs,fun p hp=>?_,fun p hp=>?_,fun p hp=>?_,?_,?_⟩
 ·refine (G.wu h hh).same ?_;show F7 h.name (f9 _ _ _) = _;unfold f9;rw [Ev,ya (Ew (.inl rfl)),← Ev,List.take_append_drop]
 ·rcases (hm p).1 hp with rfl | hp
  ·exact hn
  ·exact G.sI p hp
 ·rcases (hm p).1 hp with rfl | hp
  ·show 1≤x.next∧x.next≤x.next+1 - 1;omega
  ·have:=G.wv p hp;show 1≤p.seq∧p.seq≤x.next+1 - 1;omega
 ·rcases (hm p).1 hp with rfl | hp
  ·exact .inl rfl
  ·exact G.wy p hp
 ·show (f9 (fr n.name x.J) (eh x n) x.J).Pairwise fun a b=>dw a b = true;unfold f9;have h0:=G.ps;rw [← List.take_append_drop (fr n.name x.J) x.J,List.pairwise_append] at h0;have ha:∀a∈x.J.take (fr n.name x.J),dw a (eh x n) = true:=by
   intro a ha;obtain ⟨i,hi,rfl⟩:=List.mem_take_iff_getElem.1 ha;exact ap O O
  have hb:∀b∈x.J.drop (fr n.name x.J),dw (eh x n) b = true:=by
   intro b hb;obtain ⟨i,hi,rfl⟩:=List.mem_drop_iff_getElem.1 hb;have h1:dw (eh x n) (x.J[fr n.name x.J]'O) = true:=by
    have h2:=Tl (nm:=n.name) (xs:=x.J) O;have h3:=sf _ (List.getElem_mem (l:=x.J) (n:=fr n.name x.J) O);unfold CI at h2;unfold dw eh;dsimp only;cases h4:Op.bytesLess n.name.toList (x.J[fr n.name x.J]'O).aS.name.toList with
    | true=>rfl
    | false=>exact absurd (ew (El _ _ h2 h4)) h3
   cases i with
   | zero=>simpa using h1
   | succ i=>exact axm _ _ _ h1 (List.pairwise_iff_getElem.1 G.ps _ _ O O O)
  exact Ke
 ·show (f9 (fr n.name x.J) (eh x n) x.J).Pairwise fun a b=>a.seq≠b.seq;unfold f9;have h0:=G.pf;rw [← List.take_append_drop (fr n.name x.J) x.J,List.pairwise_append] at h0;have hq:∀p∈x.J,p.seq≠x.next:=fun p hp=>by have:=G.wv p hp;omega
  rw [List.pairwise_append,List.pairwise_cons];refine ⟨h0.1,⟨fun b hb=>(hq b (List.mem_of_mem_drop hb)).symm,h0.2.1⟩,fun a Kf b ei=>?_⟩;rcases List.mem_cons.1 ei with rfl | ei
  ·exact hq a (List.mem_of_mem_take Kf)
  ·exact h0.2.2 a Kf b ei
theorem aD3 {x:aU} (G:cr x) (u:nI):cr (l8 x u).1:=by
 unfold l8;split
 ·rename_i hc;split
  ·exact G
  ·rename_i hx;split
   ·exact G
   ·rename_i hl;refine aCr G ?_ (fun h hh e=>hx (MU.2 ⟨h,hh,Ty.2 e⟩)) O O;have h2:=hc.2;unfold jf at h2 ⊢;split
    ·rename_i h3;exact h3.2.2.2
    ·rename_i h3;rw [if_neg h3] at h2;cases h2
 ·exact G
end Go.Proofs.YtjahcnjmjahbaaaGreat
