/- What a right cluster is, in plain Lean. No condition. -/
import Derived.Test.YtkjeocdobidadaaGreatSelOk
import Derived.Test.YtkjeocdobidadaaGreatRankP
import Derived.Test.YtkjeocdobidadaaGreatUsed
import Derived.Test.YtkjeocdobidadaaGreatData
import Derived.Maps.OwnOps
import Derived.Maps.Views
import Derived.Test.YtkjeocdobidadaaGreatCmp2
namespace Go.Proofs.YtkjeocdobidadaaGreat
open Go.ChangeShapes Go.WideShapes Go.ChangeAt Go.RowKit
set_option linter.unusedVariables false
set_option linter.unusedSimpArgs false
theorem aqB (nm:ByteArray) (xs:List Placed):(F7 nm xs).length≤xs.length:=by unfold F7;rw [List.length_map];exact List.length_filter_le _ _
theorem alL {nm:ByteArray} {xs:List Placed} {a b:Int} (h:vU (F7 nm xs) = some (a,b)):KF nm xs = .tuple #[.int .i64 a,.int .i64 b,.int .i64 (F7 nm xs).length,.bool true]:=by unfold KF;rw [h]
theorem alM {nm:ByteArray} {xs:List Placed} (h:vU (F7 nm xs) = none):KF nm xs = .tuple #[.int .i64 0,.int .i64 0,.int .i64 0,.bool false]:=by unfold KF;rw [h]
def acL (x:aU) (h:Host):Bool:=match vU (F7 h.name x.au) with
 | none=>false
 | some (a,b)=>decide (a≤h.cpu)&&(decide (b≤h.mem)&&decide (((F7 h.name x.au).length:Int)≤h.slots))
def dY (x:aU) (h:Host):Bool:=Aj h&&acL x h
def dQ (a b:Host):Bool:=Op.bytesLess a.name.toList b.name.toList
def jT (x:aU) (p:Placed):Bool:=GU p.aS&&((decide (1≤p.seq)&&decide (p.seq≤x.next - 1))&&((p.on.toList == []) || decide (0≤pK (iM p.on) x.hosts)))
def dw (a b:Placed):Bool:=Op.bytesLess a.aS.name.toList b.aS.name.toList
def seenIn (xs:List Placed) (s:Int):Bool:=xs.any fun q=>q.seq == s
def DN (xs:List Placed) (k:Nat):Bool:=match xs[k]? with | none=>false | some p=>!(seenIn (xs.take k) p.seq)
theorem sG {xs:List Placed} {k:Nat} (h:k < xs.length):DN xs k = !(seenIn (xs.take k) xs[k].seq):=by unfold DN;rw [List.getElem?_eq_getElem h]
def Em (x:aU):Bool:=decide ((x.hosts.length:Int)≤8)&&(decide ((x.au.length:Int)≤12)&&((decide (1≤x.next)&&decide (x.next≤1000000000))&&zL x.weights.pack x.weights.spread x.weights.soft))
def iI (x:aU):Bool:=Em x&&((List.range x.hosts.length).all (rowAt (dY x) dQ x.hosts)&&((List.range x.au.length).all (rowAt (jT x) dw x.au)&&(List.range x.au.length).all (DN x.au)))
theorem oU {x:aU} (h:Em x = false):iI x = false:=by unfold iI;rw [h];rfl
theorem dW {x:aU} {k:Nat} (hk:k < x.hosts.length) (h:rowAt (dY x) dQ x.hosts k = false):iI x = false:=by unfold iI;rw [YF hk h];simp
theorem jP {x:aU} {k:Nat} (hk:k < x.au.length) (h:rowAt (jT x) dw x.au k = false):iI x = false:=by unfold iI;rw [YF hk h];simp
theorem DR {x:aU} {k:Nat} (hk:k < x.au.length) (h:DN x.au k = false):iI x = false:=by unfold iI;rw [YF hk h];simp
theorem OX {x:aU} (h0:Em x = true) (h1:∀j,j < x.hosts.length→rowAt (dY x) dQ x.hosts j = true) (h2:∀j,j < x.au.length→rowAt (jT x) dw x.au j = true) (h3:∀j,j < x.au.length→DN x.au j = true):iI x = true:=by
 unfold iI;rw [h0,YG h1,YG h2,YG h3];rfl
theorem pV {α:Type} {ok:α→Bool} {less:α→α→Bool} {xs:List α} {v:Bool} (h:0 < xs.length) (e:ok xs[0] = v):rowAt ok less xs 0 = v:=by rw [rowAt_zero h,e]
theorem nM {α:Type} {ok:α→Bool} {less:α→α→Bool} {xs:List α} {j:Nat} {v u:Bool} (h:j+1 < xs.length) (e:ok xs[j+1] = v) (e2:less xs[j] xs[j+1] = u):rowAt ok less xs (j+1) = (v&&u):=by rw [yS h,e,e2]
theorem alN {x:aU} {h:Host} (e:vU (F7 h.name x.au) = none):acL x h = false:=by unfold acL;rw [e]
theorem alO {x:aU} {h:Host} {a b:Int} (e:vU (F7 h.name x.au) = some (a,b)):acL x h = (decide (a≤h.cpu)&&(decide (b≤h.mem)&&decide (((F7 h.name x.au).length:Int)≤h.slots))):=by unfold acL;rw [e]
theorem E8 (x:aU) (h:Host):∃(a b n:Int) (okv:Bool),KF h.name x.au = .tuple #[.int .i64 a,.int .i64 b,.int .i64 n,.bool okv]∧acL x h = (okv&&(decide (a≤h.cpu)&&(decide (b≤h.mem)&&decide (n≤h.slots))))∧0≤n∧n≤x.au.length:=by
 cases e:vU (F7 h.name x.au) with
 | none=>exact ⟨0,0,0,false,alM e,by rw [alN e];rfl,O',O'⟩
 | some ab =>obtain ⟨a,b⟩:=ab;have:=aqB h.name x.au;exact ⟨a,b,(F7 h.name x.au).length,true,alL e,by rw [alO e];rfl,O',O'⟩
theorem Sl.Ec {w:World} {xs:List Placed} {A:Option Addr} {c:Nat} {F:List Nat} (h:Sl w xs A c F):∀p∈xs,I64 p.seq:=by
 intro p hp;obtain ⟨k,hk,rfl⟩:=List.getElem_of_mem hp;obtain ⟨b,o,ck,Fk,_,_,_,hr,_⟩:=h.get hk;obtain ⟨gV,gW,lF,iR,iT,mV,dD,dF,iH,hck,hF,nY,iE,rF,rG,oZ,je,dN,hon,hseq⟩:=kE hr;exact hseq
end Go.Proofs.YtkjeocdobidadaaGreat
namespace Go.Proofs.YtkjeocdobidadaaGreat
open Go.ChangeShapes Go.WideShapes Go.ChangeAt Go.RowKit
set_option linter.unusedVariables false
set_option linter.unusedSimpArgs false
open Go.Maps (Keyed)
theorem NY {H:Type} {P:Program} {w:World} {t k e:TypeId} {b n:Nat} {D:DataW H} (h:w.ownsMap P k (plainElem P e) b n D) (K:Keyed P k) (ht:P.underlying t = some (.map k e)) (he:P.underlying e = some .bool) (hz:(zeroValue e).run P w = .ok (.bool false) w)
 {key:Value} {kl:Lit} (hkey:keyOf P k key = some kl) {c:Bool} (hat:D.atKey kl (.lit (.bool false)) = .lit (.bool c)):(Instr.lookup t (.map (some b)) key false).run P w = .ok (.bool c) w:=by
 obtain ⟨v,ps,hrun,hv⟩:=h.lookup K ht hz (plainElem_bool he false) hkey;rw [hat] at hv;unfold plainElem at hv;rw [he] at hv;cases v <;> simp at hv
 obtain ⟨rfl,_⟩:=hv;exact hrun
def anK (xs:List Placed):DataW Unit:=xs.foldl (fun D p=>D.put (.int .i64 p.seq) (.lit (.bool true))) (.map [])
theorem J3 (xs:List Placed) (p:Placed):anK (xs++[p]) = (anK xs).put (.int .i64 p.seq) (.lit (.bool true)):=by unfold anK;rw [List.foldl_append];rfl
theorem aqk (s:Int) (hs:I64 s):WideAt.IsKeyLit (.int .i64 s):=by
 simp [WideAt.IsKeyLit]
theorem adr (s:Int) (hs:I64 s):∀(xs:List Placed) (D:DataW Unit) (c:Bool),Maps.IsMap D→D.atKey (.int .i64 s) (.lit (.bool false)) = .lit (.bool c) →
 (xs.foldl (fun D p=>D.put (.int .i64 p.seq) (.lit (.bool true))) D).atKey (.int .i64 s) (.lit (.bool false)) = .lit (.bool (c || seenIn xs s))
 | [],D,c,_,h=>by simpa [seenIn] using h
 | p :: xs,D,c,hD,h=>by
   rw [List.foldl_cons];by_cases e:p.seq = s
   ·rw [adr s hs xs _ true (hD.put _ _) (by rw [e];exact Maps.atKey_put_same hD (aqk s hs) _ _)];simp [seenIn,e]
   ·rw [adr s hs xs _ c (hD.put _ _) (by rw [Maps.atKey_put_other (by intro h2;apply e;injection h2 with _ h3;exact h3.symm)];exact h)];have e2:(p.seq == s) = false:=(by simpa using e);simp [seenIn,e2]
theorem aeY (xs:List Placed) (s:Int) (hs:I64 s):(anK xs).atKey (.int .i64 s) (.lit (.bool false)) = .lit (.bool (seenIn xs s)):=by
 have h:=adr s hs xs (.map []) false Maps.isMap_empty rfl;simpa [anK] using h
theorem Oy:Keyed Tryz.prog 3:=Maps.int_keyed Tryz.underlying3
theorem abl (w:World):(zeroValue 4).run Tryz.prog w = .ok (.bool false) w:=by kernel_rfl
theorem grown_of {w w':World} (hb:Below w.heap.size w w'):w.grownBy w' none:=⟨hb.os,hb.tape,hb.output,hb.size,fun k hk _=>hb.block k hk⟩
end Go.Proofs.YtkjeocdobidadaaGreat
namespace Go.Proofs.YtkjeocdobidadaaGreat
open Go.ChangeShapes Go.WideShapes Go.ChangeAt Go.RowKit
set_option linter.unusedVariables false
set_option linter.unusedSimpArgs false
theorem rows_iff {α:Type} {ok:α→Bool} {less:α→α→Bool} (tr:∀a b c,less a b = true→less b c = true→less a c = true) (xs:List α) :
 (List.range xs.length).all (rowAt ok less xs) = true↔(∀x∈xs,ok x = true)∧xs.Pairwise fun a b=>less a b = true:=by
 constructor
 ·intro h;have h':∀j,j < xs.length→rowAt ok less xs j = true:=fun j hj=>List.all_eq_true.1 h j (List.mem_range.2 hj);constructor
  ·intro x hx;obtain ⟨j,hj,rfl⟩:=List.getElem_of_mem hx;have:=h' j hj;cases j with
   | zero=>rwa [rowAt_zero hj] at this
   | succ i=>rw [yS hj,Bool.and_eq_true] at this;exact this.1
  ·rw [List.pairwise_iff_getElem];intro i j hi hj hij;obtain ⟨d,rfl⟩:∃d,j = i+d+1:=⟨j - i - 1,O'⟩;clear hij;induction d with
   | zero=>have:=h' (i+1) hj;rw [yS (j:=i) hj,Bool.and_eq_true] at this;exact this.2
   | succ d ih =>have h1:=ih O';have:=h' (i+d+1+1) hj;rw [yS (j:=i+d+1) hj,Bool.and_eq_true] at this;exact tr _ _ _ h1 this.2
 ·intro ⟨h1,h2⟩;refine YG fun j hj=>?_;cases j with
  | zero=>rw [rowAt_zero hj];exact h1 _ (List.getElem_mem hj)
  | succ i=>rw [yS hj,Bool.and_eq_true];exact ⟨h1 _ (List.getElem_mem hj),List.pairwise_iff_getElem.1 h2 i (i+1) O' hj O'⟩
theorem fresh_iff (xs:List Placed):(List.range xs.length).all (DN xs) = true↔xs.Pairwise fun a b=>a.seq≠b.seq:=by
 rw [List.pairwise_iff_getElem];constructor
 ·intro h i j hi hj hij e;have h1:=List.all_eq_true.1 h j (List.mem_range.2 hj);rw [sG hj] at h1;have h2:seenIn (xs.take j) xs[j].seq = true:=by
   unfold seenIn;rw [List.any_eq_true];exact ⟨xs[i],List.mem_take_iff_getElem.2 ⟨i,O',rfl⟩,by simp [e]⟩
  rw [h2] at h1;cases h1
 ·intro h;refine YG fun j hj=>?_;rw [sG hj];have h2:seenIn (xs.take j) xs[j].seq = false:=by
   unfold seenIn;rw [List.any_eq_false];intro q hq;obtain ⟨i,hi,rfl⟩:=List.mem_take_iff_getElem.1 hq;have:=h i j O' hj O';simpa using this
  rw [h2];rfl
theorem bytes_eq {a b:ByteArray} (h:a.toList = b.toList):a = b:=(PW a b).1 (by unfold eqStr;rw [h];simp)
theorem toList_nil {a:ByteArray} : (a.toList == []) = true↔a = ⟨#[]⟩:=by
 constructor
 ·intro h;refine bytes_eq ?_;have h1:a.toList = []:=by simpa using h
  rw [h1,ByteArray.toList_eq]
 ·intro h;subst h;rw [ByteArray.toList_eq];rfl
theorem idxI_nonneg {α:Type} {p:α→Bool} : ∀{xs:List α},0≤pK p xs↔∃x∈xs,p x = true
 | []=>by simp [pK]
 | x :: xs=>by
   have ih:=idxI_nonneg (p:=p) (xs:=xs);unfold pK;by_cases h:p x = true
   ·simp [h]
   ·rw [if_neg h];by_cases h1:pK p xs < 0
    ·rw [if_pos h1];constructor
     ·intro hh;omega
     ·intro ⟨y,hy,hp⟩;rcases List.mem_cons.1 hy with rfl | hy
      ·exact absurd hp h
      ·exact absurd (ih.2 ⟨y,hy,hp⟩) O'
    ·rw [if_neg h1];obtain ⟨y,hy,hp⟩:=ih.1 O';exact ⟨fun _=>⟨y,List.mem_cons_of_mem _ hy,hp⟩,fun _=>by omega⟩
theorem idxI_at {α:Type} {p:α→Bool} : ∀{xs:List α} {k:Nat},pK p xs = k→∃hk:k < xs.length,p xs[k] = true∧∀j (hj:j < k),p (xs[j]'O') = false
 | [],k,h=>by simp only [pK] at h;omega
 | x :: xs,k,h=>by
   unfold pK at h;by_cases hp:p x = true
   ·rw [if_pos hp] at h;obtain rfl:k = 0:=by omega
    exact ⟨S',hp,fun j hj=>absurd hj O'⟩
   ·rw [if_neg hp] at h;by_cases h1:pK p xs < 0
    ·rw [if_pos h1] at h;omega
    ·rw [if_neg h1] at h;obtain ⟨i,rfl⟩:∃i,k = i+1:=⟨k - 1,O'⟩;obtain ⟨hk,h2,h3⟩:=idxI_at (p:=p) (xs:=xs) (k:=i) O';refine ⟨by simpa using hk,by simpa using h2,fun j hj=>?_⟩;cases j with
     | zero=>simpa using hp
     | succ j=>simpa using h3 j O'
theorem idxI_toNat {α:Type} {p:α→Bool} {xs:List α} (h:0≤pK p xs):pK p xs = (pK p xs).toNat:=by omega
theorem sumI_yes:∀{xs:List Int} {s:Int},(∀x∈xs,0≤x)→0≤s→s+xs.sum≤9223372036854775807→GZ xs s = some (s+xs.sum)
 | [],s,_,_,_=>by simp [GZ]
 | x :: xs,s,h,hs,hm=>by
   have hx:=h x (List.mem_cons_self ..);have h2:∀y∈xs,0≤y:=fun y hy=>h y (List.mem_cons_of_mem _ hy);have h3:0≤xs.sum:=by
    clear hm h;induction xs with
    | nil=>simp
    | cons a l ih=>simp only [List.sum_cons];have:=h2 a (List.mem_cons_self ..);have:=ih (fun y hy=>h2 y (List.mem_cons_of_mem _ hy));omega
   simp only [List.sum_cons] at hm ⊢;have e:GX s x = some (s+x):=(by unfold GX;rw [if_neg O']);simp only [GZ,e];rw [sumI_yes h2 O' O'];congr 1;omega
theorem sumI_of:∀{xs:List Int} {s t:Int},GZ xs s = some t→s≤9223372036854775807→t = s+xs.sum∧t≤9223372036854775807
 | [],s,t,h,hs=>by simp only [GZ,Option.some.injEq] at h;subst h;simp;omega
 | x :: xs,s,t,h,hs=>by
   simp only [GZ] at h;cases e:GX s x with
   | none=>rw [e] at h;cases h
   | some m =>
     rw [e] at h;unfold GX at e;split at e
     ·cases e
     ·rename_i hn;cases e
      have:=sumI_of h O';simp only [List.sum_cons];omega
def sumAt (f:nI→Int) (nm:ByteArray) (xs:List Placed):Int:=((F7 nm xs).map f).sum
theorem onL_app (nm:ByteArray) (xs ys:List Placed):F7 nm (xs++ys) = F7 nm xs++F7 nm ys:=by unfold F7;rw [List.filter_append,List.map_append]
theorem onL_consN {nm:ByteArray} {p:Placed} {xs:List Placed} (h:onP nm p = false):F7 nm (p :: xs) = F7 nm xs:=by unfold F7;rw [List.filter_cons,if_neg (by rw [h];simp)]
theorem onL_consY {nm:ByteArray} {p:Placed} {xs:List Placed} (h:onP nm p = true):F7 nm (p :: xs) = p.aS :: F7 nm xs:=by unfold F7;rw [List.filter_cons,if_pos h];rfl
theorem onP_iff {nm:ByteArray} {p:Placed} : onP nm p = true↔nm≠⟨#[]⟩∧p.on = nm:=by
 unfold onP;rw [Bool.and_eq_true,Bool.not_eq_true'];constructor
 ·intro ⟨h1,h2⟩;exact ⟨fun e=>(by rw [toList_nil.2 e] at h1;cases h1),bytes_eq (by simpa using h2)⟩
 ·intro ⟨h1,h2⟩;refine ⟨?_,by rw [h2];simp⟩;cases h:nm.toList == [] with
  | false=>rfl
  | true=>exact absurd (toList_nil.1 h) h1
theorem onP_not {nm:ByteArray} {p:Placed} (h:p.on = ⟨#[]⟩∨p.on≠nm):onP nm p = false:=by
 cases e:onP nm p with
 | false=>rfl
 | true =>
   obtain ⟨h1,h2⟩:=onP_iff.1 e;rcases h with h | h
   ·exact absurd (h2.symm.trans h) h1
   ·exact absurd h2 h
theorem podR_nn {p:nI} (h:GU p = true):0≤p.cpu∧0≤p.mem:=by
 unfold GU at h;simp only [Bool.and_eq_true,decide_eq_true_eq] at h;exact h.1.2
theorem sum_sub {α:Type} {f:α→Int} {xs ys:List α} (h:xs.Sublist ys) (hn:∀y∈ys,0≤f y):(xs.map f).sum≤(ys.map f).sum:=by
 induction h with
 | slnil=>simp
 | cons a h ih =>have:=ih (fun y hy=>hn y (List.mem_cons_of_mem _ hy));have:=hn a (List.mem_cons_self ..);exact Zad7
 | cons_cons a h ih =>have:=ih (fun y hy=>hn y (List.mem_cons_of_mem _ hy));exact Zad7
theorem onL_sub {nm:ByteArray} {xs ys:List Placed} (h:xs.Sublist ys):(F7 nm xs).Sublist (F7 nm ys):=(h.filter _).map _
theorem onL_memP {nm:ByteArray} {xs:List Placed} {p:nI} (h:p∈F7 nm xs):∃q∈xs,p = q.aS:=by
 unfold F7 at h;obtain ⟨q,hq,rfl⟩:=List.mem_map.1 h;exact ⟨q,(List.mem_filter.1 hq).1,rfl⟩
def Room (xs:List Placed) (h:Host):Prop:=sumAt nI.cpu h.name xs≤9223372036854775807∧sumAt nI.mem h.name xs≤9223372036854775807∧sumAt nI.cpu h.name xs≤h.cpu∧sumAt nI.mem h.name xs≤h.mem∧((F7 h.name xs).length:Int)≤h.slots
theorem sumsR_yes {nm:ByteArray} {xs:List Placed} (hp:∀p∈xs,GU p.aS = true) (h1:sumAt nI.cpu nm xs≤9223372036854775807) (h2:sumAt nI.mem nm xs≤9223372036854775807):vU (F7 nm xs) = some (sumAt nI.cpu nm xs,sumAt nI.mem nm xs):=by
 unfold vU sumAt at *
 have e1:=sumI_yes (xs:=(F7 nm xs).map nI.cpu) (s:=0) (fun v hv=>by
  obtain ⟨p,hpm,rfl⟩:=List.mem_map.1 hv;obtain ⟨q,hq,rfl⟩:=onL_memP hpm
  exact (podR_nn (hp q hq)).1) O' O'
 have e2:=sumI_yes (xs:=(F7 nm xs).map nI.mem) (s:=0) (fun v hv=>by
  obtain ⟨p,hpm,rfl⟩:=List.mem_map.1 hv;obtain ⟨q,hq,rfl⟩:=onL_memP hpm
  exact (podR_nn (hp q hq)).2) O' O'
 rw [e1,e2];simp
theorem sumsR_of {nm:ByteArray} {xs:List Placed} {a b:Int} (h:vU (F7 nm xs) = some (a,b)):a = sumAt nI.cpu nm xs∧b = sumAt nI.mem nm xs∧a≤9223372036854775807∧b≤9223372036854775807:=by
 unfold vU at h;cases e1:GZ ((F7 nm xs).map nI.cpu) 0 with
 | none=>rw [e1] at h;cases h
 | some m =>
   cases e2:GZ ((F7 nm xs).map nI.mem) 0 with
   | none=>rw [e1,e2] at h;cases h
   | some n =>rw [e1,e2] at h;simp only [Option.some.injEq,Prod.mk.injEq] at h;obtain ⟨rfl,rfl⟩:=h;have h1:=sumI_of e1 O';have h2:=sumI_of e2 O';unfold sumAt;omega
theorem fineOn_iff {x:aU} {h:Host} (hp:∀p∈x.au,GU p.aS = true):acL x h = true↔Room x.au h:=by
 constructor
 ·intro hf;cases e:vU (F7 h.name x.au) with
  | none=>rw [alN e] at hf;cases hf
  | some ab =>obtain ⟨a,b⟩:=ab;rw [alO e] at hf;simp only [Bool.and_eq_true,decide_eq_true_eq] at hf;obtain ⟨rfl,rfl,h3,h4⟩:=sumsR_of e;exact ⟨h3,h4,hf.1,hf.2.1,hf.2.2⟩
 ·intro ⟨h1,h2,h3,h4,h5⟩;rw [alO (sumsR_yes hp h1 h2)];simp only [Bool.and_eq_true,decide_eq_true_eq];exact ⟨h3,h4,h5⟩
structure Good (x:aU):Prop where
 h8:x.hosts.length≤8
 p12:x.au.length≤12
 n1:1≤x.next
 n2:x.next≤1000000000
 wt:zL x.weights.pack x.weights.spread x.weights.soft = true
 hok:∀h∈x.hosts,Aj h = true
 hin:∀h∈x.hosts,Room x.au h
 hs:x.hosts.Pairwise fun a b=>dQ a b = true
 pok:∀p∈x.au,GU p.aS = true
 pseq:∀p∈x.au,1≤p.seq∧p.seq≤x.next - 1
 pon:∀p∈x.au,p.on = ⟨#[]⟩∨∃h∈x.hosts,h.name = p.on
 ps:x.au.Pairwise fun a b=>dw a b = true
 pf:x.au.Pairwise fun a b=>a.seq≠b.seq
theorem hostLess_tr (a b c:Host) (h1:dQ a b = true) (h2:dQ b c = true):dQ a c = true:=apx _ _ _ h1 h2
theorem placedLess_tr (a b c:Placed) (h1:dw a b = true) (h2:dw b c = true):dw a c = true:=apx _ _ _ h1 h2
theorem hostatP_iff {nm:ByteArray} {h:Host} : iM nm h = true↔h.name = nm:=PW _ _
theorem podatP_iff {nm:ByteArray} {p:Placed} : CG nm p = true↔p.aS.name = nm:=PW _ _
theorem good_iff (x:aU):iI x = true↔Good x:=by
 unfold iI Em;simp only [Bool.and_eq_true,decide_eq_true_eq];rw [rows_iff hostLess_tr,rows_iff placedLess_tr,fresh_iff];have hpx:∀p,jT x p = true↔GU p.aS = true∧(1≤p.seq∧p.seq≤x.next - 1)∧(p.on = ⟨#[]⟩∨∃h∈x.hosts,h.name = p.on):=by
  intro p;unfold jT;simp only [Bool.and_eq_true,Bool.or_eq_true,decide_eq_true_eq,toList_nil,idxI_nonneg,hostatP_iff]
 constructor
 ·rintro ⟨⟨a,b,⟨c,d⟩,e⟩,⟨f,g⟩,⟨h,i⟩,j⟩;have hp:∀p∈x.au,GU p.aS = true:=fun p hp=>((hpx p).1 (h p hp)).1;refine ⟨O',O',c,d,e,fun y hy=>?_,fun y hy=>?_,g,hp,fun p hp=>((hpx p).1 (h p hp)).2.1,fun p hp=>((hpx p).1 (h p hp)).2.2,i,j⟩
  ·have:=f y hy;unfold dY at this;rw [Bool.and_eq_true] at this;exact this.1
  ·have:=f y hy;unfold dY at this;rw [Bool.and_eq_true] at this;exact (fineOn_iff hp).1 this.2
 ·intro G;refine ⟨⟨by have:=G.h8;omega,by have:=G.p12;omega,⟨G.n1,G.n2⟩,G.wt⟩,⟨fun y hy=>?_,G.hs⟩,⟨fun p hp=>(hpx p).2 ⟨G.pok p hp,G.pseq p hp,G.pon p hp⟩,G.ps⟩,G.pf⟩;unfold dY;rw [Bool.and_eq_true];exact ⟨G.hok y hy,(fineOn_iff G.pok).2 (G.hin y hy)⟩
theorem Room.sub {xs ys:List Placed} {h:Host} (hr:Room ys h) (hs:xs.Sublist ys) (hp:∀p∈ys,GU p.aS = true):Room xs h:=by
 obtain ⟨h1,h2,h3,h4,h5⟩:=hr;have a:=sum_sub (f:=nI.cpu) (onL_sub (nm:=h.name) hs) (fun y hy=>by obtain ⟨q,hq,rfl⟩:=onL_memP hy;exact (podR_nn (hp q hq)).1);have b:=sum_sub (f:=nI.mem) (onL_sub (nm:=h.name) hs) (fun y hy=>by obtain ⟨q,hq,rfl⟩:=onL_memP hy;exact (podR_nn (hp q hq)).2);have c:=(onL_sub (nm:=h.name) hs).length_le;unfold Room sumAt at *;omega
theorem Room.same {xs ys:List Placed} {h:Host} (hr:Room ys h) (he:F7 h.name xs = F7 h.name ys):Room xs h:=by unfold Room sumAt at *;rw [he];exact hr
theorem nameR_ne {s:ByteArray} (h:Qs s = true):s≠⟨#[]⟩:=by
 intro e;subst e;unfold Qs at h;simp only [Bool.and_eq_true,decide_eq_true_eq] at h;exact absurd h.1.1.1 (by decide)
theorem hostR_name {h:Host} (hr:Aj h = true):Qs h.name = true:=by
 unfold Aj at hr;simp only [Bool.and_eq_true] at hr;exact hr.1.1.1.1
theorem hostR_nn {h:Host} (hr:Aj h = true):0≤h.cpu∧0≤h.mem∧1≤h.slots:=by
 unfold Aj at hr;simp only [Bool.and_eq_true,decide_eq_true_eq] at hr;exact ⟨hr.1.2.1,hr.1.2.2,hr.2.1⟩
theorem bl_ne {a b:ByteArray} (h:Op.bytesLess a.toList b.toList = true):a≠b:=by
 intro e;subst e;rw [ak0] at h;cases h
end Go.Proofs.YtkjeocdobidadaaGreat
