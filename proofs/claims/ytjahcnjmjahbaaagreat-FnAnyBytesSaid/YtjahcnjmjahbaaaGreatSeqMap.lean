/- A map from numbers to bools that the call has made. No condition. -/
import Derived.Test.YtjahcnjmjahbaaaGreatPodOk
import Derived.Test.YtjahcnjmjahbaaaGreatByteLt
namespace Go.Proofs.YtjahcnjmjahbaaaGreat
open Go.ChangeShapes Go.WideShapes Go.ChangeAt Go.RowKit
set_option linter.unusedVariables false
set_option linter.unusedSimpArgs false
open Go.Maps (Keyed)
theorem NY {H:Type} {P:Program} {w:World} {t k e:TypeId} {b n:Nat} {D:DataW H} (h:w.ownsMap P k (plainElem P e) b n D) (K:Keyed P k) (ht:P.underlying t = some (.map k e)) (he:P.underlying e = some .bool) (hz:(zeroValue e).run P w = .ok (.bool false) w)
 {key:Value} {kl:Lit} (b9:keyOf P k key = some kl) {c:Bool} (cD:D.atKey kl (.lit (.bool false)) = .lit (.bool c)):(Instr.lookup t (.map (some b)) key false).run P w = .ok (.bool c) w:=by
 obtain ⟨v,ps,hrun,hv⟩:=h.lookup K ht hz (plainElem_bool he false) b9;rw [cD] at hv;unfold plainElem at hv;rw [he] at hv;cases v <;> simp at hv
 obtain ⟨rfl,_⟩:=hv;exact hrun
def IY (xs:List ag):DataW Unit:=xs.foldl (λD p=>D.put (.int .i64 p.seq) (.lit (.bool true))) (.map [])
theorem J3 (xs:List ag) (p:ag):IY (xs++[p]) = (IY xs).put (.int .i64 p.seq) (.lit (.bool true)):=by unfold IY;rw [List.foldl_append];rfl
theorem aqk (s:Int) (hs:aR s):WideAt.IsKeyLit (.int .i64 s):=by
 simp [WideAt.IsKeyLit]
theorem Zd (s:Int) (hs:aR s):∀(xs:List ag) (D:DataW Unit) (c:Bool),Maps.IsMap D->D.atKey (.int .i64 s) (.lit (.bool false)) = .lit (.bool c) ->
 (xs.foldl (λD p=>D.put (.int .i64 p.seq) (.lit (.bool true))) D).atKey (.int .i64 s) (.lit (.bool false)) = .lit (.bool (c || seenIn xs s))
 | [],D,c,_,h=>by simpa [seenIn] using h
 | p :: xs,D,c,hD,h=>by
   rw [List.foldl_cons];by_cases e:p.seq = s
   ·rw [Zd s hs xs _ true (hD.put _ _) (by rw [e];exact Maps.atKey_put_same hD (aqk s hs) _ _)];simp [seenIn,e]
   ·rw [Zd s hs xs _ c (hD.put _ _) (by rw [Maps.atKey_put_other (by intro h2;apply e;injection h2 with _ h3;exact h3.symm)];exact h)];have e2:(p.seq == s) = false:=(by simpa using e);simp [seenIn,e2]
theorem aeY (xs:List ag) (s:Int) (hs:aR s):(IY xs).atKey (.int .i64 s) (.lit (.bool false)) = .lit (.bool (seenIn xs s)):=by
 have h:=Zd s hs xs (.map []) false Maps.isMap_empty rfl;simpa [IY] using h
theorem Oy:Keyed Tryz.prog 3:=Maps.int_keyed Tryz.underlying3
theorem abl (w:World):(zeroValue 4).run Tryz.prog w = .ok (.bool false) w:=by kernel_rfl
theorem grown_of {w w':World} (hb:Below w.heap.size w w'):w.grownBy w' none:=⟨hb.os,hb.tape,hb.output,hb.size,λk hk _=>hb.block k hk⟩
end Go.Proofs.YtjahcnjmjahbaaaGreat
namespace Go.Proofs.YtjahcnjmjahbaaaGreat
open Go.ChangeShapes Go.WideShapes Go.ChangeAt Go.RowKit
set_option linter.unusedVariables false
set_option linter.unusedSimpArgs false
theorem aCs {α:Type} {ok:α->Bool} {less:α->α->Bool} (tr:∀a b c,less a b = true->less b c = true->less a c = true) (xs:List α) :
 (List.range xs.length).all (rowAt ok less xs) = true↔(∀x∈xs,ok x = true)/\xs.Pairwise λa b=>less a b = true:=by
 constructor
 ·intro h;have h':∀j,j < xs.length->rowAt ok less xs j = true:=λj hj=>List.all_eq_true.1 h j (List.mem_range.2 hj);constructor
  ·intro x hx;obtain ⟨j,hj,rfl⟩:=List.getElem_of_mem hx;have:=h' j hj;exact Nv
  ·rw [List.pairwise_iff_getElem];intro i j hi hj ry;obtain ⟨d,rfl⟩:∃d,j = i+d+1:=⟨j - i - 1,J⟩;clear ry;induction d with
   | zero=>have:=h' (i+1) hj;rw [yS (j:=i) hj,Bool.and_eq_true] at this;exact this.2
   | succ d ih =>have h1:=ih J;have:=h' (i+d+1+1) hj;rw [yS (j:=i+d+1) hj,Bool.and_eq_true] at this;exact tr _ _ _ h1 this.2
 ·intro ⟨h1,h2⟩;refine YG λj hj=>?_;cases j with
  | zero=>rw [bF hj];exact h1 _ (List.getElem_mem hj)
  | succ i=>rw [yS hj,Bool.and_eq_true];exact ⟨h1 _ (List.getElem_mem hj),List.pairwise_iff_getElem.1 h2 i (i+1) J hj J⟩
theorem aEk (xs:List ag):(List.range xs.length).all (DN xs) = true↔xs.Pairwise λa b=>a.seq≠b.seq:=by
 rw [List.pairwise_iff_getElem];constructor
 ·intro h i j hi hj ry e;have h1:=List.all_eq_true.1 h j (List.mem_range.2 hj);rw [sG hj] at h1;have h2:seenIn (xs.take j) xs[j].seq = true:=by
   unfold seenIn;rw [List.any_eq_true];exact ⟨xs[i],List.mem_take_iff_getElem.2 ⟨i,J,rfl⟩,by simp [e]⟩
  rw [h2] at h1;cases h1
 ·intro h;refine YG λj hj=>?_;rw [sG hj];have h2:seenIn (xs.take j) xs[j].seq = false:=by
   unfold seenIn;rw [List.any_eq_false];intro q hq;obtain ⟨i,hi,rfl⟩:=List.mem_take_iff_getElem.1 hq;have:=h i j J hj J;simpa using this
  rw [h2];rfl
theorem eh {a b:ByteArray} (h:a.toList = b.toList):a = b:=(PW a b).1 (by unfold lf;rw [h];simp)
theorem toList_nil {a:ByteArray} : (a.toList == []) = true↔a = ⟨#[]⟩:=by
 constructor
 ·intro h;refine eh ?_;have h1:a.toList = []:=by simpa using h
  rw [h1,ByteArray.toList_eq]
 ·intro h;subst h;rw [ByteArray.toList_eq];rfl
theorem PM {α:Type} {p:α->Bool} : ∀{xs:List α},0<=pK p xs↔∃x∈xs,p x = true
 | []=>by simp [pK]
 | x :: xs=>by
   have ih:=PM (p:=p) (xs:=xs);unfold pK;by_cases h:p x = true
   ·simp [h]
   ·rw [if_neg h];by_cases h1:pK p xs < 0
    ·rw [if_pos h1];constructor
     ·intro hh;omega
     ·intro ⟨y,hy,hp⟩;rcases List.mem_cons.1 hy with rfl | hy
      ·exact absurd hp h
      ·exact absurd (ih.2 ⟨y,hy,hp⟩) J
    ·rw [if_neg h1];obtain ⟨y,hy,hp⟩:=ih.1 J;exact ⟨λ_=>⟨y,List.mem_cons_of_mem _ hy,hp⟩,λ_=>by omega⟩
theorem PN {α:Type} {p:α->Bool} : ∀{xs:List α} {k:Nat},pK p xs = k->∃hk:k < xs.length,p xs[k] = true/\∀j (hj:j < k),p (xs[j]'J) = false
 | [],k,h=>by simp only [pK] at h;omega
 | x :: xs,k,h=>by
   unfold pK at h;by_cases hp:p x = true
   ·rw [if_pos hp] at h;obtain rfl:k = 0:=by omega
    exact ⟨S',hp,λj hj=>absurd hj J⟩
   ·rw [if_neg hp] at h;by_cases h1:pK p xs < 0
    ·rw [if_pos h1] at h;omega
    ·rw [if_neg h1] at h;obtain ⟨i,rfl⟩:∃i,k = i+1:=⟨k - 1,J⟩;obtain ⟨hk,h2,h3⟩:=PN (p:=p) (xs:=xs) (k:=i) J;refine ⟨by simpa using hk,by simpa using h2,λj hj=>?_⟩;cases j with
     | zero=>simpa using hp
     | succ j=>simpa using h3 j J
theorem PP {α:Type} {p:α->Bool} {xs:List α} (h:0<=pK p xs):pK p xs = (pK p xs).toNat:=by omega
theorem YL:∀{xs:List Int} {s:Int},(∀x∈xs,0<=x)->0<=s->s+xs.sum<=9223372036854775807->GZ xs s = some (s+xs.sum)
 | [],s,_,_,_=>by simp [GZ]
 | x :: xs,s,h,hs,hm=>by
   have hx:=h x (List.mem_cons_self ..);have h2:∀y∈xs,0<=y:=λy hy=>h y (List.mem_cons_of_mem _ hy);have h3:0<=xs.sum:=by
    clear hm h;induction xs with
    | nil=>simp
    | cons a l ih=>simp only [List.sum_cons];have:=h2 a (List.mem_cons_self ..);have:=ih (λy hy=>h2 y (List.mem_cons_of_mem _ hy));omega
   simp only [List.sum_cons] at hm |-;have e:GX s x = some (s+x):=(by unfold GX;rw [if_neg J]);simp only [GZ,e];rw [YL h2 J J];congr 1;omega
theorem YN:∀{xs:List Int} {s t:Int},GZ xs s = some t->s<=9223372036854775807->t = s+xs.sum/\t<=9223372036854775807
 | [],s,t,h,hs=>by simp only [GZ,Option.some.injEq] at h;subst h;simp;omega
 | x :: xs,s,t,h,hs=>by
   simp only [GZ] at h;cases e:GX s x with
   | none=>rw [e] at h;cases h
   | some m =>
     rw [e] at h;unfold GX at e;split at e
     ·cases e
     ·rename_i hn;cases e
      have:=YN h J;simp only [List.sum_cons];omega
def kg (f:nI->Int) (nm:ByteArray) (xs:List ag):Int:=((F7 nm xs).map f).sum
theorem IN (nm:ByteArray) (xs ys:List ag):F7 nm (xs++ys) = F7 nm xs++F7 nm ys:=by unfold F7;rw [List.filter_append,List.map_append]
theorem Aw {nm:ByteArray} {p:ag} {xs:List ag} (h:kr nm p = false):F7 nm (p :: xs) = F7 nm xs:=by unfold F7;rw [List.filter_cons,if_neg (by rw [h];simp)]
theorem YO {nm:ByteArray} {p:ag} {xs:List ag} (h:kr nm p = true):F7 nm (p :: xs) = p.aS :: F7 nm xs:=by unfold F7;rw [List.filter_cons,if_pos h];rfl
theorem YP {nm:ByteArray} {p:ag} : kr nm p = true↔nm≠⟨#[]⟩/\p.on = nm:=by
 unfold kr;rw [Bool.and_eq_true,Bool.not_eq_true'];constructor
 ·intro ⟨h1,h2⟩;exact ⟨λe=>(by rw [toList_nil.2 e] at h1;cases h1),eh Vl⟩
 ·intro ⟨h1,h2⟩;refine ⟨?_,by rw [h2];simp⟩;cases h:nm.toList == [] with
  | false=>rfl
  | true=>exact absurd (toList_nil.1 h) h1
theorem IP {nm:ByteArray} {p:ag} (h:p.on = ⟨#[]⟩∨p.on≠nm):kr nm p = false:=by
 cases e:kr nm p with
 | false=>rfl
 | true =>
   obtain ⟨h1,h2⟩:=YP.1 e;rcases h with h | h
   ·exact absurd (h2.symm.trans h) h1
   ·exact absurd h2 h
theorem Ul {p:nI} (h:GU p = true):0<=p.aw/\0<=p.mem:=by
 unfold GU at h;simp only [Bool.and_eq_true,decide_eq_true_eq] at h;exact h.1.2
theorem aDS {α:Type} {f:α->Int} {xs ys:List α} (h:xs.Sublist ys) (hn:∀y∈ys,0<=f y):(xs.map f).sum<=(ys.map f).sum:=by
 induction h with
 | slnil=>simp
 | cons a h ih =>have:=ih (λy hy=>hn y (List.mem_cons_of_mem _ hy));have:=hn a (List.mem_cons_self ..);exact sb
 | cons_cons a h ih =>have:=ih (λy hy=>hn y (List.mem_cons_of_mem _ hy));exact sb
theorem YQ {nm:ByteArray} {xs ys:List ag} (h:xs.Sublist ys):(F7 nm xs).Sublist (F7 nm ys):=(h.filter _).map _
theorem Um {nm:ByteArray} {xs:List ag} {p:nI} (h:p∈F7 nm xs):∃q∈xs,p = q.aS:=by
 unfold F7 at h;obtain ⟨q,hq,rfl⟩:=List.mem_map.1 h;exact ⟨q,(List.mem_filter.1 hq).1,rfl⟩
def iu (xs:List ag) (h:az):Prop:=kg nI.aw h.name xs<=9223372036854775807/\kg nI.mem h.name xs<=9223372036854775807/\kg nI.aw h.name xs<=h.aw/\kg nI.mem h.name xs<=h.mem/\((F7 h.name xs).length:Int)<=h.slots
theorem aAz {nm:ByteArray} {xs:List ag} (hp:∀p∈xs,GU p.aS = true) (h1:kg nI.aw nm xs<=9223372036854775807) (h2:kg nI.mem nm xs<=9223372036854775807):vU (F7 nm xs) = some (kg nI.aw nm xs,kg nI.mem nm xs):=by
 unfold vU kg at *
 have e1:=YL (xs:=(F7 nm xs).map nI.aw) (s:=0) (λv hv=>by
  obtain ⟨p,hpm,rfl⟩:=List.mem_map.1 hv;obtain ⟨q,hq,rfl⟩:=Um hpm
  exact (Ul (hp q hq)).1) J J
 have e2:=YL (xs:=(F7 nm xs).map nI.mem) (s:=0) (λv hv=>by
  obtain ⟨p,hpm,rfl⟩:=List.mem_map.1 hv;obtain ⟨q,hq,rfl⟩:=Um hpm
  exact (Ul (hp q hq)).2) J J
 rw [e1,e2];simp
theorem aCt {nm:ByteArray} {xs:List ag} {a b:Int} (h:vU (F7 nm xs) = some (a,b)):a = kg nI.aw nm xs/\b = kg nI.mem nm xs/\a<=9223372036854775807/\b<=9223372036854775807:=by
 unfold vU at h;cases e1:GZ ((F7 nm xs).map nI.aw) 0 with
 | none=>rw [e1] at h;cases h
 | some m =>
   cases e2:GZ ((F7 nm xs).map nI.mem) 0 with
   | none=>rw [e1,e2] at h;cases h
   | some n =>rw [e1,e2] at h;simp only [Option.some.injEq,Prod.mk.injEq] at h;obtain ⟨rfl,rfl⟩:=h;have h1:=YN e1 J;have h2:=YN e2 J;unfold kg;omega
theorem azO {x:aU} {h:az} (hp:∀p∈x.O,GU p.aS = true):Eh x h = true↔iu x.O h:=by
 constructor
 ·intro hf;cases e:vU (F7 h.name x.O) with
  | none=>rw [alN e] at hf;cases hf
  | some ab =>obtain ⟨a,b⟩:=ab;rw [Xy e] at hf;simp only [Bool.and_eq_true,decide_eq_true_eq] at hf;obtain ⟨rfl,rfl,h3,h4⟩:=aCt e;exact ⟨h3,h4,hf.1,hf.2.1,hf.2.2⟩
 ·intro ⟨h1,h2,h3,h4,h5⟩;rw [Xy (aAz hp h1 h2)];simp only [Bool.and_eq_true,decide_eq_true_eq];exact ⟨h3,h4,h5⟩
structure Good (x:aU):Prop where
 h8:x.aa.length<=8
 yn:x.O.length<=12
 n1:1<=x.next
 n2:x.next<=1000000000
 wt:zL x.weights.pack x.weights.spread x.weights.soft = true
 ft:∀h∈x.aa,Aj h = true
 tB:∀h∈x.aa,iu x.O h
 hs:x.aa.Pairwise λa b=>dQ a b = true
 rR:∀p∈x.O,GU p.aS = true
 vp:∀p∈x.O,1<=p.seq/\p.seq<=x.next - 1
 vq:∀p∈x.O,p.on = ⟨#[]⟩∨∃h∈x.aa,h.name = p.on
 ps:x.O.Pairwise λa b=>dw a b = true
 pf:x.O.Pairwise λa b=>a.seq≠b.seq
theorem ayw (a b c:az) (h1:dQ a b = true) (h2:dQ b c = true):dQ a c = true:=PB _ _ _ h1 h2
theorem axm (a b c:ag) (h1:dw a b = true) (h2:dw b c = true):dw a c = true:=PB _ _ _ h1 h2
theorem EX {nm:ByteArray} {h:az} : iM nm h = true↔h.name = nm:=PW _ _
theorem axF {nm:ByteArray} {p:ag} : CG nm p = true↔p.aS.name = nm:=PW _ _
theorem PQ (x:aU):iI x = true↔Good x:=by
 unfold iI Em;simp only [Bool.and_eq_true,decide_eq_true_eq];rw [aCs ayw,aCs axm,aEk];have Un:∀p,jT x p = true↔GU p.aS = true/\(1<=p.seq/\p.seq<=x.next - 1)/\(p.on = ⟨#[]⟩∨∃h∈x.aa,h.name = p.on):=by
  intro p;unfold jT;simp only [Bool.and_eq_true,Bool.or_eq_true,decide_eq_true_eq,toList_nil,PM,EX]
 constructor
 ·rintro ⟨⟨a,b,⟨c,d⟩,e⟩,⟨f,g⟩,⟨h,i⟩,j⟩;have hp:∀p∈x.O,GU p.aS = true:=λp hp=>((Un p).1 (h p hp)).1;refine ⟨J,J,c,d,e,λy hy=>?_,λy hy=>?_,g,hp,λp hp=>((Un p).1 (h p hp)).2.1,λp hp=>((Un p).1 (h p hp)).2.2,i,j⟩
  ·have:=f y hy;unfold dY at this;rw [Bool.and_eq_true] at this;exact this.1
  ·have:=f y hy;unfold dY at this;rw [Bool.and_eq_true] at this;exact (azO hp).1 this.2
 ·intro G;refine ⟨⟨by have:=G.h8;omega,by have:=G.yn;omega,⟨G.n1,G.n2⟩,G.wt⟩,⟨λy hy=>?_,G.hs⟩,⟨λp hp=>(Un p).2 ⟨G.rR p hp,G.vp p hp,G.vq p hp⟩,G.ps⟩,G.pf⟩;unfold dY;rw [Bool.and_eq_true];exact ⟨G.ft y hy,(azO G.rR).2 (G.tB y hy)⟩
theorem iu.sub {xs ys:List ag} {h:az} (hr:iu ys h) (hs:xs.Sublist ys) (hp:∀p∈ys,GU p.aS = true):iu xs h:=by
 obtain ⟨h1,h2,h3,h4,h5⟩:=hr;have a:=aDS (f:=nI.aw) (YQ (nm:=h.name) hs) (λy hy=>by obtain ⟨q,hq,rfl⟩:=Um hy;exact (Ul (hp q hq)).1);have b:=aDS (f:=nI.mem) (YQ (nm:=h.name) hs) (λy hy=>by obtain ⟨q,hq,rfl⟩:=Um hy;exact (Ul (hp q hq)).2);have c:=(YQ (nm:=h.name) hs).length_le;unfold iu kg at *;omega
theorem iu.same {xs ys:List ag} {h:az} (hr:iu ys h) (he:F7 h.name xs = F7 h.name ys):iu xs h:=by unfold iu kg at *;rw [he];exact hr
theorem aJ2 {s:ByteArray} (h:Qs s = true):s≠⟨#[]⟩:=by
 intro e;subst e;unfold Qs at h;simp only [Bool.and_eq_true,decide_eq_true_eq] at h;exact absurd h.1.1.1 (by decide)
theorem YR {h:az} (hr:Aj h = true):Qs h.name = true:=by
 unfold Aj at hr;simp only [Bool.and_eq_true] at hr;exact hr.1.1.1.1
theorem aFP {h:az} (hr:Aj h = true):0<=h.aw/\0<=h.mem/\1<=h.slots:=by
 unfold Aj at hr;simp only [Bool.and_eq_true,decide_eq_true_eq] at hr;exact ⟨hr.1.2.1,hr.1.2.2,hr.2.1⟩
theorem YS {a b:ByteArray} (h:Op.bytesLess a.toList b.toList = true):a≠b:=by
 intro e;subst e;rw [PA] at h;cases h
end Go.Proofs.YtjahcnjmjahbaaaGreat
