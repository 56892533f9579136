/- The order in which hosts are ranked, in plain Lean. No condition. -/
import Derived.Test.YtdegaofigemegaaGreatMarkOn
import Derived.Test.YtdegaofigemegaaGreatCopyC
namespace Go.Proofs.YtdegaofigemegaaGreat
open Go.ChangeShapes Go.WideShapes Go.ChangeAt Go.RowKit
set_option linter.unusedVariables false
set_option linter.unusedSimpArgs false
set_option maxHeartbeats 8000000
set_option maxRecDepth 100000
def BN (x:aU) (p:nI) (a b:ByteArray):List Int:=[Lib.compareInt (uH b x p) (uH a x p),Lib.compareBytes a.data.toList b.data.toList]
def CV (x:aU) (p:nI) (a b:ByteArray):Int:=Qa (BN x p a b)
def Jh (x:aU) (p:nI):List ByteArray:=bd (kS (CV x p)) [] (Ar x p x.O)
theorem ak2 (x:aU) (p:nI) (a b:ByteArray):kS (CV x p) a b = true↔uH b x p < uH a x p∨(uH a x p = uH b x p/\Op.bytesLess a.data.toList b.data.toList = true):=by
 have e:=Wx a.data.toList b.data.toList;unfold kS CV BN Qa Qa;rw [decide_eq_true_eq,<- e];unfold Lib.compareInt;by_cases h1:uH b x p < uH a x p
 ·simp [h1]
 ·by_cases h2:uH a x p < uH b x p
  ·simp [h1,h2];omega
  ·have h3:uH a x p = uH b x p:=J;simp [h3,Qa];by_cases h4:Lib.compareBytes a.data.toList b.data.toList = 0
   ·simp [h4]
   ·simp [h4]
theorem Xa {β:Type} {lt:β->β->Bool} {z:β} : ∀(ys acc:List β),z∈bd lt acc ys->z∈acc∨z∈ys
 | [],acc,h=>.inl h
 | y :: ys,acc,h=>by
   rw [bd] at h;rcases Xa ys _ h with h | h
   ·exact Mw
   ·exact .inr (List.mem_cons_of_mem _ h)
theorem VZ (w:World):∀ys:List ByteArray,(∀y∈ys,y.size<=maxLen)->jo w ys (ys.map Value.string) []
 | [],_=>⟨rfl,rfl⟩
 | y :: ys,h=>⟨[.string y],ys.map Value.string,[],[],rfl,rfl,⟨rfl,rfl,h y (List.mem_cons_self ..)⟩,VZ w ys λz hz=>h z (List.mem_cons_of_mem _ hz)⟩
theorem ML {w:World} : ∀(ys:List ByteArray) (ds:List Value) (G:List Nat),jo w ys ds G->ds = ys.map Value.string/\G = []/\∀y∈ys,y.size<=maxLen
 | [],ds,G,h=>⟨h.1,h.2,λ_ h=>by cases h⟩
 | y :: ys,ds,G,h=>by
   obtain ⟨c1,c2,F1,F2,rfl,rfl,h1,h2⟩:=h;obtain ⟨e1,e2,h1⟩:=h1;subst e1 e2;obtain ⟨e3,e4,h3⟩:=ML ys c2 F2 h2;subst e3 e4;refine ⟨rfl,rfl,λz hz=>?_⟩;rcases List.mem_cons.1 hz with rfl | hz
   ·exact h1
   ·exact h3 z hz
theorem ac6 (x:aU) (p:nI):(Jh x p).length = (Ar x p x.O).length:=by unfold Jh;rw [rD];simp
def eE (x y:ao):Int:=Lib.compareBytes x.key.data.toList y.key.data.toList
theorem rK:dz (kS eE):=(Bh.at ao.key).Uv
def BG (xs:List ao):List ao × Bool:=if sD (bd (kS eE) [] xs) = true then (bd (kS eE) [] xs,true) else (xs,false)
theorem UH {xs:List ao} (h:sD (bd (kS eE) [] xs) = true):BG xs = (bd (kS eE) [] xs,true):=if_pos h
theorem UI {xs:List ao} (h:sD (bd (kS eE) [] xs) = false):BG xs = (xs,false):=if_neg (by rw [h];simp)
theorem aA2 {lt:ao->ao->Bool} {z:ao} : ∀(ys acc:List ao),z∈bd lt acc ys->z∈acc∨z∈ys
 | [],acc,h=>.inl h
 | y :: ys,acc,h=>by
   rw [bd] at h;rcases aA2 ys _ h with h | h
   ·exact Mw
   ·exact .inr (List.mem_cons_of_mem _ h)
theorem RS {xs:List ao} {z:ao} (h:z∈bd (kS eE) [] xs):z∈xs:=by
 rcases aA2 xs [] h with h | h
 ·cases h
 ·exact h
theorem za (xs:List ao):(bd (kS eE) [] xs).length = xs.length:=by rw [rD];simp
theorem aCI {lt:ao->ao->Bool} (f:ao->Nat) (y:ao):∀r:List ao,((OM lt y r).map f).sum = f y+(r.map f).sum
 | []=>by simp [OM]
 | x :: r=>by
   have:=aCI (lt:=lt) f y r;unfold OM;split <;> simp only [List.map_cons,List.sum_cons] <;> omega
theorem aA3 {lt:ao->ao->Bool} (f:ao->Nat):∀xs acc:List ao,((bd lt acc xs).map f).sum = (acc.map f).sum+(xs.map f).sum
 | [],_=>by simp [bd]
 | x :: xs,acc=>by
   have h1:=aA3 (lt:=lt) f xs (OM lt x acc);have h2:=aCI (lt:=lt) f x acc;rw [bd,h1,h2];exact tL
theorem aJZ (xs:List ao):kL ao.wt (BG xs).1 = kL ao.wt xs:=by
 have h:=aA3 (lt:=kS eE) ao.wt xs [];have hl:=za xs;unfold BG kL;split
 ·dsimp only;simp only [List.map_nil,List.sum_nil] at h;omega
 ·rfl
def Fq (xs:List iU):List iU × Bool:=if xs.length<=40/\La (dx qo [] xs) = true then (dx qo [] xs,true) else (xs,false)
theorem ayj {xs:List iU} (h:¬xs.length<=40):Fq xs = (xs,false):=if_neg λhh=>h hh.1
theorem UJ {xs:List iU} (h:xs.length<=40) (h2:La (dx qo [] xs) = true):Fq xs = (dx qo [] xs,true):=if_pos ⟨h,h2⟩
theorem az7 {xs:List iU} (h2:La (dx qo [] xs) = false):Fq xs = (xs,false):=if_neg λhh=>by rw [h2] at hh;cases hh.2
theorem UK {xs:List iU} {z:iU} (h:z∈dx qo [] xs):z∈xs:=by
 rcases (Cr EN z xs []).1 h with h | h
 ·cases h
 ·exact h
theorem azM (xs:List iU):kL iU.wt (Fq xs).1<=kL iU.wt xs:=by
 have h:=I7 iU.wt qo xs [];have hl:=xT qo xs [];unfold Fq kL;split
 ·dsimp only;exact Eg
 ·exact Nat.le_refl _
def jK (xs:List bH):List bH × Bool:=if xs.length<=40/\Ya (dx vJ [] xs) = true then (dx vJ [] xs,true) else (xs,false)
theorem az8 {xs:List bH} (h:¬xs.length<=40):jK xs = (xs,false):=if_neg λhh=>h hh.1
theorem Wa {xs:List bH} (h:xs.length<=40) (h2:Ya (dx vJ [] xs) = true):jK xs = (dx vJ [] xs,true):=if_pos ⟨h,h2⟩
theorem aBF {xs:List bH} (h2:Ya (dx vJ [] xs) = false):jK xs = (xs,false):=if_neg λhh=>by rw [h2] at hh;cases hh.2
theorem Wb {xs:List bH} {z:bH} (h:z∈dx vJ [] xs):z∈xs:=by
 rcases (Cr EO z xs []).1 h with h | h
 ·cases h
 ·exact h
theorem aBz (xs:List bH):kL bH.wt (jK xs).1<=kL bH.wt xs:=by
 have h:=I7 bH.wt vJ xs [];have hl:=xT vJ xs [];unfold jK kL;split
 ·dsimp only;exact Eg
 ·exact Nat.le_refl _
def lr (x:aL):aL:=⟨x.key,x.op,gm x.values⟩
def vp (xs:List aL):Bool:=xs.all λx=>decide (x.values.length<=40)
def jN (xs:List aL):List aL:=dx nD [] (xs.map lr)
def jA (xs:List aL):List aL × Bool:=if xs.length<=40/\vp xs = true/\lN (jN xs) = true then (jN xs,true) else (xs,false)
theorem ayR {xs:List aL} (h:¬xs.length<=40):jA xs = (xs,false):=if_neg λhh=>h hh.1
theorem ayS {xs:List aL} (h:vp xs = false):jA xs = (xs,false):=if_neg λhh=>by rw [h] at hh;cases hh.2.1
theorem Wc {xs:List aL} (h:xs.length<=40) (h1:vp xs = true) (h2:lN (jN xs) = true):jA xs = (jN xs,true):=if_pos ⟨h,h1,h2⟩
theorem aAv {xs:List aL} (h2:lN (jN xs) = false):jA xs = (xs,false):=if_neg λhh=>by rw [h2] at hh;cases hh.2.2
theorem Wd {xs:List aL} {z:aL} (h:z∈jN xs):∃x∈xs,z = lr x:=by
 rcases (Cr (lt:=nD) Is z (xs.map lr) []).1 h with h | h
 ·cases h
 ·obtain ⟨x,hx,rfl⟩:=List.mem_map.1 h;exact ⟨x,hx,rfl⟩
theorem aDu (xs:List aL):(jN xs).length<=xs.length:=by have:=xT nD (xs.map lr) [];unfold jN;simpa using this
theorem aF2 (x:aL):(lr x).wt<=x.wt:=by have:=aB3 x.values;unfold lr aL.wt It;dsimp only;omega
theorem az5 {α:Type} {f:α->Nat} {g:α->α} (h:∀x,f (g x)<=f x):∀xs:List α,((xs.map g).map f).sum<=(xs.map f).sum
 | []=>Nat.le_refl _
 | x :: xs=>by have h1:=h x;have h2:=az5 h xs;simp only [List.map_cons,List.sum_cons];omega
theorem aAu (xs:List aL):kL aL.wt (jA xs).1<=kL aL.wt xs:=by
 have h:=I7 aL.wt nD (xs.map lr) [];have hl:=xT nD (xs.map lr) [];have hm:=az5 aF2 xs;unfold jA kL;split
 ·dsimp only;simp only [List.map_nil,List.sum_nil,List.length_nil,List.length_map] at h hl;unfold jN;omega
 ·exact Nat.le_refl _
theorem aEp {xs:List aL} (h:vp xs = true) {x:aL} (hx:x∈xs):x.values.length<=40:=by
 have:=List.all_eq_true.1 h x hx;simpa using this
theorem aDv {xs:List aL} {x:aL} (hx:x∈xs) (h:¬x.values.length<=40):vp xs = false:=by
 cases hh:vp xs with
 | false=>rfl
 | true=>exact absurd (aEp hh hx) h
theorem aDw {xs:List aL} (h:∀j (hj:j < xs.length),xs[j].values.length<=40):vp xs = true:=by
 refine List.all_eq_true.2 λx hx=>?_;obtain ⟨j,hj,rfl⟩:=List.getElem_of_mem hx;simpa using h j hj
theorem OS {x:aL} (h:x.wt<=1048576):((lr x).key.size:Int)<=1048576/\((lr x).values.length:Int)<=1048576/\(∀v∈(lr x).values,(v.size:Int)<=1048576):=by
 have h2:aL.wt x = x.key.size+kL ByteArray.size x.values:=rfl;have h3:=gJ ByteArray.size x.values;have h4:=aAP x.values;refine ⟨?_,?_,λv hv=>?_⟩
 ·show (x.key.size:Int)<=_;omega
 ·show ((gm x.values).length:Int)<=_;omega
 ·have:=Bq (f:=ByteArray.size) (aA4 hv);omega
theorem WB {α:Type} {ok:α->Bool} {less:α->α->Bool} (tr:∀a b c,less a b = true->less b c = true->less a c = true) (xs:List α) :
 (List.range xs.length).all (rowAt ok less xs) = true↔(∀x∈xs,ok x = true)/\xs.Pairwise λa b=>less a b = true:=by
 constructor
 ·intro h;have h':∀j,j < xs.length->rowAt ok less xs j = true:=λj hj=>List.all_eq_true.1 h j (List.mem_range.2 hj);constructor
  ·intro x hx;obtain ⟨j,hj,rfl⟩:=List.getElem_of_mem hx;have:=h' j hj;exact MI
  ·rw [List.pairwise_iff_getElem];intro i j hi hj mW;obtain ⟨d,rfl⟩:∃d,j = i+d+1:=⟨j - i - 1,J⟩;clear mW;induction d with
   | zero=>have:=h' (i+1) hj;rw [yS (j:=i) hj,Bool.and_eq_true] at this;exact this.2
   | succ d ih =>have h1:=ih J;have:=h' (i+d+1+1) hj;rw [yS (j:=i+d+1) hj,Bool.and_eq_true] at this;exact tr _ _ _ h1 this.2
 ·intro ⟨h1,h2⟩;refine YG λj hj=>?_;cases j with
  | zero=>rw [bR hj];exact h1 _ (List.getElem_mem hj)
  | succ i=>rw [yS hj,Bool.and_eq_true];exact ⟨h1 _ (List.getElem_mem hj),List.pairwise_iff_getElem.1 h2 i (i+1) J hj J⟩
theorem aEk (xs:List ag):(List.range xs.length).all (DN xs) = true↔xs.Pairwise λa b=>a.seq≠b.seq:=by
 rw [List.pairwise_iff_getElem];constructor
 ·intro h i j hi hj mW e;have h1:=List.all_eq_true.1 h j (List.mem_range.2 hj);rw [sG hj] at h1;have h2:seenIn (xs.take j) xs[j].seq = true:=by
   unfold seenIn;rw [List.any_eq_true];exact ⟨xs[i],List.mem_take_iff_getElem.2 ⟨i,J,rfl⟩,by simp [e]⟩
  rw [h2] at h1;cases h1
 ·intro h;refine YG λj hj=>?_;rw [sG hj];have h2:seenIn (xs.take j) xs[j].seq = false:=by
   unfold seenIn;rw [List.any_eq_false];intro q hq;obtain ⟨i,hi,rfl⟩:=List.mem_take_iff_getElem.1 hq;have:=h i j J hj J;simpa using this
  rw [h2];rfl
theorem ey {a b:ByteArray} (h:a.toList = b.toList):a = b:=(PW a b).1 (by unfold oT;rw [h];simp)
theorem toList_nil {a:ByteArray} : (a.toList == []) = true↔a = ⟨#[]⟩:=by
 constructor
 ·intro h;refine ey ?_;have h1:a.toList = []:=by simpa using h
  rw [h1,ByteArray.toList_eq]
 ·intro h;subst h;rw [ByteArray.toList_eq];rfl
theorem Bx {α:Type} {p:α->Bool} : ∀{xs:List α},0<=pK p xs↔∃x∈xs,p x = true
 | []=>by simp [pK]
 | x :: xs=>by
   have ih:=Bx (p:=p) (xs:=xs);unfold pK;by_cases h:p x = true
   ·simp [h]
   ·rw [if_neg h];by_cases h1:pK p xs < 0
    ·rw [if_pos h1];constructor
     ·intro hh;omega
     ·intro ⟨y,hy,hp⟩;rcases List.mem_cons.1 hy with rfl | hy
      ·exact absurd hp h
      ·exact absurd (ih.2 ⟨y,hy,hp⟩) J
    ·rw [if_neg h1];obtain ⟨y,hy,hp⟩:=ih.1 J;exact ⟨λ_=>⟨y,List.mem_cons_of_mem _ hy,hp⟩,λ_=>by omega⟩
theorem D8 {α:Type} {p:α->Bool} : ∀{xs:List α} {k:Nat},pK p xs = k->∃hk:k < xs.length,p xs[k] = true/\∀j (hj:j < k),p (xs[j]'J) = false
 | [],k,h=>by simp only [pK] at h;omega
 | x :: xs,k,h=>by
   unfold pK at h;by_cases hp:p x = true
   ·rw [if_pos hp] at h;obtain rfl:k = 0:=by omega
    exact ⟨S',hp,λj hj=>absurd hj J⟩
   ·rw [if_neg hp] at h;by_cases h1:pK p xs < 0
    ·rw [if_pos h1] at h;omega
    ·rw [if_neg h1] at h;obtain ⟨i,rfl⟩:∃i,k = i+1:=⟨k - 1,J⟩;obtain ⟨hk,h2,h3⟩:=D8 (p:=p) (xs:=xs) (k:=i) J;refine ⟨by simpa using hk,by simpa using h2,λj hj=>?_⟩;cases j with
     | zero=>simpa using hp
     | succ j=>simpa using h3 j J
theorem Ig {α:Type} {p:α->Bool} {xs:List α} (h:0<=pK p xs):pK p xs = (pK p xs).toNat:=by omega
theorem WD:∀{xs:List Int} {s:Int},(∀x∈xs,0<=x)->0<=s->s+xs.sum<=9223372036854775807->GZ xs s = some (s+xs.sum)
 | [],s,_,_,_=>by simp [GZ]
 | x :: xs,s,h,hs,hm=>by
   have hx:=h x (List.mem_cons_self ..);have h2:∀y∈xs,0<=y:=λy hy=>h y (List.mem_cons_of_mem _ hy);have h3:0<=xs.sum:=by
    clear hm h;induction xs with
    | nil=>simp
    | cons a l ih=>simp only [List.sum_cons];have:=h2 a (List.mem_cons_self ..);have:=ih (λy hy=>h2 y (List.mem_cons_of_mem _ hy));omega
   simp only [List.sum_cons] at hm |-;have e:GX s x = some (s+x):=(by unfold GX;rw [if_neg J]);simp only [GZ,e];rw [WD h2 J J];congr 1;omega
theorem WG:∀{xs:List Int} {s t:Int},GZ xs s = some t->s<=9223372036854775807->t = s+xs.sum/\t<=9223372036854775807
 | [],s,t,h,hs=>by simp only [GZ,Option.some.injEq] at h;subst h;simp;omega
 | x :: xs,s,t,h,hs=>by
   simp only [GZ] at h;cases e:GX s x with
   | none=>rw [e] at h;cases h
   | some m =>
     rw [e] at h;unfold GX at e;split at e
     ·cases e
     ·rename_i hn;cases e
      have:=WG h J;simp only [List.sum_cons];omega
def mi (f:nI->Int) (nm:ByteArray) (xs:List ag):Int:=((F7 nm xs).map f).sum
theorem ID (nm:ByteArray) (xs ys:List ag):F7 nm (xs++ys) = F7 nm xs++F7 nm ys:=by unfold F7;rw [List.filter_append,List.map_append]
theorem By {nm:ByteArray} {p:ag} {xs:List ag} (h:mr nm p = false):F7 nm (p :: xs) = F7 nm xs:=by unfold F7;rw [List.filter_cons,if_neg (by rw [h];simp)]
theorem WH {nm:ByteArray} {p:ag} {xs:List ag} (h:mr nm p = true):F7 nm (p :: xs) = p.aS :: F7 nm xs:=by unfold F7;rw [List.filter_cons,if_pos h];rfl
theorem WK {nm:ByteArray} {p:ag} : mr nm p = true↔nm≠⟨#[]⟩/\p.on = nm:=by
 unfold mr;rw [Bool.and_eq_true,Bool.not_eq_true'];constructor
 ·intro ⟨h1,h2⟩;exact ⟨λe=>(by rw [toList_nil.2 e] at h1;cases h1),ey QN⟩
 ·intro ⟨h1,h2⟩;refine ⟨?_,by rw [h2];simp⟩;cases h:nm.toList == [] with
  | false=>rfl
  | true=>exact absurd (toList_nil.1 h) h1
theorem IF {nm:ByteArray} {p:ag} (h:p.on = ⟨#[]⟩∨p.on≠nm):mr nm p = false:=by
 cases e:mr nm p with
 | false=>rfl
 | true =>
   obtain ⟨h1,h2⟩:=WK.1 e;rcases h with h | h
   ·exact absurd (h2.symm.trans h) h1
   ·exact absurd h2 h
theorem Sh {p:nI} (h:GU p = true):0<=p.aq/\0<=p.mem:=by
 unfold GU at h;simp only [Bool.and_eq_true,decide_eq_true_eq] at h;exact h.1.2
theorem aDS {α:Type} {f:α->Int} {xs ys:List α} (h:xs.Sublist ys) (hn:∀y∈ys,0<=f y):(xs.map f).sum<=(ys.map f).sum:=by
 induction h with
 | slnil=>simp
 | cons a h ih =>have:=ih (λy hy=>hn y (List.mem_cons_of_mem _ hy));have:=hn a (List.mem_cons_self ..);exact tL
 | cons_cons a h ih =>have:=ih (λy hy=>hn y (List.mem_cons_of_mem _ hy));exact tL
theorem WM {nm:ByteArray} {xs ys:List ag} (h:xs.Sublist ys):(F7 nm xs).Sublist (F7 nm ys):=(h.filter _).map _
theorem Sk {nm:ByteArray} {xs:List ag} {p:nI} (h:p∈F7 nm xs):∃q∈xs,p = q.aS:=by
 unfold F7 at h;obtain ⟨q,hq,rfl⟩:=List.mem_map.1 h;exact ⟨q,(List.mem_filter.1 hq).1,rfl⟩
def kD (xs:List ag) (h:ba):Prop:=mi nI.aq h.name xs<=9223372036854775807/\mi nI.mem h.name xs<=9223372036854775807/\mi nI.aq h.name xs<=h.aq/\mi nI.mem h.name xs<=h.mem/\((F7 h.name xs).length:Int)<=h.slots
theorem aAz {nm:ByteArray} {xs:List ag} (hp:∀p∈xs,GU p.aS = true) (h1:mi nI.aq nm xs<=9223372036854775807) (h2:mi nI.mem nm xs<=9223372036854775807):vU (F7 nm xs) = some (mi nI.aq nm xs,mi nI.mem nm xs):=by
 unfold vU mi at *
 have e1:=WD (xs:=(F7 nm xs).map nI.aq) (s:=0) (λv hv=>by
  obtain ⟨p,hpm,rfl⟩:=List.mem_map.1 hv;obtain ⟨q,hq,rfl⟩:=Sk hpm
  exact (Sh (hp q hq)).1) J J
 have e2:=WD (xs:=(F7 nm xs).map nI.mem) (s:=0) (λv hv=>by
  obtain ⟨p,hpm,rfl⟩:=List.mem_map.1 hv;obtain ⟨q,hq,rfl⟩:=Sk hpm
  exact (Sh (hp q hq)).2) J J
 rw [e1,e2];simp
theorem aCt {nm:ByteArray} {xs:List ag} {a b:Int} (h:vU (F7 nm xs) = some (a,b)):a = mi nI.aq nm xs/\b = mi nI.mem nm xs/\a<=9223372036854775807/\b<=9223372036854775807:=by
 unfold vU at h;cases e1:GZ ((F7 nm xs).map nI.aq) 0 with
 | none=>rw [e1] at h;cases h
 | some m =>
   cases e2:GZ ((F7 nm xs).map nI.mem) 0 with
   | none=>rw [e1,e2] at h;cases h
   | some n =>rw [e1,e2] at h;simp only [Option.some.injEq,Prod.mk.injEq] at h;obtain ⟨rfl,rfl⟩:=h;have h1:=WG e1 J;have h2:=WG e2 J;unfold mi;omega
theorem azO {x:aU} {h:ba} (hp:∀p∈x.M,GU p.aS = true):EU x h = true↔kD x.M h:=by
 constructor
 ·intro hf;cases e:vU (F7 h.name x.M) with
  | none=>rw [alN e] at hf;cases hf
  | some ab =>obtain ⟨a,b⟩:=ab;rw [U9 e] at hf;simp only [Bool.and_eq_true,decide_eq_true_eq] at hf;obtain ⟨rfl,rfl,h3,h4⟩:=aCt e;exact ⟨h3,h4,hf.1,hf.2.1,hf.2.2⟩
 ·intro ⟨h1,h2,h3,h4,h5⟩;rw [U9 (aAz hp h1 h2)];simp only [Bool.and_eq_true,decide_eq_true_eq];exact ⟨h3,h4,h5⟩
structure Good (x:aU):Prop where
 h8:x.O.length<=8
 xy:x.M.length<=12
 n1:1<=x.next
 n2:x.next<=1000000000
 wt:zL x.weights.pack x.weights.spread x.weights.soft = true
 eN:∀h∈x.O,Aj h = true
 mv:∀h∈x.O,kD x.M h
 hs:x.O.Pairwise λa b=>dQ a b = true
 vu:∀p∈x.M,GU p.aS = true
 zy:∀p∈x.M,1<=p.seq/\p.seq<=x.next - 1
 xz:∀p∈x.M,p.on = ⟨#[]⟩∨∃h∈x.O,h.name = p.on
 ps:x.M.Pairwise λa b=>dw a b = true
 pf:x.M.Pairwise λa b=>a.seq≠b.seq
theorem ayw (a b c:ba) (h1:dQ a b = true) (h2:dQ b c = true):dQ a c = true:=Bp _ _ _ h1 h2
theorem axm (a b c:ag) (h1:dw a b = true) (h2:dw b c = true):dw a c = true:=Bp _ _ _ h1 h2
theorem BA {nm:ByteArray} {h:ba} : iM nm h = true↔h.name = nm:=PW _ _
theorem Sm {nm:ByteArray} {p:ag} : CG nm p = true↔p.aS.name = nm:=PW _ _
theorem yJ (x:aU):iI x = true↔Good x:=by
 unfold iI Em;simp only [Bool.and_eq_true,decide_eq_true_eq];rw [WB ayw,WB axm,aEk];have Sn:∀p,jT x p = true↔GU p.aS = true/\(1<=p.seq/\p.seq<=x.next - 1)/\(p.on = ⟨#[]⟩∨∃h∈x.O,h.name = p.on):=by
  intro p;unfold jT;simp only [Bool.and_eq_true,Bool.or_eq_true,decide_eq_true_eq,toList_nil,Bx,BA]
 constructor
 ·rintro ⟨⟨a,b,⟨c,d⟩,e⟩,⟨f,g⟩,⟨h,i⟩,j⟩;have hp:∀p∈x.M,GU p.aS = true:=λp hp=>((Sn p).1 (h p hp)).1;refine ⟨J,J,c,d,e,λy hy=>?_,λy hy=>?_,g,hp,λp hp=>((Sn p).1 (h p hp)).2.1,λp hp=>((Sn p).1 (h p hp)).2.2,i,j⟩
  ·have:=f y hy;unfold dY at this;rw [Bool.and_eq_true] at this;exact this.1
  ·have:=f y hy;unfold dY at this;rw [Bool.and_eq_true] at this;exact (azO hp).1 this.2
 ·intro G;refine ⟨⟨by have:=G.h8;omega,by have:=G.xy;omega,⟨G.n1,G.n2⟩,G.wt⟩,⟨λy hy=>?_,G.hs⟩,⟨λp hp=>(Sn p).2 ⟨G.vu p hp,G.zy p hp,G.xz p hp⟩,G.ps⟩,G.pf⟩;unfold dY;rw [Bool.and_eq_true];exact ⟨G.eN y hy,(azO G.vu).2 (G.mv y hy)⟩
theorem kD.sub {xs ys:List ag} {h:ba} (hr:kD ys h) (hs:xs.Sublist ys) (hp:∀p∈ys,GU p.aS = true):kD xs h:=by
 obtain ⟨h1,h2,h3,h4,h5⟩:=hr;have a:=aDS (f:=nI.aq) (WM (nm:=h.name) hs) (λy hy=>by obtain ⟨q,hq,rfl⟩:=Sk hy;exact (Sh (hp q hq)).1);have b:=aDS (f:=nI.mem) (WM (nm:=h.name) hs) (λy hy=>by obtain ⟨q,hq,rfl⟩:=Sk hy;exact (Sh (hp q hq)).2);have c:=(WM (nm:=h.name) hs).length_le;unfold kD mi at *;omega
theorem kD.same {xs ys:List ag} {h:ba} (hr:kD ys h) (he:F7 h.name xs = F7 h.name ys):kD xs h:=by unfold kD mi at *;rw [he];exact hr
theorem aJ2 {s:ByteArray} (h:Qs s = true):s≠⟨#[]⟩:=by
 intro e;subst e;unfold Qs at h;simp only [Bool.and_eq_true,decide_eq_true_eq] at h;exact absurd h.1.1.1 (by decide)
theorem aIK {h:ba} (hr:Aj h = true):Qs h.name = true:=by
 unfold Aj at hr;simp only [Bool.and_eq_true] at hr;exact hr.1.1.1.1
theorem aFP {h:ba} (hr:Aj h = true):0<=h.aq/\0<=h.mem/\1<=h.slots:=by
 unfold Aj at hr;simp only [Bool.and_eq_true,decide_eq_true_eq] at hr;exact ⟨hr.1.2.1,hr.1.2.2,hr.2.1⟩
theorem aJ1 {a b:ByteArray} (h:Op.bytesLess a.toList b.toList = true):a≠b:=by
 intro e;subst e;rw [OP] at h;cases h
theorem aty (D:List ByteArray) (x:aU) (p:nI) (k:Nat) (hk:k<=D.length):(bd (kS (CV x p)) [] (D.take k)).length = k:=by rw [rD,List.length_take];simp;omega
theorem Xh (x:aU) (p:nI) (cs ps:List Value) (F G:List Nat) (w:World) (h:rd w x cs F) (h':rd w p ps G) (hw:(x.wt:Int)<=1048576) (kv:(p.wt:Int)<=1048576) :
 Calls Tryz.prog 134 #[.agg cs.toArray,.agg ps.toArray] w λe w'=>∃A c G,e = .returned (.slice A (Jh x p).length c)/\ai w' w.heap.size (Jh x p) [.slice A (Jh x p).length c] G/\Below w.heap.size w w':=by
 have i':x.wt = kL ba.wt x.O+kL ag.wt x.M:=rfl;have bE:(Ar x p x.O).length<=1048576:=by have:=gJ ba.wt x.O;have:=LY x p x.O;omega
 have zB:=I (ac6 x p);have HW:=I hw;have Uc:=I kv;clear hw kv i';have hr:=h;have dE:=h';obtain ⟨bG,bD,fQ,dn,bW,jg,ar,hF,bQ,dM,hnext,aV,aP,aW⟩:=aO hr;obtain ⟨bY,bZ,iq,eU,eX,jV,bg,bn,dK,jU,hG,jW,dA,kQ,lg,lG,iO,bK⟩:=dL dE;subst ar jU;clear hF hG hr dE;go_enter Tryz.func134,Tryz.ntmps134;go_wp2_with fail
 refine (Zv x p _ _ _ _ _ (aJ h bA) (aJ h' bA) HW.out Uc.out).mono ?_;rintro e w1 ⟨A,c,G1,rfl,hO,aR⟩;obtain ⟨cU,ek⟩:=ay aR;have cI:w.heap.size < w1.heap.size:=sq aR.size;have Bk:w.heap.size+1 < w1.heap.size:=sq aR.size;have BP:Below w.heap.size w w1:=ah bA aR;have c0:w1.cell? ⟨w.heap.size,0,none⟩ = some (.slice bG x.O.length bD):=by rw [cU _ _ (by simp;omega),World.cell?_of_block (heap_alloc_old _ _ S'),cell_of_row _ _ _ _ _ _ (heap_alloc_new w _)];rfl
 have c1:w1.cell? ⟨w.heap.size,1,none⟩ = some (.slice dn x.M.length bW):=by rw [cU _ _ (by simp;omega),World.cell?_of_block (heap_alloc_old _ _ S'),cell_of_row _ _ _ _ _ _ (heap_alloc_new w _)];rfl
 have c2:w1.cell? ⟨w.heap.size,2,none⟩ = some (.int .i64 x.next):=by rw [cU _ _ (by simp;omega),World.cell?_of_block (heap_alloc_old _ _ S'),cell_of_row _ _ _ _ _ _ (heap_alloc_new w _)];rfl
 have c3:w1.cell? ⟨w.heap.size,3,none⟩ = some (.int .i64 x.weights.pack):=by rw [cU _ _ (by simp;omega),World.cell?_of_block (heap_alloc_old _ _ S'),cell_of_row _ _ _ _ _ _ (heap_alloc_new w _)];rfl
 have c4:w1.cell? ⟨w.heap.size,4,none⟩ = some (.int .i64 x.weights.spread):=by rw [cU _ _ (by simp;omega),World.cell?_of_block (heap_alloc_old _ _ S'),cell_of_row _ _ _ _ _ _ (heap_alloc_new w _)];rfl
 have c5:w1.cell? ⟨w.heap.size,5,none⟩ = some (.int .i64 x.weights.soft):=by rw [cU _ _ (by simp;omega),World.cell?_of_block (heap_alloc_old _ _ S'),cell_of_row _ _ _ _ _ _ (heap_alloc_new w _)];rfl
 have d0:w1.cell? ⟨w.heap.size+1,0,none⟩ = some (.string p.name):=by rw [cU _ _ S'];simp
 have d1:w1.cell? ⟨w.heap.size+1,1,none⟩ = some (.slice bY p.labels.length bZ):=by rw [cU _ _ S'];simp
 have d2:w1.cell? ⟨w.heap.size+1,2,none⟩ = some (.int .i64 p.aq):=by rw [cU _ _ S'];simp
 have d3:w1.cell? ⟨w.heap.size+1,3,none⟩ = some (.int .i64 p.mem):=by rw [cU _ _ S'];simp
 have d4:w1.cell? ⟨w.heap.size+1,4,none⟩ = some (.int .i64 p.av):=by rw [cU _ _ S'];simp
 have d5:w1.cell? ⟨w.heap.size+1,5,none⟩ = some (.slice eU p.af.length eX):=by rw [cU _ _ S'];simp
 have d6:w1.cell? ⟨w.heap.size+1,6,none⟩ = some (.slice bg p.ae.length bn):=by rw [cU _ _ S'];simp
 obtain ⟨D,hD⟩:∃D,Ar x p x.O = D:=⟨_,rfl⟩;have HR:=I (show Jh x p = bd (kS (CV x p)) [] D by unfold Jh;rw [hD]);rw [hD] at hO bE zB |-;have ZU:=I (aJ h BP);have ZV:=I (aJ h' BP);have HD:=I hD;clear cU ek hD;go_wp2_with fail
 go_loopw [6,7] (λv i wr=>∃k g cap:Nat,k<=D.length/\i = .int .i64 (k:Int)/\v = .slice (some ⟨g,0,none⟩) k cap/\wr.ownsRow w1.heap.size 9 1 (.slice (some ⟨g,0,none⟩) k cap) k ((bd (kS (CV x p)) [] (D.take k)).map Value.string)/\Below w1.heap.size w1 wr) (λ_ i _=>D.length - (intOf i).toNat)
 case atStart=>exact ⟨0,w1.heap.size,0,J,rfl,rfl,D9 w1 9 1 w1.heap.size rfl,ak (aj _) _⟩
 case round =>
  obtain ⟨k,g,cap,hk,rfl,rfl,bB,aM⟩:=hrel;by_cases ap:k < D.length
  ·obtain ⟨wo,hwo⟩:∃wo,wo = wr:=⟨_,rfl⟩;subst hwo;obtain ⟨b,o,ck,Fk,hA,hbG,hbs,aJe,_,hcells⟩:=Sl.get hO.rd ap;subst hA;obtain ⟨ar,su,d9⟩:=aJe;obtain ⟨y,hy⟩:∃y,D[k] = y:=⟨_,rfl⟩;rw [hy] at ar d9;subst ar;have qe:w1.cell? ⟨b,o+k,none⟩ = some (.string y):=(by have:=hcells 0 _ rfl;simpa [show ax.size ByteArray = 1 from rfl] using this);clear hcells;have hY:=I hy;have nu:(bd (kS (CV x p)) [] (D.take k)).length = k:=aty D x p k hk;have eh:bd (kS (CV x p)) [] (D.take (k+1)) = OM (kS (CV x p)) y (bd (kS (CV x p)) [] (D.take k)):=(by rw [List.take_succ_eq_append_getElem ap,hy,V3]);have Jf:=I eh;clear eh hy;generalize bd (kS (CV x p)) [] (D.take k) = SS at *;have cW:=I nu;clear nu;have kc:=aM.cell (p:=⟨b,o+k,none⟩) hbs;rw [qe] at kc;have FN:∀i:Nat,wo.cell? ⟨w.heap.size,i,none⟩ = w1.cell? ⟨w.heap.size,i,none⟩:=λi=>aM.cell (p:=⟨w.heap.size,i,none⟩) cI;have BQ:∀i:Nat,wo.cell? ⟨w.heap.size+1,i,none⟩ = w1.cell? ⟨w.heap.size+1,i,none⟩:=λi=>aM.cell (p:=⟨w.heap.size+1,i,none⟩) Bk;have e0:=(FN 0).trans c0;have e1:=(FN 1).trans c1;have e2:=(FN 2).trans c2;have e3:=(FN 3).trans c3;have e4:=(FN 4).trans c4;have e5:=(FN 5).trans c5;have f0:=(BQ 0).trans d0;have f1:=(BQ 1).trans d1;have f2:=(BQ 2).trans d2;have f3:=(BQ 3).trans d3;have f4:=(BQ 4).trans d4;have f5:=(BQ 5).trans d5;have f6:=(BQ 6).trans d6;clear FN BQ;obtain ⟨tE,fT,rN,hgc⟩:=IE bB;have R9:w1.heap.size<=wo.heap.size:=aM.size;have fq:b < wo.heap.size:=J;have ca:w.heap.size < wo.heap.size:=J;have rj:w.heap.size+1 < wo.heap.size:=J;have nA:=I hgc;have jD:=I bB;clear hgc bB;have fv:=I aM;go_wp2_with fail
   refine aF wo U' U' (aj _) ?_
   repeat (first
    | (apply aG
       case hw=>rfl
       simp only [Act.put,pz])
    | (apply aH
       case hw=>rfl
       case h =>
        intro wq hq;have et:=(aB hq).1;have lJ:=(aB hq).2;go_simp
        first
         | exact ⟨hq,rfl⟩
         | (refine (Kq x p _ _ _ _ y _ (aJ ZU.out (ah fv.out hq)) (aJ ZV.out (ah fv.out hq)) HW.out Uc.out).mono ?_;rintro e wz ⟨rfl,ij⟩;exact ⟨rfl,aI hq ij⟩)
         | (simp only [↓IntWalk.iteOmega];exact ⟨hq,rfl⟩)
       simp only [Act.put,pz]))
   refine aN ?_;intro wn hn;replace hn:=hn.out;obtain ⟨MY,hMY⟩:∃MY,uH y x p = MY:=⟨_,rfl⟩;rw [hMY];have SA:=I hMY;clear hMY;go_wp2_with fail
   go_loopw [9] (λj wr=>∃(s1 s2:List ByteArray) (jj:Nat),Hid (SS = s1++s2)/\j = .int .i64 (jj:Int)/\Hid (s1.length = jj)/\Hid (∀z∈s1,kS (CV x p) y z = false)/\Below wo.heap.size wo wr) (λj _=>k - (intOf j).toNat)
   case atStart=>exact ⟨[],SS,0,I rfl,rfl,I rfl,I (λz hz=>by cases hz),hn⟩
   case round =>
    obtain ⟨s1,s2,jj,HE,rfl,HJ,HN,bC⟩:=hrel;clear hn wn;have mc:∀bq oq u,wo.cell? ⟨bq,oq,none⟩ = some u->bq < wo.heap.size->wr.cell? ⟨bq,oq,none⟩ = some u:=λbq oq u h1 h2=>(bC.cell (p:=⟨bq,oq,none⟩) h2).trans h1;have Xb:=mc _ _ _ kc fq;have e20:=mc _ _ _ e0 ca;have e21:=mc _ _ _ e1 ca;have e22:=mc _ _ _ e2 ca;have e23:=mc _ _ _ e3 ca;have e24:=mc _ _ _ e4 ca;have e25:=mc _ _ _ e5 ca;have f20:=mc _ _ _ f0 rj;have f21:=mc _ _ _ f1 rj;have f22:=mc _ _ _ f2 rj;have f23:=mc _ _ _ f3 rj;have f24:=mc _ _ _ f4 rj;have f25:=mc _ _ _ f5 rj;have f26:=mc _ _ _ f6 rj;have MC:=I mc;have qa:wo.heap.size<=wr.heap.size:=bC.size;have pI:b < wr.heap.size:=J;have eB:w.heap.size < wr.heap.size:=J;have Jx:w.heap.size+1 < wr.heap.size:=J;have mL:g < wr.heap.size:=J;have ti:=I (ah (show Below w1.heap.size w1 wo from fv.out) (show Below wo.heap.size wo wr from bC));clear mc;clear e0 e1 e2 e3 e4 e5 f0 f1 f2 f3 f4 f5 f6;cases s2 with
    | nil =>
      have fI:jj = k:=(by have e1:=HE.out;have e2:=cW.out;have e3:=HJ.out;rw [e1,List.append_nil] at e2;omega);have sE:k<=jj:=J;have sF:decide ((jj:Int) < (k:Int)) = false:=(by simp;omega);have sH:decide (jj < k) = false:=(by simp;omega);clear fI;have HI:=I (show OM (kS (CV x p)) y SS = s1++y :: [] by rw [HE.out];exact PY s1 [] HN.out (.inl rfl));go_wp2_with fail
      refine aF wr U' U' (aj _) ?_
      repeat ((first | refine aG J' ?_ | refine aH _ J' LR ?_);simp only [Act.put,pz])
      refine aN ?_;intro wn hn;replace hn:=hn.out;have bs:Below wo.heap.size wo wn:=ah bC hn;have nZ:=I (show Below w1.heap.size w1 wn from ah fv.out bs);have RJ:=mG jD.out bs;obtain ⟨_,fy,apy,V4⟩:=IE RJ
      have eK:=I (show ∀q u,(s1.map Value.string)[q]? = some u->wn.cell? ((⟨g,0,none⟩:Addr).add q) = some u from λq u hu=>by
       rw [Addr.add_lit,Nat.zero_add];refine V4 q u ?_
       rw [HE.out,List.map_append,List.getElem?_append_left (List.getElem?_eq_some_iff.1 hu).1];exact hu)
      have Gn:=I (show ∀q u,((([]:List ByteArray)).map Value.string)[q]? = some u->wn.cell? ⟨g,jj+q,none⟩ = some u from λq u hu=>by
       refine V4 (jj+q) u ?_
       rw [HE.out,List.map_append,List.getElem?_append_right EH,List.length_map,HJ.out,Nat.add_sub_cancel_left];exact hu)
      have cA:jj+(([]:List ByteArray)).length = k:=(by have e1:=congrArg List.length HE.out;have e2:=cW.out;have e3:=HJ.out;rw [List.length_append] at e1;omega);have lH:=I cA;have rp:jj<=k:=J;have pv:jj<=cap:=J;have kc3:=r' hn Xb eD;have rR:b < wn.heap.size:=(by have:=hn.size;omega);have kd:=I bs;clear RJ V4 cA bs;go_wp2_with fail
      refine zU wn 12 U' U' (aj _) ?_;refine YU (λa0 a' w'=>∃(g9 p9:Nat) (dj dl dm dp dq dr dt ed eQ eR:Value),a' = (Act.put (Act.put (Act.put (Act.put (Act.put (Act.put (Act.put (Act.put (Act.put (Act.put (Act.put (Act.put a0 (some 67) (dj)) (some 68) (dl)) (some 69) (dm)) (some 70) (dp)) (some 71) (dq)) (some 72) (dr)) (some 73) (dt)) (some 74) (ed)) (some 75) (eQ)) (some 76) (eR)) (some 77) (.slice (some ⟨g9,0,none⟩) (jj+1) p9)) (some 10) (.slice (some ⟨g9,0,none⟩) (jj+1) p9))/\Below wn.heap.size wn w'/\World.ownsRow w' wn.heap.size 9 1 (.slice (some ⟨g9,0,none⟩) (jj+1) p9) (jj+1) ((s1.map Value.string)++[.string y])) ?_ ?_;rotate_left
      ·exact Cw
      intro a' w7 ga;obtain ⟨g9,p9,dj,dl,dm,dp,dq,dr,dt,ed,eQ,eR,rfl,bw,nK⟩:=ga;try simp only [Act.put,pz]
      have cC:∃A0:Addr,(if cap = jj then some (⟨g,0,none⟩:Addr) else some ⟨g,jj,none⟩) = some A0/\Hid (A0.block = g/\∀q u,((([]:List ByteArray)).map Value.string)[q]? = some u->w7.cell? (A0.add q) = some u):=by
       by_cases hc:cap = jj
       ·refine ⟨⟨g,0,none⟩,by simp [hc],rfl,λq u hu=>?_⟩;have h0:(([]:List ByteArray)).length = 0:=(by have:=lH.out;omega);exact pG
       ·refine ⟨⟨g,jj,none⟩,by simp [hc],rfl,λq u hu=>?_⟩;rw [Addr.add_lit];exact (bw.cell (p:=⟨g,jj+q,none⟩) fy).trans (Gn.out q u hu)
      obtain ⟨A0,hA0,asg⟩:=cC;have bz:k - jj = (([]:List ByteArray)).length:=(by have:=lH.out;omega);have pp:=I bz;clear bz
      go_wp2_with (
       at_builtin
       go_must (refine xW qw J' _ _ J' w7 wn.heap.size _ _ _ nK J' A0 0 (cap - jj) ((([]:List ByteArray)).map Value.string) J' J' asg.out.2 (λu hu=>by obtain ⟨z0,_,rfl⟩:=List.mem_map.1 hu;rfl) J J ni ?_)
       intro v8 w8 Le da mQ;rw [show jj+1+0 = k+1 by omega] at Le;obtain ⟨g8,p8,hv8,aJs,aJt,aJu⟩:=wW Le J
       subst hv8)
      exact Ex
    | cons z s2 =>
      have fI:jj < k:=(by have e1:=congrArg List.length HE.out;have e2:=cW.out;have e3:=HJ.out;rw [List.length_append,List.length_cons] at e1;omega);have yK:wr.cell? ⟨g,jj,none⟩ = some (.string z):=MC.out _ _ _ (nA.out jj _ Uj) fT;obtain ⟨MZ,hMZ⟩:∃MZ,uH z x p = MZ:=⟨_,rfl⟩;have sF:decide ((jj:Int) < (k:Int)) = true:=(by simp;omega);have Y6:=I (ak2 x p y z);have KY:=I hMZ;cases h1:decide (MY < MZ) with
      | true =>
        have HL:=I (show kS (CV x p) y z = false by
         cases hh:kS (CV x p) y z
         ·rfl
         ·rw [Y6.out,KY.out,SA.out] at hh;have:MY < MZ:=(by simpa using h1)
          rcases hh with hh | ⟨hh,_⟩ <;> omega)
        exact M'
      | false =>
        have h1n:¬MY < MZ:=(by simpa using h1);cases h2:(MZ == MY) with
        | false =>
          have HL:=I (show kS (CV x p) y z = true by
           rw [Y6.out,KY.out,SA.out];have:¬MZ = MY:=(by simpa using h2)
           left;omega)
          have HI:=I (show OM (kS (CV x p)) y SS = s1++y :: z :: s2 by rw [HE.out];exact PY s1 (z :: s2) HN.out (.inr ⟨z,s2,rfl,HL.out⟩));go_wp2_with fail
          refine aF wr U' U' (aj _) ?_
          repeat ((first | refine aG J' ?_ | refine aH _ J' Da ?_);simp only [Act.put,pz])
          refine aN ?_;intro wn hn;replace hn:=hn.out;have bs:Below wo.heap.size wo wn:=ah bC hn;have nZ:=I (show Below w1.heap.size w1 wn from ah fv.out bs);have RJ:=mG jD.out bs;obtain ⟨_,fy,apy,V4⟩:=IE RJ
          have eK:=I (show ∀q u,(s1.map Value.string)[q]? = some u->wn.cell? ((⟨g,0,none⟩:Addr).add q) = some u from λq u hu=>by
           rw [Addr.add_lit,Nat.zero_add];refine V4 q u ?_
           rw [HE.out,List.map_append,List.getElem?_append_left (List.getElem?_eq_some_iff.1 hu).1];exact hu)
          have Gn:=I (show ∀q u,((z :: s2).map Value.string)[q]? = some u->wn.cell? ⟨g,jj+q,none⟩ = some u from λq u hu=>by
           refine V4 (jj+q) u ?_
           rw [HE.out,List.map_append,List.getElem?_append_right EH,List.length_map,HJ.out,Nat.add_sub_cancel_left];exact hu)
          have cA:jj+(z :: s2).length = k:=(by have e1:=congrArg List.length HE.out;have e2:=cW.out;have e3:=HJ.out;rw [List.length_append] at e1;omega);have lH:=I cA;have rp:jj<=k:=J;have pv:jj<=cap:=J;have kc3:=r' hn Xb eD;have rR:b < wn.heap.size:=(by have:=hn.size;omega);have kd:=I bs;clear RJ V4 cA bs;go_wp2_with fail
          refine zU wn 12 U' U' (aj _) ?_;refine YU (λa0 a' w'=>∃(g9 p9:Nat) (dj dl dm dp dq dr dt ed eQ eR:Value),a' = (Act.put (Act.put (Act.put (Act.put (Act.put (Act.put (Act.put (Act.put (Act.put (Act.put (Act.put (Act.put a0 (some 67) (dj)) (some 68) (dl)) (some 69) (dm)) (some 70) (dp)) (some 71) (dq)) (some 72) (dr)) (some 73) (dt)) (some 74) (ed)) (some 75) (eQ)) (some 76) (eR)) (some 77) (.slice (some ⟨g9,0,none⟩) (jj+1) p9)) (some 10) (.slice (some ⟨g9,0,none⟩) (jj+1) p9))/\Below wn.heap.size wn w'/\World.ownsRow w' wn.heap.size 9 1 (.slice (some ⟨g9,0,none⟩) (jj+1) p9) (jj+1) ((s1.map Value.string)++[.string y])) ?_ ?_;rotate_left
          ·exact Cw
          intro a' w7 ga;obtain ⟨g9,p9,dj,dl,dm,dp,dq,dr,dt,ed,eQ,eR,rfl,bw,nK⟩:=ga;try simp only [Act.put,pz]
          have bz:k - jj = (z :: s2).length:=(by have:=lH.out;omega);have pp:=I bz;clear bz
          go_wp2_with (
           at_builtin
           go_must (refine xW qw J' _ _ J' w7 wn.heap.size _ _ _ nK J' ⟨g,jj,none⟩ (k - jj) (cap - jj) ((z :: s2).map Value.string) J' RE (λq u hu=>by rw [Addr.add_lit];exact (bw.cell (p:=⟨g,jj+q,none⟩) fy).trans (Gn.out q u hu)) (λu hu=>by obtain ⟨z0,_,rfl⟩:=List.mem_map.1 hu;rfl) J J ni ?_)
           intro v8 w8 Le da mQ;rw [show jj+1+(k - jj) = k+1 by omega] at Le;obtain ⟨g8,p8,hv8,aJs,aJt,aJu⟩:=wW Le J
           subst hv8)
          exact Ex
        | true =>
          have h2e:MZ = MY:=(by simpa using h2);have H2E:=I h2e;clear h2e;cases h3:(Op.bytesLess z.toList y.toList || z.toList == y.toList) with
          | false =>
            have HL:=I (show kS (CV x p) y z = true by
             rw [Y6.out,KY.out,SA.out,Br,h3]
             exact .inr ⟨H2E.out.symm,rfl⟩)
            have HI:=I (show OM (kS (CV x p)) y SS = s1++y :: z :: s2 by rw [HE.out];exact PY s1 (z :: s2) HN.out (.inr ⟨z,s2,rfl,HL.out⟩));go_wp2_with fail
            refine aF wr U' U' (aj _) ?_
            repeat ((first | refine aG J' ?_ | refine aH _ J' Da ?_);simp only [Act.put,pz])
            refine aN ?_;intro wn hn;replace hn:=hn.out;have bs:Below wo.heap.size wo wn:=ah bC hn;have nZ:=I (show Below w1.heap.size w1 wn from ah fv.out bs);have RJ:=mG jD.out bs;obtain ⟨_,fy,apy,V4⟩:=IE RJ
            have eK:=I (show ∀q u,(s1.map Value.string)[q]? = some u->wn.cell? ((⟨g,0,none⟩:Addr).add q) = some u from λq u hu=>by
             rw [Addr.add_lit,Nat.zero_add];refine V4 q u ?_
             rw [HE.out,List.map_append,List.getElem?_append_left (List.getElem?_eq_some_iff.1 hu).1];exact hu)
            have Gn:=I (show ∀q u,((z :: s2).map Value.string)[q]? = some u->wn.cell? ⟨g,jj+q,none⟩ = some u from λq u hu=>by
             refine V4 (jj+q) u ?_
             rw [HE.out,List.map_append,List.getElem?_append_right EH,List.length_map,HJ.out,Nat.add_sub_cancel_left];exact hu)
            have cA:jj+(z :: s2).length = k:=(by have e1:=congrArg List.length HE.out;have e2:=cW.out;have e3:=HJ.out;rw [List.length_append] at e1;omega);have lH:=I cA;have rp:jj<=k:=J;have pv:jj<=cap:=J;have kc3:=r' hn Xb eD;have rR:b < wn.heap.size:=(by have:=hn.size;omega);have kd:=I bs;clear RJ V4 cA bs;go_wp2_with fail
            refine zU wn 12 U' U' (aj _) ?_;refine YU (λa0 a' w'=>∃(g9 p9:Nat) (dj dl dm dp dq dr dt ed eQ eR:Value),a' = (Act.put (Act.put (Act.put (Act.put (Act.put (Act.put (Act.put (Act.put (Act.put (Act.put (Act.put (Act.put a0 (some 67) (dj)) (some 68) (dl)) (some 69) (dm)) (some 70) (dp)) (some 71) (dq)) (some 72) (dr)) (some 73) (dt)) (some 74) (ed)) (some 75) (eQ)) (some 76) (eR)) (some 77) (.slice (some ⟨g9,0,none⟩) (jj+1) p9)) (some 10) (.slice (some ⟨g9,0,none⟩) (jj+1) p9))/\Below wn.heap.size wn w'/\World.ownsRow w' wn.heap.size 9 1 (.slice (some ⟨g9,0,none⟩) (jj+1) p9) (jj+1) ((s1.map Value.string)++[.string y])) ?_ ?_;rotate_left
            ·exact Cw
            intro a' w7 ga;obtain ⟨g9,p9,dj,dl,dm,dp,dq,dr,dt,ed,eQ,eR,rfl,bw,nK⟩:=ga;try simp only [Act.put,pz]
            have bz:k - jj = (z :: s2).length:=(by have:=lH.out;omega);have pp:=I bz;clear bz
            go_wp2_with (
             at_builtin
             go_must (refine xW qw J' _ _ J' w7 wn.heap.size _ _ _ nK J' ⟨g,jj,none⟩ (k - jj) (cap - jj) ((z :: s2).map Value.string) J' RE (λq u hu=>by rw [Addr.add_lit];exact (bw.cell (p:=⟨g,jj+q,none⟩) fy).trans (Gn.out q u hu)) (λu hu=>by obtain ⟨z0,_,rfl⟩:=List.mem_map.1 hu;rfl) J J ni ?_)
             intro v8 w8 Le da mQ;rw [show jj+1+(k - jj) = k+1 by omega] at Le;obtain ⟨g8,p8,hv8,aJs,aJt,aJu⟩:=wW Le J
             subst hv8)
            exact Ex
          | true =>
            have HL:=I (show kS (CV x p) y z = false by
             cases hh:kS (CV x p) y z
             ·rfl
             ·rw [Y6.out,KY.out,SA.out,Br,h3] at hh;rcases hh with hh | ⟨_,hh⟩
              ·have:=H2E.out;omega
              ·cases hh)
            exact M'
  ·have bz:k = D.length:=J;subst bz;rw [List.take_length] at bB;have gP:∀y∈D,y.size<=maxLen:=by
    obtain ⟨_,_,_,_,_,_,_,hc,_⟩:=hO.rd;exact (ML _ _ _ hc).2.2
   have bF:Below w.heap.size w wr:=BP.trans (aM.mono BP.size);have hrl:D.length = (bd (kS (CV x p)) [] D).length:=(by rw [rD];simp);have bj:∃A c G,Value.slice (some ⟨g,0,none⟩) D.length cap = .slice A (bd (kS (CV x p)) [] D).length c/\ai wr w.heap.size (bd (kS (CV x p)) [] D) [.slice A (bd (kS (CV x p)) [] D).length c] G:=by
    refine ai.oJ (e:=9) (ds:=(bd (kS (CV x p)) [] D).map Value.string) (F:=[]) ?_ ⟨VZ wr _ λy hy=>?_,List.nodup_nil,(λb hb=>by cases hb),(λb hb=>by cases hb)⟩ (λg _ hm=>by cases hm)
    ·have:=vP bB (B':=w.heap.size) BP.size;rw [<- hrl];exact this
    ·rcases Xa _ _ hy with hy | hy
     ·cases hy
     ·exact gP y hy
   obtain ⟨A2,c2,G2,eO,hO3⟩:=bj;have HV2:=I eO;have gN:=I hO3;clear eO hO3 bB hrl gP;go_wp2;go_ret
   refine ⟨A2,c2,G2,?_,?_,bF⟩
   ·rw [HR.out];show Ending.returned (Value.slice (some ⟨g,0,none⟩) D.length cap) = _;rw [HV2.out]
   ·rw [HR.out];exact gN.out
end Go.Proofs.YtdegaofigemegaaGreat
