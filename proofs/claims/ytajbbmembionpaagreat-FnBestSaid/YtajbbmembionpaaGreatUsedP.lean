/- What a host's pods use, in plain Lean. No condition. -/
import Derived.Lib.SlicesCompact
import Derived.Test.YtajbbmembionpaaGreatHostOk
namespace Go.Proofs.YtajbbmembionpaaGreat
open Go.ChangeShapes Go.WideShapes Go.ChangeAt Go.RowKit
set_option linter.unusedVariables false
set_option linter.unusedSimpArgs false
theorem QI:∀(xs:List Int) (s t:Int),(∀x∈xs,bp x)→bp s→GZ xs s = some t→bp t
 | [],s,t,_,hs,h=>by simp only [GZ,Option.some.injEq] at h;subst h;exact hs
 | x :: xs,s,t,hx,hs,h=>by
   simp only [GZ] at h;cases e:GX s x with
   | none=>rw [e] at h;cases h
   | some m =>rw [e] at h;exact QI xs m t (fun y hy=>hx y (List.mem_cons_of_mem _ hy)) (MH e hs (hx x (List.mem_cons_self ..))) h
theorem aqt {xs:List nI} {a b:Int} (hx:∀p∈xs,bp p.av∧bp p.mem) (h:vU xs = some (a,b)):bp a∧bp b:=by
 unfold vU at h;cases e1:GZ (xs.map nI.av) 0 with
 | none=>rw [e1] at h;cases h
 | some m =>
   cases e2:GZ (xs.map nI.mem) 0 with
   | none=>rw [e1,e2] at h;cases h
   | some n =>
     rw [e1,e2] at h;simp only [Option.some.injEq,Prod.mk.injEq] at h;obtain ⟨rfl,rfl⟩:=h;have z:bp 0:=⟨J,J⟩;refine ⟨QI _ 0 _ (fun y hy=>?_) z e1,QI _ 0 _ (fun y hy=>?_) z e2⟩
     ·obtain ⟨p,hp,rfl⟩:=List.mem_map.1 hy;exact (hx p hp).1
     ·obtain ⟨p,hp,rfl⟩:=List.mem_map.1 hy;exact (hx p hp).2
theorem atL {nm:ByteArray} {xs:List af} {p:nI} (h:p∈F7 nm xs):∃q∈xs,p = q.aS:=by
 unfold F7 at h;obtain ⟨q,hq,rfl⟩:=List.mem_map.1 h;exact ⟨q,(List.mem_filter.1 hq).1,rfl⟩
theorem Sl.ao8 {w:World} {xs:List af} {A:Option Addr} {c:Nat} {F:List Nat} (h:Sl w xs A c F):∀p∈xs,bp p.aS.av∧bp p.aS.mem:=by
 intro p hp;obtain ⟨k,hk,rfl⟩:=List.getElem_of_mem hp;obtain ⟨b,o,ck,Fk,_,_,_,hr,_⟩:=h.get hk;obtain ⟨gV,gW,lF,iR,iT,mV,dD,dF,iH,aw,hF,nY,iE,rF,rG,oZ,je,dN,ie,hseq⟩:=kE hr;exact ⟨rF,rG⟩
theorem UD {w:World} {xs:List af} {A:Option Addr} {c:Nat} {F:List Nat} {nm:ByteArray} {a b:Int} (h:Sl w xs A c F) (hs:vU (F7 nm xs) = some (a,b)):bp a∧bp b :=
 aqt (fun p hp=>by obtain ⟨q,hq,rfl⟩:=atL hp;exact h.ao8 q hq) hs
theorem AX {nm:ByteArray} {xs:List af} {a b:Int} (h:vU (F7 nm xs) = some (a,b)):KF nm xs = .tuple #[.int .i64 a,.int .i64 b,.int .i64 (F7 nm xs).length,.bool true]:=by unfold KF;rw [h]
theorem AV {nm:ByteArray} {xs:List af} (h:vU (F7 nm xs) = none):KF nm xs = .tuple #[.int .i64 0,.int .i64 0,.int .i64 0,.bool false]:=by unfold KF;rw [h]
theorem Db:∀a:List UInt8,Op.bytesLess a a = false
 | []=>rfl
 | x :: a=>by
   unfold Op.bytesLess;have ih:=Db a;have h:decide (x < x) = false:=S';simp [ih]
theorem P2 (x y:UInt8) (a b:List UInt8):Op.bytesLess (x :: a) (y :: b) = true↔x < y∨(x = y∧Op.bytesLess a b = true):=by
 conv=>lhs;unfold Op.bytesLess
 simp
theorem AR:∀a b c:List UInt8,Op.bytesLess a b = true→Op.bytesLess b c = true→Op.bytesLess a c = true
 | [],[],_,h,_=>by simp [Op.bytesLess] at h
 | [],_ :: _,[],_,h=>by simp [Op.bytesLess] at h
 | [],_ :: _,_ :: _,_,_=>by simp [Op.bytesLess]
 | _ :: _,[],_,h,_=>by simp [Op.bytesLess] at h
 | _ :: _,_ :: _,[],_,h=>by simp [Op.bytesLess] at h
 | x :: a,y :: b,z :: c,h1,h2=>by
   rw [P2] at h1 h2 ⊢;rcases h1 with h1 | ⟨rfl,h1⟩
   ·rcases h2 with h2 | ⟨rfl,h2⟩
    ·exact .inl (UInt8.lt_trans h1 h2)
    ·exact .inl h1
   ·rcases h2 with h2 | ⟨rfl,h2⟩
    ·exact .inl h2
    ·exact .inr ⟨rfl,AR a b c h1 h2⟩
theorem Dd:∀a b:List UInt8,Op.bytesLess a b = false→Op.bytesLess b a = false→a = b
 | [],[],_,_=>rfl
 | [],_ :: _,h,_=>by simp [Op.bytesLess] at h
 | _ :: _,[],_,h=>by simp [Op.bytesLess] at h
 | x :: a,y :: b,h1,h2=>by
   have e1:¬(x < y∨(x = y∧Op.bytesLess a b = true)):=(by rw [← P2,h1];simp);have e2:¬(y < x∨(y = x∧Op.bytesLess b a = true)):=(by rw [← P2,h2];simp);have xH:x = y:=UInt8.le_antisymm (UInt8.not_lt.1 fun h=>e2 (.inl h)) (UInt8.not_lt.1 fun h=>e1 (.inl h));subst xH;rw [Dd a b (by cases h:Op.bytesLess a b;rfl;exact absurd (.inr ⟨rfl,h⟩) e1) (by cases h:Op.bytesLess b a;rfl;exact absurd (.inr ⟨rfl,h⟩) e2)]
theorem atx {a b:List UInt8} (h:Op.bytesLess a b = true):Op.bytesLess b a = false:=by
 cases h2:Op.bytesLess b a
 ·rfl
 ·have:=AR a b a h h2;rw [Db] at this;cases this
theorem AS (a b c:List UInt8) (h1:Op.bytesLess a b = false) (h2:Op.bytesLess b c = false):Op.bytesLess a c = false:=by
 cases h:Op.bytesLess a c
 ·rfl
 ·cases h3:Op.bytesLess b a
  ·have:=Dd a b h1 h3;subst this;rw [h] at h2;cases h2
  ·have:=AR b a c h3 h;rw [this] at h2;cases h2
theorem wF (y z:ByteArray):Op.bytesLess y.data.toList z.data.toList = !(Op.bytesLess z.toList y.toList || z.toList == y.toList):=by
 rw [ByteArray.toList_eq,ByteArray.toList_eq];cases h1:Op.bytesLess z.data.toList y.data.toList with
 | true=>rw [atx h1];rfl
 | false =>
   cases h2:(z.data.toList == y.data.toList) with
   | true =>rw [beq_iff_eq] at h2;rw [h2,Db];rfl
   | false =>
     cases h3:Op.bytesLess y.data.toList z.data.toList with
     | true=>rfl
     | false =>have:=Dd _ _ h1 h3;rw [this] at h2;simp at h2
def blt (x y:ByteArray):Bool:=Op.bytesLess x.toList y.toList
theorem AT:th blt:=⟨fun x=>Db _,fun x y z=>AR _ _ _,fun x y h1 h2=>Ce (by rw [beq_iff_eq];exact Dd _ _ h1 h2)⟩
def gH (xs:List ByteArray):List ByteArray:=ep blt [] xs
theorem Wq (xs:List ByteArray):(gH xs).length≤xs.length:=by have:=xL blt xs [];unfold gH;simpa using this
theorem Wr {xs:List ByteArray} {z:ByteArray} (h:z∈gH xs):z∈xs:=by
 rcases (DH AT z xs []).1 h with h | h
 ·cases h
 ·exact h
theorem Wt (xs:List ByteArray):kL ByteArray.size (gH xs)≤kL ByteArray.size xs:=by
 have h:=DJ ByteArray.size blt xs [];have hl:=xL blt xs [];unfold gH kL;exact zE
theorem WW {α:Type} {ok:α→Bool} {less:α→α→Bool} (tr:∀a b c,less a b = true→less b c = true→less a c = true) (xs:List α) :
 (List.range xs.length).all (rowAt ok less xs) = true↔(∀x∈xs,ok x = true)∧xs.Pairwise fun a b=>less a b = true:=by
 constructor
 ·intro h;have h':∀j,j < xs.length→rowAt ok less xs j = true:=fun j hj=>List.all_eq_true.1 h j (List.mem_range.2 hj);constructor
  ·intro x hx;obtain ⟨j,hj,rfl⟩:=List.getElem_of_mem hx;have:=h' j hj;exact Hh
  ·rw [List.pairwise_iff_getElem];intro i j hi hj nE;obtain ⟨d,rfl⟩:∃d,j = i+d+1:=⟨j - i - 1,J⟩;clear nE;induction d with
   | zero=>have:=h' (i+1) hj;rw [yS (j:=i) hj,Bool.and_eq_true] at this;exact this.2
   | succ d ih =>have h1:=ih J;have:=h' (i+d+1+1) hj;rw [yS (j:=i+d+1) hj,Bool.and_eq_true] at this;exact tr _ _ _ h1 this.2
 ·intro ⟨h1,h2⟩;refine YG fun j hj=>?_;cases j with
  | zero=>rw [cC hj];exact h1 _ (List.getElem_mem hj)
  | succ i=>rw [yS hj,Bool.and_eq_true];exact ⟨h1 _ (List.getElem_mem hj),List.pairwise_iff_getElem.1 h2 i (i+1) J hj J⟩
theorem aEk (xs:List af):(List.range xs.length).all (DN xs) = true↔xs.Pairwise fun a b=>a.seq≠b.seq:=by
 rw [List.pairwise_iff_getElem];constructor
 ·intro h i j hi hj nE e;have h1:=List.all_eq_true.1 h j (List.mem_range.2 hj);rw [sG hj] at h1;have h2:seenIn (xs.take j) xs[j].seq = true:=by
   unfold seenIn;rw [List.any_eq_true];exact ⟨xs[i],List.mem_take_iff_getElem.2 ⟨i,J,rfl⟩,by simp [e]⟩
  rw [h2] at h1;cases h1
 ·intro h;refine YG fun j hj=>?_;rw [sG hj];have h2:seenIn (xs.take j) xs[j].seq = false:=by
   unfold seenIn;rw [List.any_eq_false];intro q hq;obtain ⟨i,hi,rfl⟩:=List.mem_take_iff_getElem.1 hq;have:=h i j J hj J;simpa using this
  rw [h2];rfl
theorem eo {a b:ByteArray} (h:a.toList = b.toList):a = b:=(PW a b).1 (by unfold mF;rw [h];simp)
theorem toList_nil {a:ByteArray} : (a.toList == []) = true↔a = ⟨#[]⟩:=by
 constructor
 ·intro h;refine eo ?_;have h1:a.toList = []:=by simpa using h
  rw [h1,ByteArray.toList_eq]
 ·intro h;subst h;rw [ByteArray.toList_eq];rfl
theorem M3 {α:Type} {p:α→Bool} : ∀{xs:List α},0≤pK p xs↔∃x∈xs,p x = true
 | []=>by simp [pK]
 | x :: xs=>by
   have ih:=M3 (p:=p) (xs:=xs);unfold pK;by_cases h:p x = true
   ·simp [h]
   ·rw [if_neg h];by_cases h1:pK p xs < 0
    ·rw [if_pos h1];constructor
     ·intro hh;omega
     ·intro ⟨y,hy,hp⟩;rcases List.mem_cons.1 hy with rfl | hy
      ·exact absurd hp h
      ·exact absurd (ih.2 ⟨y,hy,hp⟩) J
    ·rw [if_neg h1];obtain ⟨y,hy,hp⟩:=ih.1 J;exact ⟨fun _=>⟨y,List.mem_cons_of_mem _ hy,hp⟩,fun _=>by omega⟩
theorem M4 {α:Type} {p:α→Bool} : ∀{xs:List α} {k:Nat},pK p xs = k→∃hk:k < xs.length,p xs[k] = true∧∀j (hj:j < k),p (xs[j]'J) = false
 | [],k,h=>by simp only [pK] at h;omega
 | x :: xs,k,h=>by
   unfold pK at h;by_cases hp:p x = true
   ·rw [if_pos hp] at h;obtain rfl:k = 0:=by omega
    exact ⟨S',hp,fun j hj=>absurd hj J⟩
   ·rw [if_neg hp] at h;by_cases h1:pK p xs < 0
    ·rw [if_pos h1] at h;omega
    ·rw [if_neg h1] at h;obtain ⟨i,rfl⟩:∃i,k = i+1:=⟨k - 1,J⟩;obtain ⟨hk,h2,h3⟩:=M4 (p:=p) (xs:=xs) (k:=i) J;refine ⟨by simpa using hk,by simpa using h2,fun j hj=>?_⟩;cases j with
     | zero=>simpa using hp
     | succ j=>simpa using h3 j J
theorem Qk {α:Type} {p:α→Bool} {xs:List α} (h:0≤pK p xs):pK p xs = (pK p xs).toNat:=by omega
theorem Ql:∀{xs:List Int} {s:Int},(∀x∈xs,0≤x)→0≤s→s+xs.sum≤9223372036854775807→GZ xs s = some (s+xs.sum)
 | [],s,_,_,_=>by simp [GZ]
 | x :: xs,s,h,hs,hm=>by
   have hx:=h x (List.mem_cons_self ..);have h2:∀y∈xs,0≤y:=fun y hy=>h y (List.mem_cons_of_mem _ hy);have h3:0≤xs.sum:=by
    clear hm h;induction xs with
    | nil=>simp
    | cons a l ih=>simp only [List.sum_cons];have:=h2 a (List.mem_cons_self ..);have:=ih (fun y hy=>h2 y (List.mem_cons_of_mem _ hy));omega
   simp only [List.sum_cons] at hm ⊢;have e:GX s x = some (s+x):=(by unfold GX;rw [if_neg J]);simp only [GZ,e];rw [Ql h2 J J];congr 1;omega
theorem Qm:∀{xs:List Int} {s t:Int},GZ xs s = some t→s≤9223372036854775807→t = s+xs.sum∧t≤9223372036854775807
 | [],s,t,h,hs=>by simp only [GZ,Option.some.injEq] at h;subst h;simp;omega
 | x :: xs,s,t,h,hs=>by
   simp only [GZ] at h;cases e:GX s x with
   | none=>rw [e] at h;cases h
   | some m =>
     rw [e] at h;unfold GX at e;split at e
     ·cases e
     ·rename_i hn;cases e
      have:=Qm h J;simp only [List.sum_cons];omega
def ke (f:nI→Int) (nm:ByteArray) (xs:List af):Int:=((F7 nm xs).map f).sum
theorem Di (nm:ByteArray) (xs ys:List af):F7 nm (xs++ys) = F7 nm xs++F7 nm ys:=by unfold F7;rw [List.filter_append,List.map_append]
theorem wT {nm:ByteArray} {p:af} {xs:List af} (h:kv nm p = false):F7 nm (p :: xs) = F7 nm xs:=by unfold F7;rw [List.filter_cons,if_neg (by rw [h];simp)]
theorem Qn {nm:ByteArray} {p:af} {xs:List af} (h:kv nm p = true):F7 nm (p :: xs) = p.aS :: F7 nm xs:=by unfold F7;rw [List.filter_cons,if_pos h];rfl
theorem Qo {nm:ByteArray} {p:af} : kv nm p = true↔nm≠⟨#[]⟩∧p.on = nm:=by
 unfold kv;rw [Bool.and_eq_true,Bool.not_eq_true'];constructor
 ·intro ⟨h1,h2⟩;exact ⟨fun e=>(by rw [toList_nil.2 e] at h1;cases h1),eo LL⟩
 ·intro ⟨h1,h2⟩;refine ⟨?_,by rw [h2];simp⟩;cases h:nm.toList == [] with
  | false=>rfl
  | true=>exact absurd (toList_nil.1 h) h1
theorem Dj {nm:ByteArray} {p:af} (h:p.on = ⟨#[]⟩∨p.on≠nm):kv nm p = false:=by
 cases e:kv nm p with
 | false=>rfl
 | true =>
   obtain ⟨h1,h2⟩:=Qo.1 e;rcases h with h | h
   ·exact absurd (h2.symm.trans h) h1
   ·exact absurd h2 h
theorem M5 {p:nI} (h:GU p = true):0≤p.av∧0≤p.mem:=by
 unfold GU at h;simp only [Bool.and_eq_true,decide_eq_true_eq] at h;exact h.1.2
theorem WX {α:Type} {f:α→Int} {xs ys:List α} (h:xs.Sublist ys) (hn:∀y∈ys,0≤f y):(xs.map f).sum≤(ys.map f).sum:=by
 induction h with
 | slnil=>simp
 | cons a h ih =>have:=ih (fun y hy=>hn y (List.mem_cons_of_mem _ hy));have:=hn a (List.mem_cons_self ..);exact qV
 | cons_cons a h ih =>have:=ih (fun y hy=>hn y (List.mem_cons_of_mem _ hy));exact qV
theorem Qp {nm:ByteArray} {xs ys:List af} (h:xs.Sublist ys):(F7 nm xs).Sublist (F7 nm ys):=(h.filter _).map _
theorem M6 {nm:ByteArray} {xs:List af} {p:nI} (h:p∈F7 nm xs):∃q∈xs,p = q.aS:=by
 unfold F7 at h;obtain ⟨q,hq,rfl⟩:=List.mem_map.1 h;exact ⟨q,(List.mem_filter.1 hq).1,rfl⟩
def jb (xs:List af) (h:aM):Prop:=ke nI.av h.name xs≤9223372036854775807∧ke nI.mem h.name xs≤9223372036854775807∧ke nI.av h.name xs≤h.av∧ke nI.mem h.name xs≤h.mem∧((F7 h.name xs).length:Int)≤h.slots
theorem aAz {nm:ByteArray} {xs:List af} (hp:∀p∈xs,GU p.aS = true) (h1:ke nI.av nm xs≤9223372036854775807) (h2:ke nI.mem nm xs≤9223372036854775807):vU (F7 nm xs) = some (ke nI.av nm xs,ke nI.mem nm xs):=by
 unfold vU ke at *
 have e1:=Ql (xs:=(F7 nm xs).map nI.av) (s:=0) (fun v hv=>by
  obtain ⟨p,hpm,rfl⟩:=List.mem_map.1 hv;obtain ⟨q,hq,rfl⟩:=M6 hpm
  exact (M5 (hp q hq)).1) J J
 have e2:=Ql (xs:=(F7 nm xs).map nI.mem) (s:=0) (fun v hv=>by
  obtain ⟨p,hpm,rfl⟩:=List.mem_map.1 hv;obtain ⟨q,hq,rfl⟩:=M6 hpm
  exact (M5 (hp q hq)).2) J J
 rw [e1,e2];simp
theorem WY {nm:ByteArray} {xs:List af} {a b:Int} (h:vU (F7 nm xs) = some (a,b)):a = ke nI.av nm xs∧b = ke nI.mem nm xs∧a≤9223372036854775807∧b≤9223372036854775807:=by
 unfold vU at h;cases e1:GZ ((F7 nm xs).map nI.av) 0 with
 | none=>rw [e1] at h;cases h
 | some m =>
   cases e2:GZ ((F7 nm xs).map nI.mem) 0 with
   | none=>rw [e1,e2] at h;cases h
   | some n =>rw [e1,e2] at h;simp only [Option.some.injEq,Prod.mk.injEq] at h;obtain ⟨rfl,rfl⟩:=h;have h1:=Qm e1 J;have h2:=Qm e2 J;unfold ke;omega
theorem WZ {x:aU} {h:aM} (hp:∀p∈x.au,GU p.aS = true):Ai x h = true↔jb x.au h:=by
 constructor
 ·intro hf;cases e:vU (F7 h.name x.au) with
  | none=>rw [VJ e] at hf;cases hf
  | some ab =>obtain ⟨a,b⟩:=ab;rw [Px e] at hf;simp only [Bool.and_eq_true,decide_eq_true_eq] at hf;obtain ⟨rfl,rfl,h3,h4⟩:=WY e;exact ⟨h3,h4,hf.1,hf.2.1,hf.2.2⟩
 ·intro ⟨h1,h2,h3,h4,h5⟩;rw [Px (aAz hp h1 h2)];simp only [Bool.and_eq_true,decide_eq_true_eq];exact ⟨h3,h4,h5⟩
structure Good (x:aU):Prop where
 h8:x.aa.length≤8
 wV:x.au.length≤12
 n1:1≤x.next
 n2:x.next≤1000000000
 wt:zL x.weights.pack x.weights.spread x.weights.soft = true
 gd:∀h∈x.aa,Aj h = true
 vm:∀h∈x.aa,jb x.au h
 hs:x.aa.Pairwise fun a b=>dQ a b = true
 sn:∀p∈x.au,GU p.aS = true
 vn:∀p∈x.au,1≤p.seq∧p.seq≤x.next - 1
 vo:∀p∈x.au,p.on = ⟨#[]⟩∨∃h∈x.aa,h.name = p.on
 ps:x.au.Pairwise fun a b=>dw a b = true
 pf:x.au.Pairwise fun a b=>a.seq≠b.seq
theorem W1 (a b c:aM) (h1:dQ a b = true) (h2:dQ b c = true):dQ a c = true:=AR _ _ _ h1 h2
theorem W2 (a b c:af) (h1:dw a b = true) (h2:dw b c = true):dw a c = true:=AR _ _ _ h1 h2
theorem M7 {nm:ByteArray} {h:aM} : iM nm h = true↔h.name = nm:=PW _ _
theorem axF {nm:ByteArray} {p:af} : CG nm p = true↔p.aS.name = nm:=PW _ _
theorem aH8 (x:aU):iI x = true↔Good x:=by
 unfold iI Em;simp only [Bool.and_eq_true,decide_eq_true_eq];rw [WW W1,WW W2,aEk];have M8:∀p,jT x p = true↔GU p.aS = true∧(1≤p.seq∧p.seq≤x.next - 1)∧(p.on = ⟨#[]⟩∨∃h∈x.aa,h.name = p.on):=by
  intro p;unfold jT;simp only [Bool.and_eq_true,Bool.or_eq_true,decide_eq_true_eq,toList_nil,M3,M7]
 constructor
 ·rintro ⟨⟨a,b,⟨c,d⟩,e⟩,⟨f,g⟩,⟨h,i⟩,j⟩;have hp:∀p∈x.au,GU p.aS = true:=fun p hp=>((M8 p).1 (h p hp)).1;refine ⟨J,J,c,d,e,fun y hy=>?_,fun y hy=>?_,g,hp,fun p hp=>((M8 p).1 (h p hp)).2.1,fun p hp=>((M8 p).1 (h p hp)).2.2,i,j⟩
  ·have:=f y hy;unfold dY at this;rw [Bool.and_eq_true] at this;exact this.1
  ·have:=f y hy;unfold dY at this;rw [Bool.and_eq_true] at this;exact (WZ hp).1 this.2
 ·intro G;refine ⟨⟨by have:=G.h8;omega,by have:=G.wV;omega,⟨G.n1,G.n2⟩,G.wt⟩,⟨fun y hy=>?_,G.hs⟩,⟨fun p hp=>(M8 p).2 ⟨G.sn p hp,G.vn p hp,G.vo p hp⟩,G.ps⟩,G.pf⟩;unfold dY;rw [Bool.and_eq_true];exact ⟨G.gd y hy,(WZ G.sn).2 (G.vm y hy)⟩
theorem jb.sub {xs ys:List af} {h:aM} (hr:jb ys h) (hs:xs.Sublist ys) (hp:∀p∈ys,GU p.aS = true):jb xs h:=by
 obtain ⟨h1,h2,h3,h4,h5⟩:=hr;have a:=WX (f:=nI.av) (Qp (nm:=h.name) hs) (fun y hy=>by obtain ⟨q,hq,rfl⟩:=M6 hy;exact (M5 (hp q hq)).1);have b:=WX (f:=nI.mem) (Qp (nm:=h.name) hs) (fun y hy=>by obtain ⟨q,hq,rfl⟩:=M6 hy;exact (M5 (hp q hq)).2);have c:=(Qp (nm:=h.name) hs).length_le;unfold jb ke at *;omega
theorem jb.same {xs ys:List af} {h:aM} (hr:jb ys h) (he:F7 h.name xs = F7 h.name ys):jb xs h:=by unfold jb ke at *;rw [he];exact hr
theorem aJ2 {s:ByteArray} (h:Qs s = true):s≠⟨#[]⟩:=by
 intro e;subst e;unfold Qs at h;simp only [Bool.and_eq_true,decide_eq_true_eq] at h;exact absurd h.1.1.1 (by decide)
theorem W3 {h:aM} (hr:Aj h = true):Qs h.name = true:=by
 unfold Aj at hr;simp only [Bool.and_eq_true] at hr;exact hr.1.1.1.1
theorem aFP {h:aM} (hr:Aj h = true):0≤h.av∧0≤h.mem∧1≤h.slots:=by
 unfold Aj at hr;simp only [Bool.and_eq_true,decide_eq_true_eq] at hr;exact ⟨hr.1.2.1,hr.1.2.2,hr.2.1⟩
theorem W4 {a b:ByteArray} (h:Op.bytesLess a.toList b.toList = true):a≠b:=by
 intro e;subst e;rw [Db] at h;cases h
end Go.Proofs.YtajbbmembionpaaGreat
