/- ClusterOk, of the reference. No condition. -/
import Derived.Test.YtajbbmembionpaaGreatClusterSC
namespace Go.Proofs.YtajbbmembionpaaGreat
open Go.ChangeShapes Go.WideShapes Go.ChangeAt Go.RowKit
set_option linter.unusedVariables false
set_option linter.unusedSimpArgs false
set_option maxHeartbeats 2000000
set_option maxRecDepth 100000
theorem qM (x:aU) (cs:List Value) (F:List Nat) (w:World) (h:rd w x cs F) (hw:(x.wt:Int)≤1048576) :
 Calls Tryz.prog 20 #[.agg cs.toArray] w fun e w'=>e = .returned (.bool (iI x))∧Below w.heap.size w w':=by
 have im:x.wt = kL ba.wt x.aa+kL ag.wt x.V:=rfl;have cA:(x.aa.length:Int)≤1048576:=by have:=gJ ba.wt x.aa;omega
 have vk:(x.V.length:Int)≤1048576:=by have:=gJ ag.wt x.V;omega
 refine Dx x cs F w h cA vk (fun y hy=>?_) (fun y hy=>?_)
 ·obtain ⟨k,hk,rfl⟩:=List.getElem_of_mem hy;exact U6.qz _ (by have:=rM (f:=ba.wt) hk;omega)
 ·obtain ⟨k,hk,rfl⟩:=List.getElem_of_mem hy;exact Xl.qz _ (by have:=rM (f:=ag.wt) hk;have e:ag.wt x.V[k] = nI.wt x.V[k].aS+x.V[k].on.size:=rfl;omega)
theorem RT {α:Type} {ok:α→Bool} {less:α→α→Bool} (tr:∀a b c,less a b = true→less b c = true→less a c = true) (xs:List α) :
 (List.range xs.length).all (bS ok less xs) = true↔(∀x∈xs,ok x = true)∧xs.Pairwise fun a b=>less a b = true:=by
 constructor
 ·intro h;have h':∀j,j < xs.length→bS ok less xs j = true:=fun j hj=>List.all_eq_true.1 h j (List.mem_range.2 hj);constructor
  ·intro x hx;obtain ⟨j,hj,rfl⟩:=List.getElem_of_mem hx;have:=h' j hj;exact D5
  ·rw [List.pairwise_iff_getElem];intro i j hi hj pv;obtain ⟨d,rfl⟩:∃d,j = i+d+1:=⟨j - i - 1,J⟩;clear pv;induction d with
   | zero=>have:=h' (i+1) hj;rw [yS (j:=i) hj,Bool.and_eq_true] at this;exact this.2
   | succ d ih =>have h1:=ih J;have:=h' (i+d+1+1) hj;rw [yS (j:=i+d+1) hj,Bool.and_eq_true] at this;exact tr _ _ _ h1 this.2
 ·intro ⟨h1,h2⟩;refine YG fun j hj=>?_;cases j with
  | zero=>rw [cF hj];exact h1 _ (List.getElem_mem hj)
  | succ i=>rw [yS hj,Bool.and_eq_true];exact ⟨h1 _ (List.getElem_mem hj),List.pairwise_iff_getElem.1 h2 i (i+1) J hj J⟩
theorem Zg (xs:List ag):(List.range xs.length).all (DN xs) = true↔xs.Pairwise fun a b=>a.seq≠b.seq:=by
 rw [List.pairwise_iff_getElem];constructor
 ·intro h i j hi hj pv e;have h1:=List.all_eq_true.1 h j (List.mem_range.2 hj);rw [sG hj] at h1;have h2:ed (xs.take j) xs[j].seq = true:=by
   unfold ed;rw [List.any_eq_true];exact ⟨xs[i],List.mem_take_iff_getElem.2 ⟨i,J,rfl⟩,by simp [e]⟩
  rw [h2] at h1;cases h1
 ·intro h;refine YG fun j hj=>?_;rw [sG hj];have h2:ed (xs.take j) xs[j].seq = false:=by
   unfold ed;rw [List.any_eq_false];intro q hq;obtain ⟨i,hi,rfl⟩:=List.mem_take_iff_getElem.1 hq;have:=h i j J hj J;simpa using this
  rw [h2];rfl
theorem eg {a b:ByteArray} (h:a.toList = b.toList):a = b:=(PW a b).1 (by unfold l4;rw [h];simp)
theorem toList_nil {a:ByteArray} : (a.toList == []) = true↔a = ⟨#[]⟩:=by
 constructor
 ·intro h;refine eg ?_;have h1:a.toList = []:=by simpa using h
  rw [h1,ByteArray.toList_eq]
 ·intro h;subst h;rw [ByteArray.toList_eq];rfl
theorem Kk {α:Type} {p:α→Bool} : ∀{xs:List α},0≤pK p xs↔∃x∈xs,p x = true
 | []=>by simp [pK]
 | x :: xs=>by
   have ih:=Kk (p:=p) (xs:=xs);unfold pK;by_cases h:p x = true
   ·simp [h]
   ·rw [if_neg h];by_cases h1:pK p xs < 0
    ·rw [if_pos h1];constructor
     ·intro hh;omega
     ·intro ⟨y,hy,hp⟩;rcases List.mem_cons.1 hy with rfl | hy
      ·exact absurd hp h
      ·exact absurd (ih.2 ⟨y,hy,hp⟩) J
    ·rw [if_neg h1];obtain ⟨y,hy,hp⟩:=ih.1 J;exact ⟨fun _=>⟨y,List.mem_cons_of_mem _ hy,hp⟩,fun _=>by omega⟩
theorem Kl {α:Type} {p:α→Bool} : ∀{xs:List α} {k:Nat},pK p xs = k→∃hk:k < xs.length,p xs[k] = true∧∀j (hj:j < k),p (xs[j]'J) = false
 | [],k,h=>by simp only [pK] at h;omega
 | x :: xs,k,h=>by
   unfold pK at h;by_cases hp:p x = true
   ·rw [if_pos hp] at h;obtain rfl:k = 0:=by omega
    exact ⟨S',hp,fun j hj=>absurd hj J⟩
   ·rw [if_neg hp] at h;by_cases h1:pK p xs < 0
    ·rw [if_pos h1] at h;omega
    ·rw [if_neg h1] at h;obtain ⟨i,rfl⟩:∃i,k = i+1:=⟨k - 1,J⟩;obtain ⟨hk,h2,h3⟩:=Kl (p:=p) (xs:=xs) (k:=i) J;refine ⟨by simpa using hk,by simpa using h2,fun j hj=>?_⟩;cases j with
     | zero=>simpa using hp
     | succ j=>simpa using h3 j J
theorem MR {α:Type} {p:α→Bool} {xs:List α} (h:0≤pK p xs):pK p xs = (pK p xs).toNat:=by omega
theorem MS:∀{xs:List Int} {s:Int},(∀x∈xs,0≤x)→0≤s→s+xs.sum≤9223372036854775807→GZ xs s = some (s+xs.sum)
 | [],s,_,_,_=>by simp [GZ]
 | x :: xs,s,h,hs,hm=>by
   have hx:=h x (List.mem_cons_self ..);have h2:∀y∈xs,0≤y:=fun y hy=>h y (List.mem_cons_of_mem _ hy);have h3:0≤xs.sum:=by
    clear hm h;induction xs with
    | nil=>simp
    | cons a l ih=>simp only [List.sum_cons];have:=h2 a (List.mem_cons_self ..);have:=ih (fun y hy=>h2 y (List.mem_cons_of_mem _ hy));omega
   simp only [List.sum_cons] at hm ⊢;have e:GX s x = some (s+x):=(by unfold GX;rw [if_neg J]);simp only [GZ,e];rw [MS h2 J J];congr 1;omega
theorem MT:∀{xs:List Int} {s t:Int},GZ xs s = some t→s≤9223372036854775807→t = s+xs.sum∧t≤9223372036854775807
 | [],s,t,h,hs=>by simp only [GZ,Option.some.injEq] at h;subst h;simp;omega
 | x :: xs,s,t,h,hs=>by
   simp only [GZ] at h;cases e:GX s x with
   | none=>rw [e] at h;cases h
   | some m =>
     rw [e] at h;unfold GX at e;split at e
     ·cases e
     ·rename_i Z;cases e
      have:=MT h J;simp only [List.sum_cons];omega
def jG (f:nI→Int) (nm:ByteArray) (xs:List ag):Int:=((F7 nm xs).map f).sum
theorem Bg (nm:ByteArray) (xs ys:List ag):F7 nm (xs++ys) = F7 nm xs++F7 nm ys:=by unfold F7;rw [List.filter_append,List.map_append]
theorem uZ {nm:ByteArray} {p:ag} {xs:List ag} (h:j4 nm p = false):F7 nm (p :: xs) = F7 nm xs:=by unfold F7;rw [List.filter_cons,if_neg (by rw [h];simp)]
theorem MU {nm:ByteArray} {p:ag} {xs:List ag} (h:j4 nm p = true):F7 nm (p :: xs) = p.aS :: F7 nm xs:=by unfold F7;rw [List.filter_cons,if_pos h];rfl
theorem MW {nm:ByteArray} {p:ag} : j4 nm p = true↔nm≠⟨#[]⟩∧p.on = nm:=by
 unfold j4;rw [Bool.and_eq_true,Bool.not_eq_true'];constructor
 ·intro ⟨h1,h2⟩;exact ⟨fun e=>(by rw [toList_nil.2 e] at h1;cases h1),eg K6⟩
 ·intro ⟨h1,h2⟩;refine ⟨?_,by rw [h2];simp⟩;cases h:nm.toList == [] with
  | false=>rfl
  | true=>exact absurd (toList_nil.1 h) h1
theorem Bh {nm:ByteArray} {p:ag} (h:p.on = ⟨#[]⟩∨p.on≠nm):j4 nm p = false:=by
 cases e:j4 nm p with
 | false=>rfl
 | true =>
   obtain ⟨h1,h2⟩:=MW.1 e;rcases h with h | h
   ·exact absurd (h2.symm.trans h) h1
   ·exact absurd h2 h
theorem Km {p:nI} (h:GU p = true):0≤p.az∧0≤p.mem:=by
 unfold GU at h;simp only [Bool.and_eq_true,decide_eq_true_eq] at h;exact h.1.2
theorem RU {α:Type} {f:α→Int} {xs ys:List α} (h:xs.Sublist ys) (Z:∀y∈ys,0≤f y):(xs.map f).sum≤(ys.map f).sum:=by
 induction h with
 | slnil=>simp
 | cons a h ih =>have:=ih (fun y hy=>Z y (List.mem_cons_of_mem _ hy));have:=Z a (List.mem_cons_self ..);exact pE
 | cons_cons a h ih =>have:=ih (fun y hy=>Z y (List.mem_cons_of_mem _ hy));exact pE
theorem MX {nm:ByteArray} {xs ys:List ag} (h:xs.Sublist ys):(F7 nm xs).Sublist (F7 nm ys):=(h.filter _).map _
theorem Kn {nm:ByteArray} {xs:List ag} {p:nI} (h:p∈F7 nm xs):∃q∈xs,p = q.aS:=by
 unfold F7 at h;obtain ⟨q,hq,rfl⟩:=List.mem_map.1 h;exact ⟨q,(List.mem_filter.1 hq).1,rfl⟩
def iw (xs:List ag) (h:ba):Prop:=jG nI.az h.name xs≤9223372036854775807∧jG nI.mem h.name xs≤9223372036854775807∧jG nI.az h.name xs≤h.az∧jG nI.mem h.name xs≤h.mem∧((F7 h.name xs).length:Int)≤h.av
theorem Zh {nm:ByteArray} {xs:List ag} (hp:∀p∈xs,GU p.aS = true) (h1:jG nI.az nm xs≤9223372036854775807) (h2:jG nI.mem nm xs≤9223372036854775807):vU (F7 nm xs) = some (jG nI.az nm xs,jG nI.mem nm xs):=by
 unfold vU jG at *
 have e1:=MS (xs:=(F7 nm xs).map nI.az) (s:=0) (fun v hv=>by
  obtain ⟨p,hpm,rfl⟩:=List.mem_map.1 hv;obtain ⟨q,hq,rfl⟩:=Kn hpm
  exact (Km (hp q hq)).1) J J
 have e2:=MS (xs:=(F7 nm xs).map nI.mem) (s:=0) (fun v hv=>by
  obtain ⟨p,hpm,rfl⟩:=List.mem_map.1 hv;obtain ⟨q,hq,rfl⟩:=Kn hpm
  exact (Km (hp q hq)).2) J J
 rw [e1,e2];simp
theorem RV {nm:ByteArray} {xs:List ag} {a b:Int} (h:vU (F7 nm xs) = some (a,b)):a = jG nI.az nm xs∧b = jG nI.mem nm xs∧a≤9223372036854775807∧b≤9223372036854775807:=by
 unfold vU at h;cases e1:GZ ((F7 nm xs).map nI.az) 0 with
 | none=>rw [e1] at h;cases h
 | some m =>
   cases e2:GZ ((F7 nm xs).map nI.mem) 0 with
   | none=>rw [e1,e2] at h;cases h
   | some n =>rw [e1,e2] at h;simp only [Option.some.injEq,Prod.mk.injEq] at h;obtain ⟨rfl,rfl⟩:=h;have h1:=MT e1 J;have h2:=MT e2 J;unfold jG;omega
theorem RW {x:aU} {h:ba} (hp:∀p∈x.V,GU p.aS = true):yl x h = true↔iw x.V h:=by
 constructor
 ·intro hf;cases e:vU (F7 h.name x.V) with
  | none=>rw [Ra e] at hf;cases hf
  | some ab =>obtain ⟨a,b⟩:=ab;rw [Mb e] at hf;simp only [Bool.and_eq_true,decide_eq_true_eq] at hf;obtain ⟨rfl,rfl,h3,h4⟩:=RV e;exact ⟨h3,h4,hf.1,hf.2.1,hf.2.2⟩
 ·intro ⟨h1,h2,h3,h4,h5⟩;rw [Mb (Zh hp h1 h2)];simp only [Bool.and_eq_true,decide_eq_true_eq];exact ⟨h3,h4,h5⟩
structure cI (x:aU):Prop where
 h8:x.aa.length≤8
 va:x.V.length≤12
 n1:1≤x.next
 n2:x.next≤1000000000
 wt:zL x.weights.pack x.weights.af x.weights.an = true
 gU:∀h∈x.aa,Aj h = true
 tO:∀h∈x.aa,iw x.V h
 hs:x.aa.Pairwise fun a b=>dQ a b = true
 q':∀p∈x.V,GU p.aS = true
 tP:∀p∈x.V,1≤p.seq∧p.seq≤x.next - 1
 tQ:∀p∈x.V,p.on = ⟨#[]⟩∨∃h∈x.aa,h.name = p.on
 ps:x.V.Pairwise fun a b=>dw a b = true
 pf:x.V.Pairwise fun a b=>a.seq≠b.seq
theorem RY (a b c:ba) (h1:dQ a b = true) (h2:dQ b c = true):dQ a c = true:=FE _ _ _ h1 h2
theorem R3 (a b c:ag) (h1:dw a b = true) (h2:dw b c = true):dw a c = true:=FE _ _ _ h1 h2
theorem Kp {nm:ByteArray} {h:ba} : iM nm h = true↔h.name = nm:=PW _ _
theorem Zo {nm:ByteArray} {p:ag} : CG nm p = true↔p.aS.name = nm:=PW _ _
theorem Zp (x:aU):iI x = true↔cI x:=by
 unfold iI Em;simp only [Bool.and_eq_true,decide_eq_true_eq];rw [RT RY,RT R3,Zg];have Kr:∀p,jT x p = true↔GU p.aS = true∧(1≤p.seq∧p.seq≤x.next - 1)∧(p.on = ⟨#[]⟩∨∃h∈x.aa,h.name = p.on):=by
  intro p;unfold jT;simp only [Bool.and_eq_true,Bool.or_eq_true,decide_eq_true_eq,toList_nil,Kk,Kp]
 constructor
 ·rintro ⟨⟨a,b,⟨c,d⟩,e⟩,⟨f,g⟩,⟨h,i⟩,j⟩;have hp:∀p∈x.V,GU p.aS = true:=fun p hp=>((Kr p).1 (h p hp)).1;refine ⟨J,J,c,d,e,fun y hy=>?_,fun y hy=>?_,g,hp,fun p hp=>((Kr p).1 (h p hp)).2.1,fun p hp=>((Kr p).1 (h p hp)).2.2,i,j⟩
  ·have:=f y hy;unfold dY at this;rw [Bool.and_eq_true] at this;exact this.1
  ·have:=f y hy;unfold dY at this;rw [Bool.and_eq_true] at this;exact (RW hp).1 this.2
 ·intro G;refine ⟨⟨by have:=G.h8;omega,by have:=G.va;omega,⟨G.n1,G.n2⟩,G.wt⟩,⟨fun y hy=>?_,G.hs⟩,⟨fun p hp=>(Kr p).2 ⟨G.q' p hp,G.tP p hp,G.tQ p hp⟩,G.ps⟩,G.pf⟩;unfold dY;rw [Bool.and_eq_true];exact ⟨G.gU y hy,(RW G.q').2 (G.tO y hy)⟩
theorem iw.sub {xs ys:List ag} {h:ba} (hr:iw ys h) (hs:xs.Sublist ys) (hp:∀p∈ys,GU p.aS = true):iw xs h:=by
 obtain ⟨h1,h2,h3,h4,h5⟩:=hr;have a:=RU (f:=nI.az) (MX (nm:=h.name) hs) (fun y hy=>by obtain ⟨q,hq,rfl⟩:=Kn hy;exact (Km (hp q hq)).1);have b:=RU (f:=nI.mem) (MX (nm:=h.name) hs) (fun y hy=>by obtain ⟨q,hq,rfl⟩:=Kn hy;exact (Km (hp q hq)).2);have c:=(MX (nm:=h.name) hs).length_le;unfold iw jG at *;omega
theorem iw.same {xs ys:List ag} {h:ba} (hr:iw ys h) (he:F7 h.name xs = F7 h.name ys):iw xs h:=by unfold iw jG at *;rw [he];exact hr
theorem Zq {s:ByteArray} (h:Qs s = true):s≠⟨#[]⟩:=by
 intro e;subst e;unfold Qs at h;simp only [Bool.and_eq_true,decide_eq_true_eq] at h;exact absurd h.1.1.1 (by decide)
theorem R5 {h:ba} (hr:Aj h = true):Qs h.name = true:=by
 unfold Aj at hr;simp only [Bool.and_eq_true] at hr;exact hr.1.1.1.1
theorem Zr {h:ba} (hr:Aj h = true):0≤h.az∧0≤h.mem∧1≤h.av:=by
 unfold Aj at hr;simp only [Bool.and_eq_true,decide_eq_true_eq] at hr;exact ⟨hr.1.2.1,hr.1.2.2,hr.2.1⟩
theorem R7 {a b:ByteArray} (h:Op.bytesLess a.toList b.toList = true):a≠b:=by
 intro e;subst e;rw [FD] at h;cases h
end Go.Proofs.YtajbbmembionpaaGreat
