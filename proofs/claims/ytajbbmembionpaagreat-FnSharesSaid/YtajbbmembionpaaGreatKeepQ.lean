/- The operations keep a cluster right: a host dropped, a pod placed, weights set; in plain Lean. No condition. -/
import Derived.Test.YtajbbmembionpaaGreatKeepO
import Derived.Test.YtajbbmembionpaaGreatBest
namespace Go.Proofs.YtajbbmembionpaaGreat
open Go.ChangeShapes Go.WideShapes Go.ChangeAt Go.RowKit
set_option linter.unusedVariables false
set_option linter.unusedSimpArgs false
theorem aD5 {x:aU} (G:cI x) (nm:ByteArray):cI (Ut x nm).1:=by
 unfold Ut;split
 ·split
  ·exact G
  ·exact Zu G _
 ·exact G
theorem S5 {nm Bk:ByteArray} (h:Bk≠nm):∀xs:List ag,F7 Bk (xs.map (QW nm)) = F7 Bk xs
 | []=>rfl
 | p :: xs=>by
   have ih:=S5 h xs;rw [List.map_cons];by_cases hp:p.on = nm
   ·have h1:j4 Bk (QW nm p) = false:=Bh (.inl (by unfold QW;rw [if_pos (by rw [hp];simp)]));have h2:j4 Bk p = false:=Bh (.inr (fun e=>h (e.symm.trans hp)));rw [uZ h1,uZ h2,ih]
   ·have h1:QW nm p = p:=(by unfold QW;rw [if_neg (fun e=>hp (eg (by simpa using e)))]);rw [h1];cases h2:j4 Bk p with
    | false=>rw [uZ h2,uZ h2,ih]
    | true=>rw [MU h2,MU h2,ih]
theorem NL (nm:ByteArray) (p:ag):(QW nm p).aS = p.aS:=by unfold QW;split <;> rfl
theorem NM (nm:ByteArray) (p:ag):(QW nm p).seq = p.seq:=by unfold QW;split <;> rfl
theorem aEl {x:aU} (G:cI x) {nm:ByteArray} {k:Nat} (hk:pK (iM nm) x.aa = k):cI ⟨x.aa.eraseIdx k,x.V.map (QW nm),x.next,x.weights⟩:=by
 obtain ⟨bF,tN,_⟩:=Kl hk;rw [Kp] at tN;have hs:(x.aa.eraseIdx k).Sublist x.aa:=List.eraseIdx_sublist ..;have hm:∀h∈x.aa.eraseIdx k,h.name≠nm:=by intro h hh;obtain ⟨i,hi,b4,rfl⟩:=List.mem_eraseIdx_iff_getElem.1 hh;rw [← tN];exact Sb G.hs _ _ J
 have tO:∀h∈x.aa,h.name≠nm→h∈x.aa.eraseIdx k:=by intro h hh Z;obtain ⟨i,hi,rfl⟩:=List.getElem_of_mem hh;refine List.mem_eraseIdx_iff_getElem.2 ⟨i,hi,fun e=>?_,rfl⟩;subst e;exact Z tN
 refine ⟨Nat.le_trans hs.length_le G.h8,by rw [List.length_map];exact G.va,G.n1,G.n2,G.wt,fun h hh=>G.gU h (hs.subset hh),fun h hh=>(G.tO h (hs.subset hh)).same (S5 (hm h hh) _),G.hs.sublist hs,fun p hp=>?_,fun p hp=>?_,fun p hp=>?_,?_,?_⟩
 ·obtain ⟨q,hq,rfl⟩:=List.mem_map.1 hp;rw [NL];exact G.q' q hq
 ·obtain ⟨q,hq,rfl⟩:=List.mem_map.1 hp;rw [NM];exact G.tP q hq
 ·obtain ⟨q,hq,rfl⟩:=List.mem_map.1 hp;by_cases he:q.on = nm
  ·exact .inl (by unfold QW;rw [if_pos (by rw [he];simp)])
  ·have h1:QW nm q = q:=(by unfold QW;rw [if_neg (fun e=>he (eg (by simpa using e)))]);rw [h1];rcases G.tQ q hq with h2 | ⟨g,hg,h2⟩
   ·exact .inl h2
   ·exact .inr ⟨g,tO g hg (fun e=>he (h2.symm.trans e)),h2⟩
 ·show (x.V.map (QW nm)).Pairwise fun a b=>dw a b = true;rw [List.pairwise_map];exact G.ps.imp (fun {a b} h=>by unfold dw at *;rw [NL,NL];exact h)
 ·show (x.V.map (QW nm)).Pairwise fun a b=>a.seq≠b.seq;rw [List.pairwise_map];exact G.pf.imp (fun {a b} h=>by rw [NM,NM];exact h)
theorem aCV {x:aU} (G:cI x) (nm:ByteArray):cI (Ko x nm).1:=by
 unfold Ko;split
 ·split
  ·exact G
  ·rename_i h;exact aEl G (MR J)
 ·exact G
theorem aD6 {x:aU} (G:cI x) (u:rZ):cI (ik x u).1:=by
 unfold ik;split
 ·rename_i h;exact ⟨G.h8,G.va,G.n1,G.n2,h.2,G.gU,G.tO,G.hs,G.q',G.tP,G.tQ,G.ps,G.pf⟩
 ·exact G
theorem S6 {β:Type} {lt:β→β→Bool} {y z:β} : ∀{l:List β},z∈OM lt y l→z = y∨z∈l
 | [],h=>by simp only [OM,List.mem_singleton] at h;exact .inl h
 | x :: l,h=>by
   unfold OM at h;split at h
   ·simpa using h
   ·rcases List.mem_cons.1 h with rfl | h
    ·exact .inr (List.mem_cons_self ..)
    ·rcases S6 h with h | h
     ·exact .inl h
     ·exact .inr (List.mem_cons_of_mem _ h)
theorem S7 {β:Type} {lt:β→β→Bool} {z:β} : ∀{ys acc:List β},z∈bz lt acc ys→z∈acc∨z∈ys
 | [],acc,h=>.inl h
 | y :: ys,acc,h=>by
   rcases S7 (ys:=ys) (acc:=OM lt y acc) h with h | h
   ·rcases S6 h with rfl | h
    ·exact .inr (List.mem_cons_self ..)
    ·exact .inl h
   ·exact .inr (List.mem_cons_of_mem _ h)
theorem aFQ {x:aU} {p:nI} {nm:ByteArray} (h:nm∈Jh x p):∃g∈x.aa,g.name = nm∧oH nm x p = 0:=by
 unfold Jh at h;rcases S7 h with h | h
 ·cases h
 ·unfold Ar at h;obtain ⟨g,hg,rfl⟩:=List.mem_map.1 h;obtain ⟨h1,h2⟩:=List.mem_filter.1 hg;unfold Gi at h2;exact ⟨g,h1,rfl,by simpa using h2⟩
theorem azR {x:aU} {p:nI} (h:vn x p = true):∃g∈x.aa,g.name = nj x p∧oH (nj x p) x p = 0:=by
 refine aFQ ?_;unfold vn nj at *;cases e:Jh x p with
 | nil=>rw [e] at h;cases h
 | cons a l=>simp
theorem S8 {a b c:Int} (h:Jo a b c = true):a+b≤c∧a+b≤9223372036854775807:=by
 unfold Jo at h;split at h
 ·rename_i s e;rw [decide_eq_true_eq] at h;unfold GX at e;split at e
  ·cases e
  ·cases e;omega
 ·cases h
theorem aCw {x:aU} {nm:ByteArray} {p:nI} (h:oH nm x p = 0):∃g∈x.aa,g.name = nm∧jG nI.az nm x.V+p.az≤g.az∧jG nI.az nm x.V+p.az≤9223372036854775807∧jG nI.mem nm x.V+p.mem≤g.mem∧jG nI.mem nm x.V+p.mem≤9223372036854775807∧((F7 nm x.V).length:Int) < g.av:=by
 by_cases h1:pK (iM nm) x.aa < 0
 ·unfold oH at h;rw [if_pos h1] at h;omega
 ·obtain ⟨k,hk⟩:∃k:Nat,pK (iM nm) x.aa = k:=⟨_,MR J⟩;obtain ⟨bF,tN,_⟩:=Kl hk;cases e:vU (F7 nm x.V) with
  | none=>rw [SN e] at h;omega
  | some ab =>
    obtain ⟨a,b⟩:=ab;rw [SO bF hk e] at h;obtain ⟨rfl,rfl,_,_⟩:=RV e;refine ⟨_,List.getElem_mem bF,Kp.1 tN,?_⟩;unfold Vm at h;split at h
    ·omega
    ·split at h
     ·omega
     ·split at h
      ·omega
      ·rename_i h3;split at h
       ·omega
       ·rename_i h4;split at h
        ·omega
        ·rename_i h5;have h3:=S8 (by simpa using h3);have h4:=S8 (by simpa using h4);omega
theorem NN {α:Type} {xs:List α} {k:Nat} (hk:k < xs.length) (v:α):xs.set k v = xs.take k++v :: xs.drop (k+1):=by
 rw [List.set_eq_take_append_cons_drop,if_pos hk]
theorem S9 {α:Type} {xs:List α} {k:Nat} (hk:k < xs.length):xs = xs.take k++xs[k] :: xs.drop (k+1):=by
 rw [← NN hk xs[k],List.set_getElem_self]
theorem Ta {α β:Type} (f:α→β) {xs:List α} {k:Nat} (hk:k < xs.length) {v:α} (h:f v = f xs[k]):(xs.set k v).map f = xs.map f:=by
 have e:f xs[k] = (xs.map f)[k]'(by rw [List.length_map];exact hk):=by simp
 rw [List.map_set,h,e,List.set_getElem_self]
theorem Tb {xs:List ag} {k:Nat} (hk:k < xs.length) {v:ag} {nm:ByteArray} (h0:xs[k].on = ⟨#[]⟩) (h1:j4 nm v = true) (hp:v.aS = xs[k].aS) (f:nI→Int):jG f nm (xs.set k v) = jG f nm xs+f v.aS∧(F7 nm (xs.set k v)).length = (F7 nm xs).length+1:=by
 have e1:F7 nm xs = F7 nm (xs.take k)++F7 nm (xs.drop (k+1)):=by
  conv=>lhs;rw [S9 hk]
  rw [Bg,uZ (Bh (.inl h0))]
 have e2:F7 nm (xs.set k v) = F7 nm (xs.take k)++v.aS :: F7 nm (xs.drop (k+1)):=by rw [NN hk,Bg,MU h1]
 unfold jG;rw [e1,e2];simp only [List.map_append,List.map_cons,List.sum_append,List.sum_cons,List.length_append,List.length_cons];omega
theorem aFR {xs:List ag} {k:Nat} (hk:k < xs.length) {v:ag} {nm:ByteArray} (h0:xs[k].on = ⟨#[]⟩) (h1:j4 nm v = false):F7 nm (xs.set k v) = F7 nm xs:=by
 conv=>rhs;rw [S9 hk]
 rw [NN hk,Bg,Bg,uZ h1,uZ (Bh (.inl h0))]
theorem azT {x:aU} (G:cI x) {k:Nat} (hk:k < x.V.length) {nm:ByteArray} (ho:x.V[k].on = ⟨#[]⟩) (hr:oH nm x x.V[k].aS = 0):cI ⟨x.aa,x.V.set k ⟨x.V[k].aS,nm,x.V[k].seq⟩,x.next,x.weights⟩:=by
 obtain ⟨g,hg,eO,r1,r2,r3,r4,r5⟩:=aCw hr;have b4:=Zq (R5 (G.gU g hg));have hm:∀p∈x.V.set k ⟨x.V[k].aS,nm,x.V[k].seq⟩,p = ⟨x.V[k].aS,nm,x.V[k].seq⟩∨p∈x.V:=fun p hp=>by
  rcases List.mem_or_eq_of_mem_set hp with h | h
  ·exact .inr h
  ·exact .inl h
 refine ⟨G.h8,by rw [List.length_set];exact G.va,G.n1,G.n2,G.wt,G.gU,fun h hh=>?_,G.hs,fun p hp=>?_,fun p hp=>?_,fun p hp=>?_,?_,?_⟩
 ·by_cases he:h.name = nm
  ·obtain rfl:h = g:=by
    obtain ⟨i,hi,rfl⟩:=List.getElem_of_mem hh;obtain ⟨j,hj,rfl⟩:=List.getElem_of_mem hg;by_cases pv:i = j
    ·subst pv;rfl
    ·exact absurd (he.trans eO.symm) (Sb G.hs hi hj pv)
   have gR:j4 h.name (⟨x.V[k].aS,nm,x.V[k].seq⟩:ag) = true:=MW.2 ⟨b4,he.symm⟩;obtain ⟨e1,e3⟩:=Tb (nm:=h.name) hk (v:=⟨x.V[k].aS,nm,x.V[k].seq⟩) ho gR rfl nI.az;obtain ⟨e2,_⟩:=Tb (nm:=h.name) hk (v:=⟨x.V[k].aS,nm,x.V[k].seq⟩) ho gR rfl nI.mem;subst he;unfold iw;dsimp only at e1 e2 e3 ⊢;rw [e1,e2,e3];omega
  ·refine (G.tO h hh).same (aFR hk ho (Bh (.inr ?_)));exact fun e=>he e.symm
 ·rcases hm p hp with rfl | hp
  ·exact G.q' x.V[k] (List.getElem_mem hk)
  ·exact G.q' p hp
 ·rcases hm p hp with rfl | hp
  ·exact G.tP x.V[k] (List.getElem_mem hk)
  ·exact G.tP p hp
 ·rcases hm p hp with rfl | hp
  ·exact .inr ⟨g,hg,eO⟩
  ·exact G.tQ p hp
 ·have h1:∀ys:List ag,ys.Pairwise (fun a b=>dw a b = true)↔(ys.map fun p=>p.aS.name).Pairwise fun a b=>Op.bytesLess a.toList b.toList = true:=fun ys=>by rw [List.pairwise_map];rfl
  show (x.V.set k _).Pairwise fun a b=>dw a b = true;rw [h1,Ta (fun p:ag=>p.aS.name) hk (v:=⟨x.V[k].aS,nm,x.V[k].seq⟩) rfl,← h1];exact G.ps
 ·have h1:∀ys:List ag,ys.Pairwise (fun a b=>a.seq≠b.seq)↔(ys.map fun p=>p.seq).Pairwise fun a b=>a≠b:=fun ys=>by rw [List.pairwise_map]
  show (x.V.set k _).Pairwise fun a b=>a.seq≠b.seq;rw [h1,Ta (fun p:ag=>p.seq) hk (v:=⟨x.V[k].aS,nm,x.V[k].seq⟩) rfl,← h1];exact G.pf
theorem Tc {x:aU} (G:cI x) (nm:ByteArray):cI (ka x nm).1:=by
 have hc:=(Zp x).2 G;by_cases h1:pK (CG nm) x.V < 0
 ·rw [SW hc h1];exact G
 ·obtain ⟨k,hk⟩:∃k:Nat,pK (CG nm) x.V = k:=⟨_,MR J⟩;obtain ⟨bF,tN,_⟩:=Kl hk;rw [SX hc hk bF];unfold zj;split
  ·rename_i h2;have ho:x.V[k].on = ⟨#[]⟩:=by
    refine eg ?_;have h3:x.V[k].on.toList = []:=by rw [ByteArray.toList_eq];exact List.eq_nil_of_length_eq_zero K6
    rw [h3,ByteArray.toList_eq]
   split
   ·rename_i h3;obtain ⟨g,hg,eO,hr⟩:=azR h3;exact azT G bF ho hr
   ·exact G
  ·exact G
theorem ayD {x:aU} (G:cI x):cI (BX x).1:=by
 unfold BX;split
 ·split
  ·exact Tc G _
  ·exact G
 ·exact G
end Go.Proofs.YtajbbmembionpaaGreat
