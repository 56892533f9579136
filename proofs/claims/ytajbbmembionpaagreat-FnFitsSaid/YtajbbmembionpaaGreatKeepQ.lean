/- The operations keep a cluster right: a host dropped, a pod placed, weights set; in plain Lean. No condition. -/
import Derived.Test.YtajbbmembionpaaGreatHostNormS
import Derived.Test.YtajbbmembionpaaGreatOpsW
import Derived.Test.YtajbbmembionpaaGreatReasons
namespace Go.Proofs.YtajbbmembionpaaGreat
open Go.ChangeShapes Go.WideShapes Go.ChangeAt Go.RowKit
set_option linter.unusedVariables false
set_option linter.unusedSimpArgs false
theorem aD5 {x:aU} (G:cM x) (nm:ByteArray):cM (Ut x nm).1:=by
 unfold Ut;split
 ·split
  ·exact G
  ·exact aFN G _
 ·exact G
theorem US {nm Bw:ByteArray} (h:Bw≠nm):∀xs:List ag,F7 Bw (xs.map (QW nm)) = F7 Bw xs
 | []=>rfl
 | p :: xs=>by
   have ih:=US h xs;rw [List.map_cons];by_cases hp:p.on = nm
   ·have Z:i' Bw (QW nm p) = false:=y9 (.inl (by unfold QW;rw [if_pos (by rw [hp];simp)]));have h2:i' Bw p = false:=y9 (.inr (fun e=>h (e.symm.trans hp)));rw [tB Z,tB h2,ih]
   ·have Z:QW nm p = p:=(by unfold QW;rw [if_neg (fun e=>hp (er (by simpa using e)))]);rw [Z];cases h2:i' Bw p with
    | false=>rw [tB h2,tB h2,ih]
    | true=>rw [Om h2,Om h2,ih]
theorem O0 (nm:ByteArray) (p:ag):(QW nm p).aS = p.aS:=by unfold QW;split <;> rfl
theorem O1 (nm:ByteArray) (p:ag):(QW nm p).seq = p.seq:=by unfold QW;split <;> rfl
theorem aEl {x:aU} (G:cM x) {nm:ByteArray} {k:Nat} (hk:pK (iM nm) x.V = k):cM ⟨x.V.eraseIdx k,x.O.map (QW nm),x.next,x.weights⟩:=by
 obtain ⟨bI,tA,_⟩:=Hb hk;rw [Lu] at tA;have hs:(x.V.eraseIdx k).Sublist x.V:=List.eraseIdx_sublist ..;have hm:∀h∈x.V.eraseIdx k,h.name≠nm:=by intro h hh;obtain ⟨i,hi,bX,rfl⟩:=List.mem_eraseIdx_iff_getElem.1 hh;rw [← tA];exact T5 G.hs _ _ J
 have tD:∀h∈x.V,h.name≠nm→h∈x.V.eraseIdx k:=by intro h hh X;obtain ⟨i,hi,rfl⟩:=List.getElem_of_mem hh;refine List.mem_eraseIdx_iff_getElem.2 ⟨i,hi,fun e=>?_,rfl⟩;subst e;exact X tA
 refine ⟨Nat.le_trans hs.length_le G.h8,by rw [List.length_map];exact G.tC,G.n1,G.n2,G.wt,fun h hh=>G.g6 h (hs.subset hh),fun h hh=>(G.tD h (hs.subset hh)).same (US (hm h hh) _),G.hs.sublist hs,fun p hp=>?_,fun p hp=>?_,fun p hp=>?_,?_,?_⟩
 ·obtain ⟨q,hq,rfl⟩:=List.mem_map.1 hp;rw [O0];exact G.qC q hq
 ·obtain ⟨q,hq,rfl⟩:=List.mem_map.1 hp;rw [O1];exact G.tE q hq
 ·obtain ⟨q,hq,rfl⟩:=List.mem_map.1 hp;by_cases he:q.on = nm
  ·exact .inl (by unfold QW;rw [if_pos (by rw [he];simp)])
  ·have Z:QW nm q = q:=(by unfold QW;rw [if_neg (fun e=>he (er (by simpa using e)))]);rw [Z];rcases G.tF q hq with h2 | ⟨g,hg,h2⟩
   ·exact .inl h2
   ·exact .inr ⟨g,tD g hg (fun e=>he (h2.symm.trans e)),h2⟩
 ·show (x.O.map (QW nm)).Pairwise fun a b=>dw a b = true;rw [List.pairwise_map];exact G.ps.imp (fun {a b} h=>by unfold dw at *;rw [O0,O0];exact h)
 ·show (x.O.map (QW nm)).Pairwise fun a b=>a.seq≠b.seq;rw [List.pairwise_map];exact G.pf.imp (fun {a b} h=>by rw [O1,O1];exact h)
theorem aCV {x:aU} (G:cM x) (nm:ByteArray):cM (Ko x nm).1:=by
 unfold Ko;split
 ·split
  ·exact G
  ·rename_i h;exact aEl G (Lp J)
 ·exact G
theorem aD6 {x:aU} (G:cM x) (u:rZ):cM (ij x u).1:=by
 unfold ij;split
 ·rename_i h;exact ⟨G.h8,G.tC,G.n1,G.n2,h.2,G.g6,G.tD,G.hs,G.qC,G.tE,G.tF,G.ps,G.pf⟩
 ·exact G
theorem UT {β:Type} {lt:β→β→Bool} {y z:β} : ∀{l:List β},z∈OM lt y l→z = y∨z∈l
 | [],h=>by simp only [OM,List.mem_singleton] at h;exact .inl h
 | x :: l,h=>by
   unfold OM at h;split at h
   ·simpa using h
   ·rcases List.mem_cons.1 h with rfl | h
    ·exact .inr (List.mem_cons_self ..)
    ·rcases UT h with h | h
     ·exact .inl h
     ·exact .inr (List.mem_cons_of_mem _ h)
theorem UU {β:Type} {lt:β→β→Bool} {z:β} : ∀{ys acc:List β},z∈bz lt acc ys→z∈acc∨z∈ys
 | [],acc,h=>.inl h
 | y :: ys,acc,h=>by
   rcases UU (ys:=ys) (acc:=OM lt y acc) h with h | h
   ·rcases UT h with rfl | h
    ·exact .inr (List.mem_cons_self ..)
    ·exact .inl h
   ·exact .inr (List.mem_cons_of_mem _ h)
theorem aFQ {x:aU} {p:nI} {nm:ByteArray} (h:nm∈Jh x p):∃g∈x.V,g.name = nm∧oH nm x p = 0:=by
 unfold Jh at h;rcases UU h with h | h
 ·cases h
 ·unfold Ar at h;obtain ⟨g,hg,rfl⟩:=List.mem_map.1 h;obtain ⟨Z,h2⟩:=List.mem_filter.1 hg;unfold zj at h2;exact ⟨g,Z,rfl,by simpa using h2⟩
theorem azR {x:aU} {p:nI} (h:vj x p = true):∃g∈x.V,g.name = mW x p∧oH (mW x p) x p = 0:=by
 refine aFQ ?_;unfold vj mW at *;cases e:Jh x p with
 | nil=>rw [e] at h;cases h
 | cons a l=>simp
theorem UV {a b c:Int} (h:Jo a b c = true):a+b≤c∧a+b≤9223372036854775807:=by
 unfold Jo at h;split at h
 ·rename_i s e;rw [decide_eq_true_eq] at h;unfold GX at e;split at e
  ·cases e
  ·cases e;omega
 ·cases h
theorem aCw {x:aU} {nm:ByteArray} {p:nI} (h:oH nm x p = 0):∃g∈x.V,g.name = nm∧jD nI.az nm x.O+p.az≤g.az∧jD nI.az nm x.O+p.az≤9223372036854775807∧jD nI.mem nm x.O+p.mem≤g.mem∧jD nI.mem nm x.O+p.mem≤9223372036854775807∧((F7 nm x.O).length:Int) < g.ax:=by
 by_cases Z:pK (iM nm) x.V < 0
 ·unfold oH at h;rw [if_pos Z] at h;omega
 ·obtain ⟨k,hk⟩:∃k:Nat,pK (iM nm) x.V = k:=⟨_,Lp J⟩;obtain ⟨bI,tA,_⟩:=Hb hk;cases e:vU (F7 nm x.O) with
  | none=>rw [ON e] at h;omega
  | some ab =>
    obtain ⟨a,b⟩:=ab;rw [OP bI hk e] at h;obtain ⟨rfl,rfl,_,_⟩:=TS e;refine ⟨_,List.getElem_mem bI,Lu.1 tA,?_⟩;unfold Vm at h;split at h
    ·omega
    ·split at h
     ·omega
     ·split at h
      ·omega
      ·rename_i h3;split at h
       ·omega
       ·rename_i h4;split at h
        ·omega
        ·rename_i h5;have h3:=UV (by simpa using h3);have h4:=UV (by simpa using h4);omega
theorem O4 {α:Type} {xs:List α} {k:Nat} (hk:k < xs.length) (v:α):xs.set k v = xs.take k++v :: xs.drop (k+1):=by
 rw [List.set_eq_take_append_cons_drop,if_pos hk]
theorem UX {α:Type} {xs:List α} {k:Nat} (hk:k < xs.length):xs = xs.take k++xs[k] :: xs.drop (k+1):=by
 rw [← O4 hk xs[k],List.set_getElem_self]
theorem UY {α β:Type} (f:α→β) {xs:List α} {k:Nat} (hk:k < xs.length) {v:α} (h:f v = f xs[k]):(xs.set k v).map f = xs.map f:=by
 have e:f xs[k] = (xs.map f)[k]'(by rw [List.length_map];exact hk):=by simp
 rw [List.map_set,h,e,List.set_getElem_self]
theorem UZ {xs:List ag} {k:Nat} (hk:k < xs.length) {v:ag} {nm:ByteArray} (h0:xs[k].on = ⟨#[]⟩) (Z:i' nm v = true) (hp:v.aS = xs[k].aS) (f:nI→Int):jD f nm (xs.set k v) = jD f nm xs+f v.aS∧(F7 nm (xs.set k v)).length = (F7 nm xs).length+1:=by
 have e1:F7 nm xs = F7 nm (xs.take k)++F7 nm (xs.drop (k+1)):=by
  conv=>lhs;rw [UX hk]
  rw [vc,tB (y9 (.inl h0))]
 have e2:F7 nm (xs.set k v) = F7 nm (xs.take k)++v.aS :: F7 nm (xs.drop (k+1)):=by rw [O4 hk,vc,Om Z]
 unfold jD;rw [e1,e2];simp only [List.map_append,List.map_cons,List.sum_append,List.sum_cons,List.length_append,List.length_cons];omega
theorem aFR {xs:List ag} {k:Nat} (hk:k < xs.length) {v:ag} {nm:ByteArray} (h0:xs[k].on = ⟨#[]⟩) (Z:i' nm v = false):F7 nm (xs.set k v) = F7 nm xs:=by
 conv=>rhs;rw [UX hk]
 rw [O4 hk,vc,vc,tB Z,tB (y9 (.inl h0))]
theorem U9 {x:aU} (G:cM x) {k:Nat} (hk:k < x.O.length) {nm:ByteArray} (ho:x.O[k].on = ⟨#[]⟩) (hr:oH nm x x.O[k].aS = 0):cM ⟨x.V,x.O.set k ⟨x.O[k].aS,nm,x.O[k].seq⟩,x.next,x.weights⟩:=by
 obtain ⟨g,hg,eZ,r1,r2,r3,r4,r5⟩:=aCw hr;have bX:=aJ2 (TX (G.g6 g hg));have hm:∀p∈x.O.set k ⟨x.O[k].aS,nm,x.O[k].seq⟩,p = ⟨x.O[k].aS,nm,x.O[k].seq⟩∨p∈x.O:=fun p hp=>by
  rcases List.mem_or_eq_of_mem_set hp with h | h
  ·exact .inr h
  ·exact .inl h
 refine ⟨G.h8,by rw [List.length_set];exact G.tC,G.n1,G.n2,G.wt,G.g6,fun h hh=>?_,G.hs,fun p hp=>?_,fun p hp=>?_,fun p hp=>?_,?_,?_⟩
 ·by_cases he:h.name = nm
  ·obtain rfl:h = g:=by
    obtain ⟨i,hi,rfl⟩:=List.getElem_of_mem hh;obtain ⟨j,hj,rfl⟩:=List.getElem_of_mem hg;by_cases lR:i = j
    ·subst lR;rfl
    ·exact absurd (he.trans eZ.symm) (T5 G.hs hi hj lR)
   have gO:i' h.name (⟨x.O[k].aS,nm,x.O[k].seq⟩:ag) = true:=On.2 ⟨bX,he.symm⟩;obtain ⟨e1,e3⟩:=UZ (nm:=h.name) hk (v:=⟨x.O[k].aS,nm,x.O[k].seq⟩) ho gO rfl nI.az;obtain ⟨e2,_⟩:=UZ (nm:=h.name) hk (v:=⟨x.O[k].aS,nm,x.O[k].seq⟩) ho gO rfl nI.mem;subst he;unfold iw;dsimp only at e1 e2 e3 ⊢;rw [e1,e2,e3];omega
  ·refine (G.tD h hh).same (aFR hk ho (y9 (.inr ?_)));exact fun e=>he e.symm
 ·rcases hm p hp with rfl | hp
  ·exact G.qC x.O[k] (List.getElem_mem hk)
  ·exact G.qC p hp
 ·rcases hm p hp with rfl | hp
  ·exact G.tE x.O[k] (List.getElem_mem hk)
  ·exact G.tE p hp
 ·rcases hm p hp with rfl | hp
  ·exact .inr ⟨g,hg,eZ⟩
  ·exact G.tF p hp
 ·have Z:∀ys:List ag,ys.Pairwise (fun a b=>dw a b = true)↔(ys.map fun p=>p.aS.name).Pairwise fun a b=>Op.bytesLess a.toList b.toList = true:=fun ys=>by rw [List.pairwise_map];rfl
  show (x.O.set k _).Pairwise fun a b=>dw a b = true;rw [Z,UY (fun p:ag=>p.aS.name) hk (v:=⟨x.O[k].aS,nm,x.O[k].seq⟩) rfl,← Z];exact G.ps
 ·have Z:∀ys:List ag,ys.Pairwise (fun a b=>a.seq≠b.seq)↔(ys.map fun p=>p.seq).Pairwise fun a b=>a≠b:=fun ys=>by rw [List.pairwise_map]
  show (x.O.set k _).Pairwise fun a b=>a.seq≠b.seq;rw [Z,UY (fun p:ag=>p.seq) hk (v:=⟨x.O[k].aS,nm,x.O[k].seq⟩) rfl,← Z];exact G.pf
theorem Va {x:aU} (G:cM x) (nm:ByteArray):cM (ka x nm).1:=by
 have hc:=(TW x).2 G;by_cases Z:pK (CG nm) x.O < 0
 ·rw [UL hc Z];exact G
 ·obtain ⟨k,hk⟩:∃k:Nat,pK (CG nm) x.O = k:=⟨_,Lp J⟩;obtain ⟨bI,tA,_⟩:=Hb hk;rw [UM hc hk bI];unfold zl;split
  ·rename_i h2;have ho:x.O[k].on = ⟨#[]⟩:=by
    refine er ?_;have h3:x.O[k].on.toList = []:=by rw [ByteArray.toList_eq];exact List.eq_nil_of_length_eq_zero L'
    rw [h3,ByteArray.toList_eq]
   split
   ·rename_i h3;obtain ⟨g,hg,eZ,hr⟩:=azR h3;exact U9 G bI ho hr
   ·exact G
  ·exact G
theorem ayD {x:aU} (G:cM x):cM (BX x).1:=by
 unfold BX;split
 ·split
  ·exact Va G _
  ·exact G
 ·exact G
theorem gb {β:Type} {lt:β→β→Bool} (T:ov lt) {xs:List β} (h:d7 lt xs):ei lt [] xs = xs :=
 d7.eq T (Q1 T xs List.Pairwise.nil) h fun z=>by rw [AF T];simp
theorem mi {β:Type} {lt:β→β→Bool} {y:β} : ∀{l:List β},(∀z∈l,lt y z = false)→OM lt y l = l++[y]
 | [],_=>rfl
 | z :: r,h=>by
   rw [OM,if_neg (by rw [h z List.mem_cons_self];simp),mi fun q hq=>h q (List.mem_cons_of_mem _ hq)];rfl
theorem nt {β:Type} {lt:β→β→Bool} (ha:∀x y,lt x y = true→lt y x = false) (xs:List β):xs.Pairwise (fun a b=>lt a b = true)→bz lt [] xs = xs:=by
 generalize X:xs.length = n;induction n generalizing xs with
 | zero=>intro _;rw [List.eq_nil_of_length_eq_zero X];rfl
 | succ n ih =>intro h;have bX:xs≠[]:=(by intro e;rw [e] at X;cases X);obtain ⟨ys,y,rfl⟩:∃ys y,xs = ys++[y]:=⟨xs.dropLast,xs.getLast bX,(List.dropLast_concat_getLast bX).symm⟩;rw [List.pairwise_append] at h;rw [V3,ih ys (by simpa using X) h.1,mi fun z hz=>ha _ _ (h.2.2 z hz y S')]
theorem fG {α:Type} {ok:α→Bool} {less:α→α→Bool} (tr:∀a b c,less a b = true→less b c = true→less a c = true) {m:Int} {xs:List α} (h:l0 ok less m xs = true):(xs.length:Int)≤m∧(∀x∈xs,ok x = true)∧xs.Pairwise fun a b=>less a b = true:=by
 unfold l0 at h;rw [Bool.and_eq_true,decide_eq_true_eq] at h;exact ⟨h.1,(Oi tr xs).1 h.2⟩
theorem IY (a b:ao) (h:zi a b = true):kS eQ a b = true:=by
 unfold kS eQ;unfold zi at h;rw [decide_eq_true_eq,Wx,← ByteArray.toList_eq,← ByteArray.toList_eq];exact h
theorem eN {xs:List ao} (h:sD xs = true):BG xs = (xs,true):=by
 have e:bz (kS eQ) [] xs = xs:=nt (fun x y h=>tf.asym h) xs ((fG (less:=zi) (fun a b c=>uR _ _ _) h).2.2.imp fun {a b} hh=>IY a b hh);rw [Sh (by rw [e];exact h),e]
theorem fI {xs:List bH} (h:Ya xs = true):jC xs = (xs,true):=by
 obtain ⟨Z,_,h3⟩:=fG FC.trans h;have e:ei vJ [] xs = xs:=gb FC h3;rw [To J (by rw [e];exact h),e]
theorem nu {x:aL} (h:uh x = true):ga x.values = x.values:=by
 unfold uh at h;rw [Bool.and_eq_true] at h;have h2:=h.2;split at h2
 ·rw [decide_eq_true_eq] at h2;rw [List.eq_nil_of_length_eq_zero h2];rfl
 ·rw [Bool.and_eq_true] at h2;exact gb tv (fG (less:=bl) (fun a b c=>uR _ _ _) h2.2).2.2
theorem rx {x:aL} (h:uh x = true):x.values.length≤40:=by
 unfold uh at h;rw [Bool.and_eq_true] at h;have h2:=h.2;split at h2
 ·rw [decide_eq_true_eq] at h2;omega
 ·rw [Bool.and_eq_true] at h2;have:=(fG (less:=bl) (fun a b c=>uR _ _ _) h2.2).1;omega
theorem fg {xs:List aL} (h:nU xs = true):jh xs = (xs,true):=by
 obtain ⟨Z,h2,h3⟩:=fG M4.trans h;have em:xs.map lA = xs:=by
  have:xs.map lA = xs.map id:=List.map_congr_left fun x hx=>by
   unfold lA;rw [nu (h2 x hx)];rfl
  rw [this,List.map_id]
 have e:jc xs = xs:=by unfold jc;rw [em];exact gb M4 h3
 rw [Tt J (Tw fun j hj=>rx (h2 _ (List.getElem_mem hj))) (by rw [e];exact h),e]
theorem aDz {p:nI} (h:GU p = true):sD p.labels = true∧nU p.ai = true∧Ya p.ae = true:=by
 unfold GU at h;simp only [Bool.and_eq_true] at h;simp_all
theorem iB {p:nI} (h:GU p = true):jf p = (p,true):=by
 obtain ⟨Z,h2,h3⟩:=aDz h;have e:mR p = p:=by unfold mR;rw [eN Z,fg h2,fI h3]
 unfold jf;rw [e,if_pos ⟨by rw [eN Z],by rw [fg h2],by rw [fI h3],h⟩]
theorem tW (nm:ByteArray) (i:Nat) (q:ag) (xs:List ag) (h:i' nm q = false):F7 nm (eH i q xs) = F7 nm xs:=by
 unfold eH;rw [vc,tB h,← vc,List.take_append_drop]
theorem nv {x:aU} {nm:ByteArray} {p:nI} (q:nI) (i:Nat):oH nm ⟨x.V,eH i (cT x q) x.O,x.next+1,x.weights⟩ p = oH nm x p:=by
 unfold oH;dsimp only;rw [tW nm i _ x.O (y9 (.inl rfl))]
theorem nw {x:aU} (G:cM x) {p:nI} (hp:GU p = true) {nm:ByteArray} (hr:oH nm x p = 0) (U:(gl x p).2 = 0) :
 ∃k,∃hk:k < (gl x p).1.O.length,pK (CG p.name) (gl x p).1.O = k∧cM ⟨(gl x p).1.V,(gl x p).1.O.set k ⟨(gl x p).1.O[k].aS,nm,(gl x p).1.O[k].seq⟩,(gl x p).1.next,(gl x p).1.weights⟩:=by
 have G':=Oy G p;have e:(gl x p).1 = ⟨x.V,eH (eJ p.name x.O) (cT x p) x.O,x.next+1,x.weights⟩:=by
  unfold gl at U ⊢;rw [iB hp] at U ⊢;dsimp only at U ⊢;split at U
  ·split at U
   ·cases U
   ·split at U
    ·cases U
    ·rename_i Z h2 h3;rw [if_pos Z,if_neg h2,if_neg h3]
  ·cases U
 rw [e] at G' ⊢;have hm:cT x p∈eH (eJ p.name x.O) (cT x p) x.O:=by unfold eH;simp
 have h0:0≤pK (CG p.name) (eH (eJ p.name x.O) (cT x p) x.O):=G9.2 ⟨_,hm,Oq.2 rfl⟩;have hx:=Lp h0;obtain ⟨hk,dt,_⟩:=Hb hx;generalize (pK (CG p.name) (eH (eJ p.name x.O) (cT x p) x.O)).toNat = k at *;have xP:(eH (eJ p.name x.O) (cT x p) x.O)[k] = cT x p:=by
  obtain ⟨j,hj,Of⟩:=List.getElem_of_mem hm;by_cases fV:j = k
  ·subst fV;exact Of
  ·exfalso;refine o5 G'.ps hj hk fV ?_;rw [Of,Oq.1 dt];rfl
 refine ⟨k,hk,hx,?_⟩;exact U9 G' hk (by rw [xP];rfl) (by rw [xP,nv];exact hr)
theorem tY (l:List Int) (h:∀r∈l,0≤r∧r≤6):En l 0+En l 1+En l 2+En l 3+En l 4+En l 5+En l 6 = l.length:=by
 induction l with
 | nil=>rfl
 | cons r l ih =>
   have h0:=h r List.mem_cons_self;have:=ih fun q hq=>h q (List.mem_cons_of_mem _ hq);have e:∀j:Nat,En (r :: l) j = En l j+if r = (j:Int) then 1 else 0:=fun j=>by
    unfold En;rw [List.filter_cons];by_cases hj:r = (j:Int)
    ·rw [if_pos hj,if_pos (by simp [hj]),List.length_cons];omega
    ·rw [if_neg hj,if_neg (by simpa using hj)];omega
   rw [e,e,e,e,e,e,e,List.length_cons];have h7:r = 0∨r = 1∨r = 2∨r = 3∨r = 4∨r = 5∨r = 6:=J;rcases h7 with rfl | rfl | rfl | rfl | rfl | rfl | rfl <;> simp <;> omega
theorem ry (x:aU) (p:nI) (hs:List aR):En (lH x p hs) 0 = ((Ar x p hs).length:Int):=by
 unfold En lH Ar zj;rw [List.filter_map,List.length_map,List.length_map];rfl
theorem kg (x:aU) (p:nI) (hs:List aR):∀r∈lH x p hs,0≤r∧r≤6:=by
 intro r hr;obtain ⟨h,_,rfl⟩:=List.mem_map.1 hr;exact Zo _ _ _
end Go.Proofs.YtajbbmembionpaaGreat
