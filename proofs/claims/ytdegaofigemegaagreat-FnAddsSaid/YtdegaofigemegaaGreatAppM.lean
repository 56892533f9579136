/- ApplyManifest of the reference. No condition. -/
import Derived.Test.YtdegaofigemegaaGreatOpsAS
import Derived.Test.YtdegaofigemegaaGreatOpsQS
import Derived.Test.YtdegaofigemegaaGreatDrawW
import Derived.Test.YtdegaofigemegaaGreatOpsAI
namespace Go.Proofs.YtdegaofigemegaaGreat
open Go.ChangeShapes Go.WideShapes Go.ChangeAt Go.RowKit
set_option linter.unusedVariables false
set_option linter.unusedSimpArgs false
set_option maxHeartbeats 4000000
set_option maxRecDepth 100000
def mS (x:aU) (m:bN):aU × Int:=if m.kind = 1 then ff x m.aS else if m.kind = 2 then f' x m.aD else (x,if iI x = true then 8 else 1)
theorem axA (x:aU) (cs:List Value) (F:List Nat) (m:bN) (ms:List Value) (Fm:List Nat) (w:World) (h:rd w x cs F) (h':rd w m ms Fm) (hw:(x.wt:Int)<=1048576) (hm:(m.wt:Int)<=1048576) :
 Calls Tryz.prog 48 #[.agg cs.toArray,.agg ms.toArray] w λe w'=>∃ds G,e = .returned (.tuple #[.agg ds.toArray,.int .i64 (mS x m).2])/\ai w' w.heap.size (mS x m).1 ds G/\Below w.heap.size w w':=by
 have Pp:m.wt = m.aS.wt+m.aD.wt:=rfl;have Uc:=I (show (m.aS.wt:Int)<=1048576 by omega);have Pq:=I (show (m.aD.wt:Int)<=1048576 by omega);have HW:=I hw;clear hw hm Pp;have hr:=h;obtain ⟨FL,ayW,aDE,aBb,aBd,aEE,ar,qp,aDF,aEF,aEG,axh,aJM,axi⟩:=aO hr;subst ar;clear qp hr;obtain ⟨k,p,u⟩:=m;dsimp only at Uc Pq;obtain ⟨_,_,_,_,rfl,rfl,⟨rfl,rfl,hkind⟩,_,_,_,_,rfl,rfl,WT,afd⟩:=h';dsimp only at hkind WT afd |-;have hp:=WT;have hu:=afd;obtain ⟨Sy,aJn,aBL,aw3,aw4,aDG,aIi,aIj,axJ,ar,hFp,aEH,aBM,hcpup,hmemp,aEI,aDH,axK⟩:=dL hp;subst ar;obtain ⟨Sz,aze,aEJ,azf,azg,aEK,ar,hFu,hnameu,aEL,hcpuu,hmemu,aGh,aEM⟩:=iy hu;subst ar;clear hFp hFu hp hu;unfold mS;dsimp only;by_cases h1:k = 1
 ·as_aux_lemma =>
  subst h1;rw [if_pos rfl];have HS:=I (λcs F us Fu wq a b=>azh x cs F p us Fu wq a b HW.out Uc.out);generalize ff x p = RR at *;obtain ⟨R,cd⟩:=RR;dsimp only at HS |-;go_enter Tryz.func48,Tryz.ntmps48;go_wp2_with fail
  refine (HS.out _ _ _ _ _ (aZ h bA) (aZ WT bA)).mono ?_;exact KQ
 ·rw [if_neg h1];by_cases h2:k = 2
  ·as_aux_lemma =>
   subst h2;rw [if_pos rfl];have HS:=I (λcs F us Fu wq a b=>aBe x cs F u us Fu wq a b HW.out Pq.out);generalize f' x u = RR at *;obtain ⟨R,cd⟩:=RR;dsimp only at HS |-;go_enter Tryz.func48,Tryz.ntmps48;go_wp2_with fail
   refine (HS.out _ _ _ _ _ (aZ h bA) (aZ afd bA)).mono ?_;exact KQ
  ·rw [if_neg h2];cases hc:iI x
   ·as_aux_lemma =>
    have HC:=I hc;clear hc;simp only [Bool.false_eq_true,if_false];go_enter Tryz.func48,Tryz.ntmps48;go_wp2_with fail
    refine (qM x _ _ _ (aZ h bA) HW.out).mono ?_;rw [HC.out];rintro e w0 ⟨rfl,cY⟩;obtain ⟨FM,hf0⟩:=ay cY;have bX:=cY.size;simp at bX;have i6:Below w.heap.size w w0:=ah bA cY;go_wp2_with fail
    refine (BO x _ _ _ (aZ h bA) HW.out).mono ?_;rintro e w1 ⟨ds,G,rfl,hO,aR⟩;have hR:=hO.rd;obtain ⟨kM,kN,ND,ny,nC,TD,ar,hGr,NG,TF,TG,xI,uD,xJ⟩:=aO hR;subst ar;clear hGr hR;have XB:oG w1 (w.heap.size+1+1) [.slice none 0 0,.slice none 0 0,.int .i64 0,.int .i64 0,.int .i64 0,.int .i64 0]:=oG.ext (oG.ext (oG.tf w _ _ [.slice none 0 0,.slice none 0 0,.int .i64 0,.int .i64 0,.int .i64 0,.int .i64 0] 29) cY) aR;have HO:=I (hO.mono (B':=w.heap.size+1+1+1) J);have am:Below w.heap.size w w1:=ah i6 aR;clear hO aR h cY;try dsimp only
    iterate 2 go_step
    refine ly 29 _ _ rfl (w.heap.size+1+1) 0 [.slice kM x.O.length kN,.slice ny x.M.length nC,.int .i64 x.next,.int .i64 x.weights.pack,.int .i64 x.weights.spread,.int .i64 x.weights.soft] [.slice none 0 0,.slice none 0 0,.int .i64 0,.int .i64 0,.int .i64 0,.int .i64 0] rfl rfl XB S' U' fm ?_;intro w2 YB OB;replace YB:oG w2 (w.heap.size+1+1) [.slice kM x.O.length kN,.slice ny x.M.length nC,.int .i64 x.next,.int .i64 x.weights.pack,.int .i64 x.weights.spread,.int .i64 x.weights.soft]:=YB;try dsimp only [Act.put]
    go_wp2;refine bodyPost_ret (v:=.tuple #[.agg #[.slice kM x.O.length kN,.slice ny x.M.length nC,.int .i64 x.next,.int .i64 x.weights.pack,.int .i64 x.weights.spread,.int .i64 x.weights.soft],.int .i64 1]) (xc Tryz.results48 _ (w.heap.size+1+1) [.slice kM x.O.length kN,.slice ny x.M.length nC,.int .i64 x.next,.int .i64 x.weights.pack,.int .i64 x.weights.spread,.int .i64 x.weights.soft] _ _ rfl rfl YB Tryz.underlying29 rfl U') rfl ?_;exact sk
   ·as_aux_lemma =>
    have HC:=I hc;clear hc;simp only [if_true];go_enter Tryz.func48,Tryz.ntmps48;go_wp2_with fail
    refine (qM x _ _ _ (aZ h bA) HW.out).mono ?_;rw [HC.out];rintro e w0 ⟨rfl,cY⟩;obtain ⟨FM,hf0⟩:=ay cY;have bX:=cY.size;simp at bX;have i6:Below w.heap.size w w0:=ah bA cY;go_wp2_with fail
    refine (BO x _ _ _ (aZ h bA) HW.out).mono ?_;rintro e w1 ⟨ds,G,rfl,hO,aR⟩;have hR:=hO.rd;obtain ⟨kM,kN,ND,ny,nC,TD,ar,hGr,NG,TF,TG,xI,uD,xJ⟩:=aO hR;subst ar;clear hGr hR;have XB:oG w1 (w.heap.size+1+1) [.slice none 0 0,.slice none 0 0,.int .i64 0,.int .i64 0,.int .i64 0,.int .i64 0]:=oG.ext (oG.ext (oG.tf w _ _ [.slice none 0 0,.slice none 0 0,.int .i64 0,.int .i64 0,.int .i64 0,.int .i64 0] 29) cY) aR;have HO:=I (hO.mono (B':=w.heap.size+1+1+1) J);have am:Below w.heap.size w w1:=ah i6 aR;clear hO aR h cY;try dsimp only
    iterate 2 go_step
    refine ly 29 _ _ rfl (w.heap.size+1+1) 0 [.slice kM x.O.length kN,.slice ny x.M.length nC,.int .i64 x.next,.int .i64 x.weights.pack,.int .i64 x.weights.spread,.int .i64 x.weights.soft] [.slice none 0 0,.slice none 0 0,.int .i64 0,.int .i64 0,.int .i64 0,.int .i64 0] rfl rfl XB S' U' fm ?_;intro w2 YB OB;replace YB:oG w2 (w.heap.size+1+1) [.slice kM x.O.length kN,.slice ny x.M.length nC,.int .i64 x.next,.int .i64 x.weights.pack,.int .i64 x.weights.spread,.int .i64 x.weights.soft]:=YB;try dsimp only [Act.put]
    go_wp2;refine bodyPost_ret (v:=.tuple #[.agg #[.slice kM x.O.length kN,.slice ny x.M.length nC,.int .i64 x.next,.int .i64 x.weights.pack,.int .i64 x.weights.spread,.int .i64 x.weights.soft],.int .i64 8]) (xc Tryz.results48 _ (w.heap.size+1+1) [.slice kM x.O.length kN,.slice ny x.M.length nC,.int .i64 x.next,.int .i64 x.weights.pack,.int .i64 x.weights.spread,.int .i64 x.weights.soft] _ _ rfl rfl YB Tryz.underlying29 rfl U') rfl ?_;exact sk
theorem l4 {α:Type} {p:α->Bool} {xs:List α} : pK p xs < 0↔∀x∈xs,p x = false:=by
 constructor
 ·intro h x hx;cases hp:p x with
  | false=>rfl
  | true=>exact absurd (Bx.2 ⟨x,hx,hp⟩) J
 ·intro h;rcases Int.lt_or_le (pK p xs) 0 with h1 | h1
  ·exact h1
  ·obtain ⟨x,hx,hp⟩:=Bx.1 h1;rw [h x hx] at hp;cases hp
theorem fW {α:Type} {xs:List α} {k:Nat} {x:α} (h:x∈xs.eraseIdx k):∃j,∃hj:j < xs.length,j≠k/\xs[j] = x:=by
 obtain ⟨i,hi,rfl⟩:=List.getElem_of_mem h;rw [List.getElem_eraseIdx];have hl:=hi;split
 ·rename_i od;have:i < xs.length:=by have:=List.length_eraseIdx_le xs k;omega
  exact ⟨i,this,J,rfl⟩
 ·rename_i od;have hk:i+1 < xs.length:=by
   rw [List.length_eraseIdx] at hi;split at hi <;> omega
  exact ⟨i+1,hk,J,rfl⟩
theorem s0 {x:aU} (G:Good x) (nm:ByteArray):(Ut (Ut x nm).1 nm).2 = 3:=by
 have G2:=Xf G nm;have hn:pK (CG nm) (Ut x nm).1.M < 0:=by
  unfold Ut;rw [if_pos ((yJ x).2 G)];split
  ·rename_i h;exact h
  ·rename_i h;obtain ⟨hk,hp,_⟩:=D8 (Ig (p:=CG nm) (xs:=x.M) J);refine l4.2 λq hq=>?_;obtain ⟨j,hj,fI,rfl⟩:=fW hq;cases hc:CG nm x.M[j] with
   | false=>rfl
   | true=>exact absurd ((Sm.1 hc).trans (Sm.1 hp).symm) (sL G.ps hj hk fI)
 generalize (Ut x nm).1 = y at *;unfold Ut;rw [if_pos ((yJ y).2 G2),if_pos hn]
theorem qv {x:aU} (G:Good x) {nm:ByteArray} (h:0<=pK (CG nm) x.M):(Ut x nm).2 = 0/\(Ut x nm).1.M.length+1 = x.M.length:=by
 unfold Ut;exact Ms
theorem wh {x:aU} (G:Good x) (hx:x.next<=21) {p:nI} (hp:GU p = true) :
 ((ff x p).2 = 0↔pK (CG p.name) x.M < 0/\x.M.length < 12) /\
 ((ff x p).2 = 0->0<=pK (CG p.name) (ff x p).1.M/\(ff x p).1.M.length = x.M.length+1/\(ff x p).1.next = x.next+1):=by
 unfold ff;rw [kO hp,if_pos ⟨(yJ x).2 G,rfl⟩];dsimp only;split
 ·rename_i h;exact yt
 ·rename_i h;split
  ·rename_i h2;exact yt
  ·rename_i h2;refine ⟨⟨λ_=>⟨J,J⟩,λ_=>rfl⟩,λ_=>⟨?_,?_,rfl⟩⟩
   ·exact Bx.2 ⟨dd x p,by unfold eV;simp,Sm.2 rfl⟩
   ·exact xf _ _ _
theorem qx {x:aU} (G:Good x) {nm:ByteArray} (h0:nm≠⟨#[]⟩) (h:pK (iM nm) x.O < 0):∀p∈x.M,p.on≠nm:=by
 intro p hp e;rcases G.xz p hp with h1 | ⟨g,hg,rv⟩
 ·exact h0 (e.symm.trans h1)
 ·have:=l4.1 h g hg;rw [BA.2 (rv.trans e)] at this;cases this
theorem qy {x:aU} (G:Good x) {nm:ByteArray} (h0:nm≠⟨#[]⟩):pK (iM nm) (Ko x nm).1.O < 0:=by
 unfold Ko;rw [if_pos ((yJ x).2 G)];split
 ·rename_i h;exact h
 ·rename_i h;obtain ⟨hk,hp,_⟩:=D8 (Ig (p:=iM nm) (xs:=x.O) J);refine l4.2 λq hq=>?_;obtain ⟨j,hj,fI,rfl⟩:=fW hq;cases hc:iM nm x.O[j] with
  | false=>rfl
  | true=>exact absurd ((BA.1 hc).trans (BA.1 hp).symm) (WO G.hs hj hk fI)
theorem s4 {x:aU} (G:Good x) {nm:ByteArray} (h0:nm≠⟨#[]⟩):(Ko (Ko x nm).1 nm).2 = 3/\(∀p∈(Ko x nm).1.M,p.on≠nm)/\(Ko x nm).1.M.length = x.M.length:=by
 have G2:=Xs G nm;have hn:=qy G h0;refine ⟨?_,qx G2 h0 hn,?_⟩
 ·generalize (Ko x nm).1 = y at *;unfold Ko;rw [if_pos ((yJ y).2 G2),if_pos hn]
 ·unfold Ko;rw [if_pos ((yJ x).2 G)];split
  ·rfl
  ·dsimp only;rw [List.length_map]
theorem pc {x:aU} (G:Good x) {nm:ByteArray} (h:0<=pK (iM nm) x.O):(Ko x nm).2 = 0/\(Ko x nm).1.O.length+1 = x.O.length:=by
 unfold Ko;exact Ms
theorem wj {x:aU} (G:Good x) {p:ba} (hp:Aj p = true) :
 ((f' x p).2 = 0↔pK (iM p.name) x.O < 0/\x.O.length < 8) /\
 ((f' x p).2 = 0->0<=pK (iM p.name) (f' x p).1.O/\(f' x p).1.O.length = x.O.length+1):=by
 unfold f';rw [jS hp,if_pos ⟨(yJ x).2 G,rfl⟩];dsimp only;split
 ·rename_i h;exact yt
 ·rename_i h;split
  ·rename_i h2;exact yt
  ·rename_i h2;refine ⟨⟨λ_=>⟨J,J⟩,λ_=>rfl⟩,λ_=>⟨?_,?_⟩⟩
   ·exact Bx.2 ⟨p,by unfold eV;simp,BA.2 rfl⟩
   ·exact xf _ _ _
theorem ra {x:aU} {m:bN} (h:iI x = false):mS x m = (x,1):=by
 unfold mS ff f';rw [h];simp
theorem iu (x:aU) (cs:List Value) (F:List Nat) (m:bN) (ms:List Value) (Fm:List Nat) (w:World) (h:rd w x cs F) (h':rd w m ms Fm) (hw:(x.wt:Int)<=1048576) (hm:(m.wt:Int)<=1048576) :
 Calls Tryz.prog 7 #[.agg cs.toArray,.agg ms.toArray] w λe w'=>∃ds G,e = .returned (.tuple #[.agg ds.toArray,.int .i64 (mS x m).2])/\ai w' w.heap.size (mS x m).1 ds G/\Below w.heap.size w w':=by
 have Pp:m.wt = m.aS.wt+m.aD.wt:=rfl;have Uc:=I (show (m.aS.wt:Int)<=1048576 by omega);have Pq:=I (show (m.aD.wt:Int)<=1048576 by omega);have HW:=I hw;clear hw hm Pp;have hr:=h;obtain ⟨FL,ayW,aDE,aBb,aBd,aEE,ar,qp,aDF,aEF,aEG,axh,aJM,axi⟩:=aO hr;subst ar;clear qp hr;have GP:=I (λhc=>ra (x:=x) (m:=m) hc);obtain ⟨k,p,u⟩:=m;dsimp only at Uc Pq;obtain ⟨_,_,_,_,rfl,rfl,⟨rfl,rfl,hkind⟩,_,_,_,_,rfl,rfl,WT,afd⟩:=h';dsimp only at hkind WT afd |-;have hp:=WT;have hu:=afd;obtain ⟨Sy,aJn,aBL,aw3,aw4,aDG,aIi,aIj,axJ,ar,hFp,aEH,aBM,hcpup,hmemp,aEI,aDH,axK⟩:=dL hp;subst ar;obtain ⟨Sz,aze,aEJ,azf,azg,aEK,ar,hFu,hnameu,aEL,hcpuu,hmemu,aGh,aEM⟩:=iy hu;subst ar;clear hFp hFu hp hu;cases hc:iI x
 ·as_aux_lemma =>
  rw [GP.out hc];have HC:=I hc;clear hc GP;dsimp only;go_enter Tryz.func7,Tryz.ntmps7;go_wp2_with fail
  refine (qL x _ _ _ (aZ h bA) HW.out).mono ?_;rw [HC.out];rintro e w0 ⟨rfl,cY⟩;obtain ⟨FM,hf0⟩:=ay cY;have bX:=cY.size;simp at bX;have i6:Below w.heap.size w w0:=ah bA cY;have X0:oG w0 (w.heap.size+1+1) [.slice none 0 0,.slice none 0 0,.int .i64 0,.int .i64 0,.int .i64 0,.int .i64 0]:=oG.ext (oG.tf w _ _ [.slice none 0 0,.slice none 0 0,.int .i64 0,.int .i64 0,.int .i64 0,.int .i64 0] 29) cY;clear cY;go_wp2_with fail
  refine (uo x _ _ _ (aZ h bA) HW.out).mono ?_;rintro e w1 ⟨ds,G,rfl,hO,aR⟩;have hR:=hO.rd;obtain ⟨kM,kN,ND,ny,nC,TD,ar,hGr,NG,TF,TG,xI,uD,xJ⟩:=aO hR;subst ar;clear hGr hR;have XB:=X0.ext aR;have HO:=I (hO.mono (B':=w.heap.size+1+1+1) J);have am:Below w.heap.size w w1:=ah i6 aR;clear hO aR h X0;try dsimp only
  iterate 2 go_step
  refine ly 29 _ _ rfl (w.heap.size+1+1) 0 [.slice kM x.O.length kN,.slice ny x.M.length nC,.int .i64 x.next,.int .i64 x.weights.pack,.int .i64 x.weights.spread,.int .i64 x.weights.soft] [.slice none 0 0,.slice none 0 0,.int .i64 0,.int .i64 0,.int .i64 0,.int .i64 0] rfl rfl XB S' U' fm ?_;intro w2 YB OB;replace YB:oG w2 (w.heap.size+1+1) [.slice kM x.O.length kN,.slice ny x.M.length nC,.int .i64 x.next,.int .i64 x.weights.pack,.int .i64 x.weights.spread,.int .i64 x.weights.soft]:=YB;try dsimp only [Act.put]
  go_wp2;refine bodyPost_ret (v:=.tuple #[.agg #[.slice kM x.O.length kN,.slice ny x.M.length nC,.int .i64 x.next,.int .i64 x.weights.pack,.int .i64 x.weights.spread,.int .i64 x.weights.soft],.int .i64 1]) (xc Tryz.results7 _ (w.heap.size+1+1) [.slice kM x.O.length kN,.slice ny x.M.length nC,.int .i64 x.next,.int .i64 x.weights.pack,.int .i64 x.weights.spread,.int .i64 x.weights.soft] _ _ rfl rfl YB Tryz.underlying29 rfl U') rfl ?_;exact sk
 ·clear GP;unfold mS;dsimp only;by_cases h1:k = 1
  ·as_aux_lemma =>
   have HC:=I hc;clear hc;subst h1;rw [if_pos rfl];have HS:=I (λcs F us Fu wq a b=>mb x cs F p us Fu wq a b HW.out Uc.out);generalize ff x p = RR at *;obtain ⟨R,cd⟩:=RR;dsimp only at HS |-;go_enter Tryz.func7,Tryz.ntmps7;go_wp2_with fail
   refine (qL x _ _ _ (aZ h bA) HW.out).mono ?_;rw [HC.out];rintro e w0 ⟨rfl,cY⟩;obtain ⟨FM,hf0⟩:=ay cY;have bX:=cY.size;simp at bX;have i6:Below w.heap.size w w0:=ah bA cY;have X0:oG w0 (w.heap.size+1+1) [.slice none 0 0,.slice none 0 0,.int .i64 0,.int .i64 0,.int .i64 0,.int .i64 0]:=oG.ext (oG.tf w _ _ [.slice none 0 0,.slice none 0 0,.int .i64 0,.int .i64 0,.int .i64 0,.int .i64 0] 29) cY;clear cY;go_wp2_with fail
   refine (HS.out _ _ _ _ _ (aZ h bA) (aZ WT bA)).mono ?_;exact M1
  ·rw [if_neg h1];by_cases h2:k = 2
   ·as_aux_lemma =>
    have HC:=I hc;clear hc;subst h2;rw [if_pos rfl];have HS:=I (λcs F us Fu wq a b=>nH x cs F u us Fu wq a b HW.out Pq.out);generalize f' x u = RR at *;obtain ⟨R,cd⟩:=RR;dsimp only at HS |-;go_enter Tryz.func7,Tryz.ntmps7;go_wp2_with fail
    refine (qL x _ _ _ (aZ h bA) HW.out).mono ?_;rw [HC.out];rintro e w0 ⟨rfl,cY⟩;obtain ⟨FM,hf0⟩:=ay cY;have bX:=cY.size;simp at bX;have i6:Below w.heap.size w w0:=ah bA cY;have X0:oG w0 (w.heap.size+1+1) [.slice none 0 0,.slice none 0 0,.int .i64 0,.int .i64 0,.int .i64 0,.int .i64 0]:=oG.ext (oG.tf w _ _ [.slice none 0 0,.slice none 0 0,.int .i64 0,.int .i64 0,.int .i64 0,.int .i64 0] 29) cY;clear cY;go_wp2_with fail
    refine (HS.out _ _ _ _ _ (aZ h bA) (aZ afd bA)).mono ?_;exact M1
   ·as_aux_lemma =>
    rw [if_neg h2,hc];have HC:=I hc;clear hc;simp only [if_true];go_enter Tryz.func7,Tryz.ntmps7;go_wp2_with fail
    refine (qL x _ _ _ (aZ h bA) HW.out).mono ?_;rw [HC.out];rintro e w0 ⟨rfl,cY⟩;obtain ⟨FM,hf0⟩:=ay cY;have bX:=cY.size;simp at bX;have i6:Below w.heap.size w w0:=ah bA cY;have X0:oG w0 (w.heap.size+1+1) [.slice none 0 0,.slice none 0 0,.int .i64 0,.int .i64 0,.int .i64 0,.int .i64 0]:=oG.ext (oG.tf w _ _ [.slice none 0 0,.slice none 0 0,.int .i64 0,.int .i64 0,.int .i64 0,.int .i64 0] 29) cY;clear cY;go_wp2_with fail
    refine (uo x _ _ _ (aZ h bA) HW.out).mono ?_;rintro e w1 ⟨ds,G,rfl,hO,aR⟩;have hR:=hO.rd;obtain ⟨kM,kN,ND,ny,nC,TD,ar,hGr,NG,TF,TG,xI,uD,xJ⟩:=aO hR;subst ar;clear hGr hR;have XB:=X0.ext aR;have HO:=I (hO.mono (B':=w.heap.size+1+1+1) J);have am:Below w.heap.size w w1:=ah i6 aR;clear hO aR h X0;try dsimp only
    iterate 2 go_step
    refine ly 29 _ _ rfl (w.heap.size+1+1) 0 [.slice kM x.O.length kN,.slice ny x.M.length nC,.int .i64 x.next,.int .i64 x.weights.pack,.int .i64 x.weights.spread,.int .i64 x.weights.soft] [.slice none 0 0,.slice none 0 0,.int .i64 0,.int .i64 0,.int .i64 0,.int .i64 0] rfl rfl XB S' U' fm ?_;intro w2 YB OB;replace YB:oG w2 (w.heap.size+1+1) [.slice kM x.O.length kN,.slice ny x.M.length nC,.int .i64 x.next,.int .i64 x.weights.pack,.int .i64 x.weights.spread,.int .i64 x.weights.soft]:=YB;try dsimp only [Act.put]
    go_wp2;refine bodyPost_ret (v:=.tuple #[.agg #[.slice kM x.O.length kN,.slice ny x.M.length nC,.int .i64 x.next,.int .i64 x.weights.pack,.int .i64 x.weights.spread,.int .i64 x.weights.soft],.int .i64 8]) (xc Tryz.results7 _ (w.heap.size+1+1) [.slice kM x.O.length kN,.slice ny x.M.length nC,.int .i64 x.next,.int .i64 x.weights.pack,.int .i64 x.weights.spread,.int .i64 x.weights.soft] _ _ rfl rfl YB Tryz.underlying29 rfl U') rfl ?_;exact sk
end Go.Proofs.YtdegaofigemegaaGreat
