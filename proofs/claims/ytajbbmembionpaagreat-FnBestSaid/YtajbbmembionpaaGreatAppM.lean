/- ApplyManifest of the reference. No condition. -/
import Derived.Test.YtajbbmembionpaaGreatOpsAS
import Derived.Test.YtajbbmembionpaaGreatOpsQS
namespace Go.Proofs.YtajbbmembionpaaGreat
open Go.ChangeShapes Go.WideShapes Go.ChangeAt Go.RowKit
set_option linter.unusedVariables false
set_option linter.unusedSimpArgs false
set_option maxHeartbeats 4000000
set_option maxRecDepth 100000
def xa (x:aU) (m:b9):aU × Int:=if m.kind = 1 then lN x m.aS else if m.kind = 2 then mH x m.bm else (x,if iI x = true then 8 else 1)
theorem axA (x:aU) (cs:List Value) (F:List Nat) (m:b9) (ms:List Value) (Fm:List Nat) (w:World) (h:rd w x cs F) (h':rd w m ms Fm) (hw:(x.wt:Int)≤1048576) (hm:(m.wt:Int)≤1048576) :
 Calls Tryz.prog 104 #[.agg cs.toArray,.agg ms.toArray] w fun e w'=>∃ds G,e = .returned (.tuple #[.agg ds.toArray,.int .i64 (xa x m).2])∧am w' w.heap.size (xa x m).1 ds G∧Below w.heap.size w w':=by
 have hmw:m.wt = m.aS.wt+m.bm.wt:=rfl;have Uc:=I (show (m.aS.wt:Int)≤1048576 by omega);have Xb:=I (show (m.bm.wt:Int)≤1048576 by omega);have HW:=I hw;clear hw hm hmw;have hr:=h;obtain ⟨Nf,ayW,aDE,aBb,aBd,aEE,aw,qp,aDF,aEF,aEG,axh,aJM,axi⟩:=aO hr;subst aw;clear qp hr;obtain ⟨k,p,u⟩:=m;dsimp only at Uc Xb;obtain ⟨_,_,_,_,rfl,rfl,⟨rfl,rfl,hkind⟩,_,_,_,_,rfl,rfl,WT,afd⟩:=h';dsimp only at hkind WT afd ⊢;have hp:=WT;have hu:=afd;obtain ⟨Qu,aJn,aBL,aw3,aw4,aDG,aIi,aIj,axJ,aw,hFp,aEH,aBM,hcpup,hmemp,aEI,aDH,axK⟩:=dL hp;subst aw;obtain ⟨Qw,aze,aEJ,azf,azg,aEK,aw,hFu,hnameu,aEL,hcpuu,hmemu,aGh,aEM⟩:=iy hu;subst aw;clear hFp hFu hp hu;unfold xa;dsimp only;by_cases h1:k = 1
 ·as_aux_lemma =>
  subst h1;rw [if_pos rfl];have HS:=I (fun cs F us Fu wq a b=>azh x cs F p us Fu wq a b HW.out Uc.out);generalize lN x p = RR at *;obtain ⟨R,cd⟩:=RR;dsimp only at HS ⊢;go_enter Tryz.func104,Tryz.ntmps104;go_wp2_with fail
  refine (HS.out _ _ _ _ _ (aZ h bS) (aZ WT bS)).mono ?_;exact EM
 ·rw [if_neg h1];by_cases h2:k = 2
  ·as_aux_lemma =>
   subst h2;rw [if_pos rfl];have HS:=I (fun cs F us Fu wq a b=>aBe x cs F u us Fu wq a b HW.out Xb.out);generalize mH x u = RR at *;obtain ⟨R,cd⟩:=RR;dsimp only at HS ⊢;go_enter Tryz.func104,Tryz.ntmps104;go_wp2_with fail
   refine (HS.out _ _ _ _ _ (aZ h bS) (aZ afd bS)).mono ?_;exact EM
  ·rw [if_neg h2];cases hc:iI x
   ·as_aux_lemma =>
    have HC:=I hc;clear hc;simp only [Bool.false_eq_true,if_false];go_enter Tryz.func104,Tryz.ntmps104;go_wp2_with fail
    refine (qM x _ _ _ (aZ h bS) HW.out).mono ?_;rw [HC.out];rintro e w0 ⟨rfl,fc⟩;obtain ⟨Qx,hf0⟩:=ay fc;have cL:=fc.size;simp at cL;have l6:Below w.heap.size w w0:=ah bS fc;go_wp2_with fail
    refine (BO x _ _ _ (aZ h bS) HW.out).mono ?_;rintro e w1 ⟨ds,G,rfl,hO,bo⟩;have hR:=hO.rd;obtain ⟨kM,kN,ND,ny,nC,TD,aw,hGr,NG,TF,TG,xI,uD,xJ⟩:=aO hR;subst aw;clear hGr hR;have XB:oG w1 (w.heap.size+1+1) [.slice none 0 0,.slice none 0 0,.int .i64 0,.int .i64 0,.int .i64 0,.int .i64 0]:=oG.ext (oG.ext (oG.vM w _ _ [.slice none 0 0,.slice none 0 0,.int .i64 0,.int .i64 0,.int .i64 0,.int .i64 0] 29) fc) bo;have HO:=I (hO.mono (B':=w.heap.size+1+1+1) J);have ap:Below w.heap.size w w1:=ah l6 bo;clear hO bo h fc;try dsimp only
    iterate 2 go_step
    refine ly 29 _ _ rfl (w.heap.size+1+1) 0 [.slice kM x.aa.length kN,.slice ny x.au.length nC,.int .i64 x.next,.int .i64 x.weights.pack,.int .i64 x.weights.spread,.int .i64 x.weights.soft] [.slice none 0 0,.slice none 0 0,.int .i64 0,.int .i64 0,.int .i64 0,.int .i64 0] rfl rfl XB S' U' eC ?_;intro w2 YB OB;replace YB:oG w2 (w.heap.size+1+1) [.slice kM x.aa.length kN,.slice ny x.au.length nC,.int .i64 x.next,.int .i64 x.weights.pack,.int .i64 x.weights.spread,.int .i64 x.weights.soft]:=YB;try dsimp only [Act.put]
    go_wp2;refine bodyPost_ret (v:=.tuple #[.agg #[.slice kM x.aa.length kN,.slice ny x.au.length nC,.int .i64 x.next,.int .i64 x.weights.pack,.int .i64 x.weights.spread,.int .i64 x.weights.soft],.int .i64 1]) (x6 Tryz.results104 _ (w.heap.size+1+1) [.slice kM x.aa.length kN,.slice ny x.au.length nC,.int .i64 x.next,.int .i64 x.weights.pack,.int .i64 x.weights.spread,.int .i64 x.weights.soft] _ _ rfl rfl YB Tryz.underlying29 rfl U') rfl ?_;exact uz
   ·as_aux_lemma =>
    have HC:=I hc;clear hc;simp only [if_true];go_enter Tryz.func104,Tryz.ntmps104;go_wp2_with fail
    refine (qM x _ _ _ (aZ h bS) HW.out).mono ?_;rw [HC.out];rintro e w0 ⟨rfl,fc⟩;obtain ⟨Qx,hf0⟩:=ay fc;have cL:=fc.size;simp at cL;have l6:Below w.heap.size w w0:=ah bS fc;go_wp2_with fail
    refine (BO x _ _ _ (aZ h bS) HW.out).mono ?_;rintro e w1 ⟨ds,G,rfl,hO,bo⟩;have hR:=hO.rd;obtain ⟨kM,kN,ND,ny,nC,TD,aw,hGr,NG,TF,TG,xI,uD,xJ⟩:=aO hR;subst aw;clear hGr hR;have XB:oG w1 (w.heap.size+1+1) [.slice none 0 0,.slice none 0 0,.int .i64 0,.int .i64 0,.int .i64 0,.int .i64 0]:=oG.ext (oG.ext (oG.vM w _ _ [.slice none 0 0,.slice none 0 0,.int .i64 0,.int .i64 0,.int .i64 0,.int .i64 0] 29) fc) bo;have HO:=I (hO.mono (B':=w.heap.size+1+1+1) J);have ap:Below w.heap.size w w1:=ah l6 bo;clear hO bo h fc;try dsimp only
    iterate 2 go_step
    refine ly 29 _ _ rfl (w.heap.size+1+1) 0 [.slice kM x.aa.length kN,.slice ny x.au.length nC,.int .i64 x.next,.int .i64 x.weights.pack,.int .i64 x.weights.spread,.int .i64 x.weights.soft] [.slice none 0 0,.slice none 0 0,.int .i64 0,.int .i64 0,.int .i64 0,.int .i64 0] rfl rfl XB S' U' eC ?_;intro w2 YB OB;replace YB:oG w2 (w.heap.size+1+1) [.slice kM x.aa.length kN,.slice ny x.au.length nC,.int .i64 x.next,.int .i64 x.weights.pack,.int .i64 x.weights.spread,.int .i64 x.weights.soft]:=YB;try dsimp only [Act.put]
    go_wp2;refine bodyPost_ret (v:=.tuple #[.agg #[.slice kM x.aa.length kN,.slice ny x.au.length nC,.int .i64 x.next,.int .i64 x.weights.pack,.int .i64 x.weights.spread,.int .i64 x.weights.soft],.int .i64 8]) (x6 Tryz.results104 _ (w.heap.size+1+1) [.slice kM x.aa.length kN,.slice ny x.au.length nC,.int .i64 x.next,.int .i64 x.weights.pack,.int .i64 x.weights.spread,.int .i64 x.weights.soft] _ _ rfl rfl YB Tryz.underlying29 rfl U') rfl ?_;exact uz
end Go.Proofs.YtajbbmembionpaaGreat
