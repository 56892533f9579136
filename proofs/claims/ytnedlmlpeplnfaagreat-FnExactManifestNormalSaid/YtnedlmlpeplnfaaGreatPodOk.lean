/- PodOk, of the program and of the reference. No condition. -/
import Derived.Test.YtnedlmlpeplnfaaGreatInsP
import Derived.Test.YtnedlmlpeplnfaaGreatNames
import Derived.Test.YtnedlmlpeplnfaaGreatRows2
import Derived.Test.YtnedlmlpeplnfaaGreatSelOk
import Derived.Test.YtnedlmlpeplnfaaGreatTolsOk
import Derived.Test.YtnedlmlpeplnfaaGreatCpP
import Derived.Test.YtnedlmlpeplnfaaGreatSz
import Derived.Test.YtnedlmlpeplnfaaGreatTaintsOk
namespace Go.Proofs.YtnedlmlpeplnfaaGreat
open Go.ChangeShapes Go.WideShapes Go.ChangeAt Go.RowKit
set_option linter.unusedVariables false
set_option linter.unusedSimpArgs false
set_option maxHeartbeats 2000000
set_option maxRecDepth 100000
def GU (x:nI):Bool:=Qs x.name&&sD x.labels&&aeH x.needs&&Ya x.tolerances&&(decide (0≤x.cpu)&&decide (0≤x.mem))&&(decide (0≤x.rank)&&decide (x.rank≤1000))
theorem wH (x:nI) (cs:List Value) (F:List Nat) (w:World) (h:rd w x cs F) (hw:(x.wt:Int)≤1048576) :
 Calls Tryz.prog 53 #[.agg cs.toArray] w fun e w'=>e = .returned (.bool (GU x))∧Below w.heap.size w w':=by
 have hwx:x.wt = x.name.size+kL Label.wt x.labels+kL Need.wt x.needs+kL bH.wt x.tolerances:=rfl;obtain ⟨hll,hls⟩:=sW (xs:=x.labels) O';obtain ⟨hnl,VU⟩:=Aa (xs:=x.needs) O';obtain ⟨htl,hts⟩:=FQ (xs:=x.tolerances) O';have hns:(x.name.size:Int)≤1048576:=by omega
 have Zb:=I' hls;have HNS:=I' VU;have Ux:=I' hts;clear hls hts VU;have hr:=h;obtain ⟨gu,gy,jw,oh,nT,wG,fA,fB,jY,hck,hF,hname,dO,vg,hmem,BJ,mX,eG⟩:=dL hr;subst hck;clear hr hF;go_enter Tryz.func53,Tryz.ntmps53
 go_wp2_with (first
  | (go_at_call 111;refine (Ro x.name _ hns).mono ?_;rintro e w2 ⟨rfl,hb2⟩;obtain ⟨hc2,hf2⟩:=ay hb2;have hz2:w.heap.size < w2.heap.size:=(sq hb2.size))
  | (go_at_call 97;refine (Jv x.labels _ _ _ _ _ (dO.ext atS) rfl hll Zb.out).mono ?_;rintro e w3 ⟨rfl,hb3⟩;obtain ⟨hc3,hf3⟩:=ay hb3;have hz3:w.heap.size < w3.heap.size:=(sq hb3.size))
  | (go_at_call 106;refine (WI x.needs _ _ _ _ _ (mX.ext atS) rfl hnl HNS.out).mono ?_;rintro e w4 ⟨rfl,hb4⟩;obtain ⟨hc4,hf4⟩:=ay hb4;have Wy:w.heap.size < w4.heap.size:=(sq hb4.size))
  | (go_at_call 110;refine (RH x.tolerances _ _ _ _ _ (eG.ext atS) rfl htl Ux.out).mono ?_;rintro e w5 ⟨rfl,hb5⟩;obtain ⟨hc5,hf5⟩:=ay hb5;have Es:w.heap.size < w5.heap.size:=(sq hb5.size))
  | go_in)
 all_goals first
  | (go_ret;refine ⟨?_,atS⟩;refine congrArg (fun b=>Ending.returned (Value.bool b)) ?_;show (_:Bool) = _;(try clear hc2 hf2);(try clear hc3 hf3);(try clear hc4 hf4);(try clear hc5 hf5);unfold GU;first | (simp [*];done) | (simp [*];omega) | (simp_all;done) | (simp_all;omega))
  | skip
theorem yT (x:nI) (cs:List Value) (F:List Nat) (w:World) (h:rd w x cs F) (hw:(x.wt:Int)≤1048576) :
 Calls Tryz.prog 41 #[.agg cs.toArray] w fun e w'=>e = .returned (.bool (GU x))∧Below w.heap.size w w':=by
 have hwx:x.wt = x.name.size+kL Label.wt x.labels+kL Need.wt x.needs+kL bH.wt x.tolerances:=rfl;obtain ⟨hll,hls⟩:=sW (xs:=x.labels) O';obtain ⟨hnl,VU⟩:=Aa (xs:=x.needs) O';obtain ⟨htl,hts⟩:=FQ (xs:=x.tolerances) O';have hns:(x.name.size:Int)≤1048576:=by omega
 have Zb:=I' hls;have HNS:=I' VU;have Ux:=I' hts;clear hls hts VU;have hr:=h;obtain ⟨gu,gy,jw,oh,nT,wG,fA,fB,jY,hck,hF,hname,dO,vg,hmem,BJ,mX,eG⟩:=dL hr;subst hck;clear hr hF;go_enter Tryz.func41,Tryz.ntmps41
 go_wp2_with (first
  | (go_at_call 85;refine (Rq x.name _ hns).mono ?_;rintro e w2 ⟨rfl,hb2⟩;obtain ⟨hc2,hf2⟩:=ay hb2;have hz2:w.heap.size < w2.heap.size:=(sq hb2.size))
  | (go_at_call 79;refine (Jw x.labels _ _ _ _ _ (dO.ext atS) rfl hll Zb.out).mono ?_;rintro e w3 ⟨rfl,hb3⟩;obtain ⟨hc3,hf3⟩:=ay hb3;have hz3:w.heap.size < w3.heap.size:=(sq hb3.size))
  | (go_at_call 82;refine (WJ x.needs _ _ _ _ _ (mX.ext atS) rfl hnl HNS.out).mono ?_;rintro e w4 ⟨rfl,hb4⟩;obtain ⟨hc4,hf4⟩:=ay hb4;have Wy:w.heap.size < w4.heap.size:=(sq hb4.size))
  | (go_at_call 84;refine (RI x.tolerances _ _ _ _ _ (eG.ext atS) rfl htl Ux.out).mono ?_;rintro e w5 ⟨rfl,hb5⟩;obtain ⟨hc5,hf5⟩:=ay hb5;have Es:w.heap.size < w5.heap.size:=(sq hb5.size))
  | go_in)
 all_goals first
  | (go_ret;refine ⟨?_,atS⟩;refine congrArg (fun b=>Ending.returned (Value.bool b)) ?_;show (_:Bool) = _;(try clear hc2 hf2);(try clear hc3 hf3);(try clear hc4 hf4);(try clear hc5 hf5);unfold GU;first | (simp [*];done) | (simp [*];omega) | (simp_all;done) | (simp_all;omega))
  | skip
def sortTolsR (xs:List bH):List bH × Bool:=if xs.length≤40∧Ya (uniqL vJ [] xs) = true then (uniqL vJ [] xs,true) else (xs,false)
theorem sortTolsR_long {xs:List bH} (h:¬xs.length≤40):sortTolsR xs = (xs,false):=if_neg fun hh=>h hh.1
theorem sortTolsR_yes {xs:List bH} (h:xs.length≤40) (h2:Ya (uniqL vJ [] xs) = true):sortTolsR xs = (uniqL vJ [] xs,true):=if_pos ⟨h,h2⟩
theorem sortTolsR_no {xs:List bH} (h2:Ya (uniqL vJ [] xs) = false):sortTolsR xs = (xs,false):=if_neg fun hh=>by rw [h2] at hh;cases hh.2
theorem uniqTolerance_mem {xs:List bH} {z:bH} (h:z∈uniqL vJ [] xs):z∈xs:=by
 rcases (uniqL_mem totTol z xs []).1 h with h | h
 ·cases h
 ·exact h
theorem sortTolsR_wt (xs:List bH):kL bH.wt (sortTolsR xs).1≤kL bH.wt xs:=by
 have h:=uniqL_sum bH.wt vJ xs [];have hl:=uniqL_len vJ xs [];unfold sortTolsR kL;split
 ·dsimp only;simp only [List.map_nil,List.sum_nil,List.length_nil] at h hl;omega
 ·exact Nat.le_refl _
def sortTaintsR (xs:List iU):List iU × Bool:=if xs.length≤40∧La (uniqL qo [] xs) = true then (uniqL qo [] xs,true) else (xs,false)
theorem sortTaintsR_long {xs:List iU} (h:¬xs.length≤40):sortTaintsR xs = (xs,false):=if_neg fun hh=>h hh.1
theorem sortTaintsR_yes {xs:List iU} (h:xs.length≤40) (h2:La (uniqL qo [] xs) = true):sortTaintsR xs = (uniqL qo [] xs,true):=if_pos ⟨h,h2⟩
theorem sortTaintsR_no {xs:List iU} (h2:La (uniqL qo [] xs) = false):sortTaintsR xs = (xs,false):=if_neg fun hh=>by rw [h2] at hh;cases hh.2
theorem uniqTaint_mem {xs:List iU} {z:iU} (h:z∈uniqL qo [] xs):z∈xs:=by
 rcases (uniqL_mem totTaint z xs []).1 h with h | h
 ·cases h
 ·exact h
theorem sortTaintsR_wt (xs:List iU):kL iU.wt (sortTaintsR xs).1≤kL iU.wt xs:=by
 have h:=uniqL_sum iU.wt qo xs [];have hl:=uniqL_len qo xs [];unfold sortTaintsR kL;split
 ·dsimp only;simp only [List.map_nil,List.sum_nil,List.length_nil] at h hl;omega
 ·exact Nat.le_refl _
def normN (x:Need):Need:=⟨x.key,x.op,valsR x.values⟩
def smallV (xs:List Need):Bool:=xs.all fun x=>decide (x.values.length≤40)
def needsU (xs:List Need):List Need:=uniqL nD [] (xs.map normN)
def sortNeedsR (xs:List Need):List Need × Bool:=if xs.length≤40∧smallV xs = true∧aeH (needsU xs) = true then (needsU xs,true) else (xs,false)
theorem sortNeedsR_long {xs:List Need} (h:¬xs.length≤40):sortNeedsR xs = (xs,false):=if_neg fun hh=>h hh.1
theorem sortNeedsR_wide {xs:List Need} (h:smallV xs = false):sortNeedsR xs = (xs,false):=if_neg fun hh=>by rw [h] at hh;cases hh.2.1
theorem sortNeedsR_yes {xs:List Need} (h:xs.length≤40) (h1:smallV xs = true) (h2:aeH (needsU xs) = true):sortNeedsR xs = (needsU xs,true):=if_pos ⟨h,h1,h2⟩
theorem sortNeedsR_no {xs:List Need} (h2:aeH (needsU xs) = false):sortNeedsR xs = (xs,false):=if_neg fun hh=>by rw [h2] at hh;cases hh.2.2
theorem needsU_mem {xs:List Need} {z:Need} (h:z∈needsU xs):∃x∈xs,z = normN x:=by
 rcases (uniqL_mem (lt:=nD) totNeed z (xs.map normN) []).1 h with h | h
 ·cases h
 ·obtain ⟨x,hx,rfl⟩:=List.mem_map.1 h;exact ⟨x,hx,rfl⟩
theorem needsU_len (xs:List Need):(needsU xs).length≤xs.length:=by have:=uniqL_len nD (xs.map normN) [];unfold needsU;simpa using this
theorem normN_wt (x:Need):(normN x).wt≤x.wt:=by have:=valsR_wt x.values;unfold normN Need.wt wtS;dsimp only;omega
theorem map_sum_le {α:Type} {f:α→Nat} {g:α→α} (h:∀x,f (g x)≤f x):∀xs:List α,((xs.map g).map f).sum≤(xs.map f).sum
 | []=>Nat.le_refl _
 | x :: xs=>by have h1:=h x;have h2:=map_sum_le h xs;simp only [List.map_cons,List.sum_cons];omega
theorem sortNeedsR_wt (xs:List Need):kL Need.wt (sortNeedsR xs).1≤kL Need.wt xs:=by
 have h:=uniqL_sum Need.wt nD (xs.map normN) [];have hl:=uniqL_len nD (xs.map normN) [];have hm:=map_sum_le normN_wt xs;unfold sortNeedsR kL;split
 ·dsimp only;simp only [List.map_nil,List.sum_nil,List.length_nil,List.length_map] at h hl;unfold needsU;omega
 ·exact Nat.le_refl _
theorem smallV_at {xs:List Need} (h:smallV xs = true) {x:Need} (hx:x∈xs):x.values.length≤40:=by
 have:=List.all_eq_true.1 h x hx;simpa using this
theorem smallV_not {xs:List Need} {x:Need} (hx:x∈xs) (h:¬x.values.length≤40):smallV xs = false:=by
 cases hh:smallV xs with
 | false=>rfl
 | true=>exact absurd (smallV_at hh hx) h
theorem smallV_all {xs:List Need} (h:∀j (hj:j < xs.length),xs[j].values.length≤40):smallV xs = true:=by
 refine List.all_eq_true.2 fun x hx=>?_;obtain ⟨j,hj,rfl⟩:=List.getElem_of_mem hx;simpa using h j hj
theorem normN_sm {x:Need} (h:x.wt≤1048576):((normN x).key.size:Int)≤1048576∧((normN x).values.length:Int)≤1048576∧(∀v∈(normN x).values,(v.size:Int)≤1048576):=by
 have h2:Need.wt x = x.key.size+kL ByteArray.size x.values:=rfl;have h3:=gJ ByteArray.size x.values;have h4:=valsR_len x.values;refine ⟨?_,?_,fun v hv=>?_⟩
 ·show (x.key.size:Int)≤_;omega
 ·show ((valsR x.values).length:Int)≤_;omega
 ·have:=Bq (f:=ByteArray.size) (valsR_mem hv);omega
end Go.Proofs.YtnedlmlpeplnfaaGreat
