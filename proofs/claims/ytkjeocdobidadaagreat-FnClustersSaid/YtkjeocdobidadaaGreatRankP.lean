/- The order in which hosts are ranked, in plain Lean. No condition. -/
import Derived.Test.YtkjeocdobidadaaGreatStabM
import Derived.Deep.RegionLaw
import Derived.Deep.RegionWith
import Derived.Test.YtkjeocdobidadaaGreatKit
import Derived.Test.YtkjeocdobidadaaGreatCmp2
import Derived.Test.YtkjeocdobidadaaGreatFits
import Derived.Test.YtkjeocdobidadaaGreatCpP
import Derived.Test.YtkjeocdobidadaaGreatLabelsOk
import Derived.Test.YtkjeocdobidadaaGreatDeed
import Derived.Test.YtkjeocdobidadaaGreatTaintsOk
import Derived.Test.YtkjeocdobidadaaGreatSelOk
import Derived.Test.YtkjeocdobidadaaGreatLabAt
import Derived.Test.YtkjeocdobidadaaGreatRegionCut
namespace Go.Proofs.YtkjeocdobidadaaGreat
open Go.ChangeShapes Go.WideShapes Go.ChangeAt Go.RowKit
set_option linter.unusedVariables false
set_option linter.unusedSimpArgs false
set_option maxHeartbeats 2000000
set_option maxRecDepth 100000
def rankI (x:aU) (p:nI) (a b:ByteArray):List Int:=[Lib.compareInt (uH b x p) (uH a x p),Lib.compareBytes a.data.toList b.data.toList]
def CV (x:aU) (p:nI) (a b:ByteArray):Int:=Qa (rankI x p a b)
def Jh (x:aU) (p:nI):List ByteArray:=sortB (kS (CV x p)) [] (Ar x p x.hosts)
theorem ak2 (x:aU) (p:nI) (a b:ByteArray):kS (CV x p) a b = true↔uH b x p < uH a x p∨(uH a x p = uH b x p∧Op.bytesLess a.data.toList b.data.toList = true):=by
 have e:=Wx a.data.toList b.data.toList;unfold kS CV rankI Qa Qa;rw [decide_eq_true_eq,← e];unfold Lib.compareInt;by_cases h1:uH b x p < uH a x p
 ·simp [h1]
 ·by_cases h2:uH a x p < uH b x p
  ·simp [h1,h2];omega
  ·have h3:uH a x p = uH b x p:=O';simp [h3,Qa];by_cases h4:Lib.compareBytes a.data.toList b.data.toList = 0
   ·simp [h4]
   ·simp [h4]
theorem adi {β:Type} {lt:β→β→Bool} {z:β} : ∀(ys acc:List β),z∈sortB lt acc ys→z∈acc∨z∈ys
 | [],acc,h=>.inl h
 | y :: ys,acc,h=>by
   rw [sortB] at h;rcases adi ys _ h with h | h
   ·exact Zad9
   ·exact .inr (List.mem_cons_of_mem _ h)
theorem VZ (w:World):∀ys:List ByteArray,(∀y∈ys,y.size≤maxLen)→jo w ys (ys.map Value.string) []
 | [],_=>⟨rfl,rfl⟩
 | y :: ys,h=>⟨[.string y],ys.map Value.string,[],[],rfl,rfl,⟨rfl,rfl,h y (List.mem_cons_self ..)⟩,VZ w ys fun z hz=>h z (List.mem_cons_of_mem _ hz)⟩
theorem ML {w:World} : ∀(ys:List ByteArray) (ds:List Value) (G:List Nat),jo w ys ds G→ds = ys.map Value.string∧G = []∧∀y∈ys,y.size≤maxLen
 | [],ds,G,h=>⟨h.1,h.2,fun _ h=>by cases h⟩
 | y :: ys,ds,G,h=>by
   obtain ⟨c1,c2,F1,F2,rfl,rfl,h1,h2⟩:=h;obtain ⟨e1,e2,h1⟩:=h1;subst e1 e2;obtain ⟨e3,e4,h3⟩:=ML ys c2 F2 h2;subst e3 e4;refine ⟨rfl,rfl,fun z hz=>?_⟩;rcases List.mem_cons.1 hz with rfl | hz
   ·exact h1
   ·exact h3 z hz
theorem ac6 (x:aU) (p:nI):(Jh x p).length = (Ar x p x.hosts).length:=by unfold Jh;rw [rD];simp
def labCv (x y:Label):Int:=Lib.compareBytes x.key.data.toList y.key.data.toList
def sortLabelsR (xs:List Label):List Label × Bool:=if sD (sortB (kS labCv) [] xs) = true then (sortB (kS labCv) [] xs,true) else (xs,false)
theorem sortLabelsR_yes {xs:List Label} (h:sD (sortB (kS labCv) [] xs) = true):sortLabelsR xs = (sortB (kS labCv) [] xs,true):=if_pos h
theorem sortLabelsR_no {xs:List Label} (h:sD (sortB (kS labCv) [] xs) = false):sortLabelsR xs = (xs,false):=if_neg (by rw [h];simp)
theorem sortL_mem {lt:Label→Label→Bool} {z:Label} : ∀(ys acc:List Label),z∈sortB lt acc ys→z∈acc∨z∈ys
 | [],acc,h=>.inl h
 | y :: ys,acc,h=>by
   rw [sortB] at h;rcases sortL_mem ys _ h with h | h
   ·exact Zad9
   ·exact .inr (List.mem_cons_of_mem _ h)
theorem sortLab_mem {xs:List Label} {z:Label} (h:z∈sortB (kS labCv) [] xs):z∈xs:=by
 rcases sortL_mem xs [] h with h | h
 ·cases h
 ·exact h
theorem sortLab_len (xs:List Label):(sortB (kS labCv) [] xs).length = xs.length:=by rw [rD];simp
theorem insB_sum {lt:Label→Label→Bool} (f:Label→Nat) (y:Label):∀r:List Label,((OM lt y r).map f).sum = f y+(r.map f).sum
 | []=>by simp [OM]
 | x :: r=>by
   have:=insB_sum (lt:=lt) f y r;unfold OM;split <;> simp only [List.map_cons,List.sum_cons] <;> omega
theorem sortB_sum {lt:Label→Label→Bool} (f:Label→Nat):∀xs acc:List Label,((sortB lt acc xs).map f).sum = (acc.map f).sum+(xs.map f).sum
 | [],_=>by simp [sortB]
 | x :: xs,acc=>by
   have h1:=sortB_sum (lt:=lt) f xs (OM lt x acc);have h2:=insB_sum (lt:=lt) f x acc;rw [sortB,h1,h2];exact Zad7
theorem sortLabelsR_wt (xs:List Label):kL Label.wt (sortLabelsR xs).1 = kL Label.wt xs:=by
 have h:=sortB_sum (lt:=kS labCv) Label.wt xs [];have hl:=sortLab_len xs;unfold sortLabelsR kL;split
 ·dsimp only;simp only [List.map_nil,List.sum_nil] at h;omega
 ·rfl
def sortTolsR (xs:List bH):List bH × Bool:=if xs.length≤40∧Ya (uniqL vJ [] xs) = true then (uniqL vJ [] xs,true) else (xs,false)
theorem sortTolsR_long {xs:List bH} (h:¬xs.length≤40):sortTolsR xs = (xs,false):=if_neg fun hh=>h hh.1
theorem sortTolsR_yes {xs:List bH} (h:xs.length≤40) (h2:Ya (uniqL vJ [] xs) = true):sortTolsR xs = (uniqL vJ [] xs,true):=if_pos ⟨h,h2⟩
theorem sortTolsR_no {xs:List bH} (h2:Ya (uniqL vJ [] xs) = false):sortTolsR xs = (xs,false):=if_neg fun hh=>by rw [h2] at hh;cases hh.2
theorem uniqTolerance_mem {xs:List bH} {z:bH} (h:z∈uniqL vJ [] xs):z∈xs:=by
 rcases (uniqL_mem totTol z xs []).1 h with h | h
 ·cases h
 ·exact h
theorem sortTolsR_wt (xs:List bH):kL bH.wt (sortTolsR xs).1≤kL bH.wt xs:=by
 have h:=uniqL_sum bH.wt vJ xs [];have hl:=uniqL_len vJ xs [];unfold sortTolsR kL;split
 ·dsimp only;simp only [List.map_nil,List.sum_nil,List.length_nil] at h hl;omega
 ·exact Nat.le_refl _
def sortTaintsR (xs:List iU):List iU × Bool:=if xs.length≤40∧La (uniqL qo [] xs) = true then (uniqL qo [] xs,true) else (xs,false)
theorem sortTaintsR_long {xs:List iU} (h:¬xs.length≤40):sortTaintsR xs = (xs,false):=if_neg fun hh=>h hh.1
theorem sortTaintsR_yes {xs:List iU} (h:xs.length≤40) (h2:La (uniqL qo [] xs) = true):sortTaintsR xs = (uniqL qo [] xs,true):=if_pos ⟨h,h2⟩
theorem sortTaintsR_no {xs:List iU} (h2:La (uniqL qo [] xs) = false):sortTaintsR xs = (xs,false):=if_neg fun hh=>by rw [h2] at hh;cases hh.2
theorem uniqTaint_mem {xs:List iU} {z:iU} (h:z∈uniqL qo [] xs):z∈xs:=by
 rcases (uniqL_mem totTaint z xs []).1 h with h | h
 ·cases h
 ·exact h
theorem sortTaintsR_wt (xs:List iU):kL iU.wt (sortTaintsR xs).1≤kL iU.wt xs:=by
 have h:=uniqL_sum iU.wt qo xs [];have hl:=uniqL_len qo xs [];unfold sortTaintsR kL;split
 ·dsimp only;simp only [List.map_nil,List.sum_nil,List.length_nil] at h hl;omega
 ·exact Nat.le_refl _
def normN (x:Need):Need:=⟨x.key,x.op,valsR x.values⟩
def smallV (xs:List Need):Bool:=xs.all fun x=>decide (x.values.length≤40)
def needsU (xs:List Need):List Need:=uniqL nD [] (xs.map normN)
def sortNeedsR (xs:List Need):List Need × Bool:=if xs.length≤40∧smallV xs = true∧aeH (needsU xs) = true then (needsU xs,true) else (xs,false)
theorem sortNeedsR_long {xs:List Need} (h:¬xs.length≤40):sortNeedsR xs = (xs,false):=if_neg fun hh=>h hh.1
theorem sortNeedsR_wide {xs:List Need} (h:smallV xs = false):sortNeedsR xs = (xs,false):=if_neg fun hh=>by rw [h] at hh;cases hh.2.1
theorem sortNeedsR_yes {xs:List Need} (h:xs.length≤40) (h1:smallV xs = true) (h2:aeH (needsU xs) = true):sortNeedsR xs = (needsU xs,true):=if_pos ⟨h,h1,h2⟩
theorem sortNeedsR_no {xs:List Need} (h2:aeH (needsU xs) = false):sortNeedsR xs = (xs,false):=if_neg fun hh=>by rw [h2] at hh;cases hh.2.2
theorem needsU_mem {xs:List Need} {z:Need} (h:z∈needsU xs):∃x∈xs,z = normN x:=by
 rcases (uniqL_mem (lt:=nD) totNeed z (xs.map normN) []).1 h with h | h
 ·cases h
 ·obtain ⟨x,hx,rfl⟩:=List.mem_map.1 h;exact ⟨x,hx,rfl⟩
theorem needsU_len (xs:List Need):(needsU xs).length≤xs.length:=by have:=uniqL_len nD (xs.map normN) [];unfold needsU;simpa using this
theorem normN_wt (x:Need):(normN x).wt≤x.wt:=by have:=valsR_wt x.values;unfold normN Need.wt wtS;dsimp only;omega
theorem map_sum_le {α:Type} {f:α→Nat} {g:α→α} (h:∀x,f (g x)≤f x):∀xs:List α,((xs.map g).map f).sum≤(xs.map f).sum
 | []=>Nat.le_refl _
 | x :: xs=>by have h1:=h x;have h2:=map_sum_le h xs;simp only [List.map_cons,List.sum_cons];omega
theorem sortNeedsR_wt (xs:List Need):kL Need.wt (sortNeedsR xs).1≤kL Need.wt xs:=by
 have h:=uniqL_sum Need.wt nD (xs.map normN) [];have hl:=uniqL_len nD (xs.map normN) [];have hm:=map_sum_le normN_wt xs;unfold sortNeedsR kL;split
 ·dsimp only;simp only [List.map_nil,List.sum_nil,List.length_nil,List.length_map] at h hl;unfold needsU;omega
 ·exact Nat.le_refl _
theorem smallV_at {xs:List Need} (h:smallV xs = true) {x:Need} (hx:x∈xs):x.values.length≤40:=by
 have:=List.all_eq_true.1 h x hx;simpa using this
theorem smallV_not {xs:List Need} {x:Need} (hx:x∈xs) (h:¬x.values.length≤40):smallV xs = false:=by
 cases hh:smallV xs with
 | false=>rfl
 | true=>exact absurd (smallV_at hh hx) h
theorem smallV_all {xs:List Need} (h:∀j (hj:j < xs.length),xs[j].values.length≤40):smallV xs = true:=by
 refine List.all_eq_true.2 fun x hx=>?_;obtain ⟨j,hj,rfl⟩:=List.getElem_of_mem hx;simpa using h j hj
theorem normN_sm {x:Need} (h:x.wt≤1048576):((normN x).key.size:Int)≤1048576∧((normN x).values.length:Int)≤1048576∧(∀v∈(normN x).values,(v.size:Int)≤1048576):=by
 have h2:Need.wt x = x.key.size+kL ByteArray.size x.values:=rfl;have h3:=gJ ByteArray.size x.values;have h4:=valsR_len x.values;refine ⟨?_,?_,fun v hv=>?_⟩
 ·show (x.key.size:Int)≤_;omega
 ·show ((valsR x.values).length:Int)≤_;omega
 ·have:=Bq (f:=ByteArray.size) (valsR_mem hv);omega
def GU (x:nI):Bool:=Qs x.name&&sD x.labels&&aeH x.needs&&Ya x.tolerances&&(decide (0≤x.cpu)&&decide (0≤x.mem))&&(decide (0≤x.rank)&&decide (x.rank≤1000))
theorem wH (x:nI) (cs:List Value) (F:List Nat) (w:World) (h:rd w x cs F) (hw:(x.wt:Int)≤1048576) :
 Calls Tryz.prog 64 #[.agg cs.toArray] w fun e w'=>e = .returned (.bool (GU x))∧Below w.heap.size w w':=by
 have hwx:x.wt = x.name.size+kL Label.wt x.labels+kL Need.wt x.needs+kL bH.wt x.tolerances:=rfl;obtain ⟨hll,hls⟩:=sW (xs:=x.labels) O';obtain ⟨hnl,VU⟩:=Aa (xs:=x.needs) O';obtain ⟨htl,hts⟩:=FQ (xs:=x.tolerances) O';have hns:(x.name.size:Int)≤1048576:=by omega
 have Zb:=I' hls;have HNS:=I' VU;have Ux:=I' hts;clear hls hts VU;have hr:=h;obtain ⟨gu,gy,jw,oh,nT,wG,fA,fB,jY,hck,hF,hname,dO,vg,hmem,BJ,mX,eG⟩:=dL hr;subst hck;clear hr hF;go_enter Tryz.func64,Tryz.ntmps64
 go_wp2_with (first
  | (go_at_call 108;refine (Ro x.name _ hns).mono ?_;rintro e w2 ⟨rfl,hb2⟩;obtain ⟨hc2,hf2⟩:=ay hb2;have hz2:w.heap.size < w2.heap.size:=(sq hb2.size))
  | (go_at_call 109;refine (Jv x.labels _ _ _ _ _ (dO.ext atS) rfl hll Zb.out).mono ?_;rintro e w3 ⟨rfl,hb3⟩;obtain ⟨hc3,hf3⟩:=ay hb3;have hz3:w.heap.size < w3.heap.size:=(sq hb3.size))
  | (go_at_call 111;refine (WI x.needs _ _ _ _ _ (mX.ext atS) rfl hnl HNS.out).mono ?_;rintro e w4 ⟨rfl,hb4⟩;obtain ⟨hc4,hf4⟩:=ay hb4;have Wy:w.heap.size < w4.heap.size:=(sq hb4.size))
  | (go_at_call 112;refine (RH x.tolerances _ _ _ _ _ (eG.ext atS) rfl htl Ux.out).mono ?_;rintro e w5 ⟨rfl,hb5⟩;obtain ⟨hc5,hf5⟩:=ay hb5;have Es:w.heap.size < w5.heap.size:=(sq hb5.size))
  | go_in)
 all_goals first
  | (go_ret;refine ⟨?_,atS⟩;refine congrArg (fun b=>Ending.returned (Value.bool b)) ?_;show (_:Bool) = _;(try clear hc2 hf2);(try clear hc3 hf3);(try clear hc4 hf4);(try clear hc5 hf5);unfold GU;first | (simp [*];done) | (simp [*];omega) | (simp_all;done) | (simp_all;omega))
  | skip
theorem yT (x:nI) (cs:List Value) (F:List Nat) (w:World) (h:rd w x cs F) (hw:(x.wt:Int)≤1048576) :
 Calls Tryz.prog 76 #[.agg cs.toArray] w fun e w'=>e = .returned (.bool (GU x))∧Below w.heap.size w w':=by
 have hwx:x.wt = x.name.size+kL Label.wt x.labels+kL Need.wt x.needs+kL bH.wt x.tolerances:=rfl;obtain ⟨hll,hls⟩:=sW (xs:=x.labels) O';obtain ⟨hnl,VU⟩:=Aa (xs:=x.needs) O';obtain ⟨htl,hts⟩:=FQ (xs:=x.tolerances) O';have hns:(x.name.size:Int)≤1048576:=by omega
 have Zb:=I' hls;have HNS:=I' VU;have Ux:=I' hts;clear hls hts VU;have hr:=h;obtain ⟨gu,gy,jw,oh,nT,wG,fA,fB,jY,hck,hF,hname,dO,vg,hmem,BJ,mX,eG⟩:=dL hr;subst hck;clear hr hF;go_enter Tryz.func76,Tryz.ntmps76
 go_wp2_with (first
  | (go_at_call 129;refine (Rq x.name _ hns).mono ?_;rintro e w2 ⟨rfl,hb2⟩;obtain ⟨hc2,hf2⟩:=ay hb2;have hz2:w.heap.size < w2.heap.size:=(sq hb2.size))
  | (go_at_call 123;refine (Jw x.labels _ _ _ _ _ (dO.ext atS) rfl hll Zb.out).mono ?_;rintro e w3 ⟨rfl,hb3⟩;obtain ⟨hc3,hf3⟩:=ay hb3;have hz3:w.heap.size < w3.heap.size:=(sq hb3.size))
  | (go_at_call 126;refine (WJ x.needs _ _ _ _ _ (mX.ext atS) rfl hnl HNS.out).mono ?_;rintro e w4 ⟨rfl,hb4⟩;obtain ⟨hc4,hf4⟩:=ay hb4;have Wy:w.heap.size < w4.heap.size:=(sq hb4.size))
  | (go_at_call 128;refine (RI x.tolerances _ _ _ _ _ (eG.ext atS) rfl htl Ux.out).mono ?_;rintro e w5 ⟨rfl,hb5⟩;obtain ⟨hc5,hf5⟩:=ay hb5;have Es:w.heap.size < w5.heap.size:=(sq hb5.size))
  | go_in)
 all_goals first
  | (go_ret;refine ⟨?_,atS⟩;refine congrArg (fun b=>Ending.returned (Value.bool b)) ?_;show (_:Bool) = _;(try clear hc2 hf2);(try clear hc3 hf3);(try clear hc4 hf4);(try clear hc5 hf5);unfold GU;first | (simp [*];done) | (simp [*];omega) | (simp_all;done) | (simp_all;omega))
  | skip
end Go.Proofs.YtkjeocdobidadaaGreat
