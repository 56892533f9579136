/- SortLabels in plain Lean. No condition. -/
import Derived.Test.YtkbkikggodlbbaaGreatLabelsOk
import Derived.Test.YtkbkikggodlbbaaGreatStabM
import Derived.Test.YtkbkikggodlbbaaGreatSz
import Derived.Test.YtkbkikggodlbbaaGreatLaySFNeed
import Derived.Test.YtkbkikggodlbbaaGreatValsB
import Derived.Test.YtkbkikggodlbbaaGreatLaw0
import Derived.Test.YtkbkikggodlbbaaGreatWords
import Derived.Test.YtkbkikggodlbbaaGreatTaintsOk
import Derived.Test.YtkbkikggodlbbaaGreatToBase
import Derived.Test.YtkbkikggodlbbaaGreatEq
import Derived.Test.YtkbkikggodlbbaaGreatUsed
import Derived.Test.YtkbkikggodlbbaaGreatAppendAt
import Derived.Test.YtkbkikggodlbbaaGreatCmp2
import Derived.Maps.OwnOps
import Derived.Maps.Views
namespace Go.Proofs.YtkbkikggodlbbaaGreat
open Go.ChangeShapes Go.WideShapes Go.ChangeAt Go.RowKit
set_option linter.unusedVariables false
set_option linter.unusedSimpArgs false
set_option maxHeartbeats 2000000
set_option maxRecDepth 100000
def labCv (x y:Label):Int:=Lib.compareBytes x.key.data.toList y.key.data.toList
theorem labWeak:Weak (kS labCv):=(cpKey.at Label.key).weak
def sortLabelsR (xs:List Label):List Label × Bool:=if sD (sortB (kS labCv) [] xs) = true then (sortB (kS labCv) [] xs,true) else (xs,false)
theorem sortLabelsR_yes {xs:List Label} (h:sD (sortB (kS labCv) [] xs) = true):sortLabelsR xs = (sortB (kS labCv) [] xs,true):=if_pos h
theorem sortLabelsR_no {xs:List Label} (h:sD (sortB (kS labCv) [] xs) = false):sortLabelsR xs = (xs,false):=if_neg (by rw [h];simp)
theorem sortL_mem {lt:Label→Label→Bool} {z:Label} : ∀(ys acc:List Label),z∈sortB lt acc ys→z∈acc∨z∈ys
 | [],acc,h=>.inl h
 | y :: ys,acc,h=>by
   rw [sortB] at h;rcases sortL_mem ys _ h with h | h
   ·rw [xK] at h;rcases MK h with h | h
    ·exact .inl h
    ·rw [List.mem_singleton.1 h];exact .inr (List.mem_cons_self ..)
   ·exact .inr (List.mem_cons_of_mem _ h)
theorem sortLab_mem {xs:List Label} {z:Label} (h:z∈sortB (kS labCv) [] xs):z∈xs:=by
 rcases sortL_mem xs [] h with h | h
 ·cases h
 ·exact h
theorem sortLab_len (xs:List Label):(sortB (kS labCv) [] xs).length = xs.length:=by rw [rD];simp
theorem insB_sum {lt:Label→Label→Bool} (f:Label→Nat) (y:Label):∀r:List Label,((OM lt y r).map f).sum = f y+(r.map f).sum
 | []=>by simp [OM]
 | x :: r=>by
   have:=insB_sum (lt:=lt) f y r;unfold OM;split <;> simp only [List.map_cons,List.sum_cons] <;> omega
theorem sortB_sum {lt:Label→Label→Bool} (f:Label→Nat):∀xs acc:List Label,((sortB lt acc xs).map f).sum = (acc.map f).sum+(xs.map f).sum
 | [],_=>by simp [sortB]
 | x :: xs,acc=>by
   have h1:=sortB_sum (lt:=lt) f xs (OM lt x acc);have h2:=insB_sum (lt:=lt) f x acc;rw [sortB,h1,h2];exact Zaed
theorem sortLabelsR_wt (xs:List Label):kL Label.wt (sortLabelsR xs).1 = kL Label.wt xs:=by
 have h:=sortB_sum (lt:=kS labCv) Label.wt xs [];have hl:=sortLab_len xs;unfold sortLabelsR kL;split
 ·dsimp only;simp only [List.map_nil,List.sum_nil] at h;omega
 ·rfl
def normN (x:Need):Need:=⟨x.key,x.op,valsR x.values⟩
def smallV (xs:List Need):Bool:=xs.all fun x=>decide (x.values.length≤40)
def needsU (xs:List Need):List Need:=uniqL nD [] (xs.map normN)
def sortNeedsR (xs:List Need):List Need × Bool:=if xs.length≤40∧smallV xs = true∧aeH (needsU xs) = true then (needsU xs,true) else (xs,false)
theorem sortNeedsR_long {xs:List Need} (h:¬xs.length≤40):sortNeedsR xs = (xs,false):=if_neg fun hh=>h hh.1
theorem sortNeedsR_wide {xs:List Need} (h:smallV xs = false):sortNeedsR xs = (xs,false):=if_neg fun hh=>by rw [h] at hh;cases hh.2.1
theorem sortNeedsR_yes {xs:List Need} (h:xs.length≤40) (h1:smallV xs = true) (h2:aeH (needsU xs) = true):sortNeedsR xs = (needsU xs,true):=if_pos ⟨h,h1,h2⟩
theorem sortNeedsR_no {xs:List Need} (h2:aeH (needsU xs) = false):sortNeedsR xs = (xs,false):=if_neg fun hh=>by rw [h2] at hh;cases hh.2.2
theorem needsU_mem {xs:List Need} {z:Need} (h:z∈needsU xs):∃x∈xs,z = normN x:=by
 rcases (uniqL_mem (lt:=nD) totNeed z (xs.map normN) []).1 h with h | h
 ·cases h
 ·obtain ⟨x,hx,rfl⟩:=List.mem_map.1 h;exact ⟨x,hx,rfl⟩
theorem needsU_len (xs:List Need):(needsU xs).length≤xs.length:=by have:=uniqL_len nD (xs.map normN) [];unfold needsU;simpa using this
theorem normN_wt (x:Need):(normN x).wt≤x.wt:=by have:=valsR_wt x.values;unfold normN Need.wt wtS;dsimp only;omega
theorem map_sum_le {α:Type} {f:α→Nat} {g:α→α} (h:∀x,f (g x)≤f x):∀xs:List α,((xs.map g).map f).sum≤(xs.map f).sum
 | []=>Nat.le_refl _
 | x :: xs=>by have h1:=h x;have h2:=map_sum_le h xs;simp only [List.map_cons,List.sum_cons];omega
theorem sortNeedsR_wt (xs:List Need):kL Need.wt (sortNeedsR xs).1≤kL Need.wt xs:=by
 have h:=uniqL_sum Need.wt nD (xs.map normN) [];have hl:=uniqL_len nD (xs.map normN) [];have hm:=map_sum_le normN_wt xs;unfold sortNeedsR kL;split
 ·dsimp only;simp only [List.map_nil,List.sum_nil,List.length_nil,List.length_map] at h hl;unfold needsU;omega
 ·exact Nat.le_refl _
theorem smallV_at {xs:List Need} (h:smallV xs = true) {x:Need} (hx:x∈xs):x.values.length≤40:=by
 have:=List.all_eq_true.1 h x hx;simpa using this
theorem smallV_not {xs:List Need} {x:Need} (hx:x∈xs) (h:¬x.values.length≤40):smallV xs = false:=by
 cases hh:smallV xs with
 | false=>rfl
 | true=>exact absurd (smallV_at hh hx) h
theorem smallV_all {xs:List Need} (h:∀j (hj:j < xs.length),xs[j].values.length≤40):smallV xs = true:=by
 refine List.all_eq_true.2 fun x hx=>?_;obtain ⟨j,hj,rfl⟩:=List.getElem_of_mem hx;simpa using h j hj
theorem normN_sm {x:Need} (h:x.wt≤1048576):((normN x).key.size:Int)≤1048576∧((normN x).values.length:Int)≤1048576∧(∀v∈(normN x).values,(v.size:Int)≤1048576):=by
 have h2:Need.wt x = x.key.size+kL ByteArray.size x.values:=rfl;have h3:=gJ ByteArray.size x.values;have h4:=valsR_len x.values;refine ⟨?_,?_,fun v hv=>?_⟩
 ·show (x.key.size:Int)≤_;omega
 ·show ((valsR x.values).length:Int)≤_;omega
 ·have:=Bq (f:=ByteArray.size) (valsR_mem hv);omega
def GU (x:nI):Bool:=Qs x.name&&sD x.labels&&aeH x.needs&&Ya x.tolerances&&(decide (0≤x.cpu)&&decide (0≤x.mem))&&(decide (0≤x.rank)&&decide (x.rank≤1000))
theorem wH (x:nI) (cs:List Value) (F:List Nat) (w:World) (h:rd w x cs F) (hw:(x.wt:Int)≤1048576) :
 Calls Tryz.prog 68 #[.agg cs.toArray] w fun e w'=>e = .returned (.bool (GU x))∧Below w.heap.size w w':=by
 have hwx:x.wt = x.name.size+kL Label.wt x.labels+kL Need.wt x.needs+kL bH.wt x.tolerances:=rfl;obtain ⟨hll,hls⟩:=sW (xs:=x.labels) O';obtain ⟨hnl,VU⟩:=Aa (xs:=x.needs) O';obtain ⟨htl,hts⟩:=FQ (xs:=x.tolerances) O';have hns:(x.name.size:Int)≤1048576:=by omega
 have Zb:=I' hls;have HNS:=I' VU;have Ux:=I' hts;clear hls hts VU;have hr:=h;obtain ⟨gu,gy,jw,oh,nT,wG,fA,fB,jY,hck,hF,hname,dO,vg,hmem,BJ,mX,eG⟩:=dL hr;subst hck;clear hr hF;go_enter Tryz.func68,Tryz.ntmps68
 go_wp2_with (first
  | (go_at_call 111;refine (Ro x.name _ hns).mono ?_;rintro e w2 ⟨rfl,hb2⟩;obtain ⟨hc2,hf2⟩:=ay hb2;have hz2:w.heap.size < w2.heap.size:=(sq hb2.size))
  | (go_at_call 112;refine (Jv x.labels _ _ _ _ _ (dO.ext atS) rfl hll Zb.out).mono ?_;rintro e w3 ⟨rfl,hb3⟩;obtain ⟨hc3,hf3⟩:=ay hb3;have hz3:w.heap.size < w3.heap.size:=(sq hb3.size))
  | (go_at_call 114;refine (WI x.needs _ _ _ _ _ (mX.ext atS) rfl hnl HNS.out).mono ?_;rintro e w4 ⟨rfl,hb4⟩;obtain ⟨hc4,hf4⟩:=ay hb4;have Wy:w.heap.size < w4.heap.size:=(sq hb4.size))
  | (go_at_call 115;refine (RH x.tolerances _ _ _ _ _ (eG.ext atS) rfl htl Ux.out).mono ?_;rintro e w5 ⟨rfl,hb5⟩;obtain ⟨hc5,hf5⟩:=ay hb5;have Es:w.heap.size < w5.heap.size:=(sq hb5.size))
  | go_in)
 all_goals first
  | (go_ret;refine ⟨?_,atS⟩;refine congrArg (fun b=>Ending.returned (Value.bool b)) ?_;show (_:Bool) = _;(try clear hc2 hf2);(try clear hc3 hf3);(try clear hc4 hf4);(try clear hc5 hf5);unfold GU;first | (simp [*];done) | (simp [*];omega) | (simp_all;done) | (simp_all;omega))
  | skip
theorem yT (x:nI) (cs:List Value) (F:List Nat) (w:World) (h:rd w x cs F) (hw:(x.wt:Int)≤1048576) :
 Calls Tryz.prog 54 #[.agg cs.toArray] w fun e w'=>e = .returned (.bool (GU x))∧Below w.heap.size w w':=by
 have hwx:x.wt = x.name.size+kL Label.wt x.labels+kL Need.wt x.needs+kL bH.wt x.tolerances:=rfl;obtain ⟨hll,hls⟩:=sW (xs:=x.labels) O';obtain ⟨hnl,VU⟩:=Aa (xs:=x.needs) O';obtain ⟨htl,hts⟩:=FQ (xs:=x.tolerances) O';have hns:(x.name.size:Int)≤1048576:=by omega
 have Zb:=I' hls;have HNS:=I' VU;have Ux:=I' hts;clear hls hts VU;have hr:=h;obtain ⟨gu,gy,jw,oh,nT,wG,fA,fB,jY,hck,hF,hname,dO,vg,hmem,BJ,mX,eG⟩:=dL hr;subst hck;clear hr hF;go_enter Tryz.func54,Tryz.ntmps54
 go_wp2_with (first
  | (go_at_call 99;refine (Rq x.name _ hns).mono ?_;rintro e w2 ⟨rfl,hb2⟩;obtain ⟨hc2,hf2⟩:=ay hb2;have hz2:w.heap.size < w2.heap.size:=(sq hb2.size))
  | (go_at_call 100;refine (Jw x.labels _ _ _ _ _ (dO.ext atS) rfl hll Zb.out).mono ?_;rintro e w3 ⟨rfl,hb3⟩;obtain ⟨hc3,hf3⟩:=ay hb3;have hz3:w.heap.size < w3.heap.size:=(sq hb3.size))
  | (go_at_call 101;refine (WJ x.needs _ _ _ _ _ (mX.ext atS) rfl hnl HNS.out).mono ?_;rintro e w4 ⟨rfl,hb4⟩;obtain ⟨hc4,hf4⟩:=ay hb4;have Wy:w.heap.size < w4.heap.size:=(sq hb4.size))
  | (go_at_call 102;refine (RI x.tolerances _ _ _ _ _ (eG.ext atS) rfl htl Ux.out).mono ?_;rintro e w5 ⟨rfl,hb5⟩;obtain ⟨hc5,hf5⟩:=ay hb5;have Es:w.heap.size < w5.heap.size:=(sq hb5.size))
  | go_in)
 all_goals first
  | (go_ret;refine ⟨?_,atS⟩;refine congrArg (fun b=>Ending.returned (Value.bool b)) ?_;show (_:Bool) = _;(try clear hc2 hf2);(try clear hc3 hf3);(try clear hc4 hf4);(try clear hc5 hf5);unfold GU;first | (simp [*];done) | (simp [*];omega) | (simp_all;done) | (simp_all;omega))
  | skip
def sortTolsR (xs:List bH):List bH × Bool:=if xs.length≤40∧Ya (uniqL vJ [] xs) = true then (uniqL vJ [] xs,true) else (xs,false)
theorem sortTolsR_long {xs:List bH} (h:¬xs.length≤40):sortTolsR xs = (xs,false):=if_neg fun hh=>h hh.1
theorem sortTolsR_yes {xs:List bH} (h:xs.length≤40) (h2:Ya (uniqL vJ [] xs) = true):sortTolsR xs = (uniqL vJ [] xs,true):=if_pos ⟨h,h2⟩
theorem sortTolsR_no {xs:List bH} (h2:Ya (uniqL vJ [] xs) = false):sortTolsR xs = (xs,false):=if_neg fun hh=>by rw [h2] at hh;cases hh.2
theorem uniqTolerance_mem {xs:List bH} {z:bH} (h:z∈uniqL vJ [] xs):z∈xs:=by
 rcases (uniqL_mem totTol z xs []).1 h with h | h
 ·cases h
 ·exact h
theorem sortTolsR_wt (xs:List bH):kL bH.wt (sortTolsR xs).1≤kL bH.wt xs:=by
 have h:=uniqL_sum bH.wt vJ xs [];have hl:=uniqL_len vJ xs [];unfold sortTolsR kL;split
 ·dsimp only;simp only [List.map_nil,List.sum_nil,List.length_nil] at h hl;omega
 ·exact Nat.le_refl _
def sortTaintsR (xs:List iU):List iU × Bool:=if xs.length≤40∧La (uniqL qo [] xs) = true then (uniqL qo [] xs,true) else (xs,false)
theorem sortTaintsR_long {xs:List iU} (h:¬xs.length≤40):sortTaintsR xs = (xs,false):=if_neg fun hh=>h hh.1
theorem sortTaintsR_yes {xs:List iU} (h:xs.length≤40) (h2:La (uniqL qo [] xs) = true):sortTaintsR xs = (uniqL qo [] xs,true):=if_pos ⟨h,h2⟩
theorem sortTaintsR_no {xs:List iU} (h2:La (uniqL qo [] xs) = false):sortTaintsR xs = (xs,false):=if_neg fun hh=>by rw [h2] at hh;cases hh.2
theorem uniqTaint_mem {xs:List iU} {z:iU} (h:z∈uniqL qo [] xs):z∈xs:=by
 rcases (uniqL_mem totTaint z xs []).1 h with h | h
 ·cases h
 ·exact h
theorem sortTaintsR_wt (xs:List iU):kL iU.wt (sortTaintsR xs).1≤kL iU.wt xs:=by
 have h:=uniqL_sum iU.wt qo xs [];have hl:=uniqL_len qo xs [];unfold sortTaintsR kL;split
 ·dsimp only;simp only [List.map_nil,List.sum_nil,List.length_nil] at h hl;omega
 ·exact Nat.le_refl _
def Aj (x:Host):Bool:=Qs x.name&&sD x.labels&&La x.aT&&(decide (0≤x.cpu)&&decide (0≤x.mem))&&(decide (1≤x.slots)&&decide (x.slots≤20))
theorem tY (x:Host) (cs:List Value) (F:List Nat) (w:World) (h:rd w x cs F) (hw:(x.wt:Int)≤1048576) :
 Calls Tryz.prog 67 #[.agg cs.toArray] w fun e w'=>e = .returned (.bool (Aj x))∧Below w.heap.size w w':=by
 have hwx:x.wt = x.name.size+kL Label.wt x.labels+kL iU.wt x.aT:=rfl;obtain ⟨hll,hls⟩:=sW (xs:=x.labels) O';obtain ⟨htl,hts⟩:=BH (xs:=x.aT) O';have hns:(x.name.size:Int)≤1048576:=by omega
 have Zb:=I' hls;have Ux:=I' hts;clear hls hts;have hr:=h;obtain ⟨gu,gy,jw,kJ,kK,qU,hck,hF,hname,dO,vg,hmem,uI,jq⟩:=iy hr;subst hck;clear hr hF;go_enter Tryz.func67,Tryz.ntmps67
 go_wp2_with (first
  | (go_at_call 111;refine (Ro x.name _ hns).mono ?_;rintro e w2 ⟨rfl,hb2⟩;obtain ⟨hc2,hf2⟩:=ay hb2;have hz2:w.heap.size < w2.heap.size:=(sq hb2.size))
  | (go_at_call 112;refine (Jv x.labels _ _ _ _ _ (dO.ext atS) rfl hll Zb.out).mono ?_;rintro e w3 ⟨rfl,hb3⟩;obtain ⟨hc3,hf3⟩:=ay hb3;have hz3:w.heap.size < w3.heap.size:=(sq hb3.size))
  | (go_at_call 113;refine (ZK x.aT _ _ _ _ _ (jq.ext atS) rfl htl Ux.out).mono ?_;rintro e w4 ⟨rfl,hb4⟩;obtain ⟨hc4,hf4⟩:=ay hb4;have Wy:w.heap.size < w4.heap.size:=(sq hb4.size))
  | go_in)
 all_goals first
  | (go_ret;refine ⟨?_,atS⟩;refine congrArg (fun b=>Ending.returned (Value.bool b)) ?_;show (_:Bool) = _;(try clear hc2 hf2);(try clear hc3 hf3);(try clear hc4 hf4);unfold Aj;first | (simp [*];done) | (simp [*];omega) | (simp_all;done) | (simp_all;omega))
  | skip
theorem tZ (x:Host) (cs:List Value) (F:List Nat) (w:World) (h:rd w x cs F) (hw:(x.wt:Int)≤1048576) :
 Calls Tryz.prog 55 #[.agg cs.toArray] w fun e w'=>e = .returned (.bool (Aj x))∧Below w.heap.size w w':=by
 have hwx:x.wt = x.name.size+kL Label.wt x.labels+kL iU.wt x.aT:=rfl;obtain ⟨hll,hls⟩:=sW (xs:=x.labels) O';obtain ⟨htl,hts⟩:=BH (xs:=x.aT) O';have hns:(x.name.size:Int)≤1048576:=by omega
 have Zb:=I' hls;have Ux:=I' hts;clear hls hts;have hr:=h;obtain ⟨gu,gy,jw,kJ,kK,qU,hck,hF,hname,dO,vg,hmem,uI,jq⟩:=iy hr;subst hck;clear hr hF;go_enter Tryz.func55,Tryz.ntmps55
 go_wp2_with (first
  | (go_at_call 99;refine (Rq x.name _ hns).mono ?_;rintro e w2 ⟨rfl,hb2⟩;obtain ⟨hc2,hf2⟩:=ay hb2;have hz2:w.heap.size < w2.heap.size:=(sq hb2.size))
  | (go_at_call 100;refine (Jw x.labels _ _ _ _ _ (dO.ext atS) rfl hll Zb.out).mono ?_;rintro e w3 ⟨rfl,hb3⟩;obtain ⟨hc3,hf3⟩:=ay hb3;have hz3:w.heap.size < w3.heap.size:=(sq hb3.size))
  | (go_at_call 103;refine (ZL x.aT _ _ _ _ _ (jq.ext atS) rfl htl Ux.out).mono ?_;rintro e w4 ⟨rfl,hb4⟩;obtain ⟨hc4,hf4⟩:=ay hb4;have Wy:w.heap.size < w4.heap.size:=(sq hb4.size))
  | go_in)
 all_goals first
  | (go_ret;refine ⟨?_,atS⟩;refine congrArg (fun b=>Ending.returned (Value.bool b)) ?_;show (_:Bool) = _;(try clear hc2 hf2);(try clear hc3 hf3);(try clear hc4 hf4);unfold Aj;first | (simp [*];done) | (simp [*];omega) | (simp_all;done) | (simp_all;omega))
  | skip
def hostN (x:Host):Host:=⟨x.name,(sortLabelsR x.labels).1,x.cpu,x.mem,x.slots,(sortTaintsR x.aT).1⟩
def hostNormalR (x:Host):Host × Bool:=if (sortLabelsR x.labels).2 = true∧(sortTaintsR x.aT).2 = true∧Aj (hostN x) = true then (hostN x,true) else (x,false)
theorem hostN_wt (x:Host):(hostN x).wt≤x.wt:=by
 have h1:=sortLabelsR_wt x.labels;have h2:=sortTaintsR_wt x.aT;unfold hostN Host.wt;dsimp only;omega
theorem hostNormalR_wt (x:Host):(hostNormalR x).1.wt≤x.wt:=by
 unfold hostNormalR;split
 ·exact hostN_wt x
 ·exact Nat.le_refl _
def podN (x:nI):nI:=⟨x.name,(sortLabelsR x.labels).1,x.cpu,x.mem,x.rank,(sortNeedsR x.needs).1,(sortTolsR x.tolerances).1⟩
def podNormalR (x:nI):nI × Bool:=if (sortLabelsR x.labels).2 = true∧(sortNeedsR x.needs).2 = true∧(sortTolsR x.tolerances).2 = true∧GU (podN x) = true then (podN x,true) else (x,false)
theorem podN_wt (x:nI):(podN x).wt≤x.wt:=by
 have h1:=sortLabelsR_wt x.labels;have h2:=sortNeedsR_wt x.needs;have h3:=sortTolsR_wt x.tolerances;unfold podN nI.wt;dsimp only;omega
theorem podNormalR_wt (x:nI):(podNormalR x).1.wt≤x.wt:=by
 unfold podNormalR;split
 ·exact podN_wt x
 ·exact Nat.le_refl _
section
variable {w:World} {B:Nat}
theorem Own.manParts {m:Manifest} {cs:List Value} {F:List Nat} (h:Own w B m cs F):∃cp ch Fp Fh,cs = .int .i64 m.kind :: (cp++ch)∧F = Fp++Fh∧I64 m.kind∧Own w B m.aS cp Fp∧Own w B m.host ch Fh∧(∀y∈Fp,y∉Fh):=by
 obtain ⟨⟨_,_,_,_,rfl,rfl,⟨rfl,rfl,hk⟩,cp,ch,Fp,Fh,rfl,rfl,hp,hh⟩,hnd,hb,hpl⟩:=h;have hnd':(Fp++Fh).Nodup:=by simpa using hnd
 rw [List.nodup_append] at hnd';exact ⟨cp,ch,Fp,Fh,rfl,S',hk,⟨hp,hnd'.1,fun y hy=>hb y (by simp [hy]),fun y hy=>hpl y (by simp [hy])⟩,⟨hh,hnd'.2.1,fun y hy=>hb y (by simp [hy]),fun y hy=>hpl y (by simp [hy])⟩,fun y hy hy'=>hnd'.2.2 y hy y hy' rfl⟩
theorem Own.manWhole {k:Int} {p:nI} {u:Host} {cp ch:List Value} {Fp Fh:List Nat} (hk:I64 k) (hp:Own w B p cp Fp) (hh:Own w B u ch Fh) (hd:∀y∈Fp,y∉Fh):Own w B (⟨k,p,u⟩:Manifest) (.int .i64 k :: (cp++ch)) (Fp++Fh):=by
 refine Own.up (B':=B) (fun x:Manifest=>(x.kind,x.aS,x.host)) ?_ (Nat.le_refl _);refine Own.cons (c1:=[.int .i64 k]) (jL w k hk) ?_;refine ⟨⟨cp,ch,Fp,Fh,rfl,rfl,hp.rd,hh.rd⟩,?_,fun y hy=>?_,fun y hy=>?_⟩
 ·rw [List.nodup_append];exact ⟨hp.nodup,hh.nodup,fun a ha b hb e=>hd a ha (e ▸ hb)⟩
 ·rcases List.mem_append.1 hy with hy | hy
  ·exact hp.base y hy
  ·exact hh.base y hy
 ·rcases List.mem_append.1 hy with hy | hy
  ·exact hp.plain y hy
  ·exact hh.plain y hy
theorem rd.manParts {m:Manifest} {cs:List Value} {F:List Nat} (h:Dat.rd w m cs F):∃cp ch Fp Fh,cs = .int .i64 m.kind :: (cp++ch)∧F = Fp++Fh∧I64 m.kind∧Dat.rd w m.aS cp Fp∧Dat.rd w m.host ch Fh:=by
 obtain ⟨_,_,_,_,rfl,rfl,⟨rfl,rfl,hk⟩,cp,ch,Fp,Fh,rfl,rfl,hp,hh⟩:=h;exact ⟨cp,ch,Fp,Fh,rfl,S',hk,hp,hh⟩
end
theorem aqB (nm:ByteArray) (xs:List Placed):(F7 nm xs).length≤xs.length:=by unfold F7;rw [List.length_map];exact List.length_filter_le _ _
theorem alL {nm:ByteArray} {xs:List Placed} {a b:Int} (h:vU (F7 nm xs) = some (a,b)):KF nm xs = .tuple #[.int .i64 a,.int .i64 b,.int .i64 (F7 nm xs).length,.bool true]:=by unfold KF;rw [h]
theorem alM {nm:ByteArray} {xs:List Placed} (h:vU (F7 nm xs) = none):KF nm xs = .tuple #[.int .i64 0,.int .i64 0,.int .i64 0,.bool false]:=by unfold KF;rw [h]
def acL (x:aU) (h:Host):Bool:=match vU (F7 h.name x.au) with
 | none=>false
 | some (a,b)=>decide (a≤h.cpu)&&(decide (b≤h.mem)&&decide (((F7 h.name x.au).length:Int)≤h.slots))
def dY (x:aU) (h:Host):Bool:=Aj h&&acL x h
def dQ (a b:Host):Bool:=Op.bytesLess a.name.toList b.name.toList
def jT (x:aU) (p:Placed):Bool:=GU p.aS&&((decide (1≤p.seq)&&decide (p.seq≤x.next - 1))&&((p.on.toList == []) || decide (0≤pK (iM p.on) x.hosts)))
def dw (a b:Placed):Bool:=Op.bytesLess a.aS.name.toList b.aS.name.toList
def seenIn (xs:List Placed) (s:Int):Bool:=xs.any fun q=>q.seq == s
def DN (xs:List Placed) (k:Nat):Bool:=match xs[k]? with | none=>false | some p=>!(seenIn (xs.take k) p.seq)
theorem sG {xs:List Placed} {k:Nat} (h:k < xs.length):DN xs k = !(seenIn (xs.take k) xs[k].seq):=by unfold DN;rw [List.getElem?_eq_getElem h]
def Em (x:aU):Bool:=decide ((x.hosts.length:Int)≤8)&&(decide ((x.au.length:Int)≤12)&&((decide (1≤x.next)&&decide (x.next≤1000000000))&&zL x.weights.pack x.weights.spread x.weights.soft))
def iI (x:aU):Bool:=Em x&&((List.range x.hosts.length).all (rowAt (dY x) dQ x.hosts)&&((List.range x.au.length).all (rowAt (jT x) dw x.au)&&(List.range x.au.length).all (DN x.au)))
theorem oU {x:aU} (h:Em x = false):iI x = false:=by unfold iI;rw [h];rfl
theorem dW {x:aU} {k:Nat} (hk:k < x.hosts.length) (h:rowAt (dY x) dQ x.hosts k = false):iI x = false:=by unfold iI;rw [YF hk h];simp
theorem jP {x:aU} {k:Nat} (hk:k < x.au.length) (h:rowAt (jT x) dw x.au k = false):iI x = false:=by unfold iI;rw [YF hk h];simp
theorem DR {x:aU} {k:Nat} (hk:k < x.au.length) (h:DN x.au k = false):iI x = false:=by unfold iI;rw [YF hk h];simp
theorem OX {x:aU} (h0:Em x = true) (h1:∀j,j < x.hosts.length→rowAt (dY x) dQ x.hosts j = true) (h2:∀j,j < x.au.length→rowAt (jT x) dw x.au j = true) (h3:∀j,j < x.au.length→DN x.au j = true):iI x = true:=by
 unfold iI;rw [h0,YG h1,YG h2,YG h3];rfl
theorem pV {α:Type} {ok:α→Bool} {less:α→α→Bool} {xs:List α} {v:Bool} (h:0 < xs.length) (e:ok xs[0] = v):rowAt ok less xs 0 = v:=by rw [rowAt_zero h,e]
theorem nM {α:Type} {ok:α→Bool} {less:α→α→Bool} {xs:List α} {j:Nat} {v u:Bool} (h:j+1 < xs.length) (e:ok xs[j+1] = v) (e2:less xs[j] xs[j+1] = u):rowAt ok less xs (j+1) = (v&&u):=by rw [yS h,e,e2]
theorem alN {x:aU} {h:Host} (e:vU (F7 h.name x.au) = none):acL x h = false:=by unfold acL;rw [e]
theorem alO {x:aU} {h:Host} {a b:Int} (e:vU (F7 h.name x.au) = some (a,b)):acL x h = (decide (a≤h.cpu)&&(decide (b≤h.mem)&&decide (((F7 h.name x.au).length:Int)≤h.slots))):=by unfold acL;rw [e]
theorem E8 (x:aU) (h:Host):∃(a b n:Int) (okv:Bool),KF h.name x.au = .tuple #[.int .i64 a,.int .i64 b,.int .i64 n,.bool okv]∧acL x h = (okv&&(decide (a≤h.cpu)&&(decide (b≤h.mem)&&decide (n≤h.slots))))∧0≤n∧n≤x.au.length:=by
 cases e:vU (F7 h.name x.au) with
 | none=>exact ⟨0,0,0,false,alM e,by rw [alN e];rfl,O',O'⟩
 | some ab =>obtain ⟨a,b⟩:=ab;have:=aqB h.name x.au;exact ⟨a,b,(F7 h.name x.au).length,true,alL e,by rw [alO e];rfl,O',O'⟩
theorem Sl.Ec {w:World} {xs:List Placed} {A:Option Addr} {c:Nat} {F:List Nat} (h:Sl w xs A c F):∀p∈xs,I64 p.seq:=by
 intro p hp;obtain ⟨k,hk,rfl⟩:=List.getElem_of_mem hp;obtain ⟨b,o,ck,Fk,_,_,_,hr,_⟩:=h.get hk;obtain ⟨gV,gW,lF,iR,iT,mV,dD,dF,iH,hck,hF,nY,iE,rF,rG,oZ,je,dN,hon,hseq⟩:=kE hr;exact hseq
def su (f:nI→Int) (nm:ByteArray) (xs:List Placed):Int:=((F7 nm xs).map f).sum
theorem podR_nn {p:nI} (h:GU p = true):0≤p.cpu∧0≤p.mem:=by
 unfold GU at h;simp only [Bool.and_eq_true,decide_eq_true_eq] at h;exact h.1.2
theorem sum_sub {α:Type} {f:α→Int} {xs ys:List α} (h:xs.Sublist ys) (hn:∀y∈ys,0≤f y):(xs.map f).sum≤(ys.map f).sum:=by
 induction h with
 | slnil=>simp
 | cons a h ih =>have:=ih (fun y hy=>hn y (List.mem_cons_of_mem _ hy));have:=hn a (List.mem_cons_self ..);exact Zaed
 | cons_cons a h ih =>have:=ih (fun y hy=>hn y (List.mem_cons_of_mem _ hy));exact Zaed
theorem onL_sub {nm:ByteArray} {xs ys:List Placed} (h:xs.Sublist ys):(F7 nm xs).Sublist (F7 nm ys):=(h.filter _).map _
theorem onL_memP {nm:ByteArray} {xs:List Placed} {p:nI} (h:p∈F7 nm xs):∃q∈xs,p = q.aS:=by
 unfold F7 at h;obtain ⟨q,hq,rfl⟩:=List.mem_map.1 h;exact ⟨q,(List.mem_filter.1 hq).1,rfl⟩
def Room (xs:List Placed) (h:Host):Prop:=su nI.cpu h.name xs≤9223372036854775807∧su nI.mem h.name xs≤9223372036854775807∧su nI.cpu h.name xs≤h.cpu∧su nI.mem h.name xs≤h.mem∧((F7 h.name xs).length:Int)≤h.slots
structure Good (x:aU):Prop where
 h8:x.hosts.length≤8
 p12:x.au.length≤12
 n1:1≤x.next
 n2:x.next≤1000000000
 wt:zL x.weights.pack x.weights.spread x.weights.soft = true
 hok:∀h∈x.hosts,Aj h = true
 hin:∀h∈x.hosts,Room x.au h
 hs:x.hosts.Pairwise fun a b=>dQ a b = true
 pok:∀p∈x.au,GU p.aS = true
 pseq:∀p∈x.au,1≤p.seq∧p.seq≤x.next - 1
 pon:∀p∈x.au,p.on = ⟨#[]⟩∨∃h∈x.hosts,h.name = p.on
 ps:x.au.Pairwise fun a b=>dw a b = true
 pf:x.au.Pairwise fun a b=>a.seq≠b.seq
theorem Room.sub {xs ys:List Placed} {h:Host} (hr:Room ys h) (hs:xs.Sublist ys) (hp:∀p∈ys,GU p.aS = true):Room xs h:=by
 obtain ⟨h1,h2,h3,h4,h5⟩:=hr;have a:=sum_sub (f:=nI.cpu) (onL_sub (nm:=h.name) hs) (fun y hy=>by obtain ⟨q,hq,rfl⟩:=onL_memP hy;exact (podR_nn (hp q hq)).1);have b:=sum_sub (f:=nI.mem) (onL_sub (nm:=h.name) hs) (fun y hy=>by obtain ⟨q,hq,rfl⟩:=onL_memP hy;exact (podR_nn (hp q hq)).2);have c:=(onL_sub (nm:=h.name) hs).length_le;unfold Room su at *;omega
theorem Room.same {xs ys:List Placed} {h:Host} (hr:Room ys h) (he:F7 h.name xs = F7 h.name ys):Room xs h:=by unfold Room su at *;rw [he];exact hr
end Go.Proofs.YtkbkikggodlbbaaGreat
namespace Go.Proofs.YtkbkikggodlbbaaGreat
open Go.ChangeShapes Go.WideShapes Go.ChangeAt Go.RowKit
set_option linter.unusedVariables false
set_option linter.unusedSimpArgs false
open Go.Maps (Keyed)
theorem NY {H:Type} {P:Program} {w:World} {t k e:TypeId} {b n:Nat} {D:DataW H} (h:w.ownsMap P k (plainElem P e) b n D) (K:Keyed P k) (ht:P.underlying t = some (.map k e)) (he:P.underlying e = some .bool) (hz:(zeroValue e).run P w = .ok (.bool false) w)
 {key:Value} {kl:Lit} (hkey:keyOf P k key = some kl) {c:Bool} (hat:D.atKey kl (.lit (.bool false)) = .lit (.bool c)):(Instr.lookup t (.map (some b)) key false).run P w = .ok (.bool c) w:=by
 obtain ⟨v,ps,hrun,hv⟩:=h.lookup K ht hz (plainElem_bool he false) hkey;rw [hat] at hv;unfold plainElem at hv;rw [he] at hv;cases v <;> simp at hv
 obtain ⟨rfl,_⟩:=hv;exact hrun
def anK (xs:List Placed):DataW Unit:=xs.foldl (fun D p=>D.put (.int .i64 p.seq) (.lit (.bool true))) (.map [])
theorem J3 (xs:List Placed) (p:Placed):anK (xs++[p]) = (anK xs).put (.int .i64 p.seq) (.lit (.bool true)):=by unfold anK;rw [List.foldl_append];rfl
theorem aqk (s:Int) (hs:I64 s):WideAt.IsKeyLit (.int .i64 s):=by
 simp [WideAt.IsKeyLit]
theorem adr (s:Int) (hs:I64 s):∀(xs:List Placed) (D:DataW Unit) (c:Bool),Maps.IsMap D→D.atKey (.int .i64 s) (.lit (.bool false)) = .lit (.bool c) →
 (xs.foldl (fun D p=>D.put (.int .i64 p.seq) (.lit (.bool true))) D).atKey (.int .i64 s) (.lit (.bool false)) = .lit (.bool (c || seenIn xs s))
 | [],D,c,_,h=>by simpa [seenIn] using h
 | p :: xs,D,c,hD,h=>by
   rw [List.foldl_cons];by_cases e:p.seq = s
   ·rw [adr s hs xs _ true (hD.put _ _) (by rw [e];exact Maps.atKey_put_same hD (aqk s hs) _ _)];simp [seenIn,e]
   ·rw [adr s hs xs _ c (hD.put _ _) (by rw [Maps.atKey_put_other (by intro h2;apply e;injection h2 with _ h3;exact h3.symm)];exact h)];have e2:(p.seq == s) = false:=(by simpa using e);simp [seenIn,e2]
theorem aeY (xs:List Placed) (s:Int) (hs:I64 s):(anK xs).atKey (.int .i64 s) (.lit (.bool false)) = .lit (.bool (seenIn xs s)):=by
 have h:=adr s hs xs (.map []) false Maps.isMap_empty rfl;simpa [anK] using h
theorem Oy:Keyed Tryz.prog 3:=Maps.int_keyed Tryz.underlying3
theorem abl (w:World):(zeroValue 4).run Tryz.prog w = .ok (.bool false) w:=by kernel_rfl
theorem grown_of {w w':World} (hb:Below w.heap.size w w'):w.grownBy w' none:=⟨hb.os,hb.tape,hb.output,hb.size,fun k hk _=>hb.block k hk⟩
end Go.Proofs.YtkbkikggodlbbaaGreat
