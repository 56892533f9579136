/- SortTaints in plain Lean. No condition. -/
import Derived.Test.YthjdahommnnliaaGreatNeedLess
import Derived.Test.YthjdahommnnliaaGreatTaintsOk
import Derived.Test.YthjdahommnnliaaGreatSz
import Derived.Test.YthjdahommnnliaaGreatLaw0
import Derived.Test.YthjdahommnnliaaGreatWordsS
import Derived.Test.YthjdahommnnliaaGreatLabelsOk
import Derived.Test.YthjdahommnnliaaGreatStabM
namespace Go.Proofs.YthjdahommnnliaaGreat
open Go.ChangeShapes Go.WideShapes Go.ChangeAt Go.RowKit
set_option linter.unusedVariables false
set_option linter.unusedSimpArgs false
def sortTaintsR (xs:List iU):List iU × Bool:=if xs.length≤40∧La (uniqL qo [] xs) = true then (uniqL qo [] xs,true) else (xs,false)
theorem sortTaintsR_long {xs:List iU} (h:¬xs.length≤40):sortTaintsR xs = (xs,false):=if_neg fun hh=>h hh.1
theorem sortTaintsR_yes {xs:List iU} (h:xs.length≤40) (h2:La (uniqL qo [] xs) = true):sortTaintsR xs = (uniqL qo [] xs,true):=if_pos ⟨h,h2⟩
theorem sortTaintsR_no {xs:List iU} (h2:La (uniqL qo [] xs) = false):sortTaintsR xs = (xs,false):=if_neg fun hh=>by rw [h2] at hh;cases hh.2
theorem uniqTaint_mem {xs:List iU} {z:iU} (h:z∈uniqL qo [] xs):z∈xs:=by
 rcases (uniqL_mem totTaint z xs []).1 h with h | h
 ·cases h
 ·exact h
theorem sortTaintsR_wt (xs:List iU):kL iU.wt (sortTaintsR xs).1≤kL iU.wt xs:=by
 have h:=uniqL_sum iU.wt qo xs []
 have hl:=uniqL_len qo xs []
 unfold sortTaintsR kL
 split
 ·dsimp only
  simp only [List.map_nil,List.sum_nil,List.length_nil] at h hl;omega
 ·exact Nat.le_refl _
end Go.Proofs.YthjdahommnnliaaGreat
namespace Go.Proofs.YthjdahommnnliaaGreat
open Go.ChangeShapes Go.WideShapes Go.ChangeAt Go.RowKit
set_option linter.unusedVariables false
set_option linter.unusedSimpArgs false
def Aj (x:Host):Bool:=Qs x.name&&sD x.labels&&La x.aT&&(decide (0≤x.cpu)&&decide (0≤x.mem))&&(decide (1≤x.slots)&&decide (x.slots≤20))
set_option maxRecDepth 100000 in
set_option maxHeartbeats 2000000 in
theorem tY (x:Host) (cs:List Value) (F:List Nat) (w:World) (h:rd w x cs F) (hw:(x.wt:Int)≤1048576) :
 Calls Tryz.prog 101 #[.agg cs.toArray] w fun e w'=>e = .returned (.bool (Aj x))∧Below w.heap.size w w':=by
 have hwx:x.wt = x.name.size+kL Label.wt x.labels+kL iU.wt x.aT:=rfl
 obtain ⟨hll,hls⟩:=sW (xs:=x.labels) (by omega)
 obtain ⟨htl,hts⟩:=BH (xs:=x.aT) (by omega)
 have hns:(x.name.size:Int)≤1048576:=by omega
 have Zb:=Lib.hid hls
 have Ux:=Lib.hid hts
 clear hls hts
 have hr:=h
 obtain ⟨gu,gy,jw,kJ,kK,qU,hck,hF,hname,dO,vg,hmem,uI,jq⟩:=iy hr
 subst hck
 clear hr hF
 go_enter Tryz.func101,Tryz.ntmps101
 go_wp2_with (first
  | (go_at_call 169;refine (Ro x.name _ hns).mono ?_;rintro e w2 ⟨rfl,hb2⟩;obtain ⟨hc2,hf2⟩:=ay hb2;have hz2:w.heap.size < w2.heap.size:=(sq hb2.size))
  | (go_at_call 155;refine (Jv x.labels _ _ _ _ _ (dO.ext atS) rfl hll Zb.out).mono ?_;rintro e w3 ⟨rfl,hb3⟩;obtain ⟨hc3,hf3⟩:=ay hb3;have hz3:w.heap.size < w3.heap.size:=(sq hb3.size))
  | (go_at_call 175;refine (ZK x.aT _ _ _ _ _ (jq.ext atS) rfl htl Ux.out).mono ?_;rintro e w4 ⟨rfl,hb4⟩;obtain ⟨hc4,hf4⟩:=ay hb4;have Wy:w.heap.size < w4.heap.size:=(sq hb4.size))
  | go_in)
 all_goals first
  | (go_ret;refine ⟨?_,atS⟩;refine congrArg (fun b=>Ending.returned (Value.bool b)) ?_;show (_:Bool) = _;(try clear hc2 hf2);(try clear hc3 hf3);(try clear hc4 hf4);unfold Aj;first | (simp [*];done) | (simp [*];omega) | (simp_all;done) | (simp_all;omega))
  | skip
set_option maxRecDepth 100000 in
set_option maxHeartbeats 2000000 in
theorem tZ (x:Host) (cs:List Value) (F:List Nat) (w:World) (h:rd w x cs F) (hw:(x.wt:Int)≤1048576) :
 Calls Tryz.prog 91 #[.agg cs.toArray] w fun e w'=>e = .returned (.bool (Aj x))∧Below w.heap.size w w':=by
 have hwx:x.wt = x.name.size+kL Label.wt x.labels+kL iU.wt x.aT:=rfl
 obtain ⟨hll,hls⟩:=sW (xs:=x.labels) (by omega)
 obtain ⟨htl,hts⟩:=BH (xs:=x.aT) (by omega)
 have hns:(x.name.size:Int)≤1048576:=by omega
 have Zb:=Lib.hid hls
 have Ux:=Lib.hid hts
 clear hls hts
 have hr:=h
 obtain ⟨gu,gy,jw,kJ,kK,qU,hck,hF,hname,dO,vg,hmem,uI,jq⟩:=iy hr
 subst hck
 clear hr hF
 go_enter Tryz.func91,Tryz.ntmps91
 go_wp2_with (first
  | (go_at_call 148;refine (Rq x.name _ hns).mono ?_;rintro e w2 ⟨rfl,hb2⟩;obtain ⟨hc2,hf2⟩:=ay hb2;have hz2:w.heap.size < w2.heap.size:=(sq hb2.size))
  | (go_at_call 142;refine (Jw x.labels _ _ _ _ _ (dO.ext atS) rfl hll Zb.out).mono ?_;rintro e w3 ⟨rfl,hb3⟩;obtain ⟨hc3,hf3⟩:=ay hb3;have hz3:w.heap.size < w3.heap.size:=(sq hb3.size))
  | (go_at_call 150;refine (ZL x.aT _ _ _ _ _ (jq.ext atS) rfl htl Ux.out).mono ?_;rintro e w4 ⟨rfl,hb4⟩;obtain ⟨hc4,hf4⟩:=ay hb4;have Wy:w.heap.size < w4.heap.size:=(sq hb4.size))
  | go_in)
 all_goals first
  | (go_ret;refine ⟨?_,atS⟩;refine congrArg (fun b=>Ending.returned (Value.bool b)) ?_;show (_:Bool) = _;(try clear hc2 hf2);(try clear hc3 hf3);(try clear hc4 hf4);unfold Aj;first | (simp [*];done) | (simp [*];omega) | (simp_all;done) | (simp_all;omega))
  | skip
end Go.Proofs.YthjdahommnnliaaGreat
namespace Go.Proofs.YthjdahommnnliaaGreat
open Go.ChangeShapes Go.WideShapes Go.ChangeAt Go.RowKit
set_option linter.unusedVariables false
set_option linter.unusedSimpArgs false
def labCv (x y:Label):Int:=Lib.compareBytes x.key.data.toList y.key.data.toList
theorem labWeak:Weak (kS labCv):=(cpKey.at Label.key).weak
def sortLabelsR (xs:List Label):List Label × Bool:=if sD (sortB (kS labCv) [] xs) = true then (sortB (kS labCv) [] xs,true) else (xs,false)
theorem sortLabelsR_yes {xs:List Label} (h:sD (sortB (kS labCv) [] xs) = true):sortLabelsR xs = (sortB (kS labCv) [] xs,true):=if_pos h
theorem sortLabelsR_no {xs:List Label} (h:sD (sortB (kS labCv) [] xs) = false):sortLabelsR xs = (xs,false):=if_neg (by rw [h];simp)
theorem sortL_mem {lt:Label→Label→Bool} {z:Label} : ∀(ys acc:List Label),z∈sortB lt acc ys→z∈acc∨z∈ys
 | [],acc,h=>.inl h
 | y :: ys,acc,h=>by
   rw [sortB] at h
   rcases sortL_mem ys _ h with h | h
   ·rw [xK] at h
    rcases MK h with h | h
    ·exact .inl h
    ·rw [List.mem_singleton.1 h];exact .inr (List.mem_cons_self ..)
   ·exact .inr (List.mem_cons_of_mem _ h)
theorem sortLab_mem {xs:List Label} {z:Label} (h:z∈sortB (kS labCv) [] xs):z∈xs:=by
 rcases sortL_mem xs [] h with h | h
 ·cases h
 ·exact h
theorem sortLab_len (xs:List Label):(sortB (kS labCv) [] xs).length = xs.length:=by rw [rD];simp
theorem insB_sum {lt:Label→Label→Bool} (f:Label→Nat) (y:Label):∀r:List Label,((OM lt y r).map f).sum = f y+(r.map f).sum
 | []=>by simp [OM]
 | x :: r=>by
   have:=insB_sum (lt:=lt) f y r
   unfold OM
   split <;> simp only [List.map_cons,List.sum_cons] <;> omega
theorem sortB_sum {lt:Label→Label→Bool} (f:Label→Nat):∀xs acc:List Label,((sortB lt acc xs).map f).sum = (acc.map f).sum+(xs.map f).sum
 | [],_=>by simp [sortB]
 | x :: xs,acc=>by
   have h1:=sortB_sum (lt:=lt) f xs (OM lt x acc)
   have h2:=insB_sum (lt:=lt) f x acc
   rw [sortB,h1,h2]
   simp only [List.map_cons,List.sum_cons];omega
theorem sortLabelsR_wt (xs:List Label):kL Label.wt (sortLabelsR xs).1 = kL Label.wt xs:=by
 have h:=sortB_sum (lt:=kS labCv) Label.wt xs []
 have hl:=sortLab_len xs
 unfold sortLabelsR kL
 split
 ·dsimp only
  simp only [List.map_nil,List.sum_nil] at h;omega
 ·rfl
end Go.Proofs.YthjdahommnnliaaGreat
namespace Go.Proofs.YthjdahommnnliaaGreat
open Go.ChangeShapes Go.WideShapes Go.ChangeAt Go.RowKit
set_option linter.unusedVariables false
set_option linter.unusedSimpArgs false
def hostN (x:Host):Host:=⟨x.name,(sortLabelsR x.labels).1,x.cpu,x.mem,x.slots,(sortTaintsR x.aT).1⟩
def hostNormalR (x:Host):Host × Bool:=if (sortLabelsR x.labels).2 = true∧(sortTaintsR x.aT).2 = true∧Aj (hostN x) = true then (hostN x,true) else (x,false)
theorem hostN_wt (x:Host):(hostN x).wt≤x.wt:=by
 have h1:=sortLabelsR_wt x.labels
 have h2:=sortTaintsR_wt x.aT
 unfold hostN Host.wt
 dsimp only
 omega
theorem hostNormalR_wt (x:Host):(hostNormalR x).1.wt≤x.wt:=by
 unfold hostNormalR
 split
 ·exact hostN_wt x
 ·exact Nat.le_refl _
end Go.Proofs.YthjdahommnnliaaGreat
