/- HostOk, of the program and of the reference. No condition. -/
import Derived.Test.YtnjibbpcafgglaaGreatSmalls
import Derived.Test.YtnjibbpcafgglaaGreatNames
import Derived.Test.YtnjibbpcafgglaaGreatLabOk
import Derived.Test.YtnjibbpcafgglaaGreatTaintsOk
namespace Go.Proofs.YtnjibbpcafgglaaGreat
open Go.ChangeShapes Go.WideShapes Go.ChangeAt Go.RowKit
set_option linter.unusedVariables false
set_option linter.unusedSimpArgs false
def Aj (x:Host):Bool:=Qs x.name&&sD x.labels&&La x.aT&&(decide (0≤x.cpu)&&decide (0≤x.mem))&&(decide (1≤x.slots)&&decide (x.slots≤20))
set_option maxRecDepth 100000 in
set_option maxHeartbeats 2000000 in
theorem tY (x:Host) (cs:List Value) (F:List Nat) (w:World) (h:rd w x cs F) (hw:(x.wt:Int)≤1048576) :
 Calls Tryz.prog 56 #[.agg cs.toArray] w fun e w'=>e = .returned (.bool (Aj x))∧Below w.heap.size w w':=by
 have hwx:x.wt = x.name.size+kL Label.wt x.labels+kL iU.wt x.aT:=rfl
 obtain ⟨hll,hls⟩:=sW (xs:=x.labels) (by omega)
 obtain ⟨htl,hts⟩:=BH (xs:=x.aT) (by omega)
 have hns:(x.name.size:Int)≤1048576:=by omega
 have Zb:=Lib.hid hls
 have Ux:=Lib.hid hts
 clear hls hts
 have hr:=h
 obtain ⟨gu,gy,jw,kJ,kK,qU,hck,hF,hname,dO,vg,hmem,uI,jq⟩:=iy hr
 subst hck
 clear hr hF
 go_enter Tryz.func56,Tryz.ntmps56
 go_wp2_with (first
  | (go_at_call 96;refine (Ro x.name _ hns).mono ?_;rintro e w2 ⟨rfl,hb2⟩;obtain ⟨hc2,hf2⟩:=ay hb2;have hz2:w.heap.size < w2.heap.size:=(sq hb2.size))
  | (go_at_call 97;refine (Jv x.labels _ _ _ _ _ (dO.ext atS) rfl hll Zb.out).mono ?_;rintro e w3 ⟨rfl,hb3⟩;obtain ⟨hc3,hf3⟩:=ay hb3;have hz3:w.heap.size < w3.heap.size:=(sq hb3.size))
  | (go_at_call 98;refine (ZK x.aT _ _ _ _ _ (jq.ext atS) rfl htl Ux.out).mono ?_;rintro e w4 ⟨rfl,hb4⟩;obtain ⟨hc4,hf4⟩:=ay hb4;have Wy:w.heap.size < w4.heap.size:=(sq hb4.size))
  | go_in)
 all_goals first
  | (go_ret;refine ⟨?_,atS⟩;refine congrArg (fun b=>Ending.returned (Value.bool b)) ?_;show (_:Bool) = _;(try clear hc2 hf2);(try clear hc3 hf3);(try clear hc4 hf4);unfold Aj;first | (simp [*];done) | (simp [*];omega) | (simp_all;done) | (simp_all;omega))
  | skip
set_option maxRecDepth 100000 in
set_option maxHeartbeats 2000000 in
theorem tZ (x:Host) (cs:List Value) (F:List Nat) (w:World) (h:rd w x cs F) (hw:(x.wt:Int)≤1048576) :
 Calls Tryz.prog 44 #[.agg cs.toArray] w fun e w'=>e = .returned (.bool (Aj x))∧Below w.heap.size w w':=by
 have hwx:x.wt = x.name.size+kL Label.wt x.labels+kL iU.wt x.aT:=rfl
 obtain ⟨hll,hls⟩:=sW (xs:=x.labels) (by omega)
 obtain ⟨htl,hts⟩:=BH (xs:=x.aT) (by omega)
 have hns:(x.name.size:Int)≤1048576:=by omega
 have Zb:=Lib.hid hls
 have Ux:=Lib.hid hts
 clear hls hts
 have hr:=h
 obtain ⟨gu,gy,jw,kJ,kK,qU,hck,hF,hname,dO,vg,hmem,uI,jq⟩:=iy hr
 subst hck
 clear hr hF
 go_enter Tryz.func44,Tryz.ntmps44
 go_wp2_with (first
  | (go_at_call 80;refine (Rq x.name _ hns).mono ?_;rintro e w2 ⟨rfl,hb2⟩;obtain ⟨hc2,hf2⟩:=ay hb2;have hz2:w.heap.size < w2.heap.size:=(sq hb2.size))
  | (go_at_call 81;refine (Jw x.labels _ _ _ _ _ (dO.ext atS) rfl hll Zb.out).mono ?_;rintro e w3 ⟨rfl,hb3⟩;obtain ⟨hc3,hf3⟩:=ay hb3;have hz3:w.heap.size < w3.heap.size:=(sq hb3.size))
  | (go_at_call 84;refine (ZL x.aT _ _ _ _ _ (jq.ext atS) rfl htl Ux.out).mono ?_;rintro e w4 ⟨rfl,hb4⟩;obtain ⟨hc4,hf4⟩:=ay hb4;have Wy:w.heap.size < w4.heap.size:=(sq hb4.size))
  | go_in)
 all_goals first
  | (go_ret;refine ⟨?_,atS⟩;refine congrArg (fun b=>Ending.returned (Value.bool b)) ?_;show (_:Bool) = _;(try clear hc2 hf2);(try clear hc3 hf3);(try clear hc4 hf4);unfold Aj;first | (simp [*];done) | (simp [*];omega) | (simp_all;done) | (simp_all;omega))
  | skip
end Go.Proofs.YtnjibbpcafgglaaGreat
