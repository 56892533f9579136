/- PodOk, of the program and of the reference. No condition. -/
import Derived.Test.YtnjibbpcafgglaaGreatSmalls
import Derived.Test.YtnjibbpcafgglaaGreatNames
import Derived.Test.YtnjibbpcafgglaaGreatLabOk
import Derived.Test.YtnjibbpcafgglaaGreatSelOk
import Derived.Test.YtnjibbpcafgglaaGreatTolsOk
namespace Go.Proofs.YtnjibbpcafgglaaGreat
open Go.ChangeShapes Go.WideShapes Go.ChangeAt Go.RowKit
set_option linter.unusedVariables false
set_option linter.unusedSimpArgs false
def GU (x:nI):Bool:=Qs x.name&&sD x.labels&&aeH x.needs&&Ya x.tolerances&&(decide (0≤x.cpu)&&decide (0≤x.mem))&&(decide (0≤x.rank)&&decide (x.rank≤1000))
set_option maxRecDepth 100000 in
set_option maxHeartbeats 2000000 in
theorem wH (x:nI) (cs:List Value) (F:List Nat) (w:World) (h:rd w x cs F) (hw:(x.wt:Int)≤1048576) :
 Calls Tryz.prog 57 #[.agg cs.toArray] w fun e w'=>e = .returned (.bool (GU x))∧Below w.heap.size w w':=by
 have hwx:x.wt = x.name.size+kL Label.wt x.labels+kL Need.wt x.needs+kL bH.wt x.tolerances:=rfl
 obtain ⟨hll,hls⟩:=sW (xs:=x.labels) (by omega)
 obtain ⟨hnl,VU⟩:=Aa (xs:=x.needs) (by omega)
 obtain ⟨htl,hts⟩:=FQ (xs:=x.tolerances) (by omega)
 have hns:(x.name.size:Int)≤1048576:=by omega
 have Zb:=Lib.hid hls
 have HNS:=Lib.hid VU
 have Ux:=Lib.hid hts
 clear hls hts VU
 have hr:=h
 obtain ⟨gu,gy,jw,oh,nT,wG,fA,fB,jY,hck,hF,hname,dO,vg,hmem,BJ,mX,eG⟩:=dL hr
 subst hck
 clear hr hF
 go_enter Tryz.func57,Tryz.ntmps57
 go_wp2_with (first
  | (go_at_call 96;refine (Ro x.name _ hns).mono ?_;rintro e w2 ⟨rfl,hb2⟩;obtain ⟨hc2,hf2⟩:=ay hb2;have hz2:w.heap.size < w2.heap.size:=(sq hb2.size))
  | (go_at_call 97;refine (Jv x.labels _ _ _ _ _ (dO.ext atS) rfl hll Zb.out).mono ?_;rintro e w3 ⟨rfl,hb3⟩;obtain ⟨hc3,hf3⟩:=ay hb3;have hz3:w.heap.size < w3.heap.size:=(sq hb3.size))
  | (go_at_call 99;refine (WI x.needs _ _ _ _ _ (mX.ext atS) rfl hnl HNS.out).mono ?_;rintro e w4 ⟨rfl,hb4⟩;obtain ⟨hc4,hf4⟩:=ay hb4;have Wy:w.heap.size < w4.heap.size:=(sq hb4.size))
  | (go_at_call 100;refine (RH x.tolerances _ _ _ _ _ (eG.ext atS) rfl htl Ux.out).mono ?_;rintro e w5 ⟨rfl,hb5⟩;obtain ⟨hc5,hf5⟩:=ay hb5;have Es:w.heap.size < w5.heap.size:=(sq hb5.size))
  | go_in)
 all_goals first
  | (go_ret;refine ⟨?_,atS⟩;refine congrArg (fun b=>Ending.returned (Value.bool b)) ?_;show (_:Bool) = _;(try clear hc2 hf2);(try clear hc3 hf3);(try clear hc4 hf4);(try clear hc5 hf5);unfold GU;first | (simp [*];done) | (simp [*];omega) | (simp_all;done) | (simp_all;omega))
  | skip
set_option maxRecDepth 100000 in
set_option maxHeartbeats 2000000 in
theorem yT (x:nI) (cs:List Value) (F:List Nat) (w:World) (h:rd w x cs F) (hw:(x.wt:Int)≤1048576) :
 Calls Tryz.prog 42 #[.agg cs.toArray] w fun e w'=>e = .returned (.bool (GU x))∧Below w.heap.size w w':=by
 have hwx:x.wt = x.name.size+kL Label.wt x.labels+kL Need.wt x.needs+kL bH.wt x.tolerances:=rfl
 obtain ⟨hll,hls⟩:=sW (xs:=x.labels) (by omega)
 obtain ⟨hnl,VU⟩:=Aa (xs:=x.needs) (by omega)
 obtain ⟨htl,hts⟩:=FQ (xs:=x.tolerances) (by omega)
 have hns:(x.name.size:Int)≤1048576:=by omega
 have Zb:=Lib.hid hls
 have HNS:=Lib.hid VU
 have Ux:=Lib.hid hts
 clear hls hts VU
 have hr:=h
 obtain ⟨gu,gy,jw,oh,nT,wG,fA,fB,jY,hck,hF,hname,dO,vg,hmem,BJ,mX,eG⟩:=dL hr
 subst hck
 clear hr hF
 go_enter Tryz.func42,Tryz.ntmps42
 go_wp2_with (first
  | (go_at_call 80;refine (Rq x.name _ hns).mono ?_;rintro e w2 ⟨rfl,hb2⟩;obtain ⟨hc2,hf2⟩:=ay hb2;have hz2:w.heap.size < w2.heap.size:=(sq hb2.size))
  | (go_at_call 81;refine (Jw x.labels _ _ _ _ _ (dO.ext atS) rfl hll Zb.out).mono ?_;rintro e w3 ⟨rfl,hb3⟩;obtain ⟨hc3,hf3⟩:=ay hb3;have hz3:w.heap.size < w3.heap.size:=(sq hb3.size))
  | (go_at_call 82;refine (WJ x.needs _ _ _ _ _ (mX.ext atS) rfl hnl HNS.out).mono ?_;rintro e w4 ⟨rfl,hb4⟩;obtain ⟨hc4,hf4⟩:=ay hb4;have Wy:w.heap.size < w4.heap.size:=(sq hb4.size))
  | (go_at_call 83;refine (RI x.tolerances _ _ _ _ _ (eG.ext atS) rfl htl Ux.out).mono ?_;rintro e w5 ⟨rfl,hb5⟩;obtain ⟨hc5,hf5⟩:=ay hb5;have Es:w.heap.size < w5.heap.size:=(sq hb5.size))
  | go_in)
 all_goals first
  | (go_ret;refine ⟨?_,atS⟩;refine congrArg (fun b=>Ending.returned (Value.bool b)) ?_;show (_:Bool) = _;(try clear hc2 hf2);(try clear hc3 hf3);(try clear hc4 hf4);(try clear hc5 hf5);unfold GU;first | (simp [*];done) | (simp [*];omega) | (simp_all;done) | (simp_all;omega))
  | skip
end Go.Proofs.YtnjibbpcafgglaaGreat
