/- MarkOn, of the program and of the reference. No condition. -/
import Derived.Test.YtogkjlcoadhpgaaGreatSpread
import Derived.Test.YtogkjlcoadhpgaaGreatSoft
import Derived.Test.YtogkjlcoadhpgaaGreatWordsS
import Derived.Test.YtogkjlcoadhpgaaGreatShare
import Derived.Test.YtogkjlcoadhpgaaGreatVarP
import Derived.Test.YtogkjlcoadhpgaaGreatTolsOk
import Derived.Test.YtogkjlcoadhpgaaGreatHostOk
import Derived.Test.YtogkjlcoadhpgaaGreatUsed
import Derived.Maps.OwnOps
import Derived.Maps.Views
namespace Go.Proofs.YtogkjlcoadhpgaaGreat
open Go.ChangeShapes Go.WideShapes Go.ChangeAt Go.RowKit
set_option linter.unusedVariables false
set_option linter.unusedSimpArgs false
def uH (nm:ByteArray) (x:aU) (p:nI):Int :=
 if zL x.weights.pack x.weights.spread x.weights.soft = true then x.weights.pack * OT nm x p+x.weights.spread * EF nm x+x.weights.soft * Rt nm x p else 0
theorem adN (nm:ByteArray) (x:aU) (p:nI):0≤Rt nm x p∧Rt nm x p≤100:=by
 unfold Rt
 split
 ·omega
 ·split <;> omega
theorem PX {a b:Int} (ha:0≤a∧a≤10) (hb:0≤b∧b≤100):0≤a * b∧a * b≤1000:=by
 refine ⟨Int.mul_nonneg ha.1 hb.1,?_⟩
 have h1:a * b≤10 * b:=Int.mul_le_mul_of_nonneg_right ha.2 hb.1
 omega
theorem XO {p s f:Int} (h:zL p s f = true):(0≤p∧p≤10)∧(0≤s∧s≤10)∧(0≤f∧f≤10):=by
 unfold zL at h
 simp only [Bool.and_eq_true,decide_eq_true_eq] at h
 omega
theorem vY {n:Int} (h:0≤n∧n≤3000):Value.int .i64 (IntKind.i64.wrap n) = Value.int .i64 n:=by
 have e:IntKind.i64.wrap n = n:=by rw [IntKind.wrap_i64];omega
 rw [e]
set_option maxRecDepth 100000 in
set_option maxHeartbeats 4000000 in
theorem XL (x:aU) (p:nI) (cs ps:List Value) (F G:List Nat) (nm:ByteArray) (w:World) (h:rd w x cs F) (h':rd w p ps G) (hw:(x.wt:Int)≤1048576) (hw':(p.wt:Int)≤1048576) :
 Calls Tryz.prog 145 #[.agg cs.toArray,.string nm,.agg ps.toArray] w fun e w'=>e = .returned (.int .i64 (uH nm x p))∧Below w.heap.size w w':=by
 have ZN:=Lib.hid hw
 have Uc:=Lib.hid hw'
 clear hw hw'
 have hr:=h
 have hr':=h'
 obtain ⟨bG,bD,fQ,dn,bW,jg,hck,hF,bQ,dM,hnext,aV,aP,aW⟩:=aO hr
 obtain ⟨bY,bZ,iq,eU,eX,jV,bg,bn,dK,jU,hG,jW,dA,kQ,lg,lG,iO,bK⟩:=dL hr'
 subst hck jU
 clear hF hG hr hr'
 cases hR:zL x.weights.pack x.weights.spread x.weights.soft with
 | false =>
   have HF:=Lib.hid (show uH nm x p = 0 by unfold uH;rw [if_neg (by rw [hR];simp)])
   have HR:=Lib.hid hR
   clear hR
   go_enter Tryz.func145,Tryz.ntmps145
   go_wp2_with fail
   refine (pU _ _ _ _).mono ?_
   rw [HR.out]
   rintro e w2 ⟨rfl,hb2⟩
   exact Zaau
 | true =>
   have hmk:uH nm x p = x.weights.pack * OT nm x p+x.weights.spread * EF nm x+x.weights.soft * Rt nm x p:=by unfold uH;rw [if_pos hR]
   obtain ⟨g1,g2,g3⟩:=XO hR
   have HR:=Lib.hid hR
   clear hR
   obtain ⟨S1,hS1⟩:∃S,OT nm x p = S:=⟨_,rfl⟩
   obtain ⟨S2,hS2⟩:∃S,EF nm x = S:=⟨_,rfl⟩
   obtain ⟨S3,hS3⟩:∃S,Rt nm x p = S:=⟨_,rfl⟩
   have r1:=adO nm x p
   have r2:=ZO nm x
   have r3:=adN nm x p
   rw [hS1] at r1 hmk
   rw [hS2] at r2 hmk
   rw [hS3] at r3 hmk
   have m1:=PX g1 r1
   have m2:=PX g2 r2
   have m3:=PX g3 r3
   have e1:=vY (n:=x.weights.pack * S1) (by omega)
   have e2:=vY (n:=x.weights.spread * S2) (by omega)
   have e3:=vY (n:=x.weights.soft * S3) (by omega)
   have e4:=vY (n:=x.weights.pack * S1+x.weights.spread * S2) (by omega)
   have e5:=vY (n:=x.weights.pack * S1+x.weights.spread * S2+x.weights.soft * S3) (by omega)
   have HF:=Lib.hid hmk
   have H1:=Lib.hid hS1
   have H2:=Lib.hid hS2
   have H3:=Lib.hid hS3
   clear hmk hS1 hS2 hS3 m1 m2 m3
   go_enter Tryz.func145,Tryz.ntmps145
   go_wp2_with fail
   refine (pU _ _ _ _).mono ?_
   rw [HR.out]
   rintro e w2 ⟨rfl,hb2⟩
   obtain ⟨hc2,hf2⟩:=ay hb2
   have hz2:w.heap.size < w2.heap.size:=(sq hb2.size)
   have hy2:w.heap.size+1 < w2.heap.size:=(sq hb2.size)
   try (have hx2:w.heap.size+1+1 < w2.heap.size:=sq hb2.size)
   go_wp2_with fail
   refine aF _ (by kernel_rfl) (by kernel_rfl) (aj _) ?_
   repeat (first
    | (apply aG
       case hw=>rfl
       simp only [Act.put,pz])
    | (apply aH
       case hw=>rfl
       case h =>
        intro wq hq
        have hcq:=(aB hq).1
        have lJ:=(aB hq).2
        go_simp
        first
         | exact ⟨hq,rfl⟩
         | exact ⟨aQ hq _,rfl⟩
         | (first | (refine (ZA x p _ _ _ _ nm _ (aJ h (ah atS hq)) (aJ h' (ah atS hq)) ZN.out Uc.out).mono ?_;rw [H1.out];rintro e wz ⟨rfl,nV⟩;exact ⟨rfl,aI hq nV⟩) | (refine (aex x p _ _ _ _ nm _ (aJ h (ah atS hq)) (aJ h' (ah atS hq)) ZN.out Uc.out).mono ?_;rw [H2.out];rintro e wz ⟨rfl,nV⟩;exact ⟨rfl,aI hq nV⟩) | (refine (ZJ x p _ _ _ _ nm _ (aJ h (ah atS hq)) (aJ h' (ah atS hq)) ZN.out Uc.out).mono ?_;rw [H3.out];rintro e wz ⟨rfl,nV⟩;exact ⟨rfl,aI hq nV⟩))
         | (simp only [↓IntWalk.iteOmega];exact ⟨hq,rfl⟩)
       simp only [Act.put,pz]))
   refine aN ?_
   intro wn hn
   replace hn:=hn.out
   exact Zabh
set_option maxRecDepth 100000 in
set_option maxHeartbeats 4000000 in
theorem Kq (x:aU) (p:nI) (cs ps:List Value) (F G:List Nat) (nm:ByteArray) (w:World) (h:rd w x cs F) (h':rd w p ps G) (hw:(x.wt:Int)≤1048576) (hw':(p.wt:Int)≤1048576) :
 Calls Tryz.prog 122 #[.agg cs.toArray,.string nm,.agg ps.toArray] w fun e w'=>e = .returned (.int .i64 (uH nm x p))∧Below w.heap.size w w':=by
 have ZN:=Lib.hid hw
 have Uc:=Lib.hid hw'
 clear hw hw'
 have hr:=h
 have hr':=h'
 obtain ⟨bG,bD,fQ,dn,bW,jg,hck,hF,bQ,dM,hnext,aV,aP,aW⟩:=aO hr
 obtain ⟨bY,bZ,iq,eU,eX,jV,bg,bn,dK,jU,hG,jW,dA,kQ,lg,lG,iO,bK⟩:=dL hr'
 subst hck jU
 clear hF hG hr hr'
 cases hR:zL x.weights.pack x.weights.spread x.weights.soft with
 | false =>
   have HF:=Lib.hid (show uH nm x p = 0 by unfold uH;rw [if_neg (by rw [hR];simp)])
   have HR:=Lib.hid hR
   clear hR
   go_enter Tryz.func122,Tryz.ntmps122
   go_wp2_with fail
   refine (pW _ _ _ _).mono ?_
   rw [HR.out]
   rintro e w2 ⟨rfl,hb2⟩
   exact Zaau
 | true =>
   have hmk:uH nm x p = x.weights.pack * OT nm x p+x.weights.spread * EF nm x+x.weights.soft * Rt nm x p:=by unfold uH;rw [if_pos hR]
   obtain ⟨g1,g2,g3⟩:=XO hR
   have HR:=Lib.hid hR
   clear hR
   obtain ⟨S1,hS1⟩:∃S,OT nm x p = S:=⟨_,rfl⟩
   obtain ⟨S2,hS2⟩:∃S,EF nm x = S:=⟨_,rfl⟩
   obtain ⟨S3,hS3⟩:∃S,Rt nm x p = S:=⟨_,rfl⟩
   have r1:=adO nm x p
   have r2:=ZO nm x
   have r3:=adN nm x p
   rw [hS1] at r1 hmk
   rw [hS2] at r2 hmk
   rw [hS3] at r3 hmk
   have m1:=PX g1 r1
   have m2:=PX g2 r2
   have m3:=PX g3 r3
   have e1:=vY (n:=x.weights.pack * S1) (by omega)
   have e2:=vY (n:=x.weights.spread * S2) (by omega)
   have e3:=vY (n:=x.weights.soft * S3) (by omega)
   have e4:=vY (n:=x.weights.pack * S1+x.weights.spread * S2) (by omega)
   have e5:=vY (n:=x.weights.pack * S1+x.weights.spread * S2+x.weights.soft * S3) (by omega)
   have HF:=Lib.hid hmk
   have H1:=Lib.hid hS1
   have H2:=Lib.hid hS2
   have H3:=Lib.hid hS3
   clear hmk hS1 hS2 hS3 m1 m2 m3
   go_enter Tryz.func122,Tryz.ntmps122
   go_wp2_with fail
   refine (pW _ _ _ _).mono ?_
   rw [HR.out]
   rintro e w2 ⟨rfl,hb2⟩
   obtain ⟨hc2,hf2⟩:=ay hb2
   have hz2:w.heap.size < w2.heap.size:=(sq hb2.size)
   have hy2:w.heap.size+1 < w2.heap.size:=(sq hb2.size)
   try (have hx2:w.heap.size+1+1 < w2.heap.size:=sq hb2.size)
   go_wp2_with fail
   refine aF _ (by kernel_rfl) (by kernel_rfl) (aj _) ?_
   repeat (first
    | (apply aG
       case hw=>rfl
       simp only [Act.put,pz])
    | (apply aH
       case hw=>rfl
       case h =>
        intro wq hq
        have hcq:=(aB hq).1
        have lJ:=(aB hq).2
        go_simp
        first
         | exact ⟨hq,rfl⟩
         | exact ⟨aQ hq _,rfl⟩
         | (first | (refine (Zz x p _ _ _ _ nm _ (aJ h (ah atS hq)) (aJ h' (ah atS hq)) ZN.out Uc.out).mono ?_;rw [H1.out];rintro e wz ⟨rfl,nV⟩;exact ⟨rfl,aI hq nV⟩) | (refine (aey x p _ _ _ _ nm _ (aJ h (ah atS hq)) (aJ h' (ah atS hq)) ZN.out Uc.out).mono ?_;rw [H2.out];rintro e wz ⟨rfl,nV⟩;exact ⟨rfl,aI hq nV⟩) | (refine (ZI x p _ _ _ _ nm _ (aJ h (ah atS hq)) (aJ h' (ah atS hq)) ZN.out Uc.out).mono ?_;rw [H3.out];rintro e wz ⟨rfl,nV⟩;exact ⟨rfl,aI hq nV⟩))
         | (simp only [↓IntWalk.iteOmega];exact ⟨hq,rfl⟩)
       simp only [Act.put,pz]))
   refine aN ?_
   intro wn hn
   replace hn:=hn.out
   exact Zabh
end Go.Proofs.YtogkjlcoadhpgaaGreat
namespace Go.Proofs.YtogkjlcoadhpgaaGreat
open Go.ChangeShapes Go.WideShapes Go.ChangeAt Go.RowKit
set_option linter.unusedVariables false
set_option linter.unusedSimpArgs false
def GU (x:nI):Bool:=Qs x.name&&sD x.labels&&aeH x.needs&&Ya x.tolerances&&(decide (0≤x.cpu)&&decide (0≤x.mem))&&(decide (0≤x.rank)&&decide (x.rank≤1000))
set_option maxRecDepth 100000 in
set_option maxHeartbeats 2000000 in
theorem wH (x:nI) (cs:List Value) (F:List Nat) (w:World) (h:rd w x cs F) (hw:(x.wt:Int)≤1048576) :
 Calls Tryz.prog 50 #[.agg cs.toArray] w fun e w'=>e = .returned (.bool (GU x))∧Below w.heap.size w w':=by
 have hwx:x.wt = x.name.size+kL Label.wt x.labels+kL Need.wt x.needs+kL bH.wt x.tolerances:=rfl
 obtain ⟨hll,hls⟩:=sW (xs:=x.labels) (by omega)
 obtain ⟨hnl,VU⟩:=Aa (xs:=x.needs) (by omega)
 obtain ⟨htl,hts⟩:=FQ (xs:=x.tolerances) (by omega)
 have hns:(x.name.size:Int)≤1048576:=by omega
 have Zb:=Lib.hid hls
 have HNS:=Lib.hid VU
 have Ux:=Lib.hid hts
 clear hls hts VU
 have hr:=h
 obtain ⟨gu,gy,jw,oh,nT,wG,fA,fB,jY,hck,hF,hname,dO,vg,hmem,BJ,mX,eG⟩:=dL hr
 subst hck
 clear hr hF
 go_enter Tryz.func50,Tryz.ntmps50
 go_wp2_with (first
  | (go_at_call 86;refine (Ro x.name _ hns).mono ?_;rintro e w2 ⟨rfl,hb2⟩;obtain ⟨hc2,hf2⟩:=ay hb2;have hz2:w.heap.size < w2.heap.size:=(sq hb2.size))
  | (go_at_call 87;refine (Jv x.labels _ _ _ _ _ (dO.ext atS) rfl hll Zb.out).mono ?_;rintro e w3 ⟨rfl,hb3⟩;obtain ⟨hc3,hf3⟩:=ay hb3;have hz3:w.heap.size < w3.heap.size:=(sq hb3.size))
  | (go_at_call 89;refine (WI x.needs _ _ _ _ _ (mX.ext atS) rfl hnl HNS.out).mono ?_;rintro e w4 ⟨rfl,hb4⟩;obtain ⟨hc4,hf4⟩:=ay hb4;have Wy:w.heap.size < w4.heap.size:=(sq hb4.size))
  | (go_at_call 90;refine (RH x.tolerances _ _ _ _ _ (eG.ext atS) rfl htl Ux.out).mono ?_;rintro e w5 ⟨rfl,hb5⟩;obtain ⟨hc5,hf5⟩:=ay hb5;have Es:w.heap.size < w5.heap.size:=(sq hb5.size))
  | go_in)
 all_goals first
  | (go_ret;refine ⟨?_,atS⟩;refine congrArg (fun b=>Ending.returned (Value.bool b)) ?_;show (_:Bool) = _;(try clear hc2 hf2);(try clear hc3 hf3);(try clear hc4 hf4);(try clear hc5 hf5);unfold GU;first | (simp [*];done) | (simp [*];omega) | (simp_all;done) | (simp_all;omega))
  | skip
set_option maxRecDepth 100000 in
set_option maxHeartbeats 2000000 in
theorem yT (x:nI) (cs:List Value) (F:List Nat) (w:World) (h:rd w x cs F) (hw:(x.wt:Int)≤1048576) :
 Calls Tryz.prog 37 #[.agg cs.toArray] w fun e w'=>e = .returned (.bool (GU x))∧Below w.heap.size w w':=by
 have hwx:x.wt = x.name.size+kL Label.wt x.labels+kL Need.wt x.needs+kL bH.wt x.tolerances:=rfl
 obtain ⟨hll,hls⟩:=sW (xs:=x.labels) (by omega)
 obtain ⟨hnl,VU⟩:=Aa (xs:=x.needs) (by omega)
 obtain ⟨htl,hts⟩:=FQ (xs:=x.tolerances) (by omega)
 have hns:(x.name.size:Int)≤1048576:=by omega
 have Zb:=Lib.hid hls
 have HNS:=Lib.hid VU
 have Ux:=Lib.hid hts
 clear hls hts VU
 have hr:=h
 obtain ⟨gu,gy,jw,oh,nT,wG,fA,fB,jY,hck,hF,hname,dO,vg,hmem,BJ,mX,eG⟩:=dL hr
 subst hck
 clear hr hF
 go_enter Tryz.func37,Tryz.ntmps37
 go_wp2_with (first
  | (go_at_call 75;refine (Rq x.name _ hns).mono ?_;rintro e w2 ⟨rfl,hb2⟩;obtain ⟨hc2,hf2⟩:=ay hb2;have hz2:w.heap.size < w2.heap.size:=(sq hb2.size))
  | (go_at_call 76;refine (Jw x.labels _ _ _ _ _ (dO.ext atS) rfl hll Zb.out).mono ?_;rintro e w3 ⟨rfl,hb3⟩;obtain ⟨hc3,hf3⟩:=ay hb3;have hz3:w.heap.size < w3.heap.size:=(sq hb3.size))
  | (go_at_call 77;refine (WJ x.needs _ _ _ _ _ (mX.ext atS) rfl hnl HNS.out).mono ?_;rintro e w4 ⟨rfl,hb4⟩;obtain ⟨hc4,hf4⟩:=ay hb4;have Wy:w.heap.size < w4.heap.size:=(sq hb4.size))
  | (go_at_call 78;refine (RI x.tolerances _ _ _ _ _ (eG.ext atS) rfl htl Ux.out).mono ?_;rintro e w5 ⟨rfl,hb5⟩;obtain ⟨hc5,hf5⟩:=ay hb5;have Es:w.heap.size < w5.heap.size:=(sq hb5.size))
  | go_in)
 all_goals first
  | (go_ret;refine ⟨?_,atS⟩;refine congrArg (fun b=>Ending.returned (Value.bool b)) ?_;show (_:Bool) = _;(try clear hc2 hf2);(try clear hc3 hf3);(try clear hc4 hf4);(try clear hc5 hf5);unfold GU;first | (simp [*];done) | (simp [*];omega) | (simp_all;done) | (simp_all;omega))
  | skip
end Go.Proofs.YtogkjlcoadhpgaaGreat
namespace Go.Proofs.YtogkjlcoadhpgaaGreat
open Go.ChangeShapes Go.WideShapes Go.ChangeAt Go.RowKit
set_option linter.unusedVariables false
set_option linter.unusedSimpArgs false
theorem aqB (nm:ByteArray) (xs:List Placed):(F7 nm xs).length≤xs.length:=by unfold F7;rw [List.length_map];exact List.length_filter_le _ _
theorem alL {nm:ByteArray} {xs:List Placed} {a b:Int} (h:vU (F7 nm xs) = some (a,b)):KF nm xs = .tuple #[.int .i64 a,.int .i64 b,.int .i64 (F7 nm xs).length,.bool true]:=by unfold KF;rw [h]
theorem alM {nm:ByteArray} {xs:List Placed} (h:vU (F7 nm xs) = none):KF nm xs = .tuple #[.int .i64 0,.int .i64 0,.int .i64 0,.bool false]:=by unfold KF;rw [h]
def acL (x:aU) (h:Host):Bool:=match vU (F7 h.name x.au) with
 | none=>false
 | some (a,b)=>decide (a≤h.cpu)&&(decide (b≤h.mem)&&decide (((F7 h.name x.au).length:Int)≤h.slots))
def dY (x:aU) (h:Host):Bool:=Aj h&&acL x h
def dQ (a b:Host):Bool:=Op.bytesLess a.name.toList b.name.toList
def jT (x:aU) (p:Placed):Bool:=GU p.aS&&((decide (1≤p.seq)&&decide (p.seq≤x.next - 1))&&((p.on.toList == []) || decide (0≤pK (iM p.on) x.hosts)))
def dw (a b:Placed):Bool:=Op.bytesLess a.aS.name.toList b.aS.name.toList
def seenIn (xs:List Placed) (s:Int):Bool:=xs.any fun q=>q.seq == s
def DN (xs:List Placed) (k:Nat):Bool:=match xs[k]? with | none=>false | some p=>!(seenIn (xs.take k) p.seq)
theorem sG {xs:List Placed} {k:Nat} (h:k < xs.length):DN xs k = !(seenIn (xs.take k) xs[k].seq):=by unfold DN;rw [List.getElem?_eq_getElem h]
def Em (x:aU):Bool:=decide ((x.hosts.length:Int)≤8)&&(decide ((x.au.length:Int)≤12)&&((decide (1≤x.next)&&decide (x.next≤1000000000))&&zL x.weights.pack x.weights.spread x.weights.soft))
def iI (x:aU):Bool:=Em x&&((List.range x.hosts.length).all (rowAt (dY x) dQ x.hosts)&&((List.range x.au.length).all (rowAt (jT x) dw x.au)&&(List.range x.au.length).all (DN x.au)))
theorem oU {x:aU} (h:Em x = false):iI x = false:=by unfold iI;rw [h];rfl
theorem dW {x:aU} {k:Nat} (hk:k < x.hosts.length) (h:rowAt (dY x) dQ x.hosts k = false):iI x = false:=by unfold iI;rw [YF hk h];simp
theorem jP {x:aU} {k:Nat} (hk:k < x.au.length) (h:rowAt (jT x) dw x.au k = false):iI x = false:=by unfold iI;rw [YF hk h];simp
theorem DR {x:aU} {k:Nat} (hk:k < x.au.length) (h:DN x.au k = false):iI x = false:=by unfold iI;rw [YF hk h];simp
theorem OX {x:aU} (h0:Em x = true) (h1:∀j,j < x.hosts.length→rowAt (dY x) dQ x.hosts j = true) (h2:∀j,j < x.au.length→rowAt (jT x) dw x.au j = true) (h3:∀j,j < x.au.length→DN x.au j = true):iI x = true:=by
 unfold iI;rw [h0,YG h1,YG h2,YG h3];rfl
theorem pV {α:Type} {ok:α→Bool} {less:α→α→Bool} {xs:List α} {v:Bool} (h:0 < xs.length) (e:ok xs[0] = v):rowAt ok less xs 0 = v:=by rw [rowAt_zero h,e]
theorem nM {α:Type} {ok:α→Bool} {less:α→α→Bool} {xs:List α} {j:Nat} {v u:Bool} (h:j+1 < xs.length) (e:ok xs[j+1] = v) (e2:less xs[j] xs[j+1] = u):rowAt ok less xs (j+1) = (v&&u):=by rw [yS h,e,e2]
theorem alN {x:aU} {h:Host} (e:vU (F7 h.name x.au) = none):acL x h = false:=by unfold acL;rw [e]
theorem alO {x:aU} {h:Host} {a b:Int} (e:vU (F7 h.name x.au) = some (a,b)):acL x h = (decide (a≤h.cpu)&&(decide (b≤h.mem)&&decide (((F7 h.name x.au).length:Int)≤h.slots))):=by unfold acL;rw [e]
theorem E8 (x:aU) (h:Host):∃(a b n:Int) (okv:Bool),KF h.name x.au = .tuple #[.int .i64 a,.int .i64 b,.int .i64 n,.bool okv]∧acL x h = (okv&&(decide (a≤h.cpu)&&(decide (b≤h.mem)&&decide (n≤h.slots))))∧0≤n∧n≤x.au.length:=by
 cases e:vU (F7 h.name x.au) with
 | none=>exact ⟨0,0,0,false,alM e,by rw [alN e];rfl,by omega,by omega⟩
 | some ab =>
   obtain ⟨a,b⟩:=ab
   have:=aqB h.name x.au
   exact ⟨a,b,(F7 h.name x.au).length,true,alL e,by rw [alO e];rfl,by omega,by omega⟩
theorem Sl.Ec {w:World} {xs:List Placed} {A:Option Addr} {c:Nat} {F:List Nat} (h:Sl w xs A c F):∀p∈xs,I64 p.seq:=by
 intro p hp
 obtain ⟨k,hk,rfl⟩:=List.getElem_of_mem hp
 obtain ⟨b,o,ck,Fk,_,_,_,hr,_⟩:=h.get hk
 obtain ⟨gV,gW,lF,iR,iT,mV,dD,dF,iH,hck,hF,nY,iE,rF,rG,oZ,je,dN,hon,hseq⟩:=kE hr
 exact hseq
end Go.Proofs.YtogkjlcoadhpgaaGreat
namespace Go.Proofs.YtogkjlcoadhpgaaGreat
open Go.ChangeShapes Go.WideShapes Go.ChangeAt Go.RowKit
set_option linter.unusedVariables false
set_option linter.unusedSimpArgs false
open Go.Maps (Keyed)
theorem NY {H:Type} {P:Program} {w:World} {t k e:TypeId} {b n:Nat} {D:DataW H} (h:w.ownsMap P k (plainElem P e) b n D) (K:Keyed P k) (ht:P.underlying t = some (.map k e)) (he:P.underlying e = some .bool) (hz:(zeroValue e).run P w = .ok (.bool false) w)
 {key:Value} {kl:Lit} (hkey:keyOf P k key = some kl) {c:Bool} (hat:D.atKey kl (.lit (.bool false)) = .lit (.bool c)):(Instr.lookup t (.map (some b)) key false).run P w = .ok (.bool c) w:=by
 obtain ⟨v,ps,hrun,hv⟩:=h.lookup K ht hz (plainElem_bool he false) hkey
 rw [hat] at hv
 unfold plainElem at hv
 rw [he] at hv
 cases v <;> simp at hv
 obtain ⟨rfl,_⟩:=hv
 exact hrun
def anK (xs:List Placed):DataW Unit:=xs.foldl (fun D p=>D.put (.int .i64 p.seq) (.lit (.bool true))) (.map [])
theorem J3 (xs:List Placed) (p:Placed):anK (xs++[p]) = (anK xs).put (.int .i64 p.seq) (.lit (.bool true)):=by unfold anK;rw [List.foldl_append];rfl
theorem aqk (s:Int) (hs:I64 s):WideAt.IsKeyLit (.int .i64 s):=by
 simp [WideAt.IsKeyLit]
theorem adr (s:Int) (hs:I64 s):∀(xs:List Placed) (D:DataW Unit) (c:Bool),Maps.IsMap D→D.atKey (.int .i64 s) (.lit (.bool false)) = .lit (.bool c) →
 (xs.foldl (fun D p=>D.put (.int .i64 p.seq) (.lit (.bool true))) D).atKey (.int .i64 s) (.lit (.bool false)) = .lit (.bool (c || seenIn xs s))
 | [],D,c,_,h=>by simpa [seenIn] using h
 | p :: xs,D,c,hD,h=>by
   rw [List.foldl_cons]
   by_cases e:p.seq = s
   ·rw [adr s hs xs _ true (hD.put _ _) (by rw [e];exact Maps.atKey_put_same hD (aqk s hs) _ _)]
    simp [seenIn,e]
   ·rw [adr s hs xs _ c (hD.put _ _) (by rw [Maps.atKey_put_other (by intro h2;apply e;injection h2 with _ h3;exact h3.symm)];exact h)]
    have e2:(p.seq == s) = false:=by simpa using e
    simp [seenIn,e2]
theorem aeY (xs:List Placed) (s:Int) (hs:I64 s):(anK xs).atKey (.int .i64 s) (.lit (.bool false)) = .lit (.bool (seenIn xs s)):=by
 have h:=adr s hs xs (.map []) false Maps.isMap_empty rfl
 simpa [anK] using h
theorem Oy:Keyed Tryz.prog 3:=Maps.int_keyed Tryz.underlying3
theorem abl (w:World):(zeroValue 4).run Tryz.prog w = .ok (.bool false) w:=by kernel_rfl
theorem grown_of {w w':World} (hb:Below w.heap.size w w'):w.grownBy w' none:=⟨hb.os,hb.tape,hb.output,hb.size,fun k hk _=>hb.block k hk⟩
end Go.Proofs.YtogkjlcoadhpgaaGreat
