/- MarkOn, of the program and of the reference. No condition. -/
import Derived.Test.YtnjibbpcafgglaaGreatPack0
import Derived.Test.YtnjibbpcafgglaaGreatSoft0
import Derived.Test.YtnjibbpcafgglaaGreatWeights
namespace Go.Proofs.YtnjibbpcafgglaaGreat
open Go.ChangeShapes Go.WideShapes Go.ChangeAt Go.RowKit
set_option linter.unusedVariables false
set_option linter.unusedSimpArgs false
def uH (nm:ByteArray) (x:aU) (p:nI):Int :=
 if zL x.weights.pack x.weights.spread x.weights.soft = true then x.weights.pack * OT nm x p+x.weights.spread * EF nm x+x.weights.soft * Rt nm x p else 0
theorem adN (nm:ByteArray) (x:aU) (p:nI):0≤Rt nm x p∧Rt nm x p≤100:=by
 unfold Rt
 split
 ·omega
 ·split <;> omega
theorem PX {a b:Int} (ha:0≤a∧a≤10) (hb:0≤b∧b≤100):0≤a * b∧a * b≤1000:=by
 refine ⟨Int.mul_nonneg ha.1 hb.1,?_⟩
 have h1:a * b≤10 * b:=Int.mul_le_mul_of_nonneg_right ha.2 hb.1
 omega
theorem XO {p s f:Int} (h:zL p s f = true):(0≤p∧p≤10)∧(0≤s∧s≤10)∧(0≤f∧f≤10):=by
 unfold zL at h
 simp only [Bool.and_eq_true,decide_eq_true_eq] at h
 omega
theorem vY {n:Int} (h:0≤n∧n≤3000):Value.int .i64 (IntKind.i64.wrap n) = Value.int .i64 n:=by
 have e:IntKind.i64.wrap n = n:=by rw [IntKind.wrap_i64];omega
 rw [e]
set_option maxRecDepth 100000 in
set_option maxHeartbeats 4000000 in
theorem XL (x:aU) (p:nI) (cs ps:List Value) (F G:List Nat) (nm:ByteArray) (w:World) (h:rd w x cs F) (h':rd w p ps G) (hw:(x.wt:Int)≤1048576) (hw':(p.wt:Int)≤1048576) :
 Calls Tryz.prog 106 #[.agg cs.toArray,.string nm,.agg ps.toArray] w fun e w'=>e = .returned (.int .i64 (uH nm x p))∧Below w.heap.size w w':=by
 have ZN:=Lib.hid hw
 have Uc:=Lib.hid hw'
 clear hw hw'
 have hr:=h
 have hr':=h'
 obtain ⟨bG,bD,fQ,dn,bW,jg,hck,hF,bQ,dM,hnext,aV,aP,aW⟩:=aO hr
 obtain ⟨bY,bZ,iq,eU,eX,jV,bg,bn,dK,jU,hG,jW,dA,kQ,lg,lG,iO,bK⟩:=dL hr'
 subst hck jU
 clear hF hG hr hr'
 cases hR:zL x.weights.pack x.weights.spread x.weights.soft with
 | false =>
   have HF:=Lib.hid (show uH nm x p = 0 by unfold uH;rw [if_neg (by rw [hR];simp)])
   have HR:=Lib.hid hR
   clear hR
   go_enter Tryz.func106,Tryz.ntmps106
   go_wp2_with fail
   refine (pU _ _ _ _).mono ?_
   rw [HR.out]
   rintro e w2 ⟨rfl,hb2⟩
   go_wp2
   go_ret
   exact ⟨by rw [HF.out];rfl,atS⟩
 | true =>
   have hmk:uH nm x p = x.weights.pack * OT nm x p+x.weights.spread * EF nm x+x.weights.soft * Rt nm x p:=by unfold uH;rw [if_pos hR]
   obtain ⟨g1,g2,g3⟩:=XO hR
   have HR:=Lib.hid hR
   clear hR
   obtain ⟨S1,hS1⟩:∃S,OT nm x p = S:=⟨_,rfl⟩
   obtain ⟨S2,hS2⟩:∃S,EF nm x = S:=⟨_,rfl⟩
   obtain ⟨S3,hS3⟩:∃S,Rt nm x p = S:=⟨_,rfl⟩
   have r1:=adO nm x p
   have r2:=ZO nm x
   have r3:=adN nm x p
   rw [hS1] at r1 hmk
   rw [hS2] at r2 hmk
   rw [hS3] at r3 hmk
   have m1:=PX g1 r1
   have m2:=PX g2 r2
   have m3:=PX g3 r3
   have e1:=vY (n:=x.weights.pack * S1) (by omega)
   have e2:=vY (n:=x.weights.spread * S2) (by omega)
   have e3:=vY (n:=x.weights.soft * S3) (by omega)
   have e4:=vY (n:=x.weights.pack * S1+x.weights.spread * S2) (by omega)
   have e5:=vY (n:=x.weights.pack * S1+x.weights.spread * S2+x.weights.soft * S3) (by omega)
   have HF:=Lib.hid hmk
   have H1:=Lib.hid hS1
   have H2:=Lib.hid hS2
   have H3:=Lib.hid hS3
   clear hmk hS1 hS2 hS3 m1 m2 m3
   go_enter Tryz.func106,Tryz.ntmps106
   go_wp2_with fail
   refine (pU _ _ _ _).mono ?_
   rw [HR.out]
   rintro e w2 ⟨rfl,hb2⟩
   obtain ⟨hc2,hf2⟩:=ay hb2
   have hz2:w.heap.size < w2.heap.size:=(sq hb2.size)
   have hy2:w.heap.size+1 < w2.heap.size:=(sq hb2.size)
   try (have hx2:w.heap.size+1+1 < w2.heap.size:=sq hb2.size)
   go_wp2_with fail
   refine aF _ (by kernel_rfl) (by kernel_rfl) (aj _) ?_
   repeat (first
    | (apply aG
       case hw=>rfl
       simp only [Act.put,pz])
    | (apply aH
       case hw=>rfl
       case h =>
        intro wq hq
        have hcq:=(aB hq).1
        have lJ:=(aB hq).2
        go_simp
        first
         | exact ⟨hq,rfl⟩
         | exact ⟨aQ hq _,rfl⟩
         | (first | (refine (ZA x p _ _ _ _ nm _ (aJ h (ah atS hq)) (aJ h' (ah atS hq)) ZN.out Uc.out).mono ?_;rw [H1.out];rintro e wz ⟨rfl,nV⟩;exact ⟨rfl,aI hq nV⟩) | (refine (aex x p _ _ _ _ nm _ (aJ h (ah atS hq)) (aJ h' (ah atS hq)) ZN.out Uc.out).mono ?_;rw [H2.out];rintro e wz ⟨rfl,nV⟩;exact ⟨rfl,aI hq nV⟩) | (refine (ZJ x p _ _ _ _ nm _ (aJ h (ah atS hq)) (aJ h' (ah atS hq)) ZN.out Uc.out).mono ?_;rw [H3.out];rintro e wz ⟨rfl,nV⟩;exact ⟨rfl,aI hq nV⟩))
         | (simp only [↓IntWalk.iteOmega];exact ⟨hq,rfl⟩)
       simp only [Act.put,pz]))
   refine aN ?_
   intro wn hn
   replace hn:=hn.out
   go_wp2
   go_ret
   exact ⟨by rw [HF.out];first | rfl | simp,atS⟩
set_option maxRecDepth 100000 in
set_option maxHeartbeats 4000000 in
theorem Kq (x:aU) (p:nI) (cs ps:List Value) (F G:List Nat) (nm:ByteArray) (w:World) (h:rd w x cs F) (h':rd w p ps G) (hw:(x.wt:Int)≤1048576) (hw':(p.wt:Int)≤1048576) :
 Calls Tryz.prog 87 #[.agg cs.toArray,.string nm,.agg ps.toArray] w fun e w'=>e = .returned (.int .i64 (uH nm x p))∧Below w.heap.size w w':=by
 have ZN:=Lib.hid hw
 have Uc:=Lib.hid hw'
 clear hw hw'
 have hr:=h
 have hr':=h'
 obtain ⟨bG,bD,fQ,dn,bW,jg,hck,hF,bQ,dM,hnext,aV,aP,aW⟩:=aO hr
 obtain ⟨bY,bZ,iq,eU,eX,jV,bg,bn,dK,jU,hG,jW,dA,kQ,lg,lG,iO,bK⟩:=dL hr'
 subst hck jU
 clear hF hG hr hr'
 cases hR:zL x.weights.pack x.weights.spread x.weights.soft with
 | false =>
   have HF:=Lib.hid (show uH nm x p = 0 by unfold uH;rw [if_neg (by rw [hR];simp)])
   have HR:=Lib.hid hR
   clear hR
   go_enter Tryz.func87,Tryz.ntmps87
   go_wp2_with fail
   refine (pW _ _ _ _).mono ?_
   rw [HR.out]
   rintro e w2 ⟨rfl,hb2⟩
   go_wp2
   go_ret
   exact ⟨by rw [HF.out];rfl,atS⟩
 | true =>
   have hmk:uH nm x p = x.weights.pack * OT nm x p+x.weights.spread * EF nm x+x.weights.soft * Rt nm x p:=by unfold uH;rw [if_pos hR]
   obtain ⟨g1,g2,g3⟩:=XO hR
   have HR:=Lib.hid hR
   clear hR
   obtain ⟨S1,hS1⟩:∃S,OT nm x p = S:=⟨_,rfl⟩
   obtain ⟨S2,hS2⟩:∃S,EF nm x = S:=⟨_,rfl⟩
   obtain ⟨S3,hS3⟩:∃S,Rt nm x p = S:=⟨_,rfl⟩
   have r1:=adO nm x p
   have r2:=ZO nm x
   have r3:=adN nm x p
   rw [hS1] at r1 hmk
   rw [hS2] at r2 hmk
   rw [hS3] at r3 hmk
   have m1:=PX g1 r1
   have m2:=PX g2 r2
   have m3:=PX g3 r3
   have e1:=vY (n:=x.weights.pack * S1) (by omega)
   have e2:=vY (n:=x.weights.spread * S2) (by omega)
   have e3:=vY (n:=x.weights.soft * S3) (by omega)
   have e4:=vY (n:=x.weights.pack * S1+x.weights.spread * S2) (by omega)
   have e5:=vY (n:=x.weights.pack * S1+x.weights.spread * S2+x.weights.soft * S3) (by omega)
   have HF:=Lib.hid hmk
   have H1:=Lib.hid hS1
   have H2:=Lib.hid hS2
   have H3:=Lib.hid hS3
   clear hmk hS1 hS2 hS3 m1 m2 m3
   go_enter Tryz.func87,Tryz.ntmps87
   go_wp2_with fail
   refine (pW _ _ _ _).mono ?_
   rw [HR.out]
   rintro e w2 ⟨rfl,hb2⟩
   obtain ⟨hc2,hf2⟩:=ay hb2
   have hz2:w.heap.size < w2.heap.size:=(sq hb2.size)
   have hy2:w.heap.size+1 < w2.heap.size:=(sq hb2.size)
   try (have hx2:w.heap.size+1+1 < w2.heap.size:=sq hb2.size)
   go_wp2_with fail
   refine aF _ (by kernel_rfl) (by kernel_rfl) (aj _) ?_
   repeat (first
    | (apply aG
       case hw=>rfl
       simp only [Act.put,pz])
    | (apply aH
       case hw=>rfl
       case h =>
        intro wq hq
        have hcq:=(aB hq).1
        have lJ:=(aB hq).2
        go_simp
        first
         | exact ⟨hq,rfl⟩
         | exact ⟨aQ hq _,rfl⟩
         | (first | (refine (Zz x p _ _ _ _ nm _ (aJ h (ah atS hq)) (aJ h' (ah atS hq)) ZN.out Uc.out).mono ?_;rw [H1.out];rintro e wz ⟨rfl,nV⟩;exact ⟨rfl,aI hq nV⟩) | (refine (aey x p _ _ _ _ nm _ (aJ h (ah atS hq)) (aJ h' (ah atS hq)) ZN.out Uc.out).mono ?_;rw [H2.out];rintro e wz ⟨rfl,nV⟩;exact ⟨rfl,aI hq nV⟩) | (refine (ZI x p _ _ _ _ nm _ (aJ h (ah atS hq)) (aJ h' (ah atS hq)) ZN.out Uc.out).mono ?_;rw [H3.out];rintro e wz ⟨rfl,nV⟩;exact ⟨rfl,aI hq nV⟩))
         | (simp only [↓IntWalk.iteOmega];exact ⟨hq,rfl⟩)
       simp only [Act.put,pz]))
   refine aN ?_
   intro wn hn
   replace hn:=hn.out
   go_wp2
   go_ret
   exact ⟨by rw [HF.out];first | rfl | simp,atS⟩
end Go.Proofs.YtnjibbpcafgglaaGreat
