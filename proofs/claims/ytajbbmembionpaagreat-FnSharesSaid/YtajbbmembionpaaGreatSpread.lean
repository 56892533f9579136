/- SpreadMark, of the program and of the reference. No condition. -/
import Derived.Test.YtajbbmembionpaaGreatMarksP
namespace Go.Proofs.YtajbbmembionpaaGreat
open Go.ChangeShapes Go.WideShapes Go.ChangeAt Go.RowKit
set_option linter.unusedVariables false
set_option linter.unusedSimpArgs false
set_option maxHeartbeats 4000000
set_option maxRecDepth 100000
theorem Sy (x:aU) (p:nI) (cs ps:List Value) (F G:List Nat) (nm:ByteArray) (w:World) (h:rd w x cs F) (h':rd w p ps G) (hw:(x.wt:Int)≤1048576) (fN:(p.wt:Int)≤1048576) :
 Calls Tryz.prog 25 #[.agg cs.toArray,.string nm,.agg ps.toArray] w fun e w'=>e = .returned (.int .i64 (EF nm x))∧Below w.heap.size w w':=by
 have im:x.wt = kL ba.wt x.aa+kL ag.wt x.V:=rfl;have cA:(x.aa.length:Int)≤1048576:=by have:=gJ ba.wt x.aa;omega
 have vk:(x.V.length:Int)≤1048576:=by have:=gJ ag.wt x.V;omega
 have hr:=h;have d':=h';obtain ⟨bG,bD,fQ,dn,bW,jg,aE,hF,bQ,dM,hnext,aV,aP,aW⟩:=aO hr;obtain ⟨bY,bZ,iq,eU,eX,jV,bg,bn,dK,jU,hG,jW,dA,kQ,lg,lG,iO,bK⟩:=dL d';subst aE jU;clear hF hG hr d';rcases yg (iM nm) x.aa with hi | ⟨k,hk,hi⟩
 ·have HF:=I (Sq  hi);have HI:=I hi;clear hi;cases hs:vU (F7 nm x.V) with
  | none =>have HU:=I (AV hs);exact x8
  | some ab =>obtain ⟨a,b⟩:=ab;have HU:=I (AX hs);exact x8
 ·cases hs:vU (F7 nm x.V) with
  | none =>have HF:=I (Ss  hs);have HI:=I hi;clear hi;have HU:=I (AV hs);exact x8
  | some ab =>
    obtain ⟨a,b⟩:=ab;have cY:=St  hk hi hs;obtain ⟨ha,X⟩:=UD (A:=dn) (c:=bW) dM hs;have HI:=I hi;clear hi;have HU:=I (AX hs);clear hs;have hL:=NK nm x.V;generalize (F7 nm x.V).length = L at cY HU hL;have AZ:(L:Int)≤1048576:=J;clear hL;obtain ⟨bh,o,ck,Fk,rfl,o9,hbs,hr,bB,hc⟩:=Sl.get (α:=ba) (A:=bG) (c:=bD) bQ hk;obtain ⟨jM,jO,sN,jE,jF,sO,aE,su,zM,qY,Gt,Gw,xg,qA⟩:=iy hr;subst aE;obtain ⟨q0,q1,q2,q3,q4,q5⟩:=oW 6 hc;clear hc;obtain ⟨S1,gb⟩:∃S,CQ (L:Int) x.aa[k].av = S:=⟨_,rfl⟩;have cW:=zJ (L:Int) x.aa[k].av;rw [gb] at cY cW;have HF:=I cY;have Ac:=I gb;clear cY gb;have Z9:br (L:Int):=(by unfold br;omega);have lb:IntKind.i64.wrap (100 - S1) = 100 - S1:=(by rw [IntKind.wrap_i64];omega);go_enter Tryz.func25,Tryz.ntmps25;go_wp2_with fail
    refine (gK x _ _ nm _ (aJ h bJ) cA).mono ?_;rw [HI.out];rintro e w2 ⟨rfl,ar⟩;obtain ⟨cq,cL⟩:=ay ar;have cw:w.heap.size < w2.heap.size:=(sq ar.size);have ke:w.heap.size+1 < w2.heap.size:=(sq ar.size);have eM:Below w.heap.size w w2:=bJ;go_wp2_with fail
    refine (iQ x _ _ nm _ (aJ h bJ) vk).mono ?_;rw [HU.out];rintro e w3 ⟨rfl,bb⟩;obtain ⟨dm,hf3⟩:=ay bb;have cU:w.heap.size < w3.heap.size:=(sq bb.size);have ui:w.heap.size+1 < w3.heap.size:=(sq bb.size);have dX:Below w.heap.size w w3:=ah eM bb;replace q0:=r' dX q0 hbs;replace q1:=r' dX q1 hbs;replace q2:=r' dX q2 hbs;replace q3:=r' dX q3 hbs;replace q4:=r' dX q4 hbs;replace q5:=r' dX q5 hbs;have jd:bh < w3.heap.size:=(by have:=dX.size;omega);go_wp2_with fail
    refine (VD _ _ _ sf sf).mono ?_;exact DT
theorem Z' (x:aU) (p:nI) (cs ps:List Value) (F G:List Nat) (nm:ByteArray) (w:World) (h:rd w x cs F) (h':rd w p ps G) (hw:(x.wt:Int)≤1048576) (fN:(p.wt:Int)≤1048576) :
 Calls Tryz.prog 101 #[.agg cs.toArray,.string nm,.agg ps.toArray] w fun e w'=>e = .returned (.int .i64 (EF nm x))∧Below w.heap.size w w':=by
 have im:x.wt = kL ba.wt x.aa+kL ag.wt x.V:=rfl;have cA:(x.aa.length:Int)≤1048576:=by have:=gJ ba.wt x.aa;omega
 have vk:(x.V.length:Int)≤1048576:=by have:=gJ ag.wt x.V;omega
 have hr:=h;have d':=h';obtain ⟨bG,bD,fQ,dn,bW,jg,aE,hF,bQ,dM,hnext,aV,aP,aW⟩:=aO hr;obtain ⟨bY,bZ,iq,eU,eX,jV,bg,bn,dK,jU,hG,jW,dA,kQ,lg,lG,iO,bK⟩:=dL d';subst aE jU;clear hF hG hr d';rcases yg (iM nm) x.aa with hi | ⟨k,hk,hi⟩
 ·have HF:=I (Sq  hi);have HI:=I hi;clear hi;cases hs:vU (F7 nm x.V) with
  | none =>have HU:=I (AV hs);exact x5
  | some ab =>obtain ⟨a,b⟩:=ab;have HU:=I (AX hs);exact x5
 ·cases hs:vU (F7 nm x.V) with
  | none =>have HF:=I (Ss  hs);have HI:=I hi;clear hi;have HU:=I (AV hs);exact x5
  | some ab =>
    obtain ⟨a,b⟩:=ab;have cY:=St  hk hi hs;obtain ⟨ha,X⟩:=UD (A:=dn) (c:=bW) dM hs;have HI:=I hi;clear hi;have HU:=I (AX hs);clear hs;have hL:=NK nm x.V;generalize (F7 nm x.V).length = L at cY HU hL;have AZ:(L:Int)≤1048576:=J;clear hL;obtain ⟨bh,o,ck,Fk,rfl,o9,hbs,hr,bB,hc⟩:=Sl.get (α:=ba) (A:=bG) (c:=bD) bQ hk;obtain ⟨jM,jO,sN,jE,jF,sO,aE,su,zM,qY,Gt,Gw,xg,qA⟩:=iy hr;subst aE;obtain ⟨q0,q1,q2,q3,q4,q5⟩:=oW 6 hc;clear hc;obtain ⟨S1,gb⟩:∃S,CQ (L:Int) x.aa[k].av = S:=⟨_,rfl⟩;have cW:=zJ (L:Int) x.aa[k].av;rw [gb] at cY cW;have HF:=I cY;have Ac:=I gb;clear cY gb;have Z9:br (L:Int):=(by unfold br;omega);have lb:IntKind.i64.wrap (100 - S1) = 100 - S1:=(by rw [IntKind.wrap_i64];omega);go_enter Tryz.func101,Tryz.ntmps101;go_wp2_with fail
    refine (gQ x _ _ nm _ (aJ h bJ) cA).mono ?_;rw [HI.out];rintro e w2 ⟨rfl,ar⟩;obtain ⟨cq,cL⟩:=ay ar;have cw:w.heap.size < w2.heap.size:=(sq ar.size);have ke:w.heap.size+1 < w2.heap.size:=(sq ar.size);have eM:Below w.heap.size w w2:=bJ;go_wp2_with fail
    refine (jm x _ _ nm _ (aJ h bJ) vk).mono ?_;rw [HU.out];rintro e w3 ⟨rfl,bb⟩;obtain ⟨dm,hf3⟩:=ay bb;have cU:w.heap.size < w3.heap.size:=(sq bb.size);have ui:w.heap.size+1 < w3.heap.size:=(sq bb.size);have dX:Below w.heap.size w w3:=ah eM bb;replace q0:=r' dX q0 hbs;replace q1:=r' dX q1 hbs;replace q2:=r' dX q2 hbs;replace q3:=r' dX q3 hbs;replace q4:=r' dX q4 hbs;replace q5:=r' dX q5 hbs;have jd:bh < w3.heap.size:=(by have:=dX.size;omega);go_wp2_with fail
    refine (IB _ _ _ sf sf).mono ?_;exact DT
theorem Z8 (a b:Int) (w:World) (ha:br a) (X:br b):Calls Tryz.prog 57 #[.int .i64 a,.int .i64 b] w fun e w'=>e = .returned (.int .i64 (qG a b))∧Below w.heap.size w w':=by
 cases h:GX a b with
 | none =>have HF:=I (show qG a b = 9223372036854775807 by unfold qG;rw [h];rfl);exact Eu
 | some s =>have HF:=I (show qG a b = s by unfold qG;rw [h];rfl);exact Eu
theorem ZA (x:aU) (p:nI) (cs ps:List Value) (F G:List Nat) (nm:ByteArray) (w:World) (h:rd w x cs F) (h':rd w p ps G) (hw:(x.wt:Int)≤1048576) (fN:(p.wt:Int)≤1048576) :
 Calls Tryz.prog 24 #[.agg cs.toArray,.string nm,.agg ps.toArray] w fun e w'=>e = .returned (.int .i64 (OT nm x p))∧Below w.heap.size w w':=by
 have im:x.wt = kL ba.wt x.aa+kL ag.wt x.V:=rfl;have cA:(x.aa.length:Int)≤1048576:=by have:=gJ ba.wt x.aa;omega
 have vk:(x.V.length:Int)≤1048576:=by have:=gJ ag.wt x.V;omega
 have hr:=h;have d':=h';obtain ⟨bG,bD,fQ,dn,bW,jg,aE,hF,bQ,dM,hnext,aV,aP,aW⟩:=aO hr;obtain ⟨bY,bZ,iq,eU,eX,jV,bg,bn,dK,jU,hG,jW,dA,kQ,lg,lG,iO,bK⟩:=dL d';subst aE jU;clear hF hG hr d';rcases yg (iM nm) x.aa with hi | ⟨k,hk,hi⟩
 ·have HF:=I (Sm (p:=p) hi);have HI:=I hi;clear hi;cases hs:vU (F7 nm x.V) with
  | none =>have HU:=I (AV hs);exact x7
  | some ab =>obtain ⟨a,b⟩:=ab;have HU:=I (AX hs);exact x7
 ·cases hs:vU (F7 nm x.V) with
  | none =>have HF:=I (Sn (p:=p) hs);have HI:=I hi;clear hi;have HU:=I (AV hs);exact x7
  | some ab =>
    obtain ⟨a,b⟩:=ab;have cY:=Sp (p:=p) hk hi hs;obtain ⟨ha,X⟩:=UD (A:=dn) (c:=bW) dM hs;have HI:=I hi;clear hi;have HU:=I (AX hs);clear hs;have hL:=NK nm x.V;generalize (F7 nm x.V).length = L at cY HU hL;have AZ:(L:Int)≤1048576:=J;clear hL;obtain ⟨bh,o,ck,Fk,rfl,o9,hbs,hr,bB,hc⟩:=Sl.get (α:=ba) (A:=bG) (c:=bD) bQ hk;obtain ⟨jM,jO,sN,jE,jF,sO,aE,su,zM,qY,Gt,Gw,xg,qA⟩:=iy hr;subst aE;obtain ⟨q0,q1,q2,q3,q4,q5⟩:=oW 6 hc;clear hc;obtain ⟨S1,gb⟩:∃S,CQ (qG a p.az) x.aa[k].az = S:=⟨_,rfl⟩;obtain ⟨S2,iY⟩:∃S,CQ (qG b p.mem) x.aa[k].mem = S:=⟨_,rfl⟩;have cW:=zJ (qG a p.az) x.aa[k].az;have gx:=zJ (qG b p.mem) x.aa[k].mem;have lI:=Ru ha kQ;have lz:=Ru X lg;rw [gb,iY] at cY;rw [gb] at cW;rw [iY] at gx;have HF:=I cY;clear cY;have lb:IntKind.i64.wrap (S1+S2) = S1+S2:=(by rw [IntKind.wrap_i64];omega);have uk:=I (show IntKind.i64.wrap ((S1+S2).tdiv 2) = (S1+S2) / 2 by rw [Int.tdiv_eq_ediv_of_nonneg J,IntKind.wrap_i64];omega);have Ac:=I gb;have vN:=I iY;clear gb iY;go_enter Tryz.func24,Tryz.ntmps24;go_wp2_with fail
    refine (gK x _ _ nm _ (aJ h bJ) cA).mono ?_;rw [HI.out];rintro e w2 ⟨rfl,ar⟩;obtain ⟨cq,cL⟩:=ay ar;have cw:w.heap.size < w2.heap.size:=(sq ar.size);have ke:w.heap.size+1 < w2.heap.size:=(sq ar.size);have eM:Below w.heap.size w w2:=bJ;go_wp2_with fail
    refine (iQ x _ _ nm _ (aJ h bJ) vk).mono ?_;rw [HU.out];rintro e w3 ⟨rfl,bb⟩;obtain ⟨dm,hf3⟩:=ay bb;have cU:w.heap.size < w3.heap.size:=(sq bb.size);have ui:w.heap.size+1 < w3.heap.size:=(sq bb.size);have dX:Below w.heap.size w w3:=ah eM bb;replace q0:=r' dX q0 hbs;replace q1:=r' dX q1 hbs;replace q2:=r' dX q2 hbs;replace q3:=r' dX q3 hbs;replace q4:=r' dX q4 hbs;replace q5:=r' dX q5 hbs;have jd:bh < w3.heap.size:=(by have:=dX.size;omega);go_wp2_with fail
    refine aF w3 U' U' (aj _) ?_
    repeat (first
     | (apply aG
        case hw=>rfl
        simp only [Act.put,pz])
     | (apply aH
        case hw=>rfl
        case h =>
         intro wq hq;have ee:=(aB hq).1;have lJ:=(aB hq).2;go_simp
         first
          | exact ⟨hq,rfl⟩
          | exact ⟨aQ hq _,rfl⟩
          | (first | (refine (Z8 _ _ _ sf sf).mono ?_;rintro e wz ⟨rfl,nV⟩;exact ⟨rfl,aI hq nV⟩) | (refine (VD _ _ _ sf sf).mono ?_;(first | rw [Ac.out] | rw [vN.out]);rintro e wz ⟨rfl,nV⟩;exact ⟨rfl,aI hq nV⟩))
          | (simp only [↓IntWalk.iteOmega];exact ⟨hq,rfl⟩)
        simp only [Act.put,pz]))
    refine aN ?_;intro wn Z;replace Z:=Z.out;go_wp2;go_ret
    exact ⟨by rw [HF.out];first | rfl | (simp;exact uk.out),ah dX Z⟩
theorem Zz (x:aU) (p:nI) (cs ps:List Value) (F G:List Nat) (nm:ByteArray) (w:World) (h:rd w x cs F) (h':rd w p ps G) (hw:(x.wt:Int)≤1048576) (fN:(p.wt:Int)≤1048576) :
 Calls Tryz.prog 100 #[.agg cs.toArray,.string nm,.agg ps.toArray] w fun e w'=>e = .returned (.int .i64 (OT nm x p))∧Below w.heap.size w w':=by
 have im:x.wt = kL ba.wt x.aa+kL ag.wt x.V:=rfl;have cA:(x.aa.length:Int)≤1048576:=by have:=gJ ba.wt x.aa;omega
 have vk:(x.V.length:Int)≤1048576:=by have:=gJ ag.wt x.V;omega
 have hr:=h;have d':=h';obtain ⟨bG,bD,fQ,dn,bW,jg,aE,hF,bQ,dM,hnext,aV,aP,aW⟩:=aO hr;obtain ⟨bY,bZ,iq,eU,eX,jV,bg,bn,dK,jU,hG,jW,dA,kQ,lg,lG,iO,bK⟩:=dL d';subst aE jU;clear hF hG hr d';rcases yg (iM nm) x.aa with hi | ⟨k,hk,hi⟩
 ·have HF:=I (Sm (p:=p) hi);have HI:=I hi;clear hi;cases hs:vU (F7 nm x.V) with
  | none =>have HU:=I (AV hs);exact x4
  | some ab =>obtain ⟨a,b⟩:=ab;have HU:=I (AX hs);exact x4
 ·cases hs:vU (F7 nm x.V) with
  | none =>have HF:=I (Sn (p:=p) hs);have HI:=I hi;clear hi;have HU:=I (AV hs);exact x4
  | some ab =>
    obtain ⟨a,b⟩:=ab;have cY:=Sp (p:=p) hk hi hs;obtain ⟨ha,X⟩:=UD (A:=dn) (c:=bW) dM hs;have HI:=I hi;clear hi;have HU:=I (AX hs);clear hs;have hL:=NK nm x.V;generalize (F7 nm x.V).length = L at cY HU hL;have AZ:(L:Int)≤1048576:=J;clear hL;obtain ⟨bh,o,ck,Fk,rfl,o9,hbs,hr,bB,hc⟩:=Sl.get (α:=ba) (A:=bG) (c:=bD) bQ hk;obtain ⟨jM,jO,sN,jE,jF,sO,aE,su,zM,qY,Gt,Gw,xg,qA⟩:=iy hr;subst aE;obtain ⟨q0,q1,q2,q3,q4,q5⟩:=oW 6 hc;clear hc;obtain ⟨S1,gb⟩:∃S,CQ (qG a p.az) x.aa[k].az = S:=⟨_,rfl⟩;obtain ⟨S2,iY⟩:∃S,CQ (qG b p.mem) x.aa[k].mem = S:=⟨_,rfl⟩;have cW:=zJ (qG a p.az) x.aa[k].az;have gx:=zJ (qG b p.mem) x.aa[k].mem;have lI:=Ru ha kQ;have lz:=Ru X lg;rw [gb,iY] at cY;rw [gb] at cW;rw [iY] at gx;have HF:=I cY;clear cY;have lb:IntKind.i64.wrap (S1+S2) = S1+S2:=(by rw [IntKind.wrap_i64];omega);have uk:=I (show IntKind.i64.wrap ((S1+S2).tdiv 2) = (S1+S2) / 2 by rw [Int.tdiv_eq_ediv_of_nonneg J,IntKind.wrap_i64];omega);cases he1:GX a p.az with
    | none =>rw [show qG a p.az = 9223372036854775807 by unfold qG;rw [he1];rfl] at gb lI;exact En
    | some s1 =>rw [show qG a p.az = s1 by unfold qG;rw [he1];rfl] at gb lI;exact En
def uH (nm:ByteArray) (x:aU) (p:nI):Int :=
 if zL x.weights.pack x.weights.af x.weights.an = true then x.weights.pack * OT nm x p+x.weights.af * EF nm x+x.weights.an * Rt nm x p else 0
theorem Ny (nm:ByteArray) (x:aU) (p:nI):0≤Rt nm x p∧Rt nm x p≤100:=by
 unfold Rt;split
 ·omega
 ·split <;> omega
theorem PX {a b:Int} (ha:0≤a∧a≤10) (X:0≤b∧b≤100):0≤a * b∧a * b≤1000:=by
 refine ⟨Int.mul_nonneg ha.1 X.1,?_⟩;have h1:a * b≤10 * b:=Int.mul_le_mul_of_nonneg_right ha.2 X.1;omega
theorem XO {p s f:Int} (h:zL p s f = true):(0≤p∧p≤10)∧(0≤s∧s≤10)∧(0≤f∧f≤10):=by
 unfold zL at h;exact tp
theorem vY {n:Int} (h:0≤n∧n≤3000):Value.int .i64 (IntKind.i64.wrap n) = Value.int .i64 n:=by
 have e:IntKind.i64.wrap n = n:=by rw [IntKind.wrap_i64];omega
 rw [e]
theorem XL (x:aU) (p:nI) (cs ps:List Value) (F G:List Nat) (nm:ByteArray) (w:World) (h:rd w x cs F) (h':rd w p ps G) (hw:(x.wt:Int)≤1048576) (fN:(p.wt:Int)≤1048576) :
 Calls Tryz.prog 27 #[.agg cs.toArray,.string nm,.agg ps.toArray] w fun e w'=>e = .returned (.int .i64 (uH nm x p))∧Below w.heap.size w w':=by
 have ZN:=I hw;have Uc:=I fN;clear hw fN;have hr:=h;have d':=h';obtain ⟨bG,bD,fQ,dn,bW,jg,aE,hF,bQ,dM,hnext,aV,aP,aW⟩:=aO hr;obtain ⟨bY,bZ,iq,eU,eX,jV,bg,bn,dK,jU,hG,jW,dA,kQ,lg,lG,iO,bK⟩:=dL d';subst aE jU;clear hF hG hr d';cases hR:zL x.weights.pack x.weights.af x.weights.an with
 | false =>
   have HF:=I (show uH nm x p = 0 by unfold uH;rw [if_neg (by rw [hR];simp)]);have HR:=I hR;clear hR;go_enter Tryz.func27,Tryz.ntmps27;go_wp2_with fail
   refine (pU _ _ _ _).mono ?_;rw [HR.out];rintro e w2 ⟨rfl,ar⟩;exact ej
 | true =>
   have pC:uH nm x p = x.weights.pack * OT nm x p+x.weights.af * EF nm x+x.weights.an * Rt nm x p:=(by unfold uH;rw [if_pos hR]);obtain ⟨g1,g2,g3⟩:=XO hR;have HR:=I hR;clear hR;obtain ⟨S1,gb⟩:∃S,OT nm x p = S:=⟨_,rfl⟩;obtain ⟨S2,iY⟩:∃S,EF nm x = S:=⟨_,rfl⟩;obtain ⟨S3,pd⟩:∃S,Rt nm x p = S:=⟨_,rfl⟩;have r1:=M' nm x p;have r2:=ZO nm x;have r3:=Ny nm x p;rw [gb] at r1 pC;rw [iY] at r2 pC;rw [pd] at r3 pC;have m1:=PX g1 r1;have m2:=PX g2 r2;have m3:=PX g3 r3;have e1:=vY (n:=x.weights.pack * S1) J;have e2:=vY (n:=x.weights.af * S2) J;have e3:=vY (n:=x.weights.an * S3) J;have e4:=vY (n:=x.weights.pack * S1+x.weights.af * S2) J;have e5:=vY (n:=x.weights.pack * S1+x.weights.af * S2+x.weights.an * S3) J;have HF:=I pC;have H1:=I gb;have H2:=I iY;have H3:=I pd;clear pC gb iY pd m1 m2 m3;go_enter Tryz.func27,Tryz.ntmps27;go_wp2_with fail
   refine (pU _ _ _ _).mono ?_;rw [HR.out];rintro e w2 ⟨rfl,ar⟩;obtain ⟨cq,cL⟩:=ay ar;have cw:w.heap.size < w2.heap.size:=(sq ar.size);have ke:w.heap.size+1 < w2.heap.size:=(sq ar.size);try (have tz:w.heap.size+1+1 < w2.heap.size:=sq ar.size)
   go_wp2_with fail
   refine aF _ U' U' (aj _) ?_
   repeat (first
    | (apply aG
       case hw=>rfl
       simp only [Act.put,pz])
    | (apply aH
       case hw=>rfl
       case h =>
        intro wq hq;have ee:=(aB hq).1;have lJ:=(aB hq).2;go_simp
        first
         | exact ⟨hq,rfl⟩
         | exact ⟨aQ hq _,rfl⟩
         | (first | (refine (ZA x p _ _ _ _ nm _ (aJ h (ah bJ hq)) (aJ h' (ah bJ hq)) ZN.out Uc.out).mono ?_;rw [H1.out];rintro e wz ⟨rfl,nV⟩;exact ⟨rfl,aI hq nV⟩) | (refine (Sy x p _ _ _ _ nm _ (aJ h (ah bJ hq)) (aJ h' (ah bJ hq)) ZN.out Uc.out).mono ?_;rw [H2.out];rintro e wz ⟨rfl,nV⟩;exact ⟨rfl,aI hq nV⟩) | (refine (ZJ x p _ _ _ _ nm _ (aJ h (ah bJ hq)) (aJ h' (ah bJ hq)) ZN.out Uc.out).mono ?_;rw [H3.out];rintro e wz ⟨rfl,nV⟩;exact ⟨rfl,aI hq nV⟩))
         | (simp only [↓IntWalk.iteOmega];exact ⟨hq,rfl⟩)
       simp only [Act.put,pz]))
   refine aN ?_;intro wn Z;replace Z:=Z.out;exact tg
theorem Kq (x:aU) (p:nI) (cs ps:List Value) (F G:List Nat) (nm:ByteArray) (w:World) (h:rd w x cs F) (h':rd w p ps G) (hw:(x.wt:Int)≤1048576) (fN:(p.wt:Int)≤1048576) :
 Calls Tryz.prog 64 #[.agg cs.toArray,.string nm,.agg ps.toArray] w fun e w'=>e = .returned (.int .i64 (uH nm x p))∧Below w.heap.size w w':=by
 have ZN:=I hw;have Uc:=I fN;clear hw fN;have hr:=h;have d':=h';obtain ⟨bG,bD,fQ,dn,bW,jg,aE,hF,bQ,dM,hnext,aV,aP,aW⟩:=aO hr;obtain ⟨bY,bZ,iq,eU,eX,jV,bg,bn,dK,jU,hG,jW,dA,kQ,lg,lG,iO,bK⟩:=dL d';subst aE jU;clear hF hG hr d';cases hR:zL x.weights.pack x.weights.af x.weights.an with
 | false =>
   have HF:=I (show uH nm x p = 0 by unfold uH;rw [if_neg (by rw [hR];simp)]);have HR:=I hR;clear hR;go_enter Tryz.func64,Tryz.ntmps64;go_wp2_with fail
   refine (pW _ _ _ _).mono ?_;rw [HR.out];rintro e w2 ⟨rfl,ar⟩;exact ej
 | true =>
   have pC:uH nm x p = x.weights.pack * OT nm x p+x.weights.af * EF nm x+x.weights.an * Rt nm x p:=(by unfold uH;rw [if_pos hR]);obtain ⟨g1,g2,g3⟩:=XO hR;have HR:=I hR;clear hR;obtain ⟨S1,gb⟩:∃S,OT nm x p = S:=⟨_,rfl⟩;obtain ⟨S2,iY⟩:∃S,EF nm x = S:=⟨_,rfl⟩;obtain ⟨S3,pd⟩:∃S,Rt nm x p = S:=⟨_,rfl⟩;have r1:=M' nm x p;have r2:=ZO nm x;have r3:=Ny nm x p;rw [gb] at r1 pC;rw [iY] at r2 pC;rw [pd] at r3 pC;have m1:=PX g1 r1;have m2:=PX g2 r2;have m3:=PX g3 r3;have e1:=vY (n:=x.weights.pack * S1) J;have e2:=vY (n:=x.weights.af * S2) J;have e3:=vY (n:=x.weights.an * S3) J;have e4:=vY (n:=x.weights.pack * S1+x.weights.af * S2) J;have e5:=vY (n:=x.weights.pack * S1+x.weights.af * S2+x.weights.an * S3) J;have HF:=I pC;have H1:=I gb;have H2:=I iY;have H3:=I pd;clear pC gb iY pd m1 m2 m3;go_enter Tryz.func64,Tryz.ntmps64;go_wp2_with fail
   refine (pW _ _ _ _).mono ?_;rw [HR.out];rintro e w2 ⟨rfl,ar⟩;obtain ⟨cq,cL⟩:=ay ar;have cw:w.heap.size < w2.heap.size:=(sq ar.size);have ke:w.heap.size+1 < w2.heap.size:=(sq ar.size);try (have tz:w.heap.size+1+1 < w2.heap.size:=sq ar.size)
   go_wp2_with fail
   refine aF _ U' U' (aj _) ?_
   repeat (first
    | (apply aG
       case hw=>rfl
       simp only [Act.put,pz])
    | (apply aH
       case hw=>rfl
       case h =>
        intro wq hq;have ee:=(aB hq).1;have lJ:=(aB hq).2;go_simp
        first
         | exact ⟨hq,rfl⟩
         | exact ⟨aQ hq _,rfl⟩
         | (first | (refine (Zz x p _ _ _ _ nm _ (aJ h (ah bJ hq)) (aJ h' (ah bJ hq)) ZN.out Uc.out).mono ?_;rw [H1.out];rintro e wz ⟨rfl,nV⟩;exact ⟨rfl,aI hq nV⟩) | (refine (Z' x p _ _ _ _ nm _ (aJ h (ah bJ hq)) (aJ h' (ah bJ hq)) ZN.out Uc.out).mono ?_;rw [H2.out];rintro e wz ⟨rfl,nV⟩;exact ⟨rfl,aI hq nV⟩) | (refine (ZI x p _ _ _ _ nm _ (aJ h (ah bJ hq)) (aJ h' (ah bJ hq)) ZN.out Uc.out).mono ?_;rw [H3.out];rintro e wz ⟨rfl,nV⟩;exact ⟨rfl,aI hq nV⟩))
         | (simp only [↓IntWalk.iteOmega];exact ⟨hq,rfl⟩)
       simp only [Act.put,pz]))
   refine aN ?_;intro wn Z;replace Z:=Z.out;exact tg
end Go.Proofs.YtajbbmembionpaaGreat
