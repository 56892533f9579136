/- Marks in plain Lean. No condition. -/
import Derived.Test.YtjahcnjmjahbaaaGreatUsedP
namespace Go.Proofs.YtjahcnjmjahbaaaGreat
open Go.ChangeShapes Go.WideShapes Go.ChangeAt Go.RowKit
set_option linter.unusedVariables false
set_option linter.unusedSimpArgs false
set_option maxHeartbeats 4000000
set_option maxRecDepth 100000
def qG (a b:Int):Int:=(GX a b).getD 9223372036854775807
theorem Ru {a b:Int} (ha:bi a) (hb:bi b):bi (qG a b):=by
 unfold qG;cases h:GX a b with
 | none=>exact ⟨by show _≤(9223372036854775807:Int);omega,by show (9223372036854775807:Int)≤_;omega⟩
 | some t=>exact PC h ha hb
def OT (nm:ByteArray) (x:aU) (p:nI):Int :=
 if pK (iM nm) x.Z < 0 then 0 else
 match vU (F7 nm x.O),x.Z[(pK (iM nm) x.Z).toNat]? with
 | some (a,b),some h=>(CQ (qG a p.ax) h.ax+CQ (qG b p.mem) h.mem) / 2
 | _,_=>0
def EF (nm:ByteArray) (x:aU):Int :=
 if pK (iM nm) x.Z < 0 then 0 else
 match vU (F7 nm x.O),x.Z[(pK (iM nm) x.Z).toNat]? with
 | some (a,b),some h=>100 - CQ (F7 nm x.O).length h.ar
 | _,_=>0
theorem amo {nm:ByteArray} {x:aU} {p:nI} (h:pK (iM nm) x.Z = -1):OT nm x p = 0:=by unfold OT;rw [h];rfl
theorem agF {nm:ByteArray} {x:aU} {p:nI} (h:vU (F7 nm x.O) = none):OT nm x p = 0:=by unfold OT;rw [h];simp
theorem amq {nm:ByteArray} {x:aU} {p:nI} {k:Nat} {a b:Int} (hk:k < x.Z.length) (h:pK (iM nm) x.Z = k) (hs:vU (F7 nm x.O) = some (a,b)):OT nm x p = (CQ (qG a p.ax) x.Z[k].ax+CQ (qG b p.mem) x.Z[k].mem) / 2:=by
 unfold OT;exact Aw
theorem agG {nm:ByteArray} {x:aU} (h:pK (iM nm) x.Z = -1):EF nm x = 0:=by unfold EF;rw [h];rfl
theorem abX {nm:ByteArray} {x:aU} (h:vU (F7 nm x.O) = none):EF nm x = 0:=by unfold EF;rw [h];simp
theorem agH {nm:ByteArray} {x:aU} {k:Nat} {a b:Int} (hk:k < x.Z.length) (h:pK (iM nm) x.Z = k) (hs:vU (F7 nm x.O) = some (a,b)):EF nm x = 100 - CQ (F7 nm x.O).length x.Z[k].ar:=by
 unfold EF;exact Aw
theorem adO (nm:ByteArray) (x:aU) (p:nI):0≤OT nm x p∧OT nm x p≤100:=by
 unfold OT;split
 ·omega
 ·split
  ·rename_i a b h _ _;have h1:=zJ (qG a p.ax) h.ax;have h2:=zJ (qG b p.mem) h.mem;omega
  ·omega
theorem ZO (nm:ByteArray) (x:aU):0≤EF nm x∧EF nm x≤100:=by
 unfold EF;split
 ·omega
 ·split
  ·rename_i a b h _ _;have h1:=zJ (F7 nm x.O).length h.ar;omega
  ·omega
theorem Zz (x:aU) (p:nI) (cs ps:List Value) (F G:List Nat) (nm:ByteArray) (w:World) (h:rd w x cs F) (h':rd w p ps G) (hw:(x.wt:Int)≤1048576) (hJ:(p.wt:Int)≤1048576) :
 Calls Tryz.prog 151 #[.agg cs.toArray,.string nm,.agg ps.toArray] w fun e w'=>e = .returned (.int .i64 (OT nm x p))∧Below w.heap.size w w':=by
 have fS:x.wt = kL az.wt x.Z+kL ai.wt x.O:=rfl;have cG:(x.Z.length:Int)≤1048576:=by have:=gJ az.wt x.Z;omega
 have vk:(x.O.length:Int)≤1048576:=by have:=gJ ai.wt x.O;omega
 have hr:=h;have cN:=h';obtain ⟨bG,bD,fQ,dn,bW,jg,aw,hF,bQ,dM,hnext,aV,aP,aW⟩:=aO hr;obtain ⟨bY,bZ,iq,eU,eX,jV,bg,bn,dK,jU,hG,jW,dA,kQ,lg,lG,iO,bK⟩:=dL cN;subst aw jU;clear hF hG hr cN;rcases yg (iM nm) x.Z with hi | ⟨k,hk,hi⟩
 ·have HF:=I (amo (p:=p) hi);have HI:=I hi;clear hi;cases hs:vU (F7 nm x.O) with
  | none =>have HU:=I (AV hs);exact AI
  | some ab =>obtain ⟨a,b⟩:=ab;have HU:=I (AX hs);exact AI
 ·cases hs:vU (F7 nm x.O) with
  | none =>have HF:=I (agF (p:=p) hs);have HI:=I hi;clear hi;have HU:=I (AV hs);exact AI
  | some ab =>
    obtain ⟨a,b⟩:=ab;have cI:=amq (p:=p) hk hi hs;obtain ⟨ha,hb⟩:=UD (A:=dn) (c:=bW) dM hs;have HI:=I hi;clear hi;have HU:=I (AX hs);clear hs;have hL:=NK nm x.O;generalize (F7 nm x.O).length = L at cI HU hL;have Ef:(L:Int)≤1048576:=J;clear hL;obtain ⟨bh,o,ck,Fk,rfl,o9,hbs,hr,bv,hc⟩:=Sl.get (α:=az) (A:=bG) (c:=bD) bQ hk;obtain ⟨jM,jO,sN,jE,jF,sO,aw,su,zM,qY,Gt,Gw,xg,qA⟩:=iy hr;subst aw;obtain ⟨q0,q1,q2,q3,q4,q5⟩:=mE 6 hc;clear hc;obtain ⟨S1,hS1⟩:∃S,CQ (qG a p.ax) x.Z[k].ax = S:=⟨_,rfl⟩;obtain ⟨S2,hS2⟩:∃S,CQ (qG b p.mem) x.Z[k].mem = S:=⟨_,rfl⟩;have fX:=zJ (qG a p.ax) x.Z[k].ax;have fc:=zJ (qG b p.mem) x.Z[k].mem;have nt:=Ru ha kQ;have o0:=Ru hb lg;rw [hS1,hS2] at cI;rw [hS1] at fX;rw [hS2] at fc;have HF:=I cI;clear cI;have pP:IntKind.i64.wrap (S1+S2) = S1+S2:=(by rw [IntKind.wrap_i64];omega);have HW2:=I (show IntKind.i64.wrap ((S1+S2).tdiv 2) = (S1+S2) / 2 by rw [Int.tdiv_eq_ediv_of_nonneg J,IntKind.wrap_i64];omega);cases he1:GX a p.ax with
    | none =>rw [show qG a p.ax = 9223372036854775807 by unfold qG;rw [he1];rfl] at hS1 nt;exact Kj
    | some s1 =>rw [show qG a p.ax = s1 by unfold qG;rw [he1];rfl] at hS1 nt;exact Kj
theorem aey (x:aU) (p:nI) (cs ps:List Value) (F G:List Nat) (nm:ByteArray) (w:World) (h:rd w x cs F) (h':rd w p ps G) (hw:(x.wt:Int)≤1048576) (hJ:(p.wt:Int)≤1048576) :
 Calls Tryz.prog 152 #[.agg cs.toArray,.string nm,.agg ps.toArray] w fun e w'=>e = .returned (.int .i64 (EF nm x))∧Below w.heap.size w w':=by
 have fS:x.wt = kL az.wt x.Z+kL ai.wt x.O:=rfl;have cG:(x.Z.length:Int)≤1048576:=by have:=gJ az.wt x.Z;omega
 have vk:(x.O.length:Int)≤1048576:=by have:=gJ ai.wt x.O;omega
 have hr:=h;have cN:=h';obtain ⟨bG,bD,fQ,dn,bW,jg,aw,hF,bQ,dM,hnext,aV,aP,aW⟩:=aO hr;obtain ⟨bY,bZ,iq,eU,eX,jV,bg,bn,dK,jU,hG,jW,dA,kQ,lg,lG,iO,bK⟩:=dL cN;subst aw jU;clear hF hG hr cN;rcases yg (iM nm) x.Z with hi | ⟨k,hk,hi⟩
 ·have HF:=I (agG  hi);have HI:=I hi;clear hi;cases hs:vU (F7 nm x.O) with
  | none =>have HU:=I (AV hs);exact AJ
  | some ab =>obtain ⟨a,b⟩:=ab;have HU:=I (AX hs);exact AJ
 ·cases hs:vU (F7 nm x.O) with
  | none =>have HF:=I (abX  hs);have HI:=I hi;clear hi;have HU:=I (AV hs);exact AJ
  | some ab =>
    obtain ⟨a,b⟩:=ab;have cI:=agH  hk hi hs;obtain ⟨ha,hb⟩:=UD (A:=dn) (c:=bW) dM hs;have HI:=I hi;clear hi;have HU:=I (AX hs);clear hs;have hL:=NK nm x.O;generalize (F7 nm x.O).length = L at cI HU hL;have Ef:(L:Int)≤1048576:=J;clear hL;obtain ⟨bh,o,ck,Fk,rfl,o9,hbs,hr,bv,hc⟩:=Sl.get (α:=az) (A:=bG) (c:=bD) bQ hk;obtain ⟨jM,jO,sN,jE,jF,sO,aw,su,zM,qY,Gt,Gw,xg,qA⟩:=iy hr;subst aw;obtain ⟨q0,q1,q2,q3,q4,q5⟩:=mE 6 hc;clear hc;obtain ⟨S1,hS1⟩:∃S,CQ (L:Int) x.Z[k].ar = S:=⟨_,rfl⟩;have fX:=zJ (L:Int) x.Z[k].ar;rw [hS1] at cI fX;have HF:=I cI;have Ri:=I hS1;clear cI hS1;have hLI:bi (L:Int):=(by unfold bi;omega);have pP:IntKind.i64.wrap (100 - S1) = 100 - S1:=(by rw [IntKind.wrap_i64];omega);go_enter Tryz.func152,Tryz.ntmps152;go_wp2_with fail
    refine (gQ x _ _ nm _ (aJ h bs) cG).mono ?_;rw [HI.out];rintro e w2 ⟨rfl,av⟩;obtain ⟨ce,cK⟩:=ay av;have cD:w.heap.size < w2.heap.size:=(sq av.size);have mz:w.heap.size+1 < w2.heap.size:=(sq av.size);have eB:Below w.heap.size w w2:=bs;go_wp2_with fail
    refine (jm x _ _ nm _ (aJ h bs) vk).mono ?_;rw [HU.out];rintro e w3 ⟨rfl,bj⟩;obtain ⟨cP,hf3⟩:=ay bj;have eK:w.heap.size < w3.heap.size:=(sq bj.size);have DJ:w.heap.size+1 < w3.heap.size:=(sq bj.size);have eh:Below w.heap.size w w3:=ah eB bj;replace q0:=r' eh q0 hbs;replace q1:=r' eh q1 hbs;replace q2:=r' eh q2 hbs;replace q3:=r' eh q3 hbs;replace q4:=r' eh q4 hbs;replace q5:=r' eh q5 hbs;have jd:bh < w3.heap.size:=(by have:=eh.size;omega);go_wp2_with fail
    refine (IB _ _ _ qe qe).mono ?_;rw [Ri.out];rintro e wn ⟨rfl,hn⟩;go_wp2;go_ret
    exact ⟨by rw [HF.out];first | rfl | simp,ah eh hn⟩
def uH (nm:ByteArray) (x:aU) (p:nI):Int :=
 if zL x.weights.pack x.weights.af x.weights.an = true then x.weights.pack * OT nm x p+x.weights.af * EF nm x+x.weights.an * Rt nm x p else 0
theorem adN (nm:ByteArray) (x:aU) (p:nI):0≤Rt nm x p∧Rt nm x p≤100:=by
 unfold Rt;split
 ·omega
 ·split <;> omega
theorem PX {a b:Int} (ha:0≤a∧a≤10) (hb:0≤b∧b≤100):0≤a * b∧a * b≤1000:=by
 refine ⟨Int.mul_nonneg ha.1 hb.1,?_⟩;have h1:a * b≤10 * b:=Int.mul_le_mul_of_nonneg_right ha.2 hb.1;omega
theorem XO {p s f:Int} (h:zL p s f = true):(0≤p∧p≤10)∧(0≤s∧s≤10)∧(0≤f∧f≤10):=by
 unfold zL at h;exact qz
theorem vY {n:Int} (h:0≤n∧n≤3000):Value.int .i64 (IntKind.i64.wrap n) = Value.int .i64 n:=by
 have e:IntKind.i64.wrap n = n:=by rw [IntKind.wrap_i64];omega
 rw [e]
theorem Kq (x:aU) (p:nI) (cs ps:List Value) (F G:List Nat) (nm:ByteArray) (w:World) (h:rd w x cs F) (h':rd w p ps G) (hw:(x.wt:Int)≤1048576) (hJ:(p.wt:Int)≤1048576) :
 Calls Tryz.prog 102 #[.agg cs.toArray,.string nm,.agg ps.toArray] w fun e w'=>e = .returned (.int .i64 (uH nm x p))∧Below w.heap.size w w':=by
 have ZN:=I hw;have Uc:=I hJ;clear hw hJ;have hr:=h;have cN:=h';obtain ⟨bG,bD,fQ,dn,bW,jg,aw,hF,bQ,dM,hnext,aV,aP,aW⟩:=aO hr;obtain ⟨bY,bZ,iq,eU,eX,jV,bg,bn,dK,jU,hG,jW,dA,kQ,lg,lG,iO,bK⟩:=dL cN;subst aw jU;clear hF hG hr cN;cases hR:zL x.weights.pack x.weights.af x.weights.an with
 | false =>
   have HF:=I (show uH nm x p = 0 by unfold uH;rw [if_neg (by rw [hR];simp)]);have HR:=I hR;clear hR;go_enter Tryz.func102,Tryz.ntmps102;go_wp2_with fail
   refine (pW _ _ _ _).mono ?_;exact qS
 | true =>
   have Ma:uH nm x p = x.weights.pack * OT nm x p+x.weights.af * EF nm x+x.weights.an * Rt nm x p:=(by unfold uH;rw [if_pos hR]);obtain ⟨g1,g2,g3⟩:=XO hR;have HR:=I hR;clear hR;obtain ⟨S1,hS1⟩:∃S,OT nm x p = S:=⟨_,rfl⟩;obtain ⟨S2,hS2⟩:∃S,EF nm x = S:=⟨_,rfl⟩;obtain ⟨S3,hS3⟩:∃S,Rt nm x p = S:=⟨_,rfl⟩;have r1:=adO nm x p;have r2:=ZO nm x;have r3:=adN nm x p;rw [hS1] at r1 Ma;rw [hS2] at r2 Ma;rw [hS3] at r3 Ma;have m1:=PX g1 r1;have m2:=PX g2 r2;have m3:=PX g3 r3;have e1:=vY (n:=x.weights.pack * S1) J;have e2:=vY (n:=x.weights.af * S2) J;have e3:=vY (n:=x.weights.an * S3) J;have e4:=vY (n:=x.weights.pack * S1+x.weights.af * S2) J;have e5:=vY (n:=x.weights.pack * S1+x.weights.af * S2+x.weights.an * S3) J;have HF:=I Ma;have H1:=I hS1;have H2:=I hS2;have H3:=I hS3;clear Ma hS1 hS2 hS3 m1 m2 m3;go_enter Tryz.func102,Tryz.ntmps102;go_wp2_with fail
   refine (pW _ _ _ _).mono ?_;rw [HR.out];rintro e w2 ⟨rfl,av⟩;obtain ⟨ce,cK⟩:=ay av;have cD:w.heap.size < w2.heap.size:=(sq av.size);have mz:w.heap.size+1 < w2.heap.size:=(sq av.size);try (have vR:w.heap.size+1+1 < w2.heap.size:=sq av.size)
   go_wp2_with fail
   refine aF _ U' U' (aj _) ?_
   repeat (first
    | (apply aG
       case hw=>rfl
       simp only [Act.put,pz])
    | (apply aH
       case hw=>rfl
       case h =>
        intro wq hq;have dc:=(aB hq).1;have lJ:=(aB hq).2;go_simp
        first
         | exact ⟨hq,rfl⟩
         | exact ⟨aQ hq _,rfl⟩
         | (first | (refine (Zz x p _ _ _ _ nm _ (aJ h (ah bs hq)) (aJ h' (ah bs hq)) ZN.out Uc.out).mono ?_;rw [H1.out];rintro e wz ⟨rfl,nV⟩;exact ⟨rfl,aI hq nV⟩) | (refine (aey x p _ _ _ _ nm _ (aJ h (ah bs hq)) (aJ h' (ah bs hq)) ZN.out Uc.out).mono ?_;rw [H2.out];rintro e wz ⟨rfl,nV⟩;exact ⟨rfl,aI hq nV⟩) | (refine (ZI x p _ _ _ _ nm _ (aJ h (ah bs hq)) (aJ h' (ah bs hq)) ZN.out Uc.out).mono ?_;rw [H3.out];rintro e wz ⟨rfl,nV⟩;exact ⟨rfl,aI hq nV⟩))
         | (simp only [↓IntWalk.iteOmega];exact ⟨hq,rfl⟩)
       simp only [Act.put,pz]))
   refine aN ?_;intro wn hn;replace hn:=hn.out;exact zt
def Jo (US UT most:Int):Bool:=match GX US UT with | some s=>decide (s≤most) | none=>false
def Vm (h:az) (p:nI) (a b n:Int):Int :=
 if Hw h.labels p.ag = false then 1 else if 0 < (BD p.ae 1 h.aT:Int) then 2
 else if Jo a p.ax h.ax = false then 3 else if Jo b p.mem h.mem = false then 4 else if h.ar≤n then 5 else 0
def oH (nm:ByteArray) (x:aU) (p:nI):Int :=
 if pK (iM nm) x.Z < 0 then 6 else
 match vU (F7 nm x.O),x.Z[(pK (iM nm) x.Z).toNat]? with
 | some (a,b),some h=>Vm h p a b (F7 nm x.O).length
 | _,_=>6
theorem afH {nm:ByteArray} {x:aU} {p:nI} (h:pK (iM nm) x.Z = -1):oH nm x p = 6:=by unfold oH;rw [h];rfl
theorem abG {nm:ByteArray} {x:aU} {p:nI} (h:vU (F7 nm x.O) = none):oH nm x p = 6:=by unfold oH;rw [h];simp
theorem afI {nm:ByteArray} {x:aU} {p:nI} {k:Nat} {a b:Int} (hk:k < x.Z.length) (h:pK (iM nm) x.Z = k) (hs:vU (F7 nm x.O) = some (a,b)):oH nm x p = Vm x.Z[k] p a b (F7 nm x.O).length:=by
 unfold oH;exact Aw
theorem afJ {h:az} (hw:(h.wt:Int)≤1048576):((h.labels.length:Int)≤1048576)∧((kL iU.wt h.aT:Int)≤1048576):=by
 have fS:h.wt = h.name.size+kL ao.wt h.labels+kL iU.wt h.aT:=rfl;have:=gJ ao.wt h.labels;omega
theorem Tz (x:aU) (p:nI) (cs ps:List Value) (F G:List Nat) (nm:ByteArray) (w:World) (h:rd w x cs F) (h':rd w p ps G) (hw:(x.wt:Int)≤1048576) (hJ:(p.wt:Int)≤1048576) :
 Calls Tryz.prog 177 #[.agg cs.toArray,.string nm,.agg ps.toArray] w fun e w'=>e = .returned (.int .i64 (oH nm x p))∧Below w.heap.size w w':=by
 have fS:x.wt = kL az.wt x.Z+kL ai.wt x.O:=rfl;have u4:p.wt = p.name.size+kL ao.wt p.labels+kL ba.wt p.ag+kL bH.wt p.ae:=rfl;have cG:(x.Z.length:Int)≤1048576:=by have:=gJ az.wt x.Z;omega
 have vk:(x.O.length:Int)≤1048576:=by have:=gJ ai.wt x.O;omega
 obtain ⟨fv,dT⟩:=FQ (xs:=p.ae) J;obtain ⟨mo,pc⟩:=Aa (xs:=p.ag) J;have Ux:=I dT;have pd:=I pc;clear dT pc;have hr:=h;have cN:=h';obtain ⟨bG,bD,fQ,dn,bW,jg,aw,hF,bQ,dM,hnext,aV,aP,aW⟩:=aO hr;obtain ⟨bY,bZ,iq,eU,eX,jV,bg,bn,dK,jU,hG,jW,dA,kQ,lg,lG,iO,bK⟩:=dL cN;subst aw jU;clear hF hG hr cN;rcases yg (iM nm) x.Z with hi | ⟨k,hk,hi⟩
 ·have HF:=I (afH (p:=p) hi);have HI:=I hi;clear hi;cases hs:vU (F7 nm x.O) with
  | none =>have HU:=I (AV hs);exact AK
  | some ab =>obtain ⟨a,b⟩:=ab;have HU:=I (AX hs);exact AK
 ·cases hs:vU (F7 nm x.O) with
  | none =>have HF:=I (abG (p:=p) hs);have HI:=I hi;clear hi;have HU:=I (AV hs);exact AK
  | some ab =>
    obtain ⟨a,b⟩:=ab;have cI:=afI (p:=p) hk hi hs;obtain ⟨ha,hb⟩:=UD (A:=dn) (c:=bW) dM hs;have HI:=I hi;clear hi;have HU:=I (AX hs);clear hs;have hL:=NK nm x.O;generalize (F7 nm x.O).length = L at cI HU hL;have Ef:(L:Int)≤1048576:=J;clear hL;obtain ⟨rx,hht⟩:=afJ (h:=x.Z[k]) (by have:=rM (f:=az.wt) hk;omega);obtain ⟨kv,wN⟩:=BH hht;have UO:=UN p.ae 1 x.Z[k].aT;obtain ⟨bh,o,ck,Fk,rfl,o9,hbs,hr,bv,hc⟩:=Sl.get (α:=az) (A:=bG) (c:=bD) bQ hk;obtain ⟨jM,jO,sN,jE,jF,sO,aw,su,zM,qY,Gt,Gw,xg,qA⟩:=iy hr;subst aw;obtain ⟨q0,q1,q2,q3,q4,q5⟩:=mE 6 hc;clear hc
    have Ol:=I (show ∀wq,Below w.heap.size w wq→Calls Tryz.prog 202 #[.slice eU p.ag.length eX,.slice jM x.Z[k].labels.length jO] wq fun e w'=>e = .returned (.bool (Hw x.Z[k].labels p.ag))∧Below wq.heap.size wq w' from
     fun wq hq=>alb p.ag x.Z[k].labels _ _ _ _ _ _ _ _ wq (iO.ext hq) (qY.ext hq) rfl rfl mo rx pd.out)
    have L':∀wq,Below w.heap.size w wq→Calls Tryz.prog 180 #[.slice bg p.ae.length bn,.slice jE x.Z[k].aT.length jF,.int .i64 1] wq fun e w'=>e = .returned (.int .i64 (BD p.ae 1 x.Z[k].aT))∧Below wq.heap.size wq w' :=
     fun wq hq=>UQ p.ae x.Z[k].aT 1 _ _ _ _ _ _ _ _ _ (bK.ext hq) (qA.ext hq) rfl rfl fv kv Ux.out wN
    have Om:=I L';unfold Vm at cI;clear L' wN;generalize BD p.ae 1 x.Z[k].aT = z at Om cI UO;have th:(z:Int)≤1048576:=J;have sF:=I cI;clear cI;have UU:=I (show (x.Z.length:Int)≤1048576 from cG);clear hht rx kv cG;go_enter Tryz.func177,Tryz.ntmps177;go_wp2_with fail
    refine (gQ x _ _ nm _ (aJ h bs) UU.out).mono ?_;rw [HI.out];rintro e w2 ⟨rfl,av⟩;obtain ⟨ce,cK⟩:=ay av;have cD:w.heap.size < w2.heap.size:=(sq av.size);have mz:w.heap.size+1 < w2.heap.size:=(sq av.size);have eB:Below w.heap.size w w2:=bs;go_wp2_with fail
    refine (jm x _ _ nm _ (aJ h bs) vk).mono ?_;rw [HU.out];rintro e w3 ⟨rfl,bj⟩;obtain ⟨cP,hf3⟩:=ay bj;have eK:w.heap.size < w3.heap.size:=(sq bj.size);have DJ:w.heap.size+1 < w3.heap.size:=(sq bj.size);have eh:Below w.heap.size w w3:=ah eB bj;replace q0:=r' eh q0 hbs;replace q1:=r' eh q1 hbs;replace q2:=r' eh q2 hbs;replace q3:=r' eh q3 hbs;replace q4:=r' eh q4 hbs;replace q5:=r' eh q5 hbs;have jd:bh < w3.heap.size:=(by have:=eh.size;omega);cases hS:Hw x.Z[k].labels p.ag
    ·have HF:=I (show oH nm x p = 1 by rw [sF.out,if_pos hS]);have HS:=I hS;clear hS;go_wp2_with fail
     refine (Ol.out _ bs).mono ?_;rw [HS.out];rintro e w4 ⟨rfl,bO⟩;obtain ⟨ei,hf4⟩:=ay bO;have Wy:w.heap.size < w4.heap.size:=(sq bO.size);have DM:w.heap.size+1 < w4.heap.size:=(sq bO.size);have Rl:w3.heap.size < w4.heap.size:=(sq bO.size);exact zt
    ·by_cases hu:(0:Int) < (z:Int)
     ·have HF:=I (show oH nm x p = 2 by rw [sF.out,if_neg (by simp [hS]),if_pos hu]);have HS:=I hS;clear hS;go_wp2_with fail
      refine (Ol.out _ bs).mono ?_;rw [HS.out];rintro e w4 ⟨rfl,bO⟩;obtain ⟨ei,hf4⟩:=ay bO;have Wy:w.heap.size < w4.heap.size:=(sq bO.size);have DM:w.heap.size+1 < w4.heap.size:=(sq bO.size);have Rl:w3.heap.size < w4.heap.size:=(sq bO.size);go_wp2_with fail
      refine (Om.out _ bs).mono ?_;rintro e w5 ⟨rfl,bo⟩;obtain ⟨lp,ki⟩:=ay bo;have Es:w.heap.size < w5.heap.size:=(sq bo.size);have IV:w.heap.size+1 < w5.heap.size:=(sq bo.size);have ir:w3.heap.size < w5.heap.size:=(sq bo.size);exact zt
     ·cases he1:GX a p.ax with
      | none =>have eW:Jo a p.ax x.Z[k].ax = false:=(by unfold Jo;rw [he1]);exact GF
      | some s1 =>
        by_cases Bx:s1≤x.Z[k].ax
        ·have eW:Jo a p.ax x.Z[k].ax = true:=(by unfold Jo;rw [he1];simp [Bx]);cases he2:GX b p.mem with
         | none =>have cK:Jo b p.mem x.Z[k].mem = false:=(by unfold Jo;rw [he2]);exact Kt
         | some s2 =>
           by_cases ru:s2≤x.Z[k].mem
           ·have cK:Jo b p.mem x.Z[k].mem = true:=(by unfold Jo;rw [he2];simp [ru]);by_cases nr:x.Z[k].ar≤(L:Int)
            ·have HF:=I (show oH nm x p = 5 by rw [sF.out,if_neg (by simp [hS]),if_neg hu,if_neg (by simp [eW]),if_neg (by simp [cK]),if_pos nr]);exact ye
            ·have HF:=I (show oH nm x p = 0 by rw [sF.out,if_neg (by simp [hS]),if_neg hu,if_neg (by simp [eW]),if_neg (by simp [cK]),if_neg nr]);exact ye
           ·have cK:Jo b p.mem x.Z[k].mem = false:=(by unfold Jo;rw [he2];simp [ru]);exact Kt
        ·have eW:Jo a p.ax x.Z[k].ax = false:=(by unfold Jo;rw [he1];simp [Bx]);exact GF
theorem Oa (x:aU) (p:nI) (cs ps:List Value) (F G:List Nat) (nm:ByteArray) (w:World) (h:rd w x cs F) (h':rd w p ps G) (hw:(x.wt:Int)≤1048576) (hJ:(p.wt:Int)≤1048576) :
 Calls Tryz.prog 150 #[.agg cs.toArray,.string nm,.agg ps.toArray] w fun e w'=>e = .returned (.bool (oH nm x p == 0))∧Below w.heap.size w w':=by
 have hr:=h;have cN:=h';obtain ⟨bG,bD,fQ,dn,bW,jg,aw,hF,bQ,dM,hnext,aV,aP,aW⟩:=aO hr;obtain ⟨bY,bZ,iq,eU,eX,jV,bg,bn,dK,jU,hG,jW,dA,kQ,lg,lG,iO,bK⟩:=dL cN;subst aw jU;clear hF hG hr cN;go_enter Tryz.func150,Tryz.ntmps150;go_wp2_with fail
 refine (Tz x p _ _ _ _ nm _ (aJ h bs) (aJ h' bs) hw hJ).mono ?_;rintro e w2 ⟨rfl,av⟩;go_wp2;go_ret
 exact ⟨rfl,bs⟩
def Mb (x:aU) (p:nI) (h:az):Bool:=oH h.name x p == 0
def Ar (x:aU) (p:nI) (hs:List az):List ByteArray:=(hs.filter (Mb x p)).map az.name
theorem YM {x:aU} {p:nI} {hs:List az} {k:Nat} (h:k < hs.length) (hp:Mb x p hs[k] = true):Ar x p (hs.take (k+1)) = Ar x p (hs.take k)++[hs[k].name]:=by
 unfold Ar;rw [List.take_succ_eq_append_getElem h,List.filter_append,List.map_append];simp [hp]
theorem abE {x:aU} {p:nI} {hs:List az} {k:Nat} (h:k < hs.length) (hp:Mb x p hs[k] = false):Ar x p (hs.take (k+1)) = Ar x p (hs.take k):=by
 unfold Ar;rw [List.take_succ_eq_append_getElem h,List.filter_append,List.map_append];simp [hp]
theorem LY (x:aU) (p:nI) (hs:List az):(Ar x p hs).length≤hs.length:=by unfold Ar;rw [List.length_map];exact List.length_filter_le _ _
theorem afG (x:aU) (p:nI) (hs:List az) (k:Nat):(Ar x p (hs.take k)).length≤k:=Nat.le_trans (LY _ _ _) Se
theorem aY.UV {w:World} {B:Nat} {xs:List ByteArray} {ds:List Value} {s:ByteArray} (h:aY w B xs ds []) (hs:(s.size:Int)≤9223372036854775807):aY w B (xs++[s]) (ds++[.string s]) [] :=
 ⟨h.rd.append (.single (cV w s hs)),List.nodup_nil,(fun b hb=>by cases hb),(fun b hb=>by cases hb)⟩
theorem Zv (x:aU) (p:nI) (cs ps:List Value) (F G:List Nat) (w:World) (h:rd w x cs F) (h':rd w p ps G) (hw:(x.wt:Int)≤1048576) (hJ:(p.wt:Int)≤1048576) :
 Calls Tryz.prog 101 #[.agg cs.toArray,.agg ps.toArray] w fun e w'=>∃A c G,e = .returned (.slice A (Ar x p x.Z).length c)∧am w' w.heap.size (Ar x p x.Z) [.slice A (Ar x p x.Z).length c] G∧Below w.heap.size w w':=by
 have fS:x.wt = kL az.wt x.Z+kL ai.wt x.O:=rfl;have cG:(x.Z.length:Int)≤1048576:=by have:=gJ az.wt x.Z;omega
 have HW:=I hw;have Uc:=I hJ;clear hw hJ fS;have hr:=h;have cN:=h';obtain ⟨bG,bD,fQ,dn,bW,jg,aw,hF,bQ,dM,hnext,aV,aP,aW⟩:=aO hr;obtain ⟨bY,bZ,iq,eU,eX,jV,bg,bn,dK,jU,hG,jW,dA,kQ,lg,lG,iO,bK⟩:=dL cN;subst aw jU;clear hF hG hr cN;go_enter Tryz.func101,Tryz.ntmps101;go_wp2_with fail
 obtain ⟨w0,hw0⟩:∃w0,(w.alloc (.cells #[.slice bG x.Z.length bD,.slice dn x.O.length bW,.int .i64 x.next,.int .i64 x.weights.pack,.int .i64 x.weights.af,.int .i64 x.weights.an] 29)).alloc (.cells #[.string p.name,.slice bY p.labels.length bZ,.int .i64 p.ax,.int .i64 p.mem,.int .i64 p.aD,.slice eU p.ag.length eX,.slice bg p.ae.length bn] 46) = w0:=⟨_,rfl⟩;try rw [hw0]
 have c0:w0.cell? ⟨w.heap.size,0,none⟩ = some (.slice bG x.Z.length bD):=by rw [← hw0,World.cell?_of_block (heap_alloc_old _ _ S'),cell_of_row _ _ _ _ _ _ (heap_alloc_new w _)];rfl
 have c1:w0.cell? ⟨w.heap.size,1,none⟩ = some (.slice dn x.O.length bW):=by rw [← hw0,World.cell?_of_block (heap_alloc_old _ _ S'),cell_of_row _ _ _ _ _ _ (heap_alloc_new w _)];rfl
 have c2:w0.cell? ⟨w.heap.size,2,none⟩ = some (.int .i64 x.next):=by rw [← hw0,World.cell?_of_block (heap_alloc_old _ _ S'),cell_of_row _ _ _ _ _ _ (heap_alloc_new w _)];rfl
 have c3:w0.cell? ⟨w.heap.size,3,none⟩ = some (.int .i64 x.weights.pack):=by rw [← hw0,World.cell?_of_block (heap_alloc_old _ _ S'),cell_of_row _ _ _ _ _ _ (heap_alloc_new w _)];rfl
 have c4:w0.cell? ⟨w.heap.size,4,none⟩ = some (.int .i64 x.weights.af):=by rw [← hw0,World.cell?_of_block (heap_alloc_old _ _ S'),cell_of_row _ _ _ _ _ _ (heap_alloc_new w _)];rfl
 have c5:w0.cell? ⟨w.heap.size,5,none⟩ = some (.int .i64 x.weights.an):=by rw [← hw0,World.cell?_of_block (heap_alloc_old _ _ S'),cell_of_row _ _ _ _ _ _ (heap_alloc_new w _)];rfl
 have d0:w0.cell? ⟨w.heap.size+1,0,none⟩ = some (.string p.name):=by rw [← hw0];simp
 have d1:w0.cell? ⟨w.heap.size+1,1,none⟩ = some (.slice bY p.labels.length bZ):=by rw [← hw0];simp
 have d2:w0.cell? ⟨w.heap.size+1,2,none⟩ = some (.int .i64 p.ax):=by rw [← hw0];simp
 have d3:w0.cell? ⟨w.heap.size+1,3,none⟩ = some (.int .i64 p.mem):=by rw [← hw0];simp
 have d4:w0.cell? ⟨w.heap.size+1,4,none⟩ = some (.int .i64 p.aD):=by rw [← hw0];simp
 have d5:w0.cell? ⟨w.heap.size+1,5,none⟩ = some (.slice eU p.ag.length eX):=by rw [← hw0];simp
 have d6:w0.cell? ⟨w.heap.size+1,6,none⟩ = some (.slice bg p.ae.length bn):=by rw [← hw0];simp
 have jn:Below w.heap.size w w0:=by rw [← hw0];exact ak (ak (aj _) _) _
 have hZ:w0.heap.size = w.heap.size+1+1:=by rw [← hw0];simp
 have cf:w.heap.size < w0.heap.size:=by omega
 have cQ:w.heap.size+1 < w0.heap.size:=by omega
 have HS0:=I hZ;clear hw0 hZ;go_loopw [5,6] (fun v i wr=>∃(k:Nat) (ds:List Value),k≤x.Z.length∧i = .int .i64 k∧wr.ownsRow w0.heap.size 9 1 v (Ar x p (x.Z.take k)).length ds∧aY w w0.heap.size (Ar x p (x.Z.take k)) ds []∧Below w0.heap.size w0 wr) (fun _ i _=>x.Z.length - (intOf i).toNat)
 case atStart =>refine ⟨0,[],Nat.zero_le _,rfl,?_,aY.nil _ _,ak (aj _) _⟩;rw [← HS0.out];have:=World.ownsRow_made (base:=w0.heap.size) (e:=9) (size:=1) w0 #[] 0 S' ja rfl;simpa [Ar] using this
 case round =>
  obtain ⟨k,ds,hk,rfl,aR,cT,aE⟩:=hrel;by_cases ap:k < x.Z.length
  ·obtain ⟨b,o,ck,Fk,rfl,o9,hbs,hr,bv,hc⟩:=Sl.get (α:=az) (A:=bG) (c:=bD) bQ ap;obtain ⟨jM,jO,sN,jE,jF,sO,aw,su,zM,qY,Gt,Gw,xg,qA⟩:=iy hr;subst aw;obtain ⟨q0,q1,q2,q3,q4,q5⟩:=mE 6 hc;clear hc;have bL:Below w.heap.size w wr:=ah jn (aE.mono J);replace q0:=r' bL q0 hbs;replace q1:=r' bL q1 hbs;replace q2:=r' bL q2 hbs;replace q3:=r' bL q3 hbs;replace q4:=r' bL q4 hbs;replace q5:=r' bL q5 hbs;have WU:b < wr.heap.size:=(by have:=bL.size;omega);have hK:=(ay aE).1;replace c0:=(hK _ _ cf).trans c0;replace c1:=(hK _ _ cf).trans c1;replace c2:=(hK _ _ cf).trans c2;replace c3:=(hK _ _ cf).trans c3;replace c4:=(hK _ _ cf).trans c4;replace c5:=(hK _ _ cf).trans c5;replace d0:=(hK _ _ cQ).trans d0;replace d1:=(hK _ _ cQ).trans d1;replace d2:=(hK _ _ cQ).trans d2;replace d3:=(hK _ _ cQ).trans d3;replace d4:=(hK _ _ cQ).trans d4;replace d5:=(hK _ _ cQ).trans d5;replace d6:=(hK _ _ cQ).trans d6;clear hK;have tX:w.heap.size < wr.heap.size:=(by have:=aE.size;omega);have Me:w.heap.size+1 < wr.heap.size:=(by have:=aE.size;omega);have D6:(Ar x p (x.Z.take k)).length≤k:=afG x p x.Z k;cases hp:Mb x p x.Z[k] with
   | true =>
     have HP:=I hp;have OP:=I (show (oH x.Z[k].name x p == 0) = true from hp);clear hp;go_wp2_with fail
     first
      | (refine (Oa x p _ _ _ _ x.Z[k].name _ (aJ h O1) (aJ h' O1) HW.out Uc.out).mono ?_
         rw [OP.out]
         rintro e wn ⟨rfl,hn⟩)
      | (refine aF _ U' U' (aj _) ?_
         repeat ((first | refine aG X ?_ | refine aH _ X Hz ?_);simp only [Act.put,pz])
         refine aN ?_;intro wn hn
         replace hn:=hn.out)
     obtain ⟨jz,kz⟩:=ay hn
     first
      | have jA:wr.heap.size < wn.heap.size:=(sq hn.size)
      | have jA:wr.heap.size≤wn.heap.size:=(sq hn.size)
     have bA:Below w0.heap.size w0 wn:=(by first | exact ah aE hn | exact ah (ak aE _) hn);first | have zq:=mG aR hn | have zq:=mG (aR.alloc _) hn
     go_wp2_with (
      at_builtin
      go_must (refine lC qw X _ _ X _ _ _ _ _ zq X [.string x.Z[k].name] jS X eu J J awN ?_)
      intro v2 w2 cA eD cD)
     have av:Below w0.heap.size w0 w2:=lS (B:=w0.heap.size) zq eD bA (by have:=bA.size;omega);exact ⟨⟨k+1,_,J,N',(by rw [YM ap HP.out,List.length_append];exact cA),(by rw [YM ap HP.out];exact cT.UV (rV zM)),av⟩,by simp [intOf];omega⟩
   | false =>
     have HP:=I hp;have OP:=I (show (oH x.Z[k].name x p == 0) = false from hp);clear hp;go_wp2_with fail
     first
      | (refine (Oa x p _ _ _ _ x.Z[k].name _ (aJ h O1) (aJ h' O1) HW.out Uc.out).mono ?_
         rw [OP.out]
         rintro e wn ⟨rfl,hn⟩)
      | (refine aF _ U' U' (aj _) ?_
         repeat ((first | refine aG X ?_ | refine aH _ X Hz ?_);simp only [Act.put,pz])
         refine aN ?_;intro wn hn
         replace hn:=hn.out)
     obtain ⟨jz,kz⟩:=ay hn
     first
      | have jA:wr.heap.size < wn.heap.size:=(sq hn.size)
      | have jA:wr.heap.size≤wn.heap.size:=(sq hn.size)
     have bA:Below w0.heap.size w0 wn:=(by first | exact ah aE hn | exact ah (ak aE _) hn);first | have zq:=mG aR hn | have zq:=mG (aR.alloc _) hn
     go_wp2;exact ⟨⟨k+1,_,J,N',(by rw [abE ap HP.out];exact zq),(by rw [abE ap HP.out];exact cT),bA⟩,by simp [intOf];omega⟩
  ·have bx:k = x.Z.length:=J;subst bx;rw [List.take_length] at aR cT;have bL:Below w.heap.size w wr:=ah jn aE;obtain ⟨Al,cl,Gl,rfl,nr⟩:=am.oJ aR ((aY.br cT (fun b hb=>by cases hb) bL.size)) (fun _ _ hb=>by cases hb);have D6:=LY x p x.Z;clear aR cT;have hK:=(ay aE).1;replace c0:=(hK _ _ cf).trans c0;replace c1:=(hK _ _ cf).trans c1;replace c2:=(hK _ _ cf).trans c2;replace c3:=(hK _ _ cf).trans c3;replace c4:=(hK _ _ cf).trans c4;replace c5:=(hK _ _ cf).trans c5;replace d0:=(hK _ _ cQ).trans d0;replace d1:=(hK _ _ cQ).trans d1;replace d2:=(hK _ _ cQ).trans d2;replace d3:=(hK _ _ cQ).trans d3;replace d4:=(hK _ _ cQ).trans d4;replace d5:=(hK _ _ cQ).trans d5;replace d6:=(hK _ _ cQ).trans d6;clear hK;go_wp2;go_ret
   exact ⟨Al,cl,Gl,rfl,nr.mono J,bL⟩
end Go.Proofs.YtjahcnjmjahbaaaGreat
