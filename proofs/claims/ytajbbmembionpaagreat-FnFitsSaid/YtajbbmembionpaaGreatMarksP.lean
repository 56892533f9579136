/- Marks in plain Lean. No condition. -/
import Derived.Test.YtajbbmembionpaaGreatSoft
namespace Go.Proofs.YtajbbmembionpaaGreat
open Go.ChangeShapes Go.WideShapes Go.ChangeAt Go.RowKit
set_option linter.unusedVariables false
set_option linter.unusedSimpArgs false
set_option maxHeartbeats 4000000
set_option maxRecDepth 100000
def qG (a b:Int):Int:=(GX a b).getD 9223372036854775807
theorem Ru {a b:Int} (ha:bt a) (U:bt b):bt (qG a b):=by
 unfold qG;cases h:GX a b with
 | none=>exact ⟨by show _≤(9223372036854775807:Int);omega,by show (9223372036854775807:Int)≤_;omega⟩
 | some t=>exact K7 h ha U
def OT (nm:ByteArray) (x:aU) (p:nI):Int :=
 if pK (iM nm) x.V < 0 then 0 else
 match vU (F7 nm x.O),x.V[(pK (iM nm) x.V).toNat]? with
 | some (a,b),some h=>(CQ (qG a p.az) h.az+CQ (qG b p.mem) h.mem) / 2
 | _,_=>0
def EF (nm:ByteArray) (x:aU):Int :=
 if pK (iM nm) x.V < 0 then 0 else
 match vU (F7 nm x.O),x.V[(pK (iM nm) x.V).toNat]? with
 | some (a,b),some h=>100 - CQ (F7 nm x.O).length h.ax
 | _,_=>0
theorem amo {nm:ByteArray} {x:aU} {p:nI} (h:pK (iM nm) x.V = -1):OT nm x p = 0:=by unfold OT;rw [h];rfl
theorem agF {nm:ByteArray} {x:aU} {p:nI} (h:vU (F7 nm x.O) = none):OT nm x p = 0:=by unfold OT;rw [h];simp
theorem amq {nm:ByteArray} {x:aU} {p:nI} {k:Nat} {a b:Int} (hk:k < x.V.length) (h:pK (iM nm) x.V = k) (hs:vU (F7 nm x.O) = some (a,b)):OT nm x p = (CQ (qG a p.az) x.V[k].az+CQ (qG b p.mem) x.V[k].mem) / 2:=by
 unfold OT;exact x6
theorem agG {nm:ByteArray} {x:aU} (h:pK (iM nm) x.V = -1):EF nm x = 0:=by unfold EF;rw [h];rfl
theorem abX {nm:ByteArray} {x:aU} (h:vU (F7 nm x.O) = none):EF nm x = 0:=by unfold EF;rw [h];simp
theorem agH {nm:ByteArray} {x:aU} {k:Nat} {a b:Int} (hk:k < x.V.length) (h:pK (iM nm) x.V = k) (hs:vU (F7 nm x.O) = some (a,b)):EF nm x = 100 - CQ (F7 nm x.O).length x.V[k].ax:=by
 unfold EF;exact x6
theorem adO (nm:ByteArray) (x:aU) (p:nI):0≤OT nm x p∧OT nm x p≤100:=by
 unfold OT;split
 ·omega
 ·split
  ·rename_i a b h _ _;have Z:=zJ (qG a p.az) h.az;have h2:=zJ (qG b p.mem) h.mem;omega
  ·omega
theorem ZO (nm:ByteArray) (x:aU):0≤EF nm x∧EF nm x≤100:=by
 unfold EF;split
 ·omega
 ·split
  ·rename_i a b h _ _;have Z:=zJ (F7 nm x.O).length h.ax;omega
  ·omega
theorem Zz (x:aU) (p:nI) (cs ps:List Value) (F G:List Nat) (nm:ByteArray) (w:World) (h:rd w x cs F) (h':rd w p ps G) (hw:(x.wt:Int)≤1048576) (eP:(p.wt:Int)≤1048576) :
 Calls Tryz.prog 100 #[.agg cs.toArray,.string nm,.agg ps.toArray] w fun e w'=>e = .returned (.int .i64 (OT nm x p))∧Below w.heap.size w w':=by
 have gv:x.wt = kL aR.wt x.V+kL ag.wt x.O:=rfl;have cI:(x.V.length:Int)≤1048576:=by have:=gJ aR.wt x.V;omega
 have vk:(x.O.length:Int)≤1048576:=by have:=gJ ag.wt x.O;omega
 have hr:=h;have dd:=h';obtain ⟨bG,bD,fQ,dn,bW,jg,aD,hF,bQ,dM,hnext,aV,aP,aW⟩:=aO hr;obtain ⟨bY,bZ,iq,eU,eX,jV,bg,bn,dK,jU,hG,jW,dA,kQ,lg,lG,iO,bK⟩:=dL dd;subst aD jU;clear hF hG hr dd;rcases yg (iM nm) x.V with hi | ⟨k,hk,hi⟩
 ·have HF:=I (amo (p:=p) hi);have HI:=I hi;clear hi;cases hs:vU (F7 nm x.O) with
  | none =>have HU:=I (AV hs);exact ya
  | some ab =>obtain ⟨a,b⟩:=ab;have HU:=I (AX hs);exact ya
 ·cases hs:vU (F7 nm x.O) with
  | none =>have HF:=I (agF (p:=p) hs);have HI:=I hi;clear hi;have HU:=I (AV hs);exact ya
  | some ab =>
    obtain ⟨a,b⟩:=ab;have dt:=amq (p:=p) hk hi hs;obtain ⟨ha,U⟩:=UD (A:=dn) (c:=bW) dM hs;have HI:=I hi;clear hi;have HU:=I (AX hs);clear hs;have hL:=NK nm x.O;generalize (F7 nm x.O).length = L at dt HU hL;have F0:(L:Int)≤1048576:=J;clear hL;obtain ⟨bh,o,ck,Fk,rfl,o9,hbs,hr,bA,hc⟩:=Sl.get (α:=aR) (A:=bG) (c:=bD) bQ hk;obtain ⟨jM,jO,sN,jE,jF,sO,aD,su,zM,qY,Gt,Gw,xg,qA⟩:=iy hr;subst aD;obtain ⟨q0,q1,q2,q3,q4,q5⟩:=oI 6 hc;clear hc;obtain ⟨S1,hS1⟩:∃S,CQ (qG a p.az) x.V[k].az = S:=⟨_,rfl⟩;obtain ⟨S2,hS2⟩:∃S,CQ (qG b p.mem) x.V[k].mem = S:=⟨_,rfl⟩;have gN:=zJ (qG a p.az) x.V[k].az;have g0:=zJ (qG b p.mem) x.V[k].mem;have oT:=Ru ha kQ;have nE:=Ru U lg;rw [hS1,hS2] at dt;rw [hS1] at gN;rw [hS2] at g0;have HF:=I dt;clear dt;have o0:IntKind.i64.wrap (S1+S2) = S1+S2:=(by rw [IntKind.wrap_i64];omega);have AK:=I (show IntKind.i64.wrap ((S1+S2).tdiv 2) = (S1+S2) / 2 by rw [Int.tdiv_eq_ediv_of_nonneg J,IntKind.wrap_i64];omega);cases he1:GX a p.az with
    | none =>rw [show qG a p.az = 9223372036854775807 by unfold qG;rw [he1];rfl] at hS1 oT;exact ES
    | some s1 =>rw [show qG a p.az = s1 by unfold qG;rw [he1];rfl] at hS1 oT;exact ES
theorem aey (x:aU) (p:nI) (cs ps:List Value) (F G:List Nat) (nm:ByteArray) (w:World) (h:rd w x cs F) (h':rd w p ps G) (hw:(x.wt:Int)≤1048576) (eP:(p.wt:Int)≤1048576) :
 Calls Tryz.prog 101 #[.agg cs.toArray,.string nm,.agg ps.toArray] w fun e w'=>e = .returned (.int .i64 (EF nm x))∧Below w.heap.size w w':=by
 have gv:x.wt = kL aR.wt x.V+kL ag.wt x.O:=rfl;have cI:(x.V.length:Int)≤1048576:=by have:=gJ aR.wt x.V;omega
 have vk:(x.O.length:Int)≤1048576:=by have:=gJ ag.wt x.O;omega
 have hr:=h;have dd:=h';obtain ⟨bG,bD,fQ,dn,bW,jg,aD,hF,bQ,dM,hnext,aV,aP,aW⟩:=aO hr;obtain ⟨bY,bZ,iq,eU,eX,jV,bg,bn,dK,jU,hG,jW,dA,kQ,lg,lG,iO,bK⟩:=dL dd;subst aD jU;clear hF hG hr dd;rcases yg (iM nm) x.V with hi | ⟨k,hk,hi⟩
 ·have HF:=I (agG  hi);have HI:=I hi;clear hi;cases hs:vU (F7 nm x.O) with
  | none =>have HU:=I (AV hs);exact yb
  | some ab =>obtain ⟨a,b⟩:=ab;have HU:=I (AX hs);exact yb
 ·cases hs:vU (F7 nm x.O) with
  | none =>have HF:=I (abX  hs);have HI:=I hi;clear hi;have HU:=I (AV hs);exact yb
  | some ab =>
    obtain ⟨a,b⟩:=ab;have dt:=agH  hk hi hs;obtain ⟨ha,U⟩:=UD (A:=dn) (c:=bW) dM hs;have HI:=I hi;clear hi;have HU:=I (AX hs);clear hs;have hL:=NK nm x.O;generalize (F7 nm x.O).length = L at dt HU hL;have F0:(L:Int)≤1048576:=J;clear hL;obtain ⟨bh,o,ck,Fk,rfl,o9,hbs,hr,bA,hc⟩:=Sl.get (α:=aR) (A:=bG) (c:=bD) bQ hk;obtain ⟨jM,jO,sN,jE,jF,sO,aD,su,zM,qY,Gt,Gw,xg,qA⟩:=iy hr;subst aD;obtain ⟨q0,q1,q2,q3,q4,q5⟩:=oI 6 hc;clear hc;obtain ⟨S1,hS1⟩:∃S,CQ (L:Int) x.V[k].ax = S:=⟨_,rfl⟩;have gN:=zJ (L:Int) x.V[k].ax;rw [hS1] at dt gN;have HF:=I dt;have Me:=I hS1;clear dt hS1;have hLI:bt (L:Int):=(by unfold bt;omega);have o0:IntKind.i64.wrap (100 - S1) = 100 - S1:=(by rw [IntKind.wrap_i64];omega);go_enter Tryz.func101,Tryz.ntmps101;go_wp2_with fail
    refine (gQ x _ _ nm _ (aJ h bL) cI).mono ?_;rw [HI.out];rintro e w2 ⟨rfl,aq⟩;obtain ⟨cj,cN⟩:=ay aq;have cC:w.heap.size < w2.heap.size:=(sq aq.size);have lI:w.heap.size+1 < w2.heap.size:=(sq aq.size);have eS:Below w.heap.size w w2:=bL;go_wp2_with fail
    refine (jm x _ _ nm _ (aJ h bL) vk).mono ?_;rw [HU.out];rintro e w3 ⟨rfl,bd⟩;obtain ⟨dx,hf3⟩:=ay bd;have dm:w.heap.size < w3.heap.size:=(sq bd.size);have vR:w.heap.size+1 < w3.heap.size:=(sq bd.size);have eC:Below w.heap.size w w3:=ah eS bd;replace q0:=r' eC q0 hbs;replace q1:=r' eC q1 hbs;replace q2:=r' eC q2 hbs;replace q3:=r' eC q3 hbs;replace q4:=r' eC q4 hbs;replace q5:=r' eC q5 hbs;have jd:bh < w3.heap.size:=(by have:=eC.size;omega);go_wp2_with fail
    refine (IB _ _ _ Ki Ki).mono ?_;rw [Me.out];rintro e wn ⟨rfl,X⟩;go_wp2;go_ret
    exact ⟨by rw [HF.out];first | rfl | simp,ah eC X⟩
def uH (nm:ByteArray) (x:aU) (p:nI):Int :=
 if zL x.weights.pack x.weights.af x.weights.an = true then x.weights.pack * OT nm x p+x.weights.af * EF nm x+x.weights.an * Rt nm x p else 0
theorem adN (nm:ByteArray) (x:aU) (p:nI):0≤Rt nm x p∧Rt nm x p≤100:=by
 unfold Rt;split
 ·omega
 ·split <;> omega
theorem PX {a b:Int} (ha:0≤a∧a≤10) (U:0≤b∧b≤100):0≤a * b∧a * b≤1000:=by
 refine ⟨Int.mul_nonneg ha.1 U.1,?_⟩;have Z:a * b≤10 * b:=Int.mul_le_mul_of_nonneg_right ha.2 U.1;omega
theorem XO {p s f:Int} (h:zL p s f = true):(0≤p∧p≤10)∧(0≤s∧s≤10)∧(0≤f∧f≤10):=by
 unfold zL at h;exact sT
theorem vY {n:Int} (h:0≤n∧n≤3000):Value.int .i64 (IntKind.i64.wrap n) = Value.int .i64 n:=by
 have e:IntKind.i64.wrap n = n:=by rw [IntKind.wrap_i64];omega
 rw [e]
theorem Kq (x:aU) (p:nI) (cs ps:List Value) (F G:List Nat) (nm:ByteArray) (w:World) (h:rd w x cs F) (h':rd w p ps G) (hw:(x.wt:Int)≤1048576) (eP:(p.wt:Int)≤1048576) :
 Calls Tryz.prog 64 #[.agg cs.toArray,.string nm,.agg ps.toArray] w fun e w'=>e = .returned (.int .i64 (uH nm x p))∧Below w.heap.size w w':=by
 have ZN:=I hw;have Uc:=I eP;clear hw eP;have hr:=h;have dd:=h';obtain ⟨bG,bD,fQ,dn,bW,jg,aD,hF,bQ,dM,hnext,aV,aP,aW⟩:=aO hr;obtain ⟨bY,bZ,iq,eU,eX,jV,bg,bn,dK,jU,hG,jW,dA,kQ,lg,lG,iO,bK⟩:=dL dd;subst aD jU;clear hF hG hr dd;cases hR:zL x.weights.pack x.weights.af x.weights.an with
 | false =>
   have HF:=I (show uH nm x p = 0 by unfold uH;rw [if_neg (by rw [hR];simp)]);have HR:=I hR;clear hR;go_enter Tryz.func64,Tryz.ntmps64;go_wp2_with fail
   refine (pW _ _ _ _).mono ?_;rw [HR.out];rintro e w2 ⟨rfl,aq⟩;exact ej
 | true =>
   have zf:uH nm x p = x.weights.pack * OT nm x p+x.weights.af * EF nm x+x.weights.an * Rt nm x p:=(by unfold uH;rw [if_pos hR]);obtain ⟨g1,g2,g3⟩:=XO hR;have HR:=I hR;clear hR;obtain ⟨S1,hS1⟩:∃S,OT nm x p = S:=⟨_,rfl⟩;obtain ⟨S2,hS2⟩:∃S,EF nm x = S:=⟨_,rfl⟩;obtain ⟨S3,hS3⟩:∃S,Rt nm x p = S:=⟨_,rfl⟩;have r1:=adO nm x p;have r2:=ZO nm x;have r3:=adN nm x p;rw [hS1] at r1 zf;rw [hS2] at r2 zf;rw [hS3] at r3 zf;have m1:=PX g1 r1;have m2:=PX g2 r2;have m3:=PX g3 r3;have e1:=vY (n:=x.weights.pack * S1) J;have e2:=vY (n:=x.weights.af * S2) J;have e3:=vY (n:=x.weights.an * S3) J;have e4:=vY (n:=x.weights.pack * S1+x.weights.af * S2) J;have e5:=vY (n:=x.weights.pack * S1+x.weights.af * S2+x.weights.an * S3) J;have HF:=I zf;have H1:=I hS1;have H2:=I hS2;have H3:=I hS3;clear zf hS1 hS2 hS3 m1 m2 m3;go_enter Tryz.func64,Tryz.ntmps64;go_wp2_with fail
   refine (pW _ _ _ _).mono ?_;rw [HR.out];rintro e w2 ⟨rfl,aq⟩;obtain ⟨cj,cN⟩:=ay aq;have cC:w.heap.size < w2.heap.size:=(sq aq.size);have lI:w.heap.size+1 < w2.heap.size:=(sq aq.size);try (have uE:w.heap.size+1+1 < w2.heap.size:=sq aq.size)
   go_wp2_with fail
   refine aF _ U' U' (aj _) ?_
   repeat (first
    | (apply aG
       case hw=>rfl
       simp only [Act.put,pz])
    | (apply aH
       case hw=>rfl
       case h =>
        intro wq hq;have dE:=(aB hq).1;have lJ:=(aB hq).2;go_simp
        first
         | exact ⟨hq,rfl⟩
         | exact ⟨aQ hq _,rfl⟩
         | (first | (refine (Zz x p _ _ _ _ nm _ (aJ h (ah bL hq)) (aJ h' (ah bL hq)) ZN.out Uc.out).mono ?_;rw [H1.out];rintro e wz ⟨rfl,nV⟩;exact ⟨rfl,aI hq nV⟩) | (refine (aey x p _ _ _ _ nm _ (aJ h (ah bL hq)) (aJ h' (ah bL hq)) ZN.out Uc.out).mono ?_;rw [H2.out];rintro e wz ⟨rfl,nV⟩;exact ⟨rfl,aI hq nV⟩) | (refine (ZI x p _ _ _ _ nm _ (aJ h (ah bL hq)) (aJ h' (ah bL hq)) ZN.out Uc.out).mono ?_;rw [H3.out];rintro e wz ⟨rfl,nV⟩;exact ⟨rfl,aI hq nV⟩))
         | (simp only [↓IntWalk.iteOmega];exact ⟨hq,rfl⟩)
       simp only [Act.put,pz]))
   refine aN ?_;intro wn X;replace X:=X.out;exact sI
def Jo (OJ OK most:Int):Bool:=match GX OJ OK with | some s=>decide (s≤most) | none=>false
def Vm (h:aR) (p:nI) (a b n:Int):Int :=
 if Hw h.labels p.ai = false then 1 else if 0 < (BD p.ae 1 h.aT:Int) then 2
 else if Jo a p.az h.az = false then 3 else if Jo b p.mem h.mem = false then 4 else if h.ax≤n then 5 else 0
def oH (nm:ByteArray) (x:aU) (p:nI):Int :=
 if pK (iM nm) x.V < 0 then 6 else
 match vU (F7 nm x.O),x.V[(pK (iM nm) x.V).toNat]? with
 | some (a,b),some h=>Vm h p a b (F7 nm x.O).length
 | _,_=>6
theorem UB {nm:ByteArray} {x:aU} {p:nI} (h:pK (iM nm) x.V = -1):oH nm x p = 6:=by unfold oH;rw [h];rfl
theorem ON {nm:ByteArray} {x:aU} {p:nI} (h:vU (F7 nm x.O) = none):oH nm x p = 6:=by unfold oH;rw [h];simp
theorem OP {nm:ByteArray} {x:aU} {p:nI} {k:Nat} {a b:Int} (hk:k < x.V.length) (h:pK (iM nm) x.V = k) (hs:vU (F7 nm x.O) = some (a,b)):oH nm x p = Vm x.V[k] p a b (F7 nm x.O).length:=by
 unfold oH;exact x6
theorem Zw (h:aR) (p:nI) (a b n:Int):0≤Vm h p a b n∧Vm h p a b n≤5:=by
 unfold Vm;repeat' split
 all_goals omega
theorem Zo (nm:ByteArray) (x:aU) (p:nI):0≤oH nm x p∧oH nm x p≤6:=by
 unfold oH;split
 ·omega
 ·split
  ·exact ⟨(Zw _ p _ _ _).1,Int.le_trans (Zw _ p _ _ _).2 (by decide)⟩
  ·omega
theorem UC {h:aR} (hw:(h.wt:Int)≤1048576):((h.labels.length:Int)≤1048576)∧((kL iU.wt h.aT:Int)≤1048576):=by
 have gv:h.wt = h.name.size+kL ao.wt h.labels+kL iU.wt h.aT:=rfl;have:=gJ ao.wt h.labels;omega
theorem LZ (a b c:Int) (w:World) (ha:bt a) (U:bt b):Calls Tryz.prog 46 #[.int .i64 a,.int .i64 b,.int .i64 c] w fun e w'=>e = .returned (.bool (Jo a b c))∧Below w.heap.size w w':=by
 cases h:GX a b with
 | none =>have HF:=I (show Jo a b c = false by unfold Jo;rw [h]);exact EX
 | some s =>have HF:=I (show Jo a b c = decide (s≤c) by unfold Jo;rw [h]);exact EX
theorem Tz (x:aU) (p:nI) (cs ps:List Value) (F G:List Nat) (nm:ByteArray) (w:World) (h:rd w x cs F) (h':rd w p ps G) (hw:(x.wt:Int)≤1048576) (eP:(p.wt:Int)≤1048576) :
 Calls Tryz.prog 82 #[.agg cs.toArray,.string nm,.agg ps.toArray] w fun e w'=>e = .returned (.int .i64 (oH nm x p))∧Below w.heap.size w w':=by
 have gv:x.wt = kL aR.wt x.V+kL ag.wt x.O:=rfl;have uM:p.wt = p.name.size+kL ao.wt p.labels+kL aL.wt p.ai+kL bH.wt p.ae:=rfl;have cI:(x.V.length:Int)≤1048576:=by have:=gJ aR.wt x.V;omega
 have vk:(x.O.length:Int)≤1048576:=by have:=gJ ag.wt x.O;omega
 obtain ⟨kF,jz⟩:=FQ (xs:=p.ae) J;obtain ⟨rY,th⟩:=Aa (xs:=p.ai) J;have Ux:=I jz;have FM:=I th;clear jz th;have hr:=h;have dd:=h';obtain ⟨bG,bD,fQ,dn,bW,jg,aD,hF,bQ,dM,hnext,aV,aP,aW⟩:=aO hr;obtain ⟨bY,bZ,iq,eU,eX,jV,bg,bn,dK,jU,hG,jW,dA,kQ,lg,lG,iO,bK⟩:=dL dd;subst aD jU;clear hF hG hr dd;rcases yg (iM nm) x.V with hi | ⟨k,hk,hi⟩
 ·have HF:=I (UB (p:=p) hi);have HI:=I hi;clear hi;cases hs:vU (F7 nm x.O) with
  | none =>have HU:=I (AV hs);exact yc
  | some ab =>obtain ⟨a,b⟩:=ab;have HU:=I (AX hs);exact yc
 ·cases hs:vU (F7 nm x.O) with
  | none =>have HF:=I (ON (p:=p) hs);have HI:=I hi;clear hi;have HU:=I (AV hs);exact yc
  | some ab =>
    obtain ⟨a,b⟩:=ab;have dt:=OP (p:=p) hk hi hs;obtain ⟨ha,U⟩:=UD (A:=dn) (c:=bW) dM hs;have HI:=I hi;clear hi;have HU:=I (AX hs);clear hs;have hL:=NK nm x.O;generalize (F7 nm x.O).length = L at dt HU hL;have F0:(L:Int)≤1048576:=J;clear hL;obtain ⟨Bn,hht⟩:=UC (h:=x.V[k]) (by have:=rM (f:=aR.wt) hk;omega);obtain ⟨mS,hxs⟩:=BH hht;have Hs:=UN p.ae 1 x.V[k].aT;obtain ⟨bh,o,ck,Fk,rfl,o9,hbs,hr,bA,hc⟩:=Sl.get (α:=aR) (A:=bG) (c:=bD) bQ hk;obtain ⟨jM,jO,sN,jE,jF,sO,aD,su,zM,qY,Gt,Gw,xg,qA⟩:=iy hr;subst aD;obtain ⟨q0,q1,q2,q3,q4,q5⟩:=oI 6 hc;clear hc
    have wj:=I (show ∀wq,Below w.heap.size w wq→Calls Tryz.prog 128 #[.slice eU p.ai.length eX,.slice jM x.V[k].labels.length jO] wq fun e w'=>e = .returned (.bool (Hw x.V[k].labels p.ai))∧Below wq.heap.size wq w' from
     fun wq hq=>alb p.ai x.V[k].labels _ _ _ _ _ _ _ _ wq (iO.ext hq) (qY.ext hq) rfl rfl rY Bn FM.out)
    have ve:∀wq,Below w.heap.size w wq→Calls Tryz.prog 129 #[.slice bg p.ae.length bn,.slice jE x.V[k].aT.length jF,.int .i64 1] wq fun e w'=>e = .returned (.int .i64 (BD p.ae 1 x.V[k].aT))∧Below wq.heap.size wq w' :=
     fun wq hq=>UQ p.ae x.V[k].aT 1 _ _ _ _ _ _ _ _ _ (bK.ext hq) (qA.ext hq) rfl rfl kF mS Ux.out hxs
    have ui:=I ve;unfold Vm at dt;clear ve hxs;generalize BD p.ae 1 x.V[k].aT = z at ui dt Hs;have qF:(z:Int)≤1048576:=J;have pE:=I dt;clear dt;have zh:=I (show (x.V.length:Int)≤1048576 from cI);clear hht Bn mS cI;go_enter Tryz.func82,Tryz.ntmps82;go_wp2_with fail
    refine (gQ x _ _ nm _ (aJ h bL) zh.out).mono ?_;rw [HI.out];rintro e w2 ⟨rfl,aq⟩;obtain ⟨cj,cN⟩:=ay aq;have cC:w.heap.size < w2.heap.size:=(sq aq.size);have lI:w.heap.size+1 < w2.heap.size:=(sq aq.size);have eS:Below w.heap.size w w2:=bL;go_wp2_with fail
    refine (jm x _ _ nm _ (aJ h bL) vk).mono ?_;rw [HU.out];rintro e w3 ⟨rfl,bd⟩;obtain ⟨dx,hf3⟩:=ay bd;have dm:w.heap.size < w3.heap.size:=(sq bd.size);have vR:w.heap.size+1 < w3.heap.size:=(sq bd.size);have eC:Below w.heap.size w w3:=ah eS bd;replace q0:=r' eC q0 hbs;replace q1:=r' eC q1 hbs;replace q2:=r' eC q2 hbs;replace q3:=r' eC q3 hbs;replace q4:=r' eC q4 hbs;replace q5:=r' eC q5 hbs;have jd:bh < w3.heap.size:=(by have:=eC.size;omega);cases hS:Hw x.V[k].labels p.ai
    ·exact EL
    ·by_cases hu:(0:Int) < (z:Int)
     ·exact EI
     ·cases he1:GX a p.az with
      | none =>have eT:Jo a p.az x.V[k].az = false:=(by unfold Jo;rw [he1]);exact C0
      | some s1 =>
        by_cases yJ:s1≤x.V[k].az
        ·have eT:Jo a p.az x.V[k].az = true:=(by unfold Jo;rw [he1];simp [yJ]);cases he2:GX b p.mem with
         | none =>have cN:Jo b p.mem x.V[k].mem = false:=(by unfold Jo;rw [he2]);exact Fc
         | some s2 =>
           by_cases hle2:s2≤x.V[k].mem
           ·have cN:Jo b p.mem x.V[k].mem = true:=(by unfold Jo;rw [he2];simp [hle2]);by_cases j0:x.V[k].ax≤(L:Int)
            ·have HF:=I (show oH nm x p = 5 by rw [pE.out,if_neg (by simp [hS]),if_neg hu,if_neg (by simp [eT]),if_neg (by simp [cN]),if_pos j0]);exact wh
            ·have HF:=I (show oH nm x p = 0 by rw [pE.out,if_neg (by simp [hS]),if_neg hu,if_neg (by simp [eT]),if_neg (by simp [cN]),if_neg j0]);exact wh
           ·have cN:Jo b p.mem x.V[k].mem = false:=(by unfold Jo;rw [he2];simp [hle2]);exact Fc
        ·have eT:Jo a p.az x.V[k].az = false:=(by unfold Jo;rw [he1];simp [yJ]);exact C0
theorem NC (x:aU) (p:nI) (cs ps:List Value) (F G:List Nat) (nm:ByteArray) (w:World) (h:rd w x cs F) (h':rd w p ps G) (hw:(x.wt:Int)≤1048576) (eP:(p.wt:Int)≤1048576) :
 Calls Tryz.prog 16 #[.agg cs.toArray,.string nm,.agg ps.toArray] w fun e w'=>e = .returned (.int .i64 (oH nm x p))∧Below w.heap.size w w':=by
 have gv:x.wt = kL aR.wt x.V+kL ag.wt x.O:=rfl;have uM:p.wt = p.name.size+kL ao.wt p.labels+kL aL.wt p.ai+kL bH.wt p.ae:=rfl;have cI:(x.V.length:Int)≤1048576:=by have:=gJ aR.wt x.V;omega
 have vk:(x.O.length:Int)≤1048576:=by have:=gJ ag.wt x.O;omega
 obtain ⟨kF,jz⟩:=FQ (xs:=p.ae) J;obtain ⟨rY,th⟩:=Aa (xs:=p.ai) J;have Ux:=I jz;have FM:=I th;clear jz th;have hr:=h;have dd:=h';obtain ⟨bG,bD,fQ,dn,bW,jg,aD,hF,bQ,dM,hnext,aV,aP,aW⟩:=aO hr;obtain ⟨bY,bZ,iq,eU,eX,jV,bg,bn,dK,jU,hG,jW,dA,kQ,lg,lG,iO,bK⟩:=dL dd;subst aD jU;clear hF hG hr dd;rcases yg (iM nm) x.V with hi | ⟨k,hk,hi⟩
 ·have HF:=I (UB (p:=p) hi);have HI:=I hi;clear hi;cases hs:vU (F7 nm x.O) with
  | none =>have HU:=I (AV hs);exact x7
  | some ab =>obtain ⟨a,b⟩:=ab;have HU:=I (AX hs);exact x7
 ·cases hs:vU (F7 nm x.O) with
  | none =>have HF:=I (ON (p:=p) hs);have HI:=I hi;clear hi;have HU:=I (AV hs);exact x7
  | some ab =>
    obtain ⟨a,b⟩:=ab;have dt:=OP (p:=p) hk hi hs;obtain ⟨ha,U⟩:=UD (A:=dn) (c:=bW) dM hs;have HI:=I hi;clear hi;have HU:=I (AX hs);clear hs;have hL:=NK nm x.O;generalize (F7 nm x.O).length = L at dt HU hL;have F0:(L:Int)≤1048576:=J;clear hL;obtain ⟨Bn,hht⟩:=UC (h:=x.V[k]) (by have:=rM (f:=aR.wt) hk;omega);obtain ⟨mS,hxs⟩:=BH hht;have Hs:=UN p.ae 1 x.V[k].aT;obtain ⟨bh,o,ck,Fk,rfl,o9,hbs,hr,bA,hc⟩:=Sl.get (α:=aR) (A:=bG) (c:=bD) bQ hk;obtain ⟨jM,jO,sN,jE,jF,sO,aD,su,zM,qY,Gt,Gw,xg,qA⟩:=iy hr;subst aD;obtain ⟨q0,q1,q2,q3,q4,q5⟩:=oI 6 hc;clear hc
    have wj:=I (show ∀wq,Below w.heap.size w wq→Calls Tryz.prog 44 #[.slice eU p.ai.length eX,.slice jM x.V[k].labels.length jO] wq fun e w'=>e = .returned (.bool (Hw x.V[k].labels p.ai))∧Below wq.heap.size wq w' from
     fun wq hq=>ala p.ai x.V[k].labels _ _ _ _ _ _ _ _ wq (iO.ext hq) (qY.ext hq) rfl rfl rY Bn FM.out)
    have ve:∀wq,Below w.heap.size w wq→Calls Tryz.prog 45 #[.slice bg p.ae.length bn,.slice jE x.V[k].aT.length jF,.int .i64 1] wq fun e w'=>e = .returned (.int .i64 (BD p.ae 1 x.V[k].aT))∧Below wq.heap.size wq w' :=
     fun wq hq=>UO p.ae x.V[k].aT 1 _ _ _ _ _ _ _ _ _ (bK.ext hq) (qA.ext hq) rfl rfl kF mS Ux.out hxs
    have ui:=I ve;unfold Vm at dt;clear ve hxs;generalize BD p.ae 1 x.V[k].aT = z at ui dt Hs;have qF:(z:Int)≤1048576:=J;have pE:=I dt;clear dt;have zh:=I (show (x.V.length:Int)≤1048576 from cI);clear hht Bn mS cI;go_enter Tryz.func16,Tryz.ntmps16;go_wp2_with fail
    refine (gK x _ _ nm _ (aJ h bL) zh.out).mono ?_;rw [HI.out];rintro e w2 ⟨rfl,aq⟩;obtain ⟨cj,cN⟩:=ay aq;have cC:w.heap.size < w2.heap.size:=(sq aq.size);have lI:w.heap.size+1 < w2.heap.size:=(sq aq.size);have eS:Below w.heap.size w w2:=bL;go_wp2_with fail
    refine (iQ x _ _ nm _ (aJ h bL) vk).mono ?_;rw [HU.out];rintro e w3 ⟨rfl,bd⟩;obtain ⟨dx,hf3⟩:=ay bd;have dm:w.heap.size < w3.heap.size:=(sq bd.size);have vR:w.heap.size+1 < w3.heap.size:=(sq bd.size);have eC:Below w.heap.size w w3:=ah eS bd;replace q0:=r' eC q0 hbs;replace q1:=r' eC q1 hbs;replace q2:=r' eC q2 hbs;replace q3:=r' eC q3 hbs;replace q4:=r' eC q4 hbs;replace q5:=r' eC q5 hbs;have jd:bh < w3.heap.size:=(by have:=eC.size;omega);cases hS:Hw x.V[k].labels p.ai
    ·exact EL
    ·by_cases hu:(0:Int) < (z:Int)
     ·exact EI
     ·cases eT:Jo a p.az x.V[k].az
      ·have HF:=I (show oH nm x p = 3 by rw [pE.out,if_neg (by simp [hS]),if_neg hu,if_pos eT]);have HS:=I hS;clear hS;have H1:=I eT;clear eT;go_wp2_with fail
       refine (wj.out _ bL).mono ?_;rw [HS.out];rintro e w4 ⟨rfl,bw⟩;obtain ⟨fa,hf4⟩:=ay bw;have Wy:w.heap.size < w4.heap.size:=(sq bw.size);have AJ:w.heap.size+1 < w4.heap.size:=(sq bw.size);have Ct:w3.heap.size < w4.heap.size:=(sq bw.size);go_wp2_with fail
       refine (ui.out _ bL).mono ?_;rintro e w5 ⟨rfl,bs⟩;obtain ⟨py,ox⟩:=ay bs;have Es:w.heap.size < w5.heap.size:=(sq bs.size);have IV:w.heap.size+1 < w5.heap.size:=(sq bs.size);have ud:w3.heap.size < w5.heap.size:=(sq bs.size);go_wp2_with fail
       refine (LZ a p.az x.V[k].az _ ha kQ).mono ?_;rw [H1.out];rintro e w6 ⟨rfl,cD⟩;obtain ⟨AI,Xe⟩:=ay cD;have lL:w.heap.size < w6.heap.size:=(sq cD.size);have Mg:w.heap.size+1 < w6.heap.size:=(sq cD.size);have Mh:w3.heap.size < w6.heap.size:=(sq cD.size);exact sI
      ·cases cN:Jo b p.mem x.V[k].mem
       ·have HF:=I (show oH nm x p = 4 by rw [pE.out,if_neg (by simp [hS]),if_neg hu,if_neg (by simp [eT]),if_pos cN]);exact wD
       ·by_cases j0:x.V[k].ax≤(L:Int)
        ·have HF:=I (show oH nm x p = 5 by rw [pE.out,if_neg (by simp [hS]),if_neg hu,if_neg (by simp [eT]),if_neg (by simp [cN]),if_pos j0]);exact wD
        ·have HF:=I (show oH nm x p = 0 by rw [pE.out,if_neg (by simp [hS]),if_neg hu,if_neg (by simp [eT]),if_neg (by simp [cN]),if_neg j0]);exact wD
theorem N9 (x:aU) (p:nI) (cs ps:List Value) (F G:List Nat) (nm:ByteArray) (w:World) (h:rd w x cs F) (h':rd w p ps G) (hw:(x.wt:Int)≤1048576) (eP:(p.wt:Int)≤1048576) :
 Calls Tryz.prog 17 #[.agg cs.toArray,.string nm,.agg ps.toArray] w fun e w'=>e = .returned (.bool (oH nm x p == 0))∧Below w.heap.size w w':=by
 have hr:=h;have dd:=h';obtain ⟨bG,bD,fQ,dn,bW,jg,aD,hF,bQ,dM,hnext,aV,aP,aW⟩:=aO hr;obtain ⟨bY,bZ,iq,eU,eX,jV,bg,bn,dK,jU,hG,jW,dA,kQ,lg,lG,iO,bK⟩:=dL dd;subst aD jU;clear hF hG hr dd;go_enter Tryz.func17,Tryz.ntmps17;go_wp2_with fail
 refine (NC x p _ _ _ _ nm _ (aJ h bL) (aJ h' bL) hw eP).mono ?_;rintro e w2 ⟨rfl,aq⟩;go_wp2;go_ret
 exact ⟨rfl,bL⟩
theorem Oa (x:aU) (p:nI) (cs ps:List Value) (F G:List Nat) (nm:ByteArray) (w:World) (h:rd w x cs F) (h':rd w p ps G) (hw:(x.wt:Int)≤1048576) (eP:(p.wt:Int)≤1048576) :
 Calls Tryz.prog 41 #[.agg cs.toArray,.string nm,.agg ps.toArray] w fun e w'=>e = .returned (.bool (oH nm x p == 0))∧Below w.heap.size w w':=by
 have hr:=h;have dd:=h';obtain ⟨bG,bD,fQ,dn,bW,jg,aD,hF,bQ,dM,hnext,aV,aP,aW⟩:=aO hr;obtain ⟨bY,bZ,iq,eU,eX,jV,bg,bn,dK,jU,hG,jW,dA,kQ,lg,lG,iO,bK⟩:=dL dd;subst aD jU;clear hF hG hr dd;go_enter Tryz.func41,Tryz.ntmps41;go_wp2_with fail
 refine (Tz x p _ _ _ _ nm _ (aJ h bL) (aJ h' bL) hw eP).mono ?_;rintro e w2 ⟨rfl,aq⟩;go_wp2;go_ret
 exact ⟨rfl,bL⟩
end Go.Proofs.YtajbbmembionpaaGreat
