/- MarkOn, of the program and of the reference. No condition. -/
import Derived.Test.YtajbbmembionpaaGreatValsS
import Derived.Test.YtajbbmembionpaaGreatToler
namespace Go.Proofs.YtajbbmembionpaaGreat
open Go.ChangeShapes Go.WideShapes Go.ChangeAt Go.RowKit
set_option linter.unusedVariables false
set_option linter.unusedSimpArgs false
set_option maxHeartbeats 4000000
set_option maxRecDepth 100000
def uH (nm:ByteArray) (x:aU) (p:nI):Int :=
 if zL x.weights.pack x.weights.spread x.weights.soft = true then x.weights.pack * OT nm x p+x.weights.spread * EF nm x+x.weights.soft * Rt nm x p else 0
theorem XR (nm:ByteArray) (x:aU) (p:nI):0≤Rt nm x p∧Rt nm x p≤100:=by
 unfold Rt;split
 ·omega
 ·split <;> omega
theorem PX {a b:Int} (ha:0≤a∧a≤10) (hb:0≤b∧b≤100):0≤a * b∧a * b≤1000:=by
 refine ⟨Int.mul_nonneg ha.1 hb.1,?_⟩;have h1:a * b≤10 * b:=Int.mul_le_mul_of_nonneg_right ha.2 hb.1;omega
theorem XO {p s f:Int} (h:zL p s f = true):(0≤p∧p≤10)∧(0≤s∧s≤10)∧(0≤f∧f≤10):=by
 unfold zL at h;exact uL
theorem vY {n:Int} (h:0≤n∧n≤3000):Value.int .i64 (IntKind.i64.wrap n) = Value.int .i64 n:=by
 have e:IntKind.i64.wrap n = n:=by rw [IntKind.wrap_i64];omega
 rw [e]
theorem XL (x:aU) (p:nI) (cs ps:List Value) (F G:List Nat) (nm:ByteArray) (w:World) (h:rd w x cs F) (h':rd w p ps G) (hw:(x.wt:Int)≤1048576) (eh:(p.wt:Int)≤1048576) :
 Calls Tryz.prog 27 #[.agg cs.toArray,.string nm,.agg ps.toArray] w fun e w'=>e = .returned (.int .i64 (uH nm x p))∧Below w.heap.size w w':=by
 have ZN:=I hw;have Uc:=I eh;clear hw eh;have hr:=h;have cI:=h';obtain ⟨bG,bD,fQ,dn,bW,jg,aw,hF,bQ,dM,hnext,aV,aP,aW⟩:=aO hr;obtain ⟨bY,bZ,iq,eU,eX,jV,bg,bn,dK,jU,hG,jW,dA,kQ,lg,lG,iO,bK⟩:=dL cI;subst aw jU;clear hF hG hr cI;cases hR:zL x.weights.pack x.weights.spread x.weights.soft with
 | false =>
   have HF:=I (show uH nm x p = 0 by unfold uH;rw [if_neg (by rw [hR];simp)]);have HR:=I hR;clear hR;go_enter Tryz.func27,Tryz.ntmps27;go_wp2_with fail
   refine (pU _ _ _ _).mono ?_;rw [HR.out];rintro e w2 ⟨rfl,ap⟩;exact dr
 | true =>
   have qS:uH nm x p = x.weights.pack * OT nm x p+x.weights.spread * EF nm x+x.weights.soft * Rt nm x p:=(by unfold uH;rw [if_pos hR]);obtain ⟨g1,g2,g3⟩:=XO hR;have HR:=I hR;clear hR;obtain ⟨S1,fg⟩:∃S,OT nm x p = S:=⟨_,rfl⟩;obtain ⟨S2,ce⟩:∃S,EF nm x = S:=⟨_,rfl⟩;obtain ⟨S3,dx⟩:∃S,Rt nm x p = S:=⟨_,rfl⟩;have r1:=XF nm x p;have r2:=ZO nm x;have r3:=XR nm x p;rw [fg] at r1 qS;rw [ce] at r2 qS;rw [dx] at r3 qS;have m1:=PX g1 r1;have m2:=PX g2 r2;have m3:=PX g3 r3;have e1:=vY (n:=x.weights.pack * S1) J;have e2:=vY (n:=x.weights.spread * S2) J;have e3:=vY (n:=x.weights.soft * S3) J;have e4:=vY (n:=x.weights.pack * S1+x.weights.spread * S2) J;have e5:=vY (n:=x.weights.pack * S1+x.weights.spread * S2+x.weights.soft * S3) J;have HF:=I qS;have H1:=I fg;have H2:=I ce;have H3:=I dx;clear qS fg ce dx m1 m2 m3;go_enter Tryz.func27,Tryz.ntmps27;go_wp2_with fail
   refine (pU _ _ _ _).mono ?_;rw [HR.out];rintro e w2 ⟨rfl,ap⟩;obtain ⟨bX,cG⟩:=ay ap;have cj:w.heap.size < w2.heap.size:=(sq ap.size);have kn:w.heap.size+1 < w2.heap.size:=(sq ap.size);try (have uT:w.heap.size+1+1 < w2.heap.size:=sq ap.size)
   go_wp2_with fail
   refine aF _ U' U' (aj _) ?_
   repeat (first
    | (apply aG
       case hw=>rfl
       simp only [Act.put,pz])
    | (apply aH
       case hw=>rfl
       case h =>
        intro wq hq;have dC:=(aB hq).1;have lJ:=(aB hq).2;go_simp
        first
         | exact ⟨hq,rfl⟩
         | exact ⟨aQ hq _,rfl⟩
         | (first | (refine (ZA x p _ _ _ _ nm _ (aJ h (ah bx hq)) (aJ h' (ah bx hq)) ZN.out Uc.out).mono ?_;rw [H1.out];rintro e wz ⟨rfl,nV⟩;exact ⟨rfl,aI hq nV⟩) | (refine (aex x p _ _ _ _ nm _ (aJ h (ah bx hq)) (aJ h' (ah bx hq)) ZN.out Uc.out).mono ?_;rw [H2.out];rintro e wz ⟨rfl,nV⟩;exact ⟨rfl,aI hq nV⟩) | (refine (ZJ x p _ _ _ _ nm _ (aJ h (ah bx hq)) (aJ h' (ah bx hq)) ZN.out Uc.out).mono ?_;rw [H3.out];rintro e wz ⟨rfl,nV⟩;exact ⟨rfl,aI hq nV⟩))
         | (simp only [↓IntWalk.iteOmega];exact ⟨hq,rfl⟩)
       simp only [Act.put,pz]))
   refine aN ?_;intro wn hn;replace hn:=hn.out;exact rp
theorem Kq (x:aU) (p:nI) (cs ps:List Value) (F G:List Nat) (nm:ByteArray) (w:World) (h:rd w x cs F) (h':rd w p ps G) (hw:(x.wt:Int)≤1048576) (eh:(p.wt:Int)≤1048576) :
 Calls Tryz.prog 64 #[.agg cs.toArray,.string nm,.agg ps.toArray] w fun e w'=>e = .returned (.int .i64 (uH nm x p))∧Below w.heap.size w w':=by
 have ZN:=I hw;have Uc:=I eh;clear hw eh;have hr:=h;have cI:=h';obtain ⟨bG,bD,fQ,dn,bW,jg,aw,hF,bQ,dM,hnext,aV,aP,aW⟩:=aO hr;obtain ⟨bY,bZ,iq,eU,eX,jV,bg,bn,dK,jU,hG,jW,dA,kQ,lg,lG,iO,bK⟩:=dL cI;subst aw jU;clear hF hG hr cI;cases hR:zL x.weights.pack x.weights.spread x.weights.soft with
 | false =>
   have HF:=I (show uH nm x p = 0 by unfold uH;rw [if_neg (by rw [hR];simp)]);have HR:=I hR;clear hR;go_enter Tryz.func64,Tryz.ntmps64;go_wp2_with fail
   refine (pW _ _ _ _).mono ?_;rw [HR.out];rintro e w2 ⟨rfl,ap⟩;exact dr
 | true =>
   have qS:uH nm x p = x.weights.pack * OT nm x p+x.weights.spread * EF nm x+x.weights.soft * Rt nm x p:=(by unfold uH;rw [if_pos hR]);obtain ⟨g1,g2,g3⟩:=XO hR;have HR:=I hR;clear hR;obtain ⟨S1,fg⟩:∃S,OT nm x p = S:=⟨_,rfl⟩;obtain ⟨S2,ce⟩:∃S,EF nm x = S:=⟨_,rfl⟩;obtain ⟨S3,dx⟩:∃S,Rt nm x p = S:=⟨_,rfl⟩;have r1:=XF nm x p;have r2:=ZO nm x;have r3:=XR nm x p;rw [fg] at r1 qS;rw [ce] at r2 qS;rw [dx] at r3 qS;have m1:=PX g1 r1;have m2:=PX g2 r2;have m3:=PX g3 r3;have e1:=vY (n:=x.weights.pack * S1) J;have e2:=vY (n:=x.weights.spread * S2) J;have e3:=vY (n:=x.weights.soft * S3) J;have e4:=vY (n:=x.weights.pack * S1+x.weights.spread * S2) J;have e5:=vY (n:=x.weights.pack * S1+x.weights.spread * S2+x.weights.soft * S3) J;have HF:=I qS;have H1:=I fg;have H2:=I ce;have H3:=I dx;clear qS fg ce dx m1 m2 m3;go_enter Tryz.func64,Tryz.ntmps64;go_wp2_with fail
   refine (pW _ _ _ _).mono ?_;rw [HR.out];rintro e w2 ⟨rfl,ap⟩;obtain ⟨bX,cG⟩:=ay ap;have cj:w.heap.size < w2.heap.size:=(sq ap.size);have kn:w.heap.size+1 < w2.heap.size:=(sq ap.size);try (have uT:w.heap.size+1+1 < w2.heap.size:=sq ap.size)
   go_wp2_with fail
   refine aF _ U' U' (aj _) ?_
   repeat (first
    | (apply aG
       case hw=>rfl
       simp only [Act.put,pz])
    | (apply aH
       case hw=>rfl
       case h =>
        intro wq hq;have dC:=(aB hq).1;have lJ:=(aB hq).2;go_simp
        first
         | exact ⟨hq,rfl⟩
         | exact ⟨aQ hq _,rfl⟩
         | (first | (refine (Zz x p _ _ _ _ nm _ (aJ h (ah bx hq)) (aJ h' (ah bx hq)) ZN.out Uc.out).mono ?_;rw [H1.out];rintro e wz ⟨rfl,nV⟩;exact ⟨rfl,aI hq nV⟩) | (refine (aey x p _ _ _ _ nm _ (aJ h (ah bx hq)) (aJ h' (ah bx hq)) ZN.out Uc.out).mono ?_;rw [H2.out];rintro e wz ⟨rfl,nV⟩;exact ⟨rfl,aI hq nV⟩) | (refine (ZI x p _ _ _ _ nm _ (aJ h (ah bx hq)) (aJ h' (ah bx hq)) ZN.out Uc.out).mono ?_;rw [H3.out];rintro e wz ⟨rfl,nV⟩;exact ⟨rfl,aI hq nV⟩))
         | (simp only [↓IntWalk.iteOmega];exact ⟨hq,rfl⟩)
       simp only [Act.put,pz]))
   refine aN ?_;intro wn hn;replace hn:=hn.out;exact rp
def oe (x:aD):aD:=⟨x.key,x.op,gH x.values⟩
def AU (xs:List aD):Bool:=xs.all fun x=>decide (x.values.length≤40)
def kB (xs:List aD):List aD:=ep nD [] (xs.map oe)
def kd (xs:List aD):List aD × Bool:=if xs.length≤40∧AU xs = true∧od (kB xs) = true then (kB xs,true) else (xs,false)
theorem ayR {xs:List aD} (h:¬xs.length≤40):kd xs = (xs,false):=if_neg fun hh=>h hh.1
theorem ayS {xs:List aD} (h:AU xs = false):kd xs = (xs,false):=if_neg fun hh=>by rw [h] at hh;cases hh.2.1
theorem az3 {xs:List aD} (h:xs.length≤40) (h1:AU xs = true) (h2:od (kB xs) = true):kd xs = (kB xs,true):=if_pos ⟨h,h1,h2⟩
theorem aAv {xs:List aD} (h2:od (kB xs) = false):kd xs = (xs,false):=if_neg fun hh=>by rw [h2] at hh;cases hh.2.2
theorem Ww {xs:List aD} {z:aD} (h:z∈kB xs):∃x∈xs,z = oe x:=by
 rcases (DH (lt:=nD) aDI z (xs.map oe) []).1 h with h | h
 ·cases h
 ·obtain ⟨x,hx,rfl⟩:=List.mem_map.1 h;exact ⟨x,hx,rfl⟩
theorem aDu (xs:List aD):(kB xs).length≤xs.length:=by have:=xL nD (xs.map oe) [];unfold kB;simpa using this
theorem aF2 (x:aD):(oe x).wt≤x.wt:=by have:=Wt x.values;unfold oe aD.wt C5;dsimp only;omega
theorem Wz {α:Type} {f:α→Nat} {g:α→α} (h:∀x,f (g x)≤f x):∀xs:List α,((xs.map g).map f).sum≤(xs.map f).sum
 | []=>Nat.le_refl _
 | x :: xs=>by have h1:=h x;have h2:=Wz h xs;simp only [List.map_cons,List.sum_cons];omega
theorem aAu (xs:List aD):kL aD.wt (kd xs).1≤kL aD.wt xs:=by
 have h:=DJ aD.wt nD (xs.map oe) [];have hl:=xL nD (xs.map oe) [];have hm:=Wz aF2 xs;unfold kd kL;split
 ·dsimp only;simp only [List.map_nil,List.sum_nil,List.length_nil,List.length_map] at h hl;unfold kB;omega
 ·exact Nat.le_refl _
theorem aEp {xs:List aD} (h:AU xs = true) {x:aD} (hx:x∈xs):x.values.length≤40:=by
 have:=List.all_eq_true.1 h x hx;simpa using this
theorem aDv {xs:List aD} {x:aD} (hx:x∈xs) (h:¬x.values.length≤40):AU xs = false:=by
 cases hh:AU xs with
 | false=>rfl
 | true=>exact absurd (aEp hh hx) h
theorem aDw {xs:List aD} (h:∀j (hj:j < xs.length),xs[j].values.length≤40):AU xs = true:=by
 refine List.all_eq_true.2 fun x hx=>?_;obtain ⟨j,hj,rfl⟩:=List.getElem_of_mem hx;simpa using h j hj
theorem P3 {x:aD} (h:x.wt≤1048576):((oe x).key.size:Int)≤1048576∧((oe x).values.length:Int)≤1048576∧(∀v∈(oe x).values,(v.size:Int)≤1048576):=by
 have h2:aD.wt x = x.key.size+kL ByteArray.size x.values:=rfl;have h3:=gJ ByteArray.size x.values;have h4:=Wq x.values;refine ⟨?_,?_,fun v hv=>?_⟩
 ·show (x.key.size:Int)≤_;omega
 ·show ((gH x.values).length:Int)≤_;omega
 ·have:=Bq (f:=ByteArray.size) (Wr hv);omega
def Jo (used more most:Int):Bool:=match GX used more with | some s=>decide (s≤most) | none=>false
def Vm (h:aM) (p:nI) (a b n:Int):Int :=
 if Hw h.labels p.ag = false then 1 else if 0 < (BD p.ae 1 h.aT:Int) then 2
 else if Jo a p.av h.av = false then 3 else if Jo b p.mem h.mem = false then 4 else if h.slots≤n then 5 else 0
def oH (nm:ByteArray) (x:aU) (p:nI):Int :=
 if pK (iM nm) x.aa < 0 then 6 else
 match vU (F7 nm x.au),x.aa[(pK (iM nm) x.aa).toNat]? with
 | some (a,b),some h=>Vm h p a b (F7 nm x.au).length
 | _,_=>6
theorem XZ {nm:ByteArray} {x:aU} {p:nI} (h:pK (iM nm) x.aa = -1):oH nm x p = 6:=by unfold oH;rw [h];rfl
theorem Q3 {nm:ByteArray} {x:aU} {p:nI} (h:vU (F7 nm x.au) = none):oH nm x p = 6:=by unfold oH;rw [h];simp
theorem Q4 {nm:ByteArray} {x:aU} {p:nI} {k:Nat} {a b:Int} (hk:k < x.aa.length) (h:pK (iM nm) x.aa = k) (hs:vU (F7 nm x.au) = some (a,b)):oH nm x p = Vm x.aa[k] p a b (F7 nm x.au).length:=by
 unfold oH;exact zF
theorem X9 {h:aM} (hw:(h.wt:Int)≤1048576):((h.labels.length:Int)≤1048576)∧((kL iU.wt h.aT:Int)≤1048576):=by
 have gE:h.wt = h.name.size+kL ao.wt h.labels+kL iU.wt h.aT:=rfl;have:=gJ ao.wt h.labels;omega
theorem LZ (a b c:Int) (w:World) (ha:bp a) (hb:bp b):Calls Tryz.prog 46 #[.int .i64 a,.int .i64 b,.int .i64 c] w fun e w'=>e = .returned (.bool (Jo a b c))∧Below w.heap.size w w':=by
 cases h:GX a b with
 | none =>have HF:=I (show Jo a b c = false by unfold Jo;rw [h]);have HA:=I h;go_enter Tryz.func46,Tryz.ntmps46;exact uQ
 | some s =>have HF:=I (show Jo a b c = decide (s≤c) by unfold Jo;rw [h]);have HA:=I h;go_enter Tryz.func46,Tryz.ntmps46;exact uQ
theorem Tz (x:aU) (p:nI) (cs ps:List Value) (F G:List Nat) (nm:ByteArray) (w:World) (h:rd w x cs F) (h':rd w p ps G) (hw:(x.wt:Int)≤1048576) (eh:(p.wt:Int)≤1048576) :
 Calls Tryz.prog 82 #[.agg cs.toArray,.string nm,.agg ps.toArray] w fun e w'=>e = .returned (.int .i64 (oH nm x p))∧Below w.heap.size w w':=by
 have gE:x.wt = kL aM.wt x.aa+kL af.wt x.au:=rfl;have vd:p.wt = p.name.size+kL ao.wt p.labels+kL aD.wt p.ag+kL bH.wt p.ae:=rfl;have bR:(x.aa.length:Int)≤1048576:=by have:=gJ aM.wt x.aa;omega
 have vk:(x.au.length:Int)≤1048576:=by have:=gJ af.wt x.au;omega
 obtain ⟨kw,i6⟩:=FQ (xs:=p.ae) J;obtain ⟨tF,uZ⟩:=Aa (xs:=p.ag) J;have Ux:=I i6;have I1:=I uZ;clear i6 uZ;have hr:=h;have cI:=h';obtain ⟨bG,bD,fQ,dn,bW,jg,aw,hF,bQ,dM,hnext,aV,aP,aW⟩:=aO hr;obtain ⟨bY,bZ,iq,eU,eX,jV,bg,bn,dK,jU,hG,jW,dA,kQ,lg,lG,iO,bK⟩:=dL cI;subst aw jU;clear hF hG hr cI;rcases yg (iM nm) x.aa with hi | ⟨k,hk,hi⟩
 ·have HF:=I (XZ (p:=p) hi);have HI:=I hi;clear hi;cases hs:vU (F7 nm x.au) with
  | none =>have HU:=I (AV hs);exact zV
  | some ab =>obtain ⟨a,b⟩:=ab;have HU:=I (AX hs);exact zV
 ·cases hs:vU (F7 nm x.au) with
  | none =>have HF:=I (Q3 (p:=p) hs);have HI:=I hi;clear hi;have HU:=I (AV hs);exact zV
  | some ab =>
    obtain ⟨a,b⟩:=ab;have cQ:=Q4 (p:=p) hk hi hs;obtain ⟨ha,hb⟩:=UD (A:=dn) (c:=bW) dM hs;have HI:=I hi;clear hi;have HU:=I (AX hs);clear hs;have hL:=NK nm x.au;generalize (F7 nm x.au).length = L at cQ HU hL;have AI:(L:Int)≤1048576:=J;clear hL;obtain ⟨xN,hht⟩:=X9 (h:=x.aa[k]) (by have:=rM (f:=aM.wt) hk;omega);obtain ⟨mN,hxs⟩:=BH hht;have Bp:=UN p.ae 1 x.aa[k].aT;obtain ⟨bh,o,ck,Fk,rfl,o9,bc,hr,bv,hc⟩:=Sl.get (α:=aM) (A:=bG) (c:=bD) bQ hk;obtain ⟨jM,jO,sN,jE,jF,sO,aw,su,zM,qY,Gt,Gw,xg,qA⟩:=iy hr;subst aw;obtain ⟨q0,q1,q2,q3,q4,q5⟩:=nU 6 hc;clear hc
    have yb:=I (show ∀wq,Below w.heap.size w wq→Calls Tryz.prog 128 #[.slice eU p.ag.length eX,.slice jM x.aa[k].labels.length jO] wq fun e w'=>e = .returned (.bool (Hw x.aa[k].labels p.ag))∧Below wq.heap.size wq w' from
     fun wq hq=>alb p.ag x.aa[k].labels _ _ _ _ _ _ _ _ wq (iO.ext hq) (qY.ext hq) rfl rfl tF xN I1.out)
    have sA:∀wq,Below w.heap.size w wq→Calls Tryz.prog 129 #[.slice bg p.ae.length bn,.slice jE x.aa[k].aT.length jF,.int .i64 1] wq fun e w'=>e = .returned (.int .i64 (BD p.ae 1 x.aa[k].aT))∧Below wq.heap.size wq w' :=
     fun wq hq=>UQ p.ae x.aa[k].aT 1 _ _ _ _ _ _ _ _ _ (bK.ext hq) (qA.ext hq) rfl rfl kw mN Ux.out hxs
    have vN:=I sA;unfold Vm at cQ;clear sA hxs;generalize BD p.ae 1 x.aa[k].aT = z at vN cQ Bp;have qR:(z:Int)≤1048576:=J;have rj:=I cQ;clear cQ;have sB:=I (show (x.aa.length:Int)≤1048576 from bR);clear hht xN mN bR;go_enter Tryz.func82,Tryz.ntmps82;go_wp2_with fail
    refine (gQ x _ _ nm _ (aJ h bx) sB.out).mono ?_;rw [HI.out];rintro e w2 ⟨rfl,ap⟩;obtain ⟨bX,cG⟩:=ay ap;have cj:w.heap.size < w2.heap.size:=(sq ap.size);have kn:w.heap.size+1 < w2.heap.size:=(sq ap.size);have eg:Below w.heap.size w w2:=bx;go_wp2_with fail
    refine (jm x _ _ nm _ (aJ h bx) vk).mono ?_;rw [HU.out];rintro e w3 ⟨rfl,aR⟩;obtain ⟨dk,hf3⟩:=ay aR;have cW:w.heap.size < w3.heap.size:=(sq aR.size);have uc:w.heap.size+1 < w3.heap.size:=(sq aR.size);have di:Below w.heap.size w w3:=ah eg aR;replace q0:=r' di q0 bc;replace q1:=r' di q1 bc;replace q2:=r' di q2 bc;replace q3:=r' di q3 bc;replace q4:=r' di q4 bc;replace q5:=r' di q5 bc;have jd:bh < w3.heap.size:=(by have:=di.size;omega);cases hS:Hw x.aa[k].labels p.ag
    ·exact Hv
    ·by_cases hu:(0:Int) < (z:Int)
     ·exact Hu
     ·cases he1:GX a p.av with
      | none =>have eS:Jo a p.av x.aa[k].av = false:=(by unfold Jo;rw [he1]);exact EQ
      | some s1 =>
        by_cases AH:s1≤x.aa[k].av
        ·have eS:Jo a p.av x.aa[k].av = true:=(by unfold Jo;rw [he1];simp [AH]);cases he2:GX b p.mem with
         | none =>have cG:Jo b p.mem x.aa[k].mem = false:=(by unfold Jo;rw [he2]);exact Iv
         | some s2 =>
           by_cases hle2:s2≤x.aa[k].mem
           ·have cG:Jo b p.mem x.aa[k].mem = true:=(by unfold Jo;rw [he2];simp [hle2]);by_cases ju:x.aa[k].slots≤(L:Int)
            ·have HF:=I (show oH nm x p = 5 by rw [rj.out,if_neg (by simp [hS]),if_neg hu,if_neg (by simp [eS]),if_neg (by simp [cG]),if_pos ju]);exact ya
            ·have HF:=I (show oH nm x p = 0 by rw [rj.out,if_neg (by simp [hS]),if_neg hu,if_neg (by simp [eS]),if_neg (by simp [cG]),if_neg ju]);exact ya
           ·have cG:Jo b p.mem x.aa[k].mem = false:=(by unfold Jo;rw [he2];simp [hle2]);exact Iv
        ·have eS:Jo a p.av x.aa[k].av = false:=(by unfold Jo;rw [he1];simp [AH]);exact EQ
theorem NC (x:aU) (p:nI) (cs ps:List Value) (F G:List Nat) (nm:ByteArray) (w:World) (h:rd w x cs F) (h':rd w p ps G) (hw:(x.wt:Int)≤1048576) (eh:(p.wt:Int)≤1048576) :
 Calls Tryz.prog 16 #[.agg cs.toArray,.string nm,.agg ps.toArray] w fun e w'=>e = .returned (.int .i64 (oH nm x p))∧Below w.heap.size w w':=by
 have gE:x.wt = kL aM.wt x.aa+kL af.wt x.au:=rfl;have vd:p.wt = p.name.size+kL ao.wt p.labels+kL aD.wt p.ag+kL bH.wt p.ae:=rfl;have bR:(x.aa.length:Int)≤1048576:=by have:=gJ aM.wt x.aa;omega
 have vk:(x.au.length:Int)≤1048576:=by have:=gJ af.wt x.au;omega
 obtain ⟨kw,i6⟩:=FQ (xs:=p.ae) J;obtain ⟨tF,uZ⟩:=Aa (xs:=p.ag) J;have Ux:=I i6;have I1:=I uZ;clear i6 uZ;have hr:=h;have cI:=h';obtain ⟨bG,bD,fQ,dn,bW,jg,aw,hF,bQ,dM,hnext,aV,aP,aW⟩:=aO hr;obtain ⟨bY,bZ,iq,eU,eX,jV,bg,bn,dK,jU,hG,jW,dA,kQ,lg,lG,iO,bK⟩:=dL cI;subst aw jU;clear hF hG hr cI;rcases yg (iM nm) x.aa with hi | ⟨k,hk,hi⟩
 ·have HF:=I (XZ (p:=p) hi);have HI:=I hi;clear hi;cases hs:vU (F7 nm x.au) with
  | none =>have HU:=I (AV hs);exact zR
  | some ab =>obtain ⟨a,b⟩:=ab;have HU:=I (AX hs);exact zR
 ·cases hs:vU (F7 nm x.au) with
  | none =>have HF:=I (Q3 (p:=p) hs);have HI:=I hi;clear hi;have HU:=I (AV hs);exact zR
  | some ab =>
    obtain ⟨a,b⟩:=ab;have cQ:=Q4 (p:=p) hk hi hs;obtain ⟨ha,hb⟩:=UD (A:=dn) (c:=bW) dM hs;have HI:=I hi;clear hi;have HU:=I (AX hs);clear hs;have hL:=NK nm x.au;generalize (F7 nm x.au).length = L at cQ HU hL;have AI:(L:Int)≤1048576:=J;clear hL;obtain ⟨xN,hht⟩:=X9 (h:=x.aa[k]) (by have:=rM (f:=aM.wt) hk;omega);obtain ⟨mN,hxs⟩:=BH hht;have Bp:=UN p.ae 1 x.aa[k].aT;obtain ⟨bh,o,ck,Fk,rfl,o9,bc,hr,bv,hc⟩:=Sl.get (α:=aM) (A:=bG) (c:=bD) bQ hk;obtain ⟨jM,jO,sN,jE,jF,sO,aw,su,zM,qY,Gt,Gw,xg,qA⟩:=iy hr;subst aw;obtain ⟨q0,q1,q2,q3,q4,q5⟩:=nU 6 hc;clear hc
    have yb:=I (show ∀wq,Below w.heap.size w wq→Calls Tryz.prog 44 #[.slice eU p.ag.length eX,.slice jM x.aa[k].labels.length jO] wq fun e w'=>e = .returned (.bool (Hw x.aa[k].labels p.ag))∧Below wq.heap.size wq w' from
     fun wq hq=>ala p.ag x.aa[k].labels _ _ _ _ _ _ _ _ wq (iO.ext hq) (qY.ext hq) rfl rfl tF xN I1.out)
    have sA:∀wq,Below w.heap.size w wq→Calls Tryz.prog 45 #[.slice bg p.ae.length bn,.slice jE x.aa[k].aT.length jF,.int .i64 1] wq fun e w'=>e = .returned (.int .i64 (BD p.ae 1 x.aa[k].aT))∧Below wq.heap.size wq w' :=
     fun wq hq=>UO p.ae x.aa[k].aT 1 _ _ _ _ _ _ _ _ _ (bK.ext hq) (qA.ext hq) rfl rfl kw mN Ux.out hxs
    have vN:=I sA;unfold Vm at cQ;clear sA hxs;generalize BD p.ae 1 x.aa[k].aT = z at vN cQ Bp;have qR:(z:Int)≤1048576:=J;have rj:=I cQ;clear cQ;have sB:=I (show (x.aa.length:Int)≤1048576 from bR);clear hht xN mN bR;go_enter Tryz.func16,Tryz.ntmps16;go_wp2_with fail
    refine (gK x _ _ nm _ (aJ h bx) sB.out).mono ?_;rw [HI.out];rintro e w2 ⟨rfl,ap⟩;obtain ⟨bX,cG⟩:=ay ap;have cj:w.heap.size < w2.heap.size:=(sq ap.size);have kn:w.heap.size+1 < w2.heap.size:=(sq ap.size);have eg:Below w.heap.size w w2:=bx;go_wp2_with fail
    refine (iQ x _ _ nm _ (aJ h bx) vk).mono ?_;rw [HU.out];rintro e w3 ⟨rfl,aR⟩;obtain ⟨dk,hf3⟩:=ay aR;have cW:w.heap.size < w3.heap.size:=(sq aR.size);have uc:w.heap.size+1 < w3.heap.size:=(sq aR.size);have di:Below w.heap.size w w3:=ah eg aR;replace q0:=r' di q0 bc;replace q1:=r' di q1 bc;replace q2:=r' di q2 bc;replace q3:=r' di q3 bc;replace q4:=r' di q4 bc;replace q5:=r' di q5 bc;have jd:bh < w3.heap.size:=(by have:=di.size;omega);cases hS:Hw x.aa[k].labels p.ag
    ·exact Hv
    ·by_cases hu:(0:Int) < (z:Int)
     ·exact Hu
     ·cases eS:Jo a p.av x.aa[k].av
      ·have HF:=I (show oH nm x p = 3 by rw [rj.out,if_neg (by simp [hS]),if_neg hu,if_pos eS]);have HS:=I hS;clear hS;have H1:=I eS;clear eS;go_wp2_with fail
       refine (yb.out _ bx).mono ?_;rw [HS.out];rintro e w4 ⟨rfl,bu⟩;obtain ⟨fh,hf4⟩:=ay bu;have Wy:w.heap.size < w4.heap.size:=(sq bu.size);have CL:w.heap.size+1 < w4.heap.size:=(sq bu.size);have Eg:w3.heap.size < w4.heap.size:=(sq bu.size);go_wp2_with fail
       refine (vN.out _ bx).mono ?_;rintro e w5 ⟨rfl,br⟩;obtain ⟨qX,pr⟩:=ay br;have Es:w.heap.size < w5.heap.size:=(sq br.size);have IV:w.heap.size+1 < w5.heap.size:=(sq br.size);have vL:w3.heap.size < w5.heap.size:=(sq br.size);go_wp2_with fail
       refine (LZ a p.av x.aa[k].av _ ha kQ).mono ?_;rw [H1.out];rintro e w6 ⟨rfl,cw⟩;obtain ⟨CI,Xe⟩:=ay cw;have mu:w.heap.size < w6.heap.size:=(sq cw.size);have N1:w.heap.size+1 < w6.heap.size:=(sq cw.size);have N2:w3.heap.size < w6.heap.size:=(sq cw.size);exact rp
      ·cases cG:Jo b p.mem x.aa[k].mem
       ·have HF:=I (show oH nm x p = 4 by rw [rj.out,if_neg (by simp [hS]),if_neg hu,if_neg (by simp [eS]),if_pos cG]);exact yh
       ·by_cases ju:x.aa[k].slots≤(L:Int)
        ·have HF:=I (show oH nm x p = 5 by rw [rj.out,if_neg (by simp [hS]),if_neg hu,if_neg (by simp [eS]),if_neg (by simp [cG]),if_pos ju]);exact yh
        ·have HF:=I (show oH nm x p = 0 by rw [rj.out,if_neg (by simp [hS]),if_neg hu,if_neg (by simp [eS]),if_neg (by simp [cG]),if_neg ju]);exact yh
theorem N9 (x:aU) (p:nI) (cs ps:List Value) (F G:List Nat) (nm:ByteArray) (w:World) (h:rd w x cs F) (h':rd w p ps G) (hw:(x.wt:Int)≤1048576) (eh:(p.wt:Int)≤1048576) :
 Calls Tryz.prog 17 #[.agg cs.toArray,.string nm,.agg ps.toArray] w fun e w'=>e = .returned (.bool (oH nm x p == 0))∧Below w.heap.size w w':=by
 have hr:=h;have cI:=h';obtain ⟨bG,bD,fQ,dn,bW,jg,aw,hF,bQ,dM,hnext,aV,aP,aW⟩:=aO hr;obtain ⟨bY,bZ,iq,eU,eX,jV,bg,bn,dK,jU,hG,jW,dA,kQ,lg,lG,iO,bK⟩:=dL cI;subst aw jU;clear hF hG hr cI;go_enter Tryz.func17,Tryz.ntmps17;go_wp2_with fail
 refine (NC x p _ _ _ _ nm _ (aJ h bx) (aJ h' bx) hw eh).mono ?_;rintro e w2 ⟨rfl,ap⟩;go_wp2;go_ret
 exact ⟨rfl,bx⟩
theorem Oa (x:aU) (p:nI) (cs ps:List Value) (F G:List Nat) (nm:ByteArray) (w:World) (h:rd w x cs F) (h':rd w p ps G) (hw:(x.wt:Int)≤1048576) (eh:(p.wt:Int)≤1048576) :
 Calls Tryz.prog 41 #[.agg cs.toArray,.string nm,.agg ps.toArray] w fun e w'=>e = .returned (.bool (oH nm x p == 0))∧Below w.heap.size w w':=by
 have hr:=h;have cI:=h';obtain ⟨bG,bD,fQ,dn,bW,jg,aw,hF,bQ,dM,hnext,aV,aP,aW⟩:=aO hr;obtain ⟨bY,bZ,iq,eU,eX,jV,bg,bn,dK,jU,hG,jW,dA,kQ,lg,lG,iO,bK⟩:=dL cI;subst aw jU;clear hF hG hr cI;go_enter Tryz.func41,Tryz.ntmps41;go_wp2_with fail
 refine (Tz x p _ _ _ _ nm _ (aJ h bx) (aJ h' bx) hw eh).mono ?_;rintro e w2 ⟨rfl,ap⟩;go_wp2;go_ret
 exact ⟨rfl,bx⟩
def Dr (x:aU) (p:nI) (h:aM):Bool:=oH h.name x p == 0
def Ar (x:aU) (p:nI) (hs:List aM):List ByteArray:=(hs.filter (Dr x p)).map aM.name
theorem YM {x:aU} {p:nI} {hs:List aM} {k:Nat} (h:k < hs.length) (hp:Dr x p hs[k] = true):Ar x p (hs.take (k+1)) = Ar x p (hs.take k)++[hs[k].name]:=by
 unfold Ar;rw [List.take_succ_eq_append_getElem h,List.filter_append,List.map_append];simp [hp]
theorem TZ {x:aU} {p:nI} {hs:List aM} {k:Nat} (h:k < hs.length) (hp:Dr x p hs[k] = false):Ar x p (hs.take (k+1)) = Ar x p (hs.take k):=by
 unfold Ar;rw [List.take_succ_eq_append_getElem h,List.filter_append,List.map_append];simp [hp]
theorem LY (x:aU) (p:nI) (hs:List aM):(Ar x p hs).length≤hs.length:=by unfold Ar;rw [List.length_map];exact List.length_filter_le _ _
theorem X' (x:aU) (p:nI) (hs:List aM) (k:Nat):(Ar x p (hs.take k)).length≤k:=Nat.le_trans (LY _ _ _) OR
theorem aY.Oh {w:World} {B:Nat} {xs:List ByteArray} {ds:List Value} {s:ByteArray} (h:aY w B xs ds []) (hs:(s.size:Int)≤9223372036854775807):aY w B (xs++[s]) (ds++[.string s]) [] :=
 ⟨h.rd.append (.single (rdStr w s hs)),List.nodup_nil,(fun b hb=>by cases hb),(fun b hb=>by cases hb)⟩
theorem Zu (x:aU) (p:nI) (cs ps:List Value) (F G:List Nat) (w:World) (h:rd w x cs F) (h':rd w p ps G) (hw:(x.wt:Int)≤1048576) (eh:(p.wt:Int)≤1048576) :
 Calls Tryz.prog 11 #[.agg cs.toArray,.agg ps.toArray] w fun e w'=>∃A c G,e = .returned (.slice A (Ar x p x.aa).length c)∧am w' w.heap.size (Ar x p x.aa) [.slice A (Ar x p x.aa).length c] G∧Below w.heap.size w w':=by
 have gE:x.wt = kL aM.wt x.aa+kL af.wt x.au:=rfl;have bR:(x.aa.length:Int)≤1048576:=by have:=gJ aM.wt x.aa;omega
 have HW:=I hw;have Uc:=I eh;clear hw eh gE;have hr:=h;have cI:=h';obtain ⟨bG,bD,fQ,dn,bW,jg,aw,hF,bQ,dM,hnext,aV,aP,aW⟩:=aO hr;obtain ⟨bY,bZ,iq,eU,eX,jV,bg,bn,dK,jU,hG,jW,dA,kQ,lg,lG,iO,bK⟩:=dL cI;subst aw jU;clear hF hG hr cI;go_enter Tryz.func11,Tryz.ntmps11;go_wp2_with fail
 obtain ⟨w0,hw0⟩:∃w0,(w.alloc (.cells #[.slice bG x.aa.length bD,.slice dn x.au.length bW,.int .i64 x.next,.int .i64 x.weights.pack,.int .i64 x.weights.spread,.int .i64 x.weights.soft] 29)).alloc (.cells #[.string p.name,.slice bY p.labels.length bZ,.int .i64 p.av,.int .i64 p.mem,.int .i64 p.ar,.slice eU p.ag.length eX,.slice bg p.ae.length bn] 35) = w0:=⟨_,rfl⟩;try rw [hw0]
 have c0:w0.cell? ⟨w.heap.size,0,none⟩ = some (.slice bG x.aa.length bD):=by rw [← hw0,World.cell?_of_block (heap_alloc_old _ _ S'),cell_of_row _ _ _ _ _ _ (heap_alloc_new w _)];rfl
 have c1:w0.cell? ⟨w.heap.size,1,none⟩ = some (.slice dn x.au.length bW):=by rw [← hw0,World.cell?_of_block (heap_alloc_old _ _ S'),cell_of_row _ _ _ _ _ _ (heap_alloc_new w _)];rfl
 have c2:w0.cell? ⟨w.heap.size,2,none⟩ = some (.int .i64 x.next):=by rw [← hw0,World.cell?_of_block (heap_alloc_old _ _ S'),cell_of_row _ _ _ _ _ _ (heap_alloc_new w _)];rfl
 have c3:w0.cell? ⟨w.heap.size,3,none⟩ = some (.int .i64 x.weights.pack):=by rw [← hw0,World.cell?_of_block (heap_alloc_old _ _ S'),cell_of_row _ _ _ _ _ _ (heap_alloc_new w _)];rfl
 have c4:w0.cell? ⟨w.heap.size,4,none⟩ = some (.int .i64 x.weights.spread):=by rw [← hw0,World.cell?_of_block (heap_alloc_old _ _ S'),cell_of_row _ _ _ _ _ _ (heap_alloc_new w _)];rfl
 have c5:w0.cell? ⟨w.heap.size,5,none⟩ = some (.int .i64 x.weights.soft):=by rw [← hw0,World.cell?_of_block (heap_alloc_old _ _ S'),cell_of_row _ _ _ _ _ _ (heap_alloc_new w _)];rfl
 have d0:w0.cell? ⟨w.heap.size+1,0,none⟩ = some (.string p.name):=by rw [← hw0];simp
 have d1:w0.cell? ⟨w.heap.size+1,1,none⟩ = some (.slice bY p.labels.length bZ):=by rw [← hw0];simp
 have d2:w0.cell? ⟨w.heap.size+1,2,none⟩ = some (.int .i64 p.av):=by rw [← hw0];simp
 have d3:w0.cell? ⟨w.heap.size+1,3,none⟩ = some (.int .i64 p.mem):=by rw [← hw0];simp
 have d4:w0.cell? ⟨w.heap.size+1,4,none⟩ = some (.int .i64 p.ar):=by rw [← hw0];simp
 have d5:w0.cell? ⟨w.heap.size+1,5,none⟩ = some (.slice eU p.ag.length eX):=by rw [← hw0];simp
 have d6:w0.cell? ⟨w.heap.size+1,6,none⟩ = some (.slice bg p.ae.length bn):=by rw [← hw0];simp
 have l6:Below w.heap.size w w0:=by rw [← hw0];exact ak (ak (aj _) _) _
 have gR:w0.heap.size = w.heap.size+1+1:=by rw [← hw0];simp
 have cL:w.heap.size < w0.heap.size:=by omega
 have cg:w.heap.size+1 < w0.heap.size:=by omega
 have T5:=I gR;clear hw0 gR;go_loopw [5,12] (fun v i wr=>∃(k:Nat) (ds:List Value),k≤x.aa.length∧i = .int .i64 k∧wr.ownsRow w0.heap.size 9 1 v (Ar x p (x.aa.take k)).length ds∧aY w w0.heap.size (Ar x p (x.aa.take k)) ds []∧Below w0.heap.size w0 wr) (fun _ i _=>x.aa.length - (intOf i).toNat)
 case atStart =>exact Gs
 case round =>
  obtain ⟨k,ds,hk,rfl,bd,cA,ax⟩:=hrel;by_cases aq:k < x.aa.length
  ·obtain ⟨b,o,ck,Fk,rfl,o9,bc,hr,bv,hc⟩:=Sl.get (α:=aM) (A:=bG) (c:=bD) bQ aq;obtain ⟨jM,jO,sN,jE,jF,sO,aw,su,zM,qY,Gt,Gw,xg,qA⟩:=iy hr;subst aw;obtain ⟨q0,q1,q2,q3,q4,q5⟩:=nU 6 hc;clear hc;have b5:Below w.heap.size w wr:=ah l6 (ax.mono J);replace q0:=r' b5 q0 bc;replace q1:=r' b5 q1 bc;replace q2:=r' b5 q2 bc;replace q3:=r' b5 q3 bc;replace q4:=r' b5 q4 bc;replace q5:=r' b5 q5 bc;have WU:b < wr.heap.size:=(by have:=b5.size;omega);have hK:=(ay ax).1;replace c0:=(hK _ _ cL).trans c0;replace c1:=(hK _ _ cL).trans c1;replace c2:=(hK _ _ cL).trans c2;replace c3:=(hK _ _ cL).trans c3;replace c4:=(hK _ _ cL).trans c4;replace c5:=(hK _ _ cL).trans c5;replace d0:=(hK _ _ cg).trans d0;replace d1:=(hK _ _ cg).trans d1;replace d2:=(hK _ _ cg).trans d2;replace d3:=(hK _ _ cg).trans d3;replace d4:=(hK _ _ cg).trans d4;replace d5:=(hK _ _ cg).trans d5;replace d6:=(hK _ _ cg).trans d6;clear hK;have tX:w.heap.size < wr.heap.size:=(by have:=ax.size;omega);have Q6:w.heap.size+1 < wr.heap.size:=(by have:=ax.size;omega);have y9:(Ar x p (x.aa.take k)).length≤k:=X' x p x.aa k;cases hp:Dr x p x.aa[k] with
   | true =>
     have HP:=I hp;have uA:=I (show (oH x.aa[k].name x p == 0) = true from hp);clear hp;go_wp2_with fail
     first
      | (refine (N9 x p _ _ _ _ x.aa[k].name _ (aJ h wh) (aJ h' wh) HW.out Uc.out).mono ?_
         rw [uA.out]
         rintro e wn ⟨rfl,hn⟩)
      | (refine aF _ U' U' (aj _) ?_
         repeat ((first | refine aG O ?_ | refine aH _ O Fw ?_);simp only [Act.put,pz])
         refine aN ?_;intro wn hn
         replace hn:=hn.out)
     obtain ⟨kO,lZ⟩:=ay hn
     first
      | have km:wr.heap.size < wn.heap.size:=(sq hn.size)
      | have km:wr.heap.size≤wn.heap.size:=(sq hn.size)
     have bw:Below w0.heap.size w0 wn:=(by first | exact ah ax hn | exact ah (ak ax _) hn);first | have zq:=mG bd hn | have zq:=mG (bd.alloc _) hn
     go_wp2_with (
      at_builtin
      go_must (refine lC qw O _ _ O _ _ _ _ _ zq O [.string x.aa[k].name] jI O eC J J Uu ?_)
      intro v2 w2 ej ev cj)
     exact Ga
   | false =>
     have HP:=I hp;have uA:=I (show (oH x.aa[k].name x p == 0) = false from hp);clear hp;go_wp2_with fail
     first
      | (refine (N9 x p _ _ _ _ x.aa[k].name _ (aJ h wh) (aJ h' wh) HW.out Uc.out).mono ?_
         rw [uA.out]
         rintro e wn ⟨rfl,hn⟩)
      | (refine aF _ U' U' (aj _) ?_
         repeat ((first | refine aG O ?_ | refine aH _ O Fw ?_);simp only [Act.put,pz])
         refine aN ?_;intro wn hn
         replace hn:=hn.out)
     exact FG
  ·exact E9
theorem Zv (x:aU) (p:nI) (cs ps:List Value) (F G:List Nat) (w:World) (h:rd w x cs F) (h':rd w p ps G) (hw:(x.wt:Int)≤1048576) (eh:(p.wt:Int)≤1048576) :
 Calls Tryz.prog 15 #[.agg cs.toArray,.agg ps.toArray] w fun e w'=>∃A c G,e = .returned (.slice A (Ar x p x.aa).length c)∧am w' w.heap.size (Ar x p x.aa) [.slice A (Ar x p x.aa).length c] G∧Below w.heap.size w w':=by
 have gE:x.wt = kL aM.wt x.aa+kL af.wt x.au:=rfl;have bR:(x.aa.length:Int)≤1048576:=by have:=gJ aM.wt x.aa;omega
 have HW:=I hw;have Uc:=I eh;clear hw eh gE;have hr:=h;have cI:=h';obtain ⟨bG,bD,fQ,dn,bW,jg,aw,hF,bQ,dM,hnext,aV,aP,aW⟩:=aO hr;obtain ⟨bY,bZ,iq,eU,eX,jV,bg,bn,dK,jU,hG,jW,dA,kQ,lg,lG,iO,bK⟩:=dL cI;subst aw jU;clear hF hG hr cI;go_enter Tryz.func15,Tryz.ntmps15;go_wp2_with fail
 obtain ⟨w0,hw0⟩:∃w0,(w.alloc (.cells #[.slice bG x.aa.length bD,.slice dn x.au.length bW,.int .i64 x.next,.int .i64 x.weights.pack,.int .i64 x.weights.spread,.int .i64 x.weights.soft] 29)).alloc (.cells #[.string p.name,.slice bY p.labels.length bZ,.int .i64 p.av,.int .i64 p.mem,.int .i64 p.ar,.slice eU p.ag.length eX,.slice bg p.ae.length bn] 35) = w0:=⟨_,rfl⟩;try rw [hw0]
 have c0:w0.cell? ⟨w.heap.size,0,none⟩ = some (.slice bG x.aa.length bD):=by rw [← hw0,World.cell?_of_block (heap_alloc_old _ _ S'),cell_of_row _ _ _ _ _ _ (heap_alloc_new w _)];rfl
 have c1:w0.cell? ⟨w.heap.size,1,none⟩ = some (.slice dn x.au.length bW):=by rw [← hw0,World.cell?_of_block (heap_alloc_old _ _ S'),cell_of_row _ _ _ _ _ _ (heap_alloc_new w _)];rfl
 have c2:w0.cell? ⟨w.heap.size,2,none⟩ = some (.int .i64 x.next):=by rw [← hw0,World.cell?_of_block (heap_alloc_old _ _ S'),cell_of_row _ _ _ _ _ _ (heap_alloc_new w _)];rfl
 have c3:w0.cell? ⟨w.heap.size,3,none⟩ = some (.int .i64 x.weights.pack):=by rw [← hw0,World.cell?_of_block (heap_alloc_old _ _ S'),cell_of_row _ _ _ _ _ _ (heap_alloc_new w _)];rfl
 have c4:w0.cell? ⟨w.heap.size,4,none⟩ = some (.int .i64 x.weights.spread):=by rw [← hw0,World.cell?_of_block (heap_alloc_old _ _ S'),cell_of_row _ _ _ _ _ _ (heap_alloc_new w _)];rfl
 have c5:w0.cell? ⟨w.heap.size,5,none⟩ = some (.int .i64 x.weights.soft):=by rw [← hw0,World.cell?_of_block (heap_alloc_old _ _ S'),cell_of_row _ _ _ _ _ _ (heap_alloc_new w _)];rfl
 have d0:w0.cell? ⟨w.heap.size+1,0,none⟩ = some (.string p.name):=by rw [← hw0];simp
 have d1:w0.cell? ⟨w.heap.size+1,1,none⟩ = some (.slice bY p.labels.length bZ):=by rw [← hw0];simp
 have d2:w0.cell? ⟨w.heap.size+1,2,none⟩ = some (.int .i64 p.av):=by rw [← hw0];simp
 have d3:w0.cell? ⟨w.heap.size+1,3,none⟩ = some (.int .i64 p.mem):=by rw [← hw0];simp
 have d4:w0.cell? ⟨w.heap.size+1,4,none⟩ = some (.int .i64 p.ar):=by rw [← hw0];simp
 have d5:w0.cell? ⟨w.heap.size+1,5,none⟩ = some (.slice eU p.ag.length eX):=by rw [← hw0];simp
 have d6:w0.cell? ⟨w.heap.size+1,6,none⟩ = some (.slice bg p.ae.length bn):=by rw [← hw0];simp
 have l6:Below w.heap.size w w0:=by rw [← hw0];exact ak (ak (aj _) _) _
 have gR:w0.heap.size = w.heap.size+1+1:=by rw [← hw0];simp
 have cL:w.heap.size < w0.heap.size:=by omega
 have cg:w.heap.size+1 < w0.heap.size:=by omega
 have T5:=I gR;clear hw0 gR;go_loopw [5,6] (fun v i wr=>∃(k:Nat) (ds:List Value),k≤x.aa.length∧i = .int .i64 k∧wr.ownsRow w0.heap.size 9 1 v (Ar x p (x.aa.take k)).length ds∧aY w w0.heap.size (Ar x p (x.aa.take k)) ds []∧Below w0.heap.size w0 wr) (fun _ i _=>x.aa.length - (intOf i).toNat)
 case atStart =>exact Gs
 case round =>
  obtain ⟨k,ds,hk,rfl,bd,cA,ax⟩:=hrel;by_cases aq:k < x.aa.length
  ·obtain ⟨b,o,ck,Fk,rfl,o9,bc,hr,bv,hc⟩:=Sl.get (α:=aM) (A:=bG) (c:=bD) bQ aq;obtain ⟨jM,jO,sN,jE,jF,sO,aw,su,zM,qY,Gt,Gw,xg,qA⟩:=iy hr;subst aw;obtain ⟨q0,q1,q2,q3,q4,q5⟩:=nU 6 hc;clear hc;have b5:Below w.heap.size w wr:=ah l6 (ax.mono J);replace q0:=r' b5 q0 bc;replace q1:=r' b5 q1 bc;replace q2:=r' b5 q2 bc;replace q3:=r' b5 q3 bc;replace q4:=r' b5 q4 bc;replace q5:=r' b5 q5 bc;have WU:b < wr.heap.size:=(by have:=b5.size;omega);have hK:=(ay ax).1;replace c0:=(hK _ _ cL).trans c0;replace c1:=(hK _ _ cL).trans c1;replace c2:=(hK _ _ cL).trans c2;replace c3:=(hK _ _ cL).trans c3;replace c4:=(hK _ _ cL).trans c4;replace c5:=(hK _ _ cL).trans c5;replace d0:=(hK _ _ cg).trans d0;replace d1:=(hK _ _ cg).trans d1;replace d2:=(hK _ _ cg).trans d2;replace d3:=(hK _ _ cg).trans d3;replace d4:=(hK _ _ cg).trans d4;replace d5:=(hK _ _ cg).trans d5;replace d6:=(hK _ _ cg).trans d6;clear hK;have tX:w.heap.size < wr.heap.size:=(by have:=ax.size;omega);have Q6:w.heap.size+1 < wr.heap.size:=(by have:=ax.size;omega);have y9:(Ar x p (x.aa.take k)).length≤k:=X' x p x.aa k;cases hp:Dr x p x.aa[k] with
   | true =>
     have HP:=I hp;have uA:=I (show (oH x.aa[k].name x p == 0) = true from hp);clear hp;go_wp2_with fail
     first
      | (refine (Oa x p _ _ _ _ x.aa[k].name _ (aJ h wh) (aJ h' wh) HW.out Uc.out).mono ?_
         rw [uA.out]
         rintro e wn ⟨rfl,hn⟩)
      | (refine aF _ U' U' (aj _) ?_
         repeat ((first | refine aG O ?_ | refine aH _ O Fy ?_);simp only [Act.put,pz])
         refine aN ?_;intro wn hn
         replace hn:=hn.out)
     obtain ⟨kO,lZ⟩:=ay hn
     first
      | have km:wr.heap.size < wn.heap.size:=(sq hn.size)
      | have km:wr.heap.size≤wn.heap.size:=(sq hn.size)
     have bw:Below w0.heap.size w0 wn:=(by first | exact ah ax hn | exact ah (ak ax _) hn);first | have zq:=mG bd hn | have zq:=mG (bd.alloc _) hn
     go_wp2_with (
      at_builtin
      go_must (refine lC qw O _ _ O _ _ _ _ _ zq O [.string x.aa[k].name] jI O eC J J Uu ?_)
      intro v2 w2 ej ev cj)
     exact Ga
   | false =>
     have HP:=I hp;have uA:=I (show (oH x.aa[k].name x p == 0) = false from hp);clear hp;go_wp2_with fail
     first
      | (refine (Oa x p _ _ _ _ x.aa[k].name _ (aJ h wh) (aJ h' wh) HW.out Uc.out).mono ?_
         rw [uA.out]
         rintro e wn ⟨rfl,hn⟩)
      | (refine aF _ U' U' (aj _) ?_
         repeat ((first | refine aG O ?_ | refine aH _ O Fy ?_);simp only [Act.put,pz])
         refine aN ?_;intro wn hn
         replace hn:=hn.out)
     exact FG
  ·exact E9
end Go.Proofs.YtajbbmembionpaaGreat
