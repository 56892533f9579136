/- MarkOn, of the program and of the reference. No condition. -/
import Derived.Test.YtjahcnjmjahbaaaGreatUsedP
import Derived.Test.YtjahcnjmjahbaaaGreatValCmp
namespace Go.Proofs.YtjahcnjmjahbaaaGreat
open Go.ChangeShapes Go.WideShapes Go.ChangeAt Go.RowKit
set_option linter.unusedVariables false
set_option linter.unusedSimpArgs false
set_option maxHeartbeats 4000000
set_option maxRecDepth 100000
def uH (nm:ByteArray) (x:aU) (p:nI):Int :=
 if zL x.weights.pack x.weights.af x.weights.al = true then x.weights.pack * OT nm x p+x.weights.af * EF nm x+x.weights.al * Rt nm x p else 0
theorem adN (nm:ByteArray) (x:aU) (p:nI):0≤Rt nm x p∧Rt nm x p≤100:=by
 unfold Rt;split
 ·omega
 ·split <;> omega
theorem PX {a b:Int} (ha:0≤a∧a≤10) (hb:0≤b∧b≤100):0≤a * b∧a * b≤1000:=by
 refine ⟨Int.mul_nonneg ha.1 hb.1,?_⟩;have h1:a * b≤10 * b:=Int.mul_le_mul_of_nonneg_right ha.2 hb.1;omega
theorem XO {p s f:Int} (h:zL p s f = true):(0≤p∧p≤10)∧(0≤s∧s≤10)∧(0≤f∧f≤10):=by
 unfold zL at h;exact vt
theorem vY {n:Int} (h:0≤n∧n≤3000):Value.int .i64 (IntKind.i64.wrap n) = Value.int .i64 n:=by
 have e:IntKind.i64.wrap n = n:=by rw [IntKind.wrap_i64];omega
 rw [e]
theorem XL (x:aU) (p:nI) (cs ps:List Value) (F G:List Nat) (nm:ByteArray) (w:World) (h:rd w x cs F) (h':rd w p ps G) (hw:(x.wt:Int)≤1048576) (eC:(p.wt:Int)≤1048576) :
 Calls Tryz.prog 157 #[.agg cs.toArray,.string nm,.agg ps.toArray] w fun e w'=>e = .returned (.int .i64 (uH nm x p))∧Below w.heap.size w w':=by
 have ZN:=I hw;have Uc:=I eC;clear hw eC;have hr:=h;have cj:=h';obtain ⟨bG,bD,fQ,dn,bW,jg,ax,hF,bQ,dM,hnext,aV,aP,aW⟩:=aO hr;obtain ⟨bY,bZ,iq,eU,eX,jV,bg,bn,dK,jU,hG,jW,dA,kQ,lg,lG,iO,bK⟩:=dL cj;subst ax jU;clear hF hG hr cj;cases hR:zL x.weights.pack x.weights.af x.weights.al with
 | false =>
   have HF:=I (show uH nm x p = 0 by unfold uH;rw [if_neg (by rw [hR];simp)]);have HR:=I hR;clear hR;go_enter Tryz.func157,Tryz.ntmps157;go_wp2_with fail
   refine (pU _ _ _ _).mono ?_;rw [HR.out];rintro e w2 ⟨rfl,ao⟩;exact di
 | true =>
   have sX:uH nm x p = x.weights.pack * OT nm x p+x.weights.af * EF nm x+x.weights.al * Rt nm x p:=(by unfold uH;rw [if_pos hR]);obtain ⟨g1,g2,g3⟩:=XO hR;have HR:=I hR;clear hR;obtain ⟨S1,eD⟩:∃S,OT nm x p = S:=⟨_,rfl⟩;obtain ⟨S2,b4⟩:∃S,EF nm x = S:=⟨_,rfl⟩;obtain ⟨S3,bR⟩:∃S,Rt nm x p = S:=⟨_,rfl⟩;have r1:=adO nm x p;have r2:=ZO nm x;have r3:=adN nm x p;rw [eD] at r1 sX;rw [b4] at r2 sX;rw [bR] at r3 sX;have m1:=PX g1 r1;have m2:=PX g2 r2;have m3:=PX g3 r3;have e1:=vY (n:=x.weights.pack * S1) O;have e2:=vY (n:=x.weights.af * S2) O;have e3:=vY (n:=x.weights.al * S3) O;have e4:=vY (n:=x.weights.pack * S1+x.weights.af * S2) O;have e5:=vY (n:=x.weights.pack * S1+x.weights.af * S2+x.weights.al * S3) O;have HF:=I sX;have H1:=I eD;have H2:=I b4;have H3:=I bR;clear sX eD b4 bR m1 m2 m3;go_enter Tryz.func157,Tryz.ntmps157;go_wp2_with fail
   refine (pU _ _ _ _).mono ?_;rw [HR.out];rintro e w2 ⟨rfl,ao⟩;obtain ⟨cb,cG⟩:=ay ao;have cI:w.heap.size < w2.heap.size:=(sq ao.size);have kk:w.heap.size+1 < w2.heap.size:=(sq ao.size);try (have vD:w.heap.size+1+1 < w2.heap.size:=sq ao.size)
   go_wp2_with fail
   refine aF _ U' U' (aj _) ?_
   repeat (first
    | (apply aG
       case hw=>rfl
       simp only [Act.put,pz])
    | (apply aH
       case hw=>rfl
       case h =>
        intro wq hq;have dP:=(aB hq).1;have lJ:=(aB hq).2;go_simp
        first
         | exact ⟨hq,rfl⟩
         | exact ⟨aQ hq _,rfl⟩
         | (first | (refine (ZA x p _ _ _ _ nm _ (aJ h (ah bu hq)) (aJ h' (ah bu hq)) ZN.out Uc.out).mono ?_;rw [H1.out];rintro e wz ⟨rfl,nV⟩;exact ⟨rfl,aI hq nV⟩) | (refine (aex x p _ _ _ _ nm _ (aJ h (ah bu hq)) (aJ h' (ah bu hq)) ZN.out Uc.out).mono ?_;rw [H2.out];rintro e wz ⟨rfl,nV⟩;exact ⟨rfl,aI hq nV⟩) | (refine (ZJ x p _ _ _ _ nm _ (aJ h (ah bu hq)) (aJ h' (ah bu hq)) ZN.out Uc.out).mono ?_;rw [H3.out];rintro e wz ⟨rfl,nV⟩;exact ⟨rfl,aI hq nV⟩))
         | (simp only [↓IntWalk.iteOmega];exact ⟨hq,rfl⟩)
       simp only [Act.put,pz]))
   refine aN ?_;intro wn hn;replace hn:=hn.out;exact rA
theorem Kq (x:aU) (p:nI) (cs ps:List Value) (F G:List Nat) (nm:ByteArray) (w:World) (h:rd w x cs F) (h':rd w p ps G) (hw:(x.wt:Int)≤1048576) (eC:(p.wt:Int)≤1048576) :
 Calls Tryz.prog 102 #[.agg cs.toArray,.string nm,.agg ps.toArray] w fun e w'=>e = .returned (.int .i64 (uH nm x p))∧Below w.heap.size w w':=by
 have ZN:=I hw;have Uc:=I eC;clear hw eC;have hr:=h;have cj:=h';obtain ⟨bG,bD,fQ,dn,bW,jg,ax,hF,bQ,dM,hnext,aV,aP,aW⟩:=aO hr;obtain ⟨bY,bZ,iq,eU,eX,jV,bg,bn,dK,jU,hG,jW,dA,kQ,lg,lG,iO,bK⟩:=dL cj;subst ax jU;clear hF hG hr cj;cases hR:zL x.weights.pack x.weights.af x.weights.al with
 | false =>
   have HF:=I (show uH nm x p = 0 by unfold uH;rw [if_neg (by rw [hR];simp)]);have HR:=I hR;clear hR;go_enter Tryz.func102,Tryz.ntmps102;go_wp2_with fail
   refine (pW _ _ _ _).mono ?_;rw [HR.out];rintro e w2 ⟨rfl,ao⟩;exact di
 | true =>
   have sX:uH nm x p = x.weights.pack * OT nm x p+x.weights.af * EF nm x+x.weights.al * Rt nm x p:=(by unfold uH;rw [if_pos hR]);obtain ⟨g1,g2,g3⟩:=XO hR;have HR:=I hR;clear hR;obtain ⟨S1,eD⟩:∃S,OT nm x p = S:=⟨_,rfl⟩;obtain ⟨S2,b4⟩:∃S,EF nm x = S:=⟨_,rfl⟩;obtain ⟨S3,bR⟩:∃S,Rt nm x p = S:=⟨_,rfl⟩;have r1:=adO nm x p;have r2:=ZO nm x;have r3:=adN nm x p;rw [eD] at r1 sX;rw [b4] at r2 sX;rw [bR] at r3 sX;have m1:=PX g1 r1;have m2:=PX g2 r2;have m3:=PX g3 r3;have e1:=vY (n:=x.weights.pack * S1) O;have e2:=vY (n:=x.weights.af * S2) O;have e3:=vY (n:=x.weights.al * S3) O;have e4:=vY (n:=x.weights.pack * S1+x.weights.af * S2) O;have e5:=vY (n:=x.weights.pack * S1+x.weights.af * S2+x.weights.al * S3) O;have HF:=I sX;have H1:=I eD;have H2:=I b4;have H3:=I bR;clear sX eD b4 bR m1 m2 m3;go_enter Tryz.func102,Tryz.ntmps102;go_wp2_with fail
   refine (pW _ _ _ _).mono ?_;rw [HR.out];rintro e w2 ⟨rfl,ao⟩;obtain ⟨cb,cG⟩:=ay ao;have cI:w.heap.size < w2.heap.size:=(sq ao.size);have kk:w.heap.size+1 < w2.heap.size:=(sq ao.size);try (have vD:w.heap.size+1+1 < w2.heap.size:=sq ao.size)
   go_wp2_with fail
   refine aF _ U' U' (aj _) ?_
   repeat (first
    | (apply aG
       case hw=>rfl
       simp only [Act.put,pz])
    | (apply aH
       case hw=>rfl
       case h =>
        intro wq hq;have dP:=(aB hq).1;have lJ:=(aB hq).2;go_simp
        first
         | exact ⟨hq,rfl⟩
         | exact ⟨aQ hq _,rfl⟩
         | (first | (refine (Zz x p _ _ _ _ nm _ (aJ h (ah bu hq)) (aJ h' (ah bu hq)) ZN.out Uc.out).mono ?_;rw [H1.out];rintro e wz ⟨rfl,nV⟩;exact ⟨rfl,aI hq nV⟩) | (refine (aey x p _ _ _ _ nm _ (aJ h (ah bu hq)) (aJ h' (ah bu hq)) ZN.out Uc.out).mono ?_;rw [H2.out];rintro e wz ⟨rfl,nV⟩;exact ⟨rfl,aI hq nV⟩) | (refine (ZI x p _ _ _ _ nm _ (aJ h (ah bu hq)) (aJ h' (ah bu hq)) ZN.out Uc.out).mono ?_;rw [H3.out];rintro e wz ⟨rfl,nV⟩;exact ⟨rfl,aI hq nV⟩))
         | (simp only [↓IntWalk.iteOmega];exact ⟨hq,rfl⟩)
       simp only [Act.put,pz]))
   refine aN ?_;intro wn hn;replace hn:=hn.out;exact rA
def Jo (Um Un most:Int):Bool:=match GX Um Un with | some s=>decide (s≤most) | none=>false
def Vm (h:ba) (p:nI) (a b n:Int):Int :=
 if Hw h.labels p.ai = false then 1 else if 0 < (BD p.ae 1 h.aT:Int) then 2
 else if Jo a p.aw h.aw = false then 3 else if Jo b p.mem h.mem = false then 4 else if h.aq≤n then 5 else 0
def oH (nm:ByteArray) (x:aU) (p:nI):Int :=
 if pK (iM nm) x.aa < 0 then 6 else
 match vU (F7 nm x.J),x.aa[(pK (iM nm) x.aa).toNat]? with
 | some (a,b),some h=>Vm h p a b (F7 nm x.J).length
 | _,_=>6
theorem afH {nm:ByteArray} {x:aU} {p:nI} (h:pK (iM nm) x.aa = -1):oH nm x p = 6:=by unfold oH;rw [h];rfl
theorem Uo {nm:ByteArray} {x:aU} {p:nI} (h:vU (F7 nm x.J) = none):oH nm x p = 6:=by unfold oH;rw [h];simp
theorem Up {nm:ByteArray} {x:aU} {p:nI} {k:Nat} {a b:Int} (hk:k < x.aa.length) (h:pK (iM nm) x.aa = k) (hs:vU (F7 nm x.J) = some (a,b)):oH nm x p = Vm x.aa[k] p a b (F7 nm x.J).length:=by
 unfold oH;exact BB
theorem afJ {h:ba} (hw:(h.wt:Int)≤1048576):((h.labels.length:Int)≤1048576)∧((kL iU.wt h.aT:Int)≤1048576):=by
 have ga:h.wt = h.name.size+kL aD.wt h.labels+kL iU.wt h.aT:=rfl;have:=gJ aD.wt h.labels;omega
theorem LZ (a b c:Int) (w:World) (ha:bv a) (hb:bv b):Calls Tryz.prog 224 #[.int .i64 a,.int .i64 b,.int .i64 c] w fun e w'=>e = .returned (.bool (Jo a b c))∧Below w.heap.size w w':=by
 cases h:GX a b with
 | none =>have HF:=I (show Jo a b c = false by unfold Jo;rw [h]);have HA:=I h;go_enter Tryz.func224,Tryz.ntmps224;exact vy
 | some s =>have HF:=I (show Jo a b c = decide (s≤c) by unfold Jo;rw [h]);have HA:=I h;go_enter Tryz.func224,Tryz.ntmps224;exact vy
theorem Tz (x:aU) (p:nI) (cs ps:List Value) (F G:List Nat) (nm:ByteArray) (w:World) (h:rd w x cs F) (h':rd w p ps G) (hw:(x.wt:Int)≤1048576) (eC:(p.wt:Int)≤1048576) :
 Calls Tryz.prog 177 #[.agg cs.toArray,.string nm,.agg ps.toArray] w fun e w'=>e = .returned (.int .i64 (oH nm x p))∧Below w.heap.size w w':=by
 have ga:x.wt = kL ba.wt x.aa+kL ag.wt x.J:=rfl;have ue:p.wt = p.name.size+kL aD.wt p.labels+kL bj.wt p.ai+kL bH.wt p.ae:=rfl;have b5:(x.aa.length:Int)≤1048576:=by have:=gJ ba.wt x.aa;omega
 have vk:(x.J.length:Int)≤1048576:=by have:=gJ ag.wt x.J;omega
 obtain ⟨iu,gx⟩:=FQ (xs:=p.ae) O;obtain ⟨qv,pv⟩:=Aa (xs:=p.ai) O;have Ux:=I gx;have Cd:=I pv;clear gx pv;have hr:=h;have cj:=h';obtain ⟨bG,bD,fQ,dn,bW,jg,ax,hF,bQ,dM,hnext,aV,aP,aW⟩:=aO hr;obtain ⟨bY,bZ,iq,eU,eX,jV,bg,bn,dK,jU,hG,jW,dA,kQ,lg,lG,iO,bK⟩:=dL cj;subst ax jU;clear hF hG hr cj;rcases yg (iM nm) x.aa with hi | ⟨k,hk,hi⟩
 ·have HF:=I (afH (p:=p) hi);have HI:=I hi;clear hi;cases hs:vU (F7 nm x.J) with
  | none =>have HU:=I (AV hs);exact B6
  | some ab =>obtain ⟨a,b⟩:=ab;have HU:=I (AX hs);exact B6
 ·cases hs:vU (F7 nm x.J) with
  | none =>have HF:=I (Uo (p:=p) hs);have HI:=I hi;clear hi;have HU:=I (AV hs);exact B6
  | some ab =>
    obtain ⟨a,b⟩:=ab;have cL:=Up (p:=p) hk hi hs;obtain ⟨ha,hb⟩:=UD (A:=dn) (c:=bW) dM hs;have HI:=I hi;clear hi;have HU:=I (AX hs);clear hs;have hL:=NK nm x.J;generalize (F7 nm x.J).length = L at cL HU hL;have vR:(L:Int)≤1048576:=O;clear hL;obtain ⟨mb,hht⟩:=afJ (h:=x.aa[k]) (by have:=rM (f:=ba.wt) hk;omega);obtain ⟨mB,oT⟩:=BH hht;have C3:=UN p.ae 1 x.aa[k].aT;obtain ⟨bh,o,ck,Fk,rfl,o9,hbs,hr,br,hc⟩:=Sl.get (α:=ba) (A:=bG) (c:=bD) bQ hk;obtain ⟨jM,jO,sN,jE,jF,sO,ax,su,zM,qY,Gt,Gw,xg,qA⟩:=iy hr;subst ax;obtain ⟨q0,q1,q2,q3,q4,q5⟩:=lb 6 hc;clear hc
    have zV:=I (show ∀wq,Below w.heap.size w wq→Calls Tryz.prog 202 #[.slice eU p.ai.length eX,.slice jM x.aa[k].labels.length jO] wq fun e w'=>e = .returned (.bool (Hw x.aa[k].labels p.ai))∧Below wq.heap.size wq w' from
     fun wq hq=>alb p.ai x.aa[k].labels _ _ _ _ _ _ _ _ wq (iO.ext hq) (qY.ext hq) rfl rfl qv mb Cd.out)
    have sU:∀wq,Below w.heap.size w wq→Calls Tryz.prog 180 #[.slice bg p.ae.length bn,.slice jE x.aa[k].aT.length jF,.int .i64 1] wq fun e w'=>e = .returned (.int .i64 (BD p.ae 1 x.aa[k].aT))∧Below wq.heap.size wq w' :=
     fun wq hq=>UQ p.ae x.aa[k].aT 1 _ _ _ _ _ _ _ _ _ (bK.ext hq) (qA.ext hq) rfl rfl iu mB Ux.out oT
    have xt:=I sU;unfold Vm at cL;clear sU oT;generalize BD p.ae 1 x.aa[k].aT = z at xt cL C3;have qC:(z:Int)≤1048576:=O;have nk:=I cL;clear cL;have sY:=I (show (x.aa.length:Int)≤1048576 from b5);clear hht mb mB b5;go_enter Tryz.func177,Tryz.ntmps177;go_wp2_with fail
    refine (gQ x _ _ nm _ (aJ h bu) sY.out).mono ?_;rw [HI.out];rintro e w2 ⟨rfl,ao⟩;obtain ⟨cb,cG⟩:=ay ao;have cI:w.heap.size < w2.heap.size:=(sq ao.size);have kk:w.heap.size+1 < w2.heap.size:=(sq ao.size);have dE:Below w.heap.size w w2:=bu;go_wp2_with fail
    refine (jm x _ _ nm _ (aJ h bu) vk).mono ?_;rw [HU.out];rintro e w3 ⟨rfl,bd⟩;obtain ⟨cX,hf3⟩:=ay bd;have ez:w.heap.size < w3.heap.size:=(sq bd.size);have uC:w.heap.size+1 < w3.heap.size:=(sq bd.size);have dy:Below w.heap.size w w3:=ah dE bd;replace q0:=r' dy q0 hbs;replace q1:=r' dy q1 hbs;replace q2:=r' dy q2 hbs;replace q3:=r' dy q3 hbs;replace q4:=r' dy q4 hbs;replace q5:=r' dy q5 hbs;have jd:bh < w3.heap.size:=(by have:=dy.size;omega);cases hS:Hw x.aa[k].labels p.ai
    ·exact Lu
    ·by_cases hu:(0:Int) < (z:Int)
     ·exact Lo
     ·cases he1:GX a p.aw with
      | none =>have eB:Jo a p.aw x.aa[k].aw = false:=(by unfold Jo;rw [he1]);exact Hb
      | some s1 =>
        by_cases Cr:s1≤x.aa[k].aw
        ·have eB:Jo a p.aw x.aa[k].aw = true:=(by unfold Jo;rw [he1];simp [Cr]);cases he2:GX b p.mem with
         | none =>have cG:Jo b p.mem x.aa[k].mem = false:=(by unfold Jo;rw [he2]);exact LS
         | some s2 =>
           by_cases hle2:s2≤x.aa[k].mem
           ·have cG:Jo b p.mem x.aa[k].mem = true:=(by unfold Jo;rw [he2];simp [hle2]);by_cases ia:x.aa[k].aq≤(L:Int)
            ·have HF:=I (show oH nm x p = 5 by rw [nk.out,if_neg (by simp [hS]),if_neg hu,if_neg (by simp [eB]),if_neg (by simp [cG]),if_pos ia]);exact zR
            ·have HF:=I (show oH nm x p = 0 by rw [nk.out,if_neg (by simp [hS]),if_neg hu,if_neg (by simp [eB]),if_neg (by simp [cG]),if_neg ia]);exact zR
           ·have cG:Jo b p.mem x.aa[k].mem = false:=(by unfold Jo;rw [he2];simp [hle2]);exact LS
        ·have eB:Jo a p.aw x.aa[k].aw = false:=(by unfold Jo;rw [he1];simp [Cr]);exact Hb
theorem NC (x:aU) (p:nI) (cs ps:List Value) (F G:List Nat) (nm:ByteArray) (w:World) (h:rd w x cs F) (h':rd w p ps G) (hw:(x.wt:Int)≤1048576) (eC:(p.wt:Int)≤1048576) :
 Calls Tryz.prog 204 #[.agg cs.toArray,.string nm,.agg ps.toArray] w fun e w'=>e = .returned (.int .i64 (oH nm x p))∧Below w.heap.size w w':=by
 have ga:x.wt = kL ba.wt x.aa+kL ag.wt x.J:=rfl;have ue:p.wt = p.name.size+kL aD.wt p.labels+kL bj.wt p.ai+kL bH.wt p.ae:=rfl;have b5:(x.aa.length:Int)≤1048576:=by have:=gJ ba.wt x.aa;omega
 have vk:(x.J.length:Int)≤1048576:=by have:=gJ ag.wt x.J;omega
 obtain ⟨iu,gx⟩:=FQ (xs:=p.ae) O;obtain ⟨qv,pv⟩:=Aa (xs:=p.ai) O;have Ux:=I gx;have Cd:=I pv;clear gx pv;have hr:=h;have cj:=h';obtain ⟨bG,bD,fQ,dn,bW,jg,ax,hF,bQ,dM,hnext,aV,aP,aW⟩:=aO hr;obtain ⟨bY,bZ,iq,eU,eX,jV,bg,bn,dK,jU,hG,jW,dA,kQ,lg,lG,iO,bK⟩:=dL cj;subst ax jU;clear hF hG hr cj;rcases yg (iM nm) x.aa with hi | ⟨k,hk,hi⟩
 ·have HF:=I (afH (p:=p) hi);have HI:=I hi;clear hi;cases hs:vU (F7 nm x.J) with
  | none =>have HU:=I (AV hs);exact BY
  | some ab =>obtain ⟨a,b⟩:=ab;have HU:=I (AX hs);exact BY
 ·cases hs:vU (F7 nm x.J) with
  | none =>have HF:=I (Uo (p:=p) hs);have HI:=I hi;clear hi;have HU:=I (AV hs);exact BY
  | some ab =>
    obtain ⟨a,b⟩:=ab;have cL:=Up (p:=p) hk hi hs;obtain ⟨ha,hb⟩:=UD (A:=dn) (c:=bW) dM hs;have HI:=I hi;clear hi;have HU:=I (AX hs);clear hs;have hL:=NK nm x.J;generalize (F7 nm x.J).length = L at cL HU hL;have vR:(L:Int)≤1048576:=O;clear hL;obtain ⟨mb,hht⟩:=afJ (h:=x.aa[k]) (by have:=rM (f:=ba.wt) hk;omega);obtain ⟨mB,oT⟩:=BH hht;have C3:=UN p.ae 1 x.aa[k].aT;obtain ⟨bh,o,ck,Fk,rfl,o9,hbs,hr,br,hc⟩:=Sl.get (α:=ba) (A:=bG) (c:=bD) bQ hk;obtain ⟨jM,jO,sN,jE,jF,sO,ax,su,zM,qY,Gt,Gw,xg,qA⟩:=iy hr;subst ax;obtain ⟨q0,q1,q2,q3,q4,q5⟩:=lb 6 hc;clear hc
    have zV:=I (show ∀wq,Below w.heap.size w wq→Calls Tryz.prog 223 #[.slice eU p.ai.length eX,.slice jM x.aa[k].labels.length jO] wq fun e w'=>e = .returned (.bool (Hw x.aa[k].labels p.ai))∧Below wq.heap.size wq w' from
     fun wq hq=>ala p.ai x.aa[k].labels _ _ _ _ _ _ _ _ wq (iO.ext hq) (qY.ext hq) rfl rfl qv mb Cd.out)
    have sU:∀wq,Below w.heap.size w wq→Calls Tryz.prog 209 #[.slice bg p.ae.length bn,.slice jE x.aa[k].aT.length jF,.int .i64 1] wq fun e w'=>e = .returned (.int .i64 (BD p.ae 1 x.aa[k].aT))∧Below wq.heap.size wq w' :=
     fun wq hq=>UO p.ae x.aa[k].aT 1 _ _ _ _ _ _ _ _ _ (bK.ext hq) (qA.ext hq) rfl rfl iu mB Ux.out oT
    have xt:=I sU;unfold Vm at cL;clear sU oT;generalize BD p.ae 1 x.aa[k].aT = z at xt cL C3;have qC:(z:Int)≤1048576:=O;have nk:=I cL;clear cL;have sY:=I (show (x.aa.length:Int)≤1048576 from b5);clear hht mb mB b5;go_enter Tryz.func204,Tryz.ntmps204;go_wp2_with fail
    refine (gK x _ _ nm _ (aJ h bu) sY.out).mono ?_;rw [HI.out];rintro e w2 ⟨rfl,ao⟩;obtain ⟨cb,cG⟩:=ay ao;have cI:w.heap.size < w2.heap.size:=(sq ao.size);have kk:w.heap.size+1 < w2.heap.size:=(sq ao.size);have dE:Below w.heap.size w w2:=bu;go_wp2_with fail
    refine (iQ x _ _ nm _ (aJ h bu) vk).mono ?_;rw [HU.out];rintro e w3 ⟨rfl,bd⟩;obtain ⟨cX,hf3⟩:=ay bd;have ez:w.heap.size < w3.heap.size:=(sq bd.size);have uC:w.heap.size+1 < w3.heap.size:=(sq bd.size);have dy:Below w.heap.size w w3:=ah dE bd;replace q0:=r' dy q0 hbs;replace q1:=r' dy q1 hbs;replace q2:=r' dy q2 hbs;replace q3:=r' dy q3 hbs;replace q4:=r' dy q4 hbs;replace q5:=r' dy q5 hbs;have jd:bh < w3.heap.size:=(by have:=dy.size;omega);cases hS:Hw x.aa[k].labels p.ai
    ·exact Lu
    ·by_cases hu:(0:Int) < (z:Int)
     ·exact Lo
     ·cases eB:Jo a p.aw x.aa[k].aw
      ·have HF:=I (show oH nm x p = 3 by rw [nk.out,if_neg (by simp [hS]),if_neg hu,if_pos eB]);have HS:=I hS;clear hS;have H1:=I eB;clear eB;go_wp2_with fail
       refine (zV.out _ bu).mono ?_;rw [HS.out];rintro e w4 ⟨rfl,bL⟩;obtain ⟨eA,hf4⟩:=ay bL;have Wy:w.heap.size < w4.heap.size:=(sq bL.size);have DQ:w.heap.size+1 < w4.heap.size:=(sq bL.size);have Ga:w3.heap.size < w4.heap.size:=(sq bL.size);go_wp2_with fail
       refine (xt.out _ bu).mono ?_;rintro e w5 ⟨rfl,bt⟩;obtain ⟨kO,j'⟩:=ay bt;have Es:w.heap.size < w5.heap.size:=(sq bt.size);have IV:w.heap.size+1 < w5.heap.size:=(sq bt.size);have qe:w3.heap.size < w5.heap.size:=(sq bt.size);go_wp2_with fail
       refine (LZ a p.aw x.aa[k].aw _ ha kQ).mono ?_;rw [H1.out];rintro e w6 ⟨rfl,dB⟩;obtain ⟨DO,Xe⟩:=ay dB;have ru:w.heap.size < w6.heap.size:=(sq dB.size);have QZ:w.heap.size+1 < w6.heap.size:=(sq dB.size);have Q0:w3.heap.size < w6.heap.size:=(sq dB.size);exact rA
      ·cases cG:Jo b p.mem x.aa[k].mem
       ·have HF:=I (show oH nm x p = 4 by rw [nk.out,if_neg (by simp [hS]),if_neg hu,if_neg (by simp [eB]),if_pos cG]);exact zW
       ·by_cases ia:x.aa[k].aq≤(L:Int)
        ·have HF:=I (show oH nm x p = 5 by rw [nk.out,if_neg (by simp [hS]),if_neg hu,if_neg (by simp [eB]),if_neg (by simp [cG]),if_pos ia]);exact zW
        ·have HF:=I (show oH nm x p = 0 by rw [nk.out,if_neg (by simp [hS]),if_neg hu,if_neg (by simp [eB]),if_neg (by simp [cG]),if_neg ia]);exact zW
theorem N9 (x:aU) (p:nI) (cs ps:List Value) (F G:List Nat) (nm:ByteArray) (w:World) (h:rd w x cs F) (h':rd w p ps G) (hw:(x.wt:Int)≤1048576) (eC:(p.wt:Int)≤1048576) :
 Calls Tryz.prog 181 #[.agg cs.toArray,.string nm,.agg ps.toArray] w fun e w'=>e = .returned (.bool (oH nm x p == 0))∧Below w.heap.size w w':=by
 have hr:=h;have cj:=h';obtain ⟨bG,bD,fQ,dn,bW,jg,ax,hF,bQ,dM,hnext,aV,aP,aW⟩:=aO hr;obtain ⟨bY,bZ,iq,eU,eX,jV,bg,bn,dK,jU,hG,jW,dA,kQ,lg,lG,iO,bK⟩:=dL cj;subst ax jU;clear hF hG hr cj;go_enter Tryz.func181,Tryz.ntmps181;go_wp2_with fail
 refine (NC x p _ _ _ _ nm _ (aJ h bu) (aJ h' bu) hw eC).mono ?_;rintro e w2 ⟨rfl,ao⟩;go_wp2;go_ret
 exact ⟨rfl,bu⟩
theorem Oa (x:aU) (p:nI) (cs ps:List Value) (F G:List Nat) (nm:ByteArray) (w:World) (h:rd w x cs F) (h':rd w p ps G) (hw:(x.wt:Int)≤1048576) (eC:(p.wt:Int)≤1048576) :
 Calls Tryz.prog 150 #[.agg cs.toArray,.string nm,.agg ps.toArray] w fun e w'=>e = .returned (.bool (oH nm x p == 0))∧Below w.heap.size w w':=by
 have hr:=h;have cj:=h';obtain ⟨bG,bD,fQ,dn,bW,jg,ax,hF,bQ,dM,hnext,aV,aP,aW⟩:=aO hr;obtain ⟨bY,bZ,iq,eU,eX,jV,bg,bn,dK,jU,hG,jW,dA,kQ,lg,lG,iO,bK⟩:=dL cj;subst ax jU;clear hF hG hr cj;go_enter Tryz.func150,Tryz.ntmps150;go_wp2_with fail
 refine (Tz x p _ _ _ _ nm _ (aJ h bu) (aJ h' bu) hw eC).mono ?_;rintro e w2 ⟨rfl,ao⟩;go_wp2;go_ret
 exact ⟨rfl,bu⟩
def La (xs:List iU):Bool:=nF Dp qo 4 xs
theorem ZK (xs:List iU) (A:Option Addr) (n c:Nat) (F:List Nat) (w:World) (h:Sl w xs A c F) (hn:n = xs.length) (hl:(xs.length:Int)≤1048576) (cS:∀l∈xs,(l.key.size:Int)≤1048576∧(l.value.size:Int)≤1048576) :
 Calls Tryz.prog 77 #[.slice A n c] w fun e w'=>e = .returned (.bool (La xs))∧Below w.heap.size w w':=by
 subst hn;have Eo:=I cS;clear cS;go_enter Tryz.func77,Tryz.ntmps77;go_wp2_with fail
 go_loopw [7] (fun i wr=>∃k:Nat,k≤xs.length∧i = .int .i64 k∧Hid (∀j,j < k→bI Dp qo xs j = true)∧Below w.heap.size w wr) (fun i _=>xs.length - (intOf i).toNat)
 case atStart=>exact ⟨0,Nat.zero_le _,rfl,(fun j hj=>by omega),bu⟩
 case round =>
  obtain ⟨k,hk,rfl,hall,az⟩:=hrel;by_cases ap:k < xs.length
  ·obtain rfl | ⟨j,rfl⟩:k = 0∨∃j,k = j+1:=by cases k with | zero=>exact .inl rfl | succ j=>exact .inr ⟨j,rfl⟩
   ·obtain ⟨b,o,ck,Fk,rfl,o9,hbs,hr,br,hc⟩:=(Sl.ext (w':=wr) (A:=A) (c:=c) h az).get ap;obtain ⟨ax,su,cc,kP,lD⟩:=oK hr;subst ax;obtain ⟨q0,q1,q2⟩:=jN 3 hc;clear hc;simp only [Nat.zero_mul,Nat.add_zero] at q0 q1 q2;have cW:=(Eo.out xs[0] (List.getElem_mem ..)).1;have cK:=(Eo.out xs[0] (List.getElem_mem ..)).2;subst su;have cZ:=hr;cases h1:Dp xs[0]
    all_goals
     have hp:=b8 (ok:=Dp) (less:=qo) ap;rw [h1] at hp;try simp only [Bool.false_and,Bool.and_false,Bool.and_true,Bool.and_self] at hp
     change bI Dp qo xs _ = _ at hp;have H1:=I h1
     first
      | have HN:=I (gq hall.out hp)
      | have HF:=I (wU (most:=4) ap hp)
     clear h1 hp;go_wp2_with fail
     refine aF _ U' U' (aj _) ?_
     repeat (first
      | (apply aG
         case hw=>rfl
         simp only [Act.put,pz])
      | (apply aH
         case hw=>rfl
         case h =>
          intro wq hq;have dP:=(aB hq).1;have lJ:=(aB hq).2;go_simp
          first
           | exact ⟨hq,rfl⟩
           | exact ⟨aQ hq _,rfl⟩
           | (first | (refine (V9 xs[0] _ [] _ (aJ cZ xN) cW cK).mono ?_;rw [H1.out];rintro e w2 ⟨rfl,ao⟩;exact ⟨rfl,aI hq ao⟩) | (refine (mL.out _ tP).mono ?_;rintro e w2 ⟨rfl,ao⟩;exact ⟨rfl,aI hq ao⟩))
           | (simp only [↓IntWalk.iteOmega];exact ⟨hq,rfl⟩)
         simp only [Act.put,pz]))
     refine aN ?_;intro wn hn;replace hn:=hn.out;go_wp2
     first
      | exact ⟨⟨0+1,O,N',HN.out,ah (ak az _) hn⟩,by simp [intOf];omega⟩
      | (go_ret;exact ⟨by unfold La;rw [HF.out];rfl,ah (ak az _) hn⟩)
   ·obtain ⟨b,o,ck,Fk,rfl,o9,hbs,hr,br,hc⟩:=(Sl.ext (w':=wr) (A:=A) (c:=c) h az).get ap;obtain ⟨ax,su,cc,kP,lD⟩:=oK hr;subst ax;obtain ⟨q0,q1,q2⟩:=jN 3 hc;clear hc;obtain ⟨b',o',TY,Xw,e,Ht,hbs',cj,zQ,hc'⟩:=Sl.get (Sl.ext (w':=wr) (c:=c) h az) (show j < xs.length by omega);obtain ⟨jU,abT,vC,rP,uY⟩:=oK cj;subst jU;obtain ⟨rfl,rfl⟩:b' = b∧o' = o:=by simpa using e.symm
    clear e;obtain ⟨p0,p1,p2⟩:=jN 3 hc';clear hc';have nG:IntKind.i64.wrap (j:Int) = j:=IntWalk.i64_in _ O;have jt:j < xs.length:=O;have cW:=(Eo.out xs[j+1] (List.getElem_mem ..)).1;have cK:=(Eo.out xs[j+1] (List.getElem_mem ..)).2;subst su;have cZ:=hr;cases h1:Dp xs[j+1] <;> cases h3:qo xs[j] xs[j+1]
    all_goals
     have hp:=yS (ok:=Dp) (less:=qo) ap;rw [h1,h3] at hp;try simp only [Bool.false_and,Bool.and_false,Bool.and_true,Bool.and_self] at hp
     change bI Dp qo xs _ = _ at hp;have H1:=I h1
     first
      | have HN:=I (gq hall.out hp)
      | have HF:=I (wU (most:=4) ap hp)
     have hC:∀wq,Below wr.heap.size wr wq→Calls Tryz.prog 126 #[.agg #[.string xs[j].key,.string xs[j].value,.int .i64 xs[j].an],.agg #[.string xs[j+1].key,.string xs[j+1].value,.int .i64 xs[j+1].an]] wq fun e w'=>e = .returned (.int .i64 (Qa (qq xs[j] xs[j+1])))∧Below wq.heap.size wq w' :=
      fun wq hq=>acE xs[j] xs[j+1] _ _ _ _ _ (aJ cj hq) (aJ cZ hq)
     have mL:=I hC;clear hC;have hz:=h3;unfold qo at hz;simp only [decide_eq_true_eq,decide_eq_false_iff_not,Int.not_lt] at hz;generalize Qa (qq xs[j] xs[j+1]) = z at mL hz;clear h1 hp;go_wp2_with fail
     refine aF _ U' U' (aj _) ?_
     repeat (first
      | (apply aG
         case hw=>rfl
         simp only [Act.put,pz])
      | (apply aH
         case hw=>rfl
         case h =>
          intro wq hq;have dP:=(aB hq).1;have lJ:=(aB hq).2;go_simp
          first
           | exact ⟨hq,rfl⟩
           | exact ⟨aQ hq _,rfl⟩
           | (first | (refine (V9 xs[j+1] _ [] _ (aJ cZ xN) cW cK).mono ?_;rw [H1.out];rintro e w2 ⟨rfl,ao⟩;exact ⟨rfl,aI hq ao⟩) | (refine (mL.out _ tP).mono ?_;rintro e w2 ⟨rfl,ao⟩;exact ⟨rfl,aI hq ao⟩))
           | (simp only [↓IntWalk.iteOmega];exact ⟨hq,rfl⟩)
         simp only [Act.put,pz]))
     refine aN ?_;intro wn hn;replace hn:=hn.out;go_wp2
     first
      | exact ⟨⟨j+1+1,O,N',HN.out,ah (ak az _) hn⟩,by simp [intOf];omega⟩
      | (go_ret;exact ⟨by unfold La;rw [HF.out];rfl,ah (ak az _) hn⟩)
  ·have bz:k = xs.length:=O;subst bz;by_cases hm:(xs.length:Int)≤4
   ·have HF:=I (Jy hm hall.out);go_wp2;go_ret
    exact ⟨by unfold La;rw [HF.out];first | rfl | simp [hm],az⟩
   ·have HF:=I (Jz (ok:=Dp) (less:=qo) hm);go_wp2;go_ret
    exact ⟨by unfold La;rw [HF.out];first | rfl | simp [hm],az⟩
theorem ZL (xs:List iU) (A:Option Addr) (n c:Nat) (F:List Nat) (w:World) (h:Sl w xs A c F) (hn:n = xs.length) (hl:(xs.length:Int)≤1048576) (cS:∀l∈xs,(l.key.size:Int)≤1048576∧(l.value.size:Int)≤1048576) :
 Calls Tryz.prog 93 #[.slice A n c] w fun e w'=>e = .returned (.bool (La xs))∧Below w.heap.size w w':=by
 subst hn;have Eo:=I cS;clear cS;by_cases hm:(xs.length:Int)≤4
 ·go_enter Tryz.func93,Tryz.ntmps93;go_wp2_with fail
  go_loopw [3] (fun i wr=>∃k:Nat,k≤xs.length∧i = .int .i64 k∧Hid (∀j,j < k→bI Dp qo xs j = true)∧Below w.heap.size w wr) (fun i _=>xs.length - (intOf i).toNat)
  case atStart=>exact ⟨0,Nat.zero_le _,rfl,(fun j hj=>by omega),bu⟩
  case round =>
   obtain ⟨k,hk,rfl,hall,az⟩:=hrel;by_cases ap:k < xs.length
   ·obtain rfl | ⟨j,rfl⟩:k = 0∨∃j,k = j+1:=by cases k with | zero=>exact .inl rfl | succ j=>exact .inr ⟨j,rfl⟩
    ·obtain ⟨b,o,ck,Fk,rfl,o9,hbs,hr,br,hc⟩:=(Sl.ext (w':=wr) (A:=A) (c:=c) h az).get ap;obtain ⟨ax,su,cc,kP,lD⟩:=oK hr;subst ax;obtain ⟨q0,q1,q2⟩:=jN 3 hc;clear hc;simp only [Nat.zero_mul,Nat.add_zero] at q0 q1 q2;have cW:=(Eo.out xs[0] (List.getElem_mem ..)).1;have cK:=(Eo.out xs[0] (List.getElem_mem ..)).2;subst su;have cZ:=hr;cases h1:Dp xs[0]
     all_goals
      have hp:=b8 (ok:=Dp) (less:=qo) ap;rw [h1] at hp;try simp only [Bool.false_and,Bool.and_false,Bool.and_true,Bool.and_self] at hp
      change bI Dp qo xs _ = _ at hp;have H1:=I h1
      first
       | have HN:=I (gq hall.out hp)
       | have HF:=I (wU (most:=4) ap hp)
      clear h1 hp;go_wp2_with fail
      refine aF _ U' U' (aj _) ?_
      repeat (first
       | (apply aG
          case hw=>rfl
          simp only [Act.put,pz])
       | (apply aH
          case hw=>rfl
          case h =>
           intro wq hq;have dP:=(aB hq).1;have lJ:=(aB hq).2;go_simp
           first
            | exact ⟨hq,rfl⟩
            | exact ⟨aQ hq _,rfl⟩
            | (first | (refine (Wh xs[0] _ [] _ (aJ cZ xN) cW cK).mono ?_;rw [H1.out];rintro e w2 ⟨rfl,ao⟩;exact ⟨rfl,aI hq ao⟩) | (refine (mL.out _ tP).mono ?_;rintro e w2 ⟨rfl,ao⟩;exact ⟨rfl,aI hq ao⟩))
            | (simp only [↓IntWalk.iteOmega];exact ⟨hq,rfl⟩)
          simp only [Act.put,pz]))
      refine aN ?_;intro wn hn;replace hn:=hn.out;go_wp2
      first
       | exact ⟨⟨0+1,O,N',HN.out,ah az hn⟩,by simp [intOf];omega⟩
       | (go_ret;exact ⟨by unfold La;rw [HF.out];rfl,ah az hn⟩)
    ·obtain ⟨b,o,ck,Fk,rfl,o9,hbs,hr,br,hc⟩:=(Sl.ext (w':=wr) (A:=A) (c:=c) h az).get ap;obtain ⟨ax,su,cc,kP,lD⟩:=oK hr;subst ax;obtain ⟨q0,q1,q2⟩:=jN 3 hc;clear hc;obtain ⟨b',o',TY,Xw,e,Ht,hbs',cj,zQ,hc'⟩:=Sl.get (Sl.ext (w':=wr) (c:=c) h az) (show j < xs.length by omega);obtain ⟨jU,abT,vC,rP,uY⟩:=oK cj;subst jU;obtain ⟨rfl,rfl⟩:b' = b∧o' = o:=by simpa using e.symm
     clear e;obtain ⟨p0,p1,p2⟩:=jN 3 hc';clear hc';have nG:IntKind.i64.wrap (j:Int) = j:=IntWalk.i64_in _ O;have jt:j < xs.length:=O;have cW:=(Eo.out xs[j+1] (List.getElem_mem ..)).1;have cK:=(Eo.out xs[j+1] (List.getElem_mem ..)).2;subst su;have cZ:=hr;cases h1:Dp xs[j+1] <;> cases h3:qo xs[j] xs[j+1]
     all_goals
      have hp:=yS (ok:=Dp) (less:=qo) ap;rw [h1,h3] at hp;try simp only [Bool.false_and,Bool.and_false,Bool.and_true,Bool.and_self] at hp
      change bI Dp qo xs _ = _ at hp;have H1:=I h1
      first
       | have HN:=I (gq hall.out hp)
       | have HF:=I (wU (most:=4) ap hp)
      have hC:∀wq,Below wr.heap.size wr wq→Calls Tryz.prog 142 #[.agg #[.string xs[j].key,.string xs[j].value,.int .i64 xs[j].an],.agg #[.string xs[j+1].key,.string xs[j+1].value,.int .i64 xs[j+1].an]] wq fun e w'=>e = .returned (.bool (qo xs[j] xs[j+1]))∧Below wq.heap.size wq w' :=
       fun wq hq=>W1 xs[j] xs[j+1] _ _ _ _ _ (aJ cj hq) (aJ cZ hq)
      rw [h3] at hC;have mL:=I hC;clear hC;clear h1 hp;go_wp2_with fail
      refine aF _ U' U' (aj _) ?_
      repeat (first
       | (apply aG
          case hw=>rfl
          simp only [Act.put,pz])
       | (apply aH
          case hw=>rfl
          case h =>
           intro wq hq;have dP:=(aB hq).1;have lJ:=(aB hq).2;go_simp
           first
            | exact ⟨hq,rfl⟩
            | exact ⟨aQ hq _,rfl⟩
            | (first | (refine (Wh xs[j+1] _ [] _ (aJ cZ xN) cW cK).mono ?_;rw [H1.out];rintro e w2 ⟨rfl,ao⟩;exact ⟨rfl,aI hq ao⟩) | (refine (mL.out _ tP).mono ?_;rintro e w2 ⟨rfl,ao⟩;exact ⟨rfl,aI hq ao⟩))
            | (simp only [↓IntWalk.iteOmega];exact ⟨hq,rfl⟩)
          simp only [Act.put,pz]))
      refine aN ?_;intro wn hn;replace hn:=hn.out;go_wp2
      first
       | exact ⟨⟨j+1+1,O,N',HN.out,ah az hn⟩,by simp [intOf];omega⟩
       | (go_ret;exact ⟨by unfold La;rw [HF.out];rfl,ah az hn⟩)
   ·have bz:k = xs.length:=O;subst bz;have HF:=I (Jy hm hall.out);go_wp2;go_ret
    exact ⟨by unfold La;rw [HF.out];rfl,az⟩
 ·have HF:=I (Jz (ok:=Dp) (less:=qo) hm);go_enter Tryz.func93,Tryz.ntmps93;go_wp2;go_ret
  exact ⟨by unfold La;rw [HF.out];rfl,bu⟩
def Ya (xs:List bH):Bool:=nF Q5 vJ 4 xs
theorem RH (xs:List bH) (A:Option Addr) (n c:Nat) (F:List Nat) (w:World) (h:Sl w xs A c F) (hn:n = xs.length) (hl:(xs.length:Int)≤1048576) (cS:∀l∈xs,(l.key.size:Int)≤1048576∧(l.value.size:Int)≤1048576) :
 Calls Tryz.prog 79 #[.slice A n c] w fun e w'=>e = .returned (.bool (Ya xs))∧Below w.heap.size w w':=by
 subst hn;have Eo:=I cS;clear cS;go_enter Tryz.func79,Tryz.ntmps79;go_wp2_with fail
 go_loopw [7] (fun i wr=>∃k:Nat,k≤xs.length∧i = .int .i64 k∧Hid (∀j,j < k→bI Q5 vJ xs j = true)∧Below w.heap.size w wr) (fun i _=>xs.length - (intOf i).toNat)
 case atStart=>exact ⟨0,Nat.zero_le _,rfl,(fun j hj=>by omega),bu⟩
 case round =>
  obtain ⟨k,hk,rfl,hall,az⟩:=hrel;by_cases ap:k < xs.length
  ·obtain rfl | ⟨j,rfl⟩:k = 0∨∃j,k = j+1:=by cases k with | zero=>exact .inl rfl | succ j=>exact .inr ⟨j,rfl⟩
   ·obtain ⟨b,o,ck,Fk,rfl,o9,hbs,hr,br,hc⟩:=(Sl.ext (w':=wr) (A:=A) (c:=c) h az).get ap;obtain ⟨ax,su,cc,kP,lD⟩:=jv hr;subst ax;obtain ⟨q0,q1,q2,q3⟩:=tT 4 hc;clear hc;simp only [Nat.zero_mul,Nat.add_zero] at q0 q1 q2 q3;have cW:=(Eo.out xs[0] (List.getElem_mem ..)).1;have cK:=(Eo.out xs[0] (List.getElem_mem ..)).2;subst su;have cZ:=hr;cases h1:Q5 xs[0]
    all_goals
     have hp:=b8 (ok:=Q5) (less:=vJ) ap;rw [h1] at hp;try simp only [Bool.false_and,Bool.and_false,Bool.and_true,Bool.and_self] at hp
     change bI Q5 vJ xs _ = _ at hp;have H1:=I h1
     first
      | have HN:=I (gq hall.out hp)
      | have HF:=I (wU (most:=4) ap hp)
     clear h1 hp;go_wp2_with fail
     refine aF _ U' U' (aj _) ?_
     repeat (first
      | (apply aG
         case hw=>rfl
         simp only [Act.put,pz])
      | (apply aH
         case hw=>rfl
         case h =>
          intro wq hq;have dP:=(aB hq).1;have lJ:=(aB hq).2;go_simp
          first
           | exact ⟨hq,rfl⟩
           | exact ⟨aQ hq _,rfl⟩
           | (first | (refine (Na xs[0] _ [] _ (aJ cZ xN) cW cK).mono ?_;rw [H1.out];rintro e w2 ⟨rfl,ao⟩;exact ⟨rfl,aI hq ao⟩) | (refine (mL.out _ tP).mono ?_;rintro e w2 ⟨rfl,ao⟩;exact ⟨rfl,aI hq ao⟩))
           | (simp only [↓IntWalk.iteOmega];exact ⟨hq,rfl⟩)
         simp only [Act.put,pz]))
     refine aN ?_;intro wn hn;replace hn:=hn.out;go_wp2
     first
      | exact ⟨⟨0+1,O,N',HN.out,ah (ak az _) hn⟩,by simp [intOf];omega⟩
      | (go_ret;exact ⟨by unfold Ya;rw [HF.out];rfl,ah (ak az _) hn⟩)
   ·obtain ⟨b,o,ck,Fk,rfl,o9,hbs,hr,br,hc⟩:=(Sl.ext (w':=wr) (A:=A) (c:=c) h az).get ap;obtain ⟨ax,su,cc,kP,lD⟩:=jv hr;subst ax;obtain ⟨q0,q1,q2,q3⟩:=tT 4 hc;clear hc;obtain ⟨b',o',TY,Xw,e,Ht,hbs',cj,zQ,hc'⟩:=Sl.get (Sl.ext (w':=wr) (c:=c) h az) (show j < xs.length by omega);obtain ⟨jU,abT,vC,rP,uY⟩:=jv cj;subst jU;obtain ⟨rfl,rfl⟩:b' = b∧o' = o:=by simpa using e.symm
    clear e;obtain ⟨p0,p1,p2,p3⟩:=tT 4 hc';clear hc';have nG:IntKind.i64.wrap (j:Int) = j:=IntWalk.i64_in _ O;have jt:j < xs.length:=O;have cW:=(Eo.out xs[j+1] (List.getElem_mem ..)).1;have cK:=(Eo.out xs[j+1] (List.getElem_mem ..)).2;subst su;have cZ:=hr;cases h1:Q5 xs[j+1] <;> cases h3:vJ xs[j] xs[j+1]
    all_goals
     have hp:=yS (ok:=Q5) (less:=vJ) ap;rw [h1,h3] at hp;try simp only [Bool.false_and,Bool.and_false,Bool.and_true,Bool.and_self] at hp
     change bI Q5 vJ xs _ = _ at hp;have H1:=I h1
     first
      | have HN:=I (gq hall.out hp)
      | have HF:=I (wU (most:=4) ap hp)
     have hC:∀wq,Below wr.heap.size wr wq→Calls Tryz.prog 130 #[.agg #[.string xs[j].key,.bool xs[j].equal,.string xs[j].value,.int .i64 xs[j].an],.agg #[.string xs[j+1].key,.bool xs[j+1].equal,.string xs[j+1].value,.int .i64 xs[j+1].an]] wq fun e w'=>e = .returned (.int .i64 (Qa (po xs[j] xs[j+1])))∧Below wq.heap.size wq w' :=
      fun wq hq=>Xd xs[j] xs[j+1] _ _ _ _ _ (aJ cj hq) (aJ cZ hq)
     have mL:=I hC;clear hC;have hz:=h3;unfold vJ at hz;simp only [decide_eq_true_eq,decide_eq_false_iff_not,Int.not_lt] at hz;generalize Qa (po xs[j] xs[j+1]) = z at mL hz;clear h1 hp;go_wp2_with fail
     refine aF _ U' U' (aj _) ?_
     repeat (first
      | (apply aG
         case hw=>rfl
         simp only [Act.put,pz])
      | (apply aH
         case hw=>rfl
         case h =>
          intro wq hq;have dP:=(aB hq).1;have lJ:=(aB hq).2;go_simp
          first
           | exact ⟨hq,rfl⟩
           | exact ⟨aQ hq _,rfl⟩
           | (first | (refine (Na xs[j+1] _ [] _ (aJ cZ xN) cW cK).mono ?_;rw [H1.out];rintro e w2 ⟨rfl,ao⟩;exact ⟨rfl,aI hq ao⟩) | (refine (mL.out _ tP).mono ?_;rintro e w2 ⟨rfl,ao⟩;exact ⟨rfl,aI hq ao⟩))
           | (simp only [↓IntWalk.iteOmega];exact ⟨hq,rfl⟩)
         simp only [Act.put,pz]))
     refine aN ?_;intro wn hn;replace hn:=hn.out;go_wp2
     first
      | exact ⟨⟨j+1+1,O,N',HN.out,ah (ak az _) hn⟩,by simp [intOf];omega⟩
      | (go_ret;exact ⟨by unfold Ya;rw [HF.out];rfl,ah (ak az _) hn⟩)
  ·have bz:k = xs.length:=O;subst bz;by_cases hm:(xs.length:Int)≤4
   ·have HF:=I (Jy hm hall.out);go_wp2;go_ret
    exact ⟨by unfold Ya;rw [HF.out];first | rfl | simp [hm],az⟩
   ·have HF:=I (Jz (ok:=Q5) (less:=vJ) hm);go_wp2;go_ret
    exact ⟨by unfold Ya;rw [HF.out];first | rfl | simp [hm],az⟩
theorem RI (xs:List bH) (A:Option Addr) (n c:Nat) (F:List Nat) (w:World) (h:Sl w xs A c F) (hn:n = xs.length) (hl:(xs.length:Int)≤1048576) (cS:∀l∈xs,(l.key.size:Int)≤1048576∧(l.value.size:Int)≤1048576) :
 Calls Tryz.prog 92 #[.slice A n c] w fun e w'=>e = .returned (.bool (Ya xs))∧Below w.heap.size w w':=by
 subst hn;have Eo:=I cS;clear cS;by_cases hm:(xs.length:Int)≤4
 ·go_enter Tryz.func92,Tryz.ntmps92;go_wp2_with fail
  go_loopw [3] (fun i wr=>∃k:Nat,k≤xs.length∧i = .int .i64 k∧Hid (∀j,j < k→bI Q5 vJ xs j = true)∧Below w.heap.size w wr) (fun i _=>xs.length - (intOf i).toNat)
  case atStart=>exact ⟨0,Nat.zero_le _,rfl,(fun j hj=>by omega),bu⟩
  case round =>
   obtain ⟨k,hk,rfl,hall,az⟩:=hrel;by_cases ap:k < xs.length
   ·obtain rfl | ⟨j,rfl⟩:k = 0∨∃j,k = j+1:=by cases k with | zero=>exact .inl rfl | succ j=>exact .inr ⟨j,rfl⟩
    ·obtain ⟨b,o,ck,Fk,rfl,o9,hbs,hr,br,hc⟩:=(Sl.ext (w':=wr) (A:=A) (c:=c) h az).get ap;obtain ⟨ax,su,cc,kP,lD⟩:=jv hr;subst ax;obtain ⟨q0,q1,q2,q3⟩:=tT 4 hc;clear hc;simp only [Nat.zero_mul,Nat.add_zero] at q0 q1 q2 q3;have cW:=(Eo.out xs[0] (List.getElem_mem ..)).1;have cK:=(Eo.out xs[0] (List.getElem_mem ..)).2;subst su;have cZ:=hr;cases h1:Q5 xs[0]
     all_goals
      have hp:=b8 (ok:=Q5) (less:=vJ) ap;rw [h1] at hp;try simp only [Bool.false_and,Bool.and_false,Bool.and_true,Bool.and_self] at hp
      change bI Q5 vJ xs _ = _ at hp;have H1:=I h1
      first
       | have HN:=I (gq hall.out hp)
       | have HF:=I (wU (most:=4) ap hp)
      clear h1 hp;go_wp2_with fail
      refine aF _ U' U' (aj _) ?_
      repeat (first
       | (apply aG
          case hw=>rfl
          simp only [Act.put,pz])
       | (apply aH
          case hw=>rfl
          case h =>
           intro wq hq;have dP:=(aB hq).1;have lJ:=(aB hq).2;go_simp
           first
            | exact ⟨hq,rfl⟩
            | exact ⟨aQ hq _,rfl⟩
            | (first | (refine (Nb xs[0] _ [] _ (aJ cZ xN) cW cK).mono ?_;rw [H1.out];rintro e w2 ⟨rfl,ao⟩;exact ⟨rfl,aI hq ao⟩) | (refine (mL.out _ tP).mono ?_;rintro e w2 ⟨rfl,ao⟩;exact ⟨rfl,aI hq ao⟩))
            | (simp only [↓IntWalk.iteOmega];exact ⟨hq,rfl⟩)
          simp only [Act.put,pz]))
      refine aN ?_;intro wn hn;replace hn:=hn.out;go_wp2
      first
       | exact ⟨⟨0+1,O,N',HN.out,ah az hn⟩,by simp [intOf];omega⟩
       | (go_ret;exact ⟨by unfold Ya;rw [HF.out];rfl,ah az hn⟩)
    ·obtain ⟨b,o,ck,Fk,rfl,o9,hbs,hr,br,hc⟩:=(Sl.ext (w':=wr) (A:=A) (c:=c) h az).get ap;obtain ⟨ax,su,cc,kP,lD⟩:=jv hr;subst ax;obtain ⟨q0,q1,q2,q3⟩:=tT 4 hc;clear hc;obtain ⟨b',o',TY,Xw,e,Ht,hbs',cj,zQ,hc'⟩:=Sl.get (Sl.ext (w':=wr) (c:=c) h az) (show j < xs.length by omega);obtain ⟨jU,abT,vC,rP,uY⟩:=jv cj;subst jU;obtain ⟨rfl,rfl⟩:b' = b∧o' = o:=by simpa using e.symm
     clear e;obtain ⟨p0,p1,p2,p3⟩:=tT 4 hc';clear hc';have nG:IntKind.i64.wrap (j:Int) = j:=IntWalk.i64_in _ O;have jt:j < xs.length:=O;have cW:=(Eo.out xs[j+1] (List.getElem_mem ..)).1;have cK:=(Eo.out xs[j+1] (List.getElem_mem ..)).2;subst su;have cZ:=hr;cases h1:Q5 xs[j+1] <;> cases h3:vJ xs[j] xs[j+1]
     all_goals
      have hp:=yS (ok:=Q5) (less:=vJ) ap;rw [h1,h3] at hp;try simp only [Bool.false_and,Bool.and_false,Bool.and_true,Bool.and_self] at hp
      change bI Q5 vJ xs _ = _ at hp;have H1:=I h1
      first
       | have HN:=I (gq hall.out hp)
       | have HF:=I (wU (most:=4) ap hp)
      have hC:∀wq,Below wr.heap.size wr wq→Calls Tryz.prog 140 #[.agg #[.string xs[j].key,.bool xs[j].equal,.string xs[j].value,.int .i64 xs[j].an],.agg #[.string xs[j+1].key,.bool xs[j+1].equal,.string xs[j+1].value,.int .i64 xs[j+1].an]] wq fun e w'=>e = .returned (.bool (vJ xs[j] xs[j+1]))∧Below wq.heap.size wq w' :=
       fun wq hq=>W2 xs[j] xs[j+1] _ _ _ _ _ (aJ cj hq) (aJ cZ hq)
      rw [h3] at hC;have mL:=I hC;clear hC;clear h1 hp;go_wp2_with fail
      refine aF _ U' U' (aj _) ?_
      repeat (first
       | (apply aG
          case hw=>rfl
          simp only [Act.put,pz])
       | (apply aH
          case hw=>rfl
          case h =>
           intro wq hq;have dP:=(aB hq).1;have lJ:=(aB hq).2;go_simp
           first
            | exact ⟨hq,rfl⟩
            | exact ⟨aQ hq _,rfl⟩
            | (first | (refine (Nb xs[j+1] _ [] _ (aJ cZ xN) cW cK).mono ?_;rw [H1.out];rintro e w2 ⟨rfl,ao⟩;exact ⟨rfl,aI hq ao⟩) | (refine (mL.out _ tP).mono ?_;rintro e w2 ⟨rfl,ao⟩;exact ⟨rfl,aI hq ao⟩))
            | (simp only [↓IntWalk.iteOmega];exact ⟨hq,rfl⟩)
          simp only [Act.put,pz]))
      refine aN ?_;intro wn hn;replace hn:=hn.out;go_wp2
      first
       | exact ⟨⟨j+1+1,O,N',HN.out,ah az hn⟩,by simp [intOf];omega⟩
       | (go_ret;exact ⟨by unfold Ya;rw [HF.out];rfl,ah az hn⟩)
   ·have bz:k = xs.length:=O;subst bz;have HF:=I (Jy hm hall.out);go_wp2;go_ret
    exact ⟨by unfold Ya;rw [HF.out];rfl,az⟩
 ·have HF:=I (Jz (ok:=Q5) (less:=vJ) hm);go_enter Tryz.func92,Tryz.ntmps92;go_wp2;go_ret
  exact ⟨by unfold Ya;rw [HF.out];rfl,bu⟩
end Go.Proofs.YtjahcnjmjahbaaaGreat
