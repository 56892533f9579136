/- What a host's pods use, in plain Lean. No condition. -/
import Derived.Test.YtjahcnjmjahbaaaGreatSums
import Derived.Test.YtjahcnjmjahbaaaGreatCmp2
namespace Go.Proofs.YtjahcnjmjahbaaaGreat
open Go.ChangeShapes Go.WideShapes Go.ChangeAt Go.RowKit
set_option linter.unusedVariables false
set_option linter.unusedSimpArgs false
set_option maxHeartbeats 4000000
set_option maxRecDepth 100000
theorem TU:∀(xs:List Int) (s t:Int),(∀x∈xs,bv x)→bv s→GZ xs s = some t→bv t
 | [],s,t,_,hs,h=>by simp only [GZ,Option.some.injEq] at h;subst h;exact hs
 | x :: xs,s,t,hx,hs,h=>by
   simp only [GZ] at h;cases e:GX s x with
   | none=>rw [e] at h;cases h
   | some m =>rw [e] at h;exact TU xs m t (fun y hy=>hx y (List.mem_cons_of_mem _ hy)) (PP e hs (hx x (List.mem_cons_self ..))) h
theorem aqt {xs:List nI} {a b:Int} (hx:∀p∈xs,bv p.aw∧bv p.mem) (h:vU xs = some (a,b)):bv a∧bv b:=by
 unfold vU at h;cases e1:GZ (xs.map nI.aw) 0 with
 | none=>rw [e1] at h;cases h
 | some m =>
   cases e2:GZ (xs.map nI.mem) 0 with
   | none=>rw [e1,e2] at h;cases h
   | some n =>
     rw [e1,e2] at h;simp only [Option.some.injEq,Prod.mk.injEq] at h;obtain ⟨rfl,rfl⟩:=h;have z:bv 0:=⟨O,O⟩;refine ⟨TU _ 0 _ (fun y hy=>?_) z e1,TU _ 0 _ (fun y hy=>?_) z e2⟩
     ·obtain ⟨p,hp,rfl⟩:=List.mem_map.1 hy;exact (hx p hp).1
     ·obtain ⟨p,hp,rfl⟩:=List.mem_map.1 hy;exact (hx p hp).2
theorem atL {nm:ByteArray} {xs:List ag} {p:nI} (h:p∈F7 nm xs):∃q∈xs,p = q.aS:=by
 unfold F7 at h;obtain ⟨q,hq,rfl⟩:=List.mem_map.1 h;exact ⟨q,(List.mem_filter.1 hq).1,rfl⟩
theorem Sl.ao8 {w:World} {xs:List ag} {A:Option Addr} {c:Nat} {F:List Nat} (h:Sl w xs A c F):∀p∈xs,bv p.aS.aw∧bv p.aS.mem:=by
 intro p hp;obtain ⟨k,hk,rfl⟩:=List.getElem_of_mem hp;obtain ⟨b,o,ck,Fk,_,_,_,hr,_⟩:=h.get hk;obtain ⟨gV,gW,lF,iR,iT,mV,dD,dF,iH,ax,hF,nY,iE,rF,rG,oZ,je,dN,ed,hseq⟩:=kE hr;exact ⟨rF,rG⟩
theorem UD {w:World} {xs:List ag} {A:Option Addr} {c:Nat} {F:List Nat} {nm:ByteArray} {a b:Int} (h:Sl w xs A c F) (hs:vU (F7 nm xs) = some (a,b)):bv a∧bv b :=
 aqt (fun p hp=>by obtain ⟨q,hq,rfl⟩:=atL hp;exact h.ao8 q hq) hs
theorem AX {nm:ByteArray} {xs:List ag} {a b:Int} (h:vU (F7 nm xs) = some (a,b)):KF nm xs = .tuple #[.int .i64 a,.int .i64 b,.int .i64 (F7 nm xs).length,.bool true]:=by unfold KF;rw [h]
theorem AV {nm:ByteArray} {xs:List ag} (h:vU (F7 nm xs) = none):KF nm xs = .tuple #[.int .i64 0,.int .i64 0,.int .i64 0,.bool false]:=by unfold KF;rw [h]
def qG (a b:Int):Int:=(GX a b).getD 9223372036854775807
theorem Ru {a b:Int} (ha:bv a) (hb:bv b):bv (qG a b):=by
 unfold qG;cases h:GX a b with
 | none=>exact ⟨by show _≤(9223372036854775807:Int);omega,by show (9223372036854775807:Int)≤_;omega⟩
 | some t=>exact PP h ha hb
def OT (nm:ByteArray) (x:aU) (p:nI):Int :=
 if pK (iM nm) x.aa < 0 then 0 else
 match vU (F7 nm x.J),x.aa[(pK (iM nm) x.aa).toNat]? with
 | some (a,b),some h=>(CQ (qG a p.aw) h.aw+CQ (qG b p.mem) h.mem) / 2
 | _,_=>0
def EF (nm:ByteArray) (x:aU):Int :=
 if pK (iM nm) x.aa < 0 then 0 else
 match vU (F7 nm x.J),x.aa[(pK (iM nm) x.aa).toNat]? with
 | some (a,b),some h=>100 - CQ (F7 nm x.J).length h.aq
 | _,_=>0
theorem amo {nm:ByteArray} {x:aU} {p:nI} (h:pK (iM nm) x.aa = -1):OT nm x p = 0:=by unfold OT;rw [h];rfl
theorem agF {nm:ByteArray} {x:aU} {p:nI} (h:vU (F7 nm x.J) = none):OT nm x p = 0:=by unfold OT;rw [h];simp
theorem amq {nm:ByteArray} {x:aU} {p:nI} {k:Nat} {a b:Int} (hk:k < x.aa.length) (h:pK (iM nm) x.aa = k) (hs:vU (F7 nm x.J) = some (a,b)):OT nm x p = (CQ (qG a p.aw) x.aa[k].aw+CQ (qG b p.mem) x.aa[k].mem) / 2:=by
 unfold OT;exact BB
theorem agG {nm:ByteArray} {x:aU} (h:pK (iM nm) x.aa = -1):EF nm x = 0:=by unfold EF;rw [h];rfl
theorem abX {nm:ByteArray} {x:aU} (h:vU (F7 nm x.J) = none):EF nm x = 0:=by unfold EF;rw [h];simp
theorem agH {nm:ByteArray} {x:aU} {k:Nat} {a b:Int} (hk:k < x.aa.length) (h:pK (iM nm) x.aa = k) (hs:vU (F7 nm x.J) = some (a,b)):EF nm x = 100 - CQ (F7 nm x.J).length x.aa[k].aq:=by
 unfold EF;exact BB
theorem adO (nm:ByteArray) (x:aU) (p:nI):0≤OT nm x p∧OT nm x p≤100:=by
 unfold OT;split
 ·omega
 ·split
  ·rename_i a b h _ _;have h1:=zJ (qG a p.aw) h.aw;have h2:=zJ (qG b p.mem) h.mem;omega
  ·omega
theorem ZO (nm:ByteArray) (x:aU):0≤EF nm x∧EF nm x≤100:=by
 unfold EF;split
 ·omega
 ·split
  ·rename_i a b h _ _;have h1:=zJ (F7 nm x.J).length h.aq;omega
  ·omega
theorem aex (x:aU) (p:nI) (cs ps:List Value) (F G:List Nat) (nm:ByteArray) (w:World) (h:rd w x cs F) (h':rd w p ps G) (hw:(x.wt:Int)≤1048576) (eC:(p.wt:Int)≤1048576) :
 Calls Tryz.prog 184 #[.agg cs.toArray,.string nm,.agg ps.toArray] w fun e w'=>e = .returned (.int .i64 (EF nm x))∧Below w.heap.size w w':=by
 have ga:x.wt = kL ba.wt x.aa+kL ag.wt x.J:=rfl;have b5:(x.aa.length:Int)≤1048576:=by have:=gJ ba.wt x.aa;omega
 have vk:(x.J.length:Int)≤1048576:=by have:=gJ ag.wt x.J;omega
 have hr:=h;have cj:=h';obtain ⟨bG,bD,fQ,dn,bW,jg,ax,hF,bQ,dM,hnext,aV,aP,aW⟩:=aO hr;obtain ⟨bY,bZ,iq,eU,eX,jV,bg,bn,dK,jU,hG,jW,dA,kQ,lg,lG,iO,bK⟩:=dL cj;subst ax jU;clear hF hG hr cj;rcases yg (iM nm) x.aa with hi | ⟨k,hk,hi⟩
 ·have HF:=I (agG  hi);have HI:=I hi;clear hi;cases hs:vU (F7 nm x.J) with
  | none =>have HU:=I (AV hs);exact BV
  | some ab =>obtain ⟨a,b⟩:=ab;have HU:=I (AX hs);exact BV
 ·cases hs:vU (F7 nm x.J) with
  | none =>have HF:=I (abX  hs);have HI:=I hi;clear hi;have HU:=I (AV hs);exact BV
  | some ab =>
    obtain ⟨a,b⟩:=ab;have cL:=agH  hk hi hs;obtain ⟨ha,hb⟩:=UD (A:=dn) (c:=bW) dM hs;have HI:=I hi;clear hi;have HU:=I (AX hs);clear hs;have hL:=NK nm x.J;generalize (F7 nm x.J).length = L at cL HU hL;have vR:(L:Int)≤1048576:=O;clear hL;obtain ⟨bh,o,ck,Fk,rfl,o9,hbs,hr,br,hc⟩:=Sl.get (α:=ba) (A:=bG) (c:=bD) bQ hk;obtain ⟨jM,jO,sN,jE,jF,sO,ax,su,zM,qY,Gt,Gw,xg,qA⟩:=iy hr;subst ax;obtain ⟨q0,q1,q2,q3,q4,q5⟩:=lb 6 hc;clear hc;obtain ⟨S1,eD⟩:∃S,CQ (L:Int) x.aa[k].aq = S:=⟨_,rfl⟩;have dc:=zJ (L:Int) x.aa[k].aq;rw [eD] at cL dc;have HF:=I cL;have DP:=I eD;clear cL eD;have hLI:bv (L:Int):=(by unfold bv;omega);have nQ:IntKind.i64.wrap (100 - S1) = 100 - S1:=(by rw [IntKind.wrap_i64];omega);go_enter Tryz.func184,Tryz.ntmps184;go_wp2_with fail
    refine (gK x _ _ nm _ (aJ h bu) b5).mono ?_;rw [HI.out];rintro e w2 ⟨rfl,ao⟩;obtain ⟨cb,cG⟩:=ay ao;have cI:w.heap.size < w2.heap.size:=(sq ao.size);have kk:w.heap.size+1 < w2.heap.size:=(sq ao.size);have dE:Below w.heap.size w w2:=bu;go_wp2_with fail
    refine (iQ x _ _ nm _ (aJ h bu) vk).mono ?_;rw [HU.out];rintro e w3 ⟨rfl,bd⟩;obtain ⟨cX,hf3⟩:=ay bd;have ez:w.heap.size < w3.heap.size:=(sq bd.size);have uC:w.heap.size+1 < w3.heap.size:=(sq bd.size);have dy:Below w.heap.size w w3:=ah dE bd;replace q0:=r' dy q0 hbs;replace q1:=r' dy q1 hbs;replace q2:=r' dy q2 hbs;replace q3:=r' dy q3 hbs;replace q4:=r' dy q4 hbs;replace q5:=r' dy q5 hbs;have jd:bh < w3.heap.size:=(by have:=dy.size;omega);go_wp2_with fail
    refine (VD _ _ _ tO tO).mono ?_;exact KW
theorem aey (x:aU) (p:nI) (cs ps:List Value) (F G:List Nat) (nm:ByteArray) (w:World) (h:rd w x cs F) (h':rd w p ps G) (hw:(x.wt:Int)≤1048576) (eC:(p.wt:Int)≤1048576) :
 Calls Tryz.prog 152 #[.agg cs.toArray,.string nm,.agg ps.toArray] w fun e w'=>e = .returned (.int .i64 (EF nm x))∧Below w.heap.size w w':=by
 have ga:x.wt = kL ba.wt x.aa+kL ag.wt x.J:=rfl;have b5:(x.aa.length:Int)≤1048576:=by have:=gJ ba.wt x.aa;omega
 have vk:(x.J.length:Int)≤1048576:=by have:=gJ ag.wt x.J;omega
 have hr:=h;have cj:=h';obtain ⟨bG,bD,fQ,dn,bW,jg,ax,hF,bQ,dM,hnext,aV,aP,aW⟩:=aO hr;obtain ⟨bY,bZ,iq,eU,eX,jV,bg,bn,dK,jU,hG,jW,dA,kQ,lg,lG,iO,bK⟩:=dL cj;subst ax jU;clear hF hG hr cj;rcases yg (iM nm) x.aa with hi | ⟨k,hk,hi⟩
 ·have HF:=I (agG  hi);have HI:=I hi;clear hi;cases hs:vU (F7 nm x.J) with
  | none =>have HU:=I (AV hs);exact BW
  | some ab =>obtain ⟨a,b⟩:=ab;have HU:=I (AX hs);exact BW
 ·cases hs:vU (F7 nm x.J) with
  | none =>have HF:=I (abX  hs);have HI:=I hi;clear hi;have HU:=I (AV hs);exact BW
  | some ab =>
    obtain ⟨a,b⟩:=ab;have cL:=agH  hk hi hs;obtain ⟨ha,hb⟩:=UD (A:=dn) (c:=bW) dM hs;have HI:=I hi;clear hi;have HU:=I (AX hs);clear hs;have hL:=NK nm x.J;generalize (F7 nm x.J).length = L at cL HU hL;have vR:(L:Int)≤1048576:=O;clear hL;obtain ⟨bh,o,ck,Fk,rfl,o9,hbs,hr,br,hc⟩:=Sl.get (α:=ba) (A:=bG) (c:=bD) bQ hk;obtain ⟨jM,jO,sN,jE,jF,sO,ax,su,zM,qY,Gt,Gw,xg,qA⟩:=iy hr;subst ax;obtain ⟨q0,q1,q2,q3,q4,q5⟩:=lb 6 hc;clear hc;obtain ⟨S1,eD⟩:∃S,CQ (L:Int) x.aa[k].aq = S:=⟨_,rfl⟩;have dc:=zJ (L:Int) x.aa[k].aq;rw [eD] at cL dc;have HF:=I cL;have DP:=I eD;clear cL eD;have hLI:bv (L:Int):=(by unfold bv;omega);have nQ:IntKind.i64.wrap (100 - S1) = 100 - S1:=(by rw [IntKind.wrap_i64];omega);go_enter Tryz.func152,Tryz.ntmps152;go_wp2_with fail
    refine (gQ x _ _ nm _ (aJ h bu) b5).mono ?_;rw [HI.out];rintro e w2 ⟨rfl,ao⟩;obtain ⟨cb,cG⟩:=ay ao;have cI:w.heap.size < w2.heap.size:=(sq ao.size);have kk:w.heap.size+1 < w2.heap.size:=(sq ao.size);have dE:Below w.heap.size w w2:=bu;go_wp2_with fail
    refine (jm x _ _ nm _ (aJ h bu) vk).mono ?_;rw [HU.out];rintro e w3 ⟨rfl,bd⟩;obtain ⟨cX,hf3⟩:=ay bd;have ez:w.heap.size < w3.heap.size:=(sq bd.size);have uC:w.heap.size+1 < w3.heap.size:=(sq bd.size);have dy:Below w.heap.size w w3:=ah dE bd;replace q0:=r' dy q0 hbs;replace q1:=r' dy q1 hbs;replace q2:=r' dy q2 hbs;replace q3:=r' dy q3 hbs;replace q4:=r' dy q4 hbs;replace q5:=r' dy q5 hbs;have jd:bh < w3.heap.size:=(by have:=dy.size;omega);go_wp2_with fail
    refine (IB _ _ _ tO tO).mono ?_;exact KW
theorem ag2 (a b:Int) (w:World) (ha:bv a) (hb:bv b):Calls Tryz.prog 208 #[.int .i64 a,.int .i64 b] w fun e w'=>e = .returned (.int .i64 (qG a b))∧Below w.heap.size w w':=by
 cases h:GX a b with
 | none =>have HF:=I (show qG a b = 9223372036854775807 by unfold qG;rw [h];rfl);have HA:=I h;go_enter Tryz.func208,Tryz.ntmps208;exact vy
 | some s =>have HF:=I (show qG a b = s by unfold qG;rw [h];rfl);have HA:=I h;go_enter Tryz.func208,Tryz.ntmps208;exact vy
theorem ZA (x:aU) (p:nI) (cs ps:List Value) (F G:List Nat) (nm:ByteArray) (w:World) (h:rd w x cs F) (h':rd w p ps G) (hw:(x.wt:Int)≤1048576) (eC:(p.wt:Int)≤1048576) :
 Calls Tryz.prog 183 #[.agg cs.toArray,.string nm,.agg ps.toArray] w fun e w'=>e = .returned (.int .i64 (OT nm x p))∧Below w.heap.size w w':=by
 have ga:x.wt = kL ba.wt x.aa+kL ag.wt x.J:=rfl;have b5:(x.aa.length:Int)≤1048576:=by have:=gJ ba.wt x.aa;omega
 have vk:(x.J.length:Int)≤1048576:=by have:=gJ ag.wt x.J;omega
 have hr:=h;have cj:=h';obtain ⟨bG,bD,fQ,dn,bW,jg,ax,hF,bQ,dM,hnext,aV,aP,aW⟩:=aO hr;obtain ⟨bY,bZ,iq,eU,eX,jV,bg,bn,dK,jU,hG,jW,dA,kQ,lg,lG,iO,bK⟩:=dL cj;subst ax jU;clear hF hG hr cj;rcases yg (iM nm) x.aa with hi | ⟨k,hk,hi⟩
 ·have HF:=I (amo (p:=p) hi);have HI:=I hi;clear hi;cases hs:vU (F7 nm x.J) with
  | none =>have HU:=I (AV hs);exact BR
  | some ab =>obtain ⟨a,b⟩:=ab;have HU:=I (AX hs);exact BR
 ·cases hs:vU (F7 nm x.J) with
  | none =>have HF:=I (agF (p:=p) hs);have HI:=I hi;clear hi;have HU:=I (AV hs);exact BR
  | some ab =>
    obtain ⟨a,b⟩:=ab;have cL:=amq (p:=p) hk hi hs;obtain ⟨ha,hb⟩:=UD (A:=dn) (c:=bW) dM hs;have HI:=I hi;clear hi;have HU:=I (AX hs);clear hs;have hL:=NK nm x.J;generalize (F7 nm x.J).length = L at cL HU hL;have vR:(L:Int)≤1048576:=O;clear hL;obtain ⟨bh,o,ck,Fk,rfl,o9,hbs,hr,br,hc⟩:=Sl.get (α:=ba) (A:=bG) (c:=bD) bQ hk;obtain ⟨jM,jO,sN,jE,jF,sO,ax,su,zM,qY,Gt,Gw,xg,qA⟩:=iy hr;subst ax;obtain ⟨q0,q1,q2,q3,q4,q5⟩:=lb 6 hc;clear hc;obtain ⟨S1,eD⟩:∃S,CQ (qG a p.aw) x.aa[k].aw = S:=⟨_,rfl⟩;obtain ⟨S2,b4⟩:∃S,CQ (qG b p.mem) x.aa[k].mem = S:=⟨_,rfl⟩;have dc:=zJ (qG a p.aw) x.aa[k].aw;have dx:=zJ (qG b p.mem) x.aa[k].mem;have oL:=Ru ha kQ;have pk:=Ru hb lg;rw [eD,b4] at cL;rw [eD] at dc;rw [b4] at dx;have HF:=I cL;clear cL;have nQ:IntKind.i64.wrap (S1+S2) = S1+S2:=(by rw [IntKind.wrap_i64];omega);have QU:=I (show IntKind.i64.wrap ((S1+S2).tdiv 2) = (S1+S2) / 2 by rw [Int.tdiv_eq_ediv_of_nonneg O,IntKind.wrap_i64];omega);have DP:=I eD;have QT:=I b4;clear eD b4;go_enter Tryz.func183,Tryz.ntmps183;go_wp2_with fail
    refine (gK x _ _ nm _ (aJ h bu) b5).mono ?_;rw [HI.out];rintro e w2 ⟨rfl,ao⟩;obtain ⟨cb,cG⟩:=ay ao;have cI:w.heap.size < w2.heap.size:=(sq ao.size);have kk:w.heap.size+1 < w2.heap.size:=(sq ao.size);have dE:Below w.heap.size w w2:=bu;go_wp2_with fail
    refine (iQ x _ _ nm _ (aJ h bu) vk).mono ?_;rw [HU.out];rintro e w3 ⟨rfl,bd⟩;obtain ⟨cX,hf3⟩:=ay bd;have ez:w.heap.size < w3.heap.size:=(sq bd.size);have uC:w.heap.size+1 < w3.heap.size:=(sq bd.size);have dy:Below w.heap.size w w3:=ah dE bd;replace q0:=r' dy q0 hbs;replace q1:=r' dy q1 hbs;replace q2:=r' dy q2 hbs;replace q3:=r' dy q3 hbs;replace q4:=r' dy q4 hbs;replace q5:=r' dy q5 hbs;have jd:bh < w3.heap.size:=(by have:=dy.size;omega);go_wp2_with fail
    refine aF w3 U' U' (aj _) ?_
    repeat (first
     | (apply aG
        case hw=>rfl
        simp only [Act.put,pz])
     | (apply aH
        case hw=>rfl
        case h =>
         intro wq hq;have dP:=(aB hq).1;have lJ:=(aB hq).2;go_simp
         first
          | exact ⟨hq,rfl⟩
          | exact ⟨aQ hq _,rfl⟩
          | (first | (refine (ag2 _ _ _ tO tO).mono ?_;rintro e wz ⟨rfl,nV⟩;exact ⟨rfl,aI hq nV⟩) | (refine (VD _ _ _ tO tO).mono ?_;(first | rw [DP.out] | rw [QT.out]);rintro e wz ⟨rfl,nV⟩;exact ⟨rfl,aI hq nV⟩))
          | (simp only [↓IntWalk.iteOmega];exact ⟨hq,rfl⟩)
        simp only [Act.put,pz]))
    refine aN ?_;intro wn hn;replace hn:=hn.out;go_wp2;go_ret
    exact ⟨by rw [HF.out];first | rfl | (simp;exact QU.out),ah dy hn⟩
theorem Zz (x:aU) (p:nI) (cs ps:List Value) (F G:List Nat) (nm:ByteArray) (w:World) (h:rd w x cs F) (h':rd w p ps G) (hw:(x.wt:Int)≤1048576) (eC:(p.wt:Int)≤1048576) :
 Calls Tryz.prog 151 #[.agg cs.toArray,.string nm,.agg ps.toArray] w fun e w'=>e = .returned (.int .i64 (OT nm x p))∧Below w.heap.size w w':=by
 have ga:x.wt = kL ba.wt x.aa+kL ag.wt x.J:=rfl;have b5:(x.aa.length:Int)≤1048576:=by have:=gJ ba.wt x.aa;omega
 have vk:(x.J.length:Int)≤1048576:=by have:=gJ ag.wt x.J;omega
 have hr:=h;have cj:=h';obtain ⟨bG,bD,fQ,dn,bW,jg,ax,hF,bQ,dM,hnext,aV,aP,aW⟩:=aO hr;obtain ⟨bY,bZ,iq,eU,eX,jV,bg,bn,dK,jU,hG,jW,dA,kQ,lg,lG,iO,bK⟩:=dL cj;subst ax jU;clear hF hG hr cj;rcases yg (iM nm) x.aa with hi | ⟨k,hk,hi⟩
 ·have HF:=I (amo (p:=p) hi);have HI:=I hi;clear hi;cases hs:vU (F7 nm x.J) with
  | none =>have HU:=I (AV hs);exact BS
  | some ab =>obtain ⟨a,b⟩:=ab;have HU:=I (AX hs);exact BS
 ·cases hs:vU (F7 nm x.J) with
  | none =>have HF:=I (agF (p:=p) hs);have HI:=I hi;clear hi;have HU:=I (AV hs);exact BS
  | some ab =>
    obtain ⟨a,b⟩:=ab;have cL:=amq (p:=p) hk hi hs;obtain ⟨ha,hb⟩:=UD (A:=dn) (c:=bW) dM hs;have HI:=I hi;clear hi;have HU:=I (AX hs);clear hs;have hL:=NK nm x.J;generalize (F7 nm x.J).length = L at cL HU hL;have vR:(L:Int)≤1048576:=O;clear hL;obtain ⟨bh,o,ck,Fk,rfl,o9,hbs,hr,br,hc⟩:=Sl.get (α:=ba) (A:=bG) (c:=bD) bQ hk;obtain ⟨jM,jO,sN,jE,jF,sO,ax,su,zM,qY,Gt,Gw,xg,qA⟩:=iy hr;subst ax;obtain ⟨q0,q1,q2,q3,q4,q5⟩:=lb 6 hc;clear hc;obtain ⟨S1,eD⟩:∃S,CQ (qG a p.aw) x.aa[k].aw = S:=⟨_,rfl⟩;obtain ⟨S2,b4⟩:∃S,CQ (qG b p.mem) x.aa[k].mem = S:=⟨_,rfl⟩;have dc:=zJ (qG a p.aw) x.aa[k].aw;have dx:=zJ (qG b p.mem) x.aa[k].mem;have oL:=Ru ha kQ;have pk:=Ru hb lg;rw [eD,b4] at cL;rw [eD] at dc;rw [b4] at dx;have HF:=I cL;clear cL;have nQ:IntKind.i64.wrap (S1+S2) = S1+S2:=(by rw [IntKind.wrap_i64];omega);have QU:=I (show IntKind.i64.wrap ((S1+S2).tdiv 2) = (S1+S2) / 2 by rw [Int.tdiv_eq_ediv_of_nonneg O,IntKind.wrap_i64];omega);cases he1:GX a p.aw with
    | none =>rw [show qG a p.aw = 9223372036854775807 by unfold qG;rw [he1];rfl] at eD oL;exact LC
    | some s1 =>rw [show qG a p.aw = s1 by unfold qG;rw [he1];rfl] at eD oL;exact LC
def Rt (nm:ByteArray) (x:aU) (p:nI):Int :=
 if pK (iM nm) x.aa < 0 then 0 else
 match x.aa[(pK (iM nm) x.aa).toNat]? with
 | none=>0
 | some h=>max 0 (100 - 25 * (BD p.ae 2 h.aT:Int))
theorem amY {nm:ByteArray} {x:aU} {p:nI} (h:pK (iM nm) x.aa = -1):Rt nm x p = 0:=by unfold Rt;rw [h];rfl
theorem aje {nm:ByteArray} {x:aU} {p:nI} {k:Nat} (hk:k < x.aa.length) (h:pK (iM nm) x.aa = k):Rt nm x p = max 0 (100 - 25 * (BD p.ae 2 x.aa[k].aT:Int)):=by
 unfold Rt;rw [h,if_neg O,Int.toNat_natCast,List.getElem?_eq_getElem hk]
theorem ZJ (x:aU) (p:nI) (cs ps:List Value) (F G:List Nat) (nm:ByteArray) (w:World) (h:rd w x cs F) (h':rd w p ps G) (hw:(x.wt:Int)≤1048576) (eC:(p.wt:Int)≤1048576) :
 Calls Tryz.prog 185 #[.agg cs.toArray,.string nm,.agg ps.toArray] w fun e w'=>e = .returned (.int .i64 (Rt nm x p))∧Below w.heap.size w w':=by
 have ga:x.wt = kL ba.wt x.aa+kL ag.wt x.J:=rfl;have ue:p.wt = p.name.size+kL aD.wt p.labels+kL bj.wt p.ai+kL bH.wt p.ae:=rfl;have b5:(x.aa.length:Int)≤1048576:=by have:=gJ ba.wt x.aa;omega
 obtain ⟨iu,gx⟩:=FQ (xs:=p.ae) O;have Ux:=I gx;clear gx;obtain ⟨bG,bD,fQ,dn,bW,jg,ax,hF,bQ,dM,hnext,aV,aP,aW⟩:=aO h;obtain ⟨bY,bZ,iq,eU,eX,jV,bg,bn,dK,jU,hG,jW,dA,kQ,lg,lG,iO,bK⟩:=dL h';subst ax jU;rcases yg (iM nm) x.aa with hi | ⟨k,hk,hi⟩
 ·have HF:=I (amY (p:=p) hi);have HI:=I hi;clear hi;go_enter Tryz.func185,Tryz.ntmps185;go_wp2_with fail
  refine (gK x _ _ nm _ (aJ h bu) b5).mono ?_;rw [HI.out];rintro e w2 ⟨rfl,ao⟩;exact di
 ·have HF:=I (aje (p:=p) hk hi);have HI:=I hi;clear hi;have dj:(kL iU.wt x.aa[k].aT:Int)≤1048576:=by
   exact KJ
  obtain ⟨mB,oT⟩:=BH dj;have Ul:=I oT;clear oT;have C3:=UN p.ae 2 x.aa[k].aT;obtain ⟨b,o,ck,Fk,rfl,o9,hbs,hr,br,hc⟩:=Sl.get (α:=ba) (A:=bG) (c:=bD) bQ hk;obtain ⟨jM,jO,sN,jE,jF,sO,ax,su,zM,qY,Gt,Gw,xg,qA⟩:=iy hr;subst ax;obtain ⟨q0,q1,q2,q3,q4,q5⟩:=lb 6 hc;clear hc;go_enter Tryz.func185,Tryz.ntmps185;go_wp2_with fail
  refine (gK x _ _ nm _ (aJ h bu) b5).mono ?_;rw [HI.out];rintro e w2 ⟨rfl,ao⟩;obtain ⟨cb,cG⟩:=ay ao;have cI:w.heap.size+1 < w2.heap.size:=sq ao.size;have kk:w.heap.size < w2.heap.size:=by omega
  have dE:Below w.heap.size w w2:=bu;replace q5:=r' dE q5 hbs;have uO:b < w2.heap.size:=by omega
  have sU:∀wq,Below w.heap.size w wq→Calls Tryz.prog 209 #[.slice bg p.ae.length bn,.slice jE x.aa[k].aT.length jF,.int .i64 2] wq fun e w'=>e = .returned (.int .i64 (BD p.ae 2 x.aa[k].aT))∧Below wq.heap.size wq w' :=
   fun wq hq=>UO p.ae x.aa[k].aT 2 _ _ _ _ _ _ _ _ _ (bK.ext hq) (qA.ext hq) rfl rfl iu mB Ux.out Ul.out
  have II:=I sU;clear sU;generalize BD p.ae 2 x.aa[k].aT = z at II HF C3;have qC:(z:Int)≤1048576:=by omega
  have mr:IntKind.i64.wrap (25 * (z:Int)) = 25 * (z:Int):=IntWalk.i64_in _ O;have mv:IntKind.i64.wrap (100 - 25 * (z:Int)) = 100 - 25 * (z:Int):=IntWalk.i64_in _ O;by_cases fc:(100:Int) - 25 * (z:Int)≤0
  ·have hM:max 0 (100 - 25 * (z:Int)) = 0:=O;have HM:=I hM;clear hM;go_wp2_with fail
   refine aF w2 U' U' (aj _) ?_
   repeat ((first | refine aG Z ?_ | refine aH _ Z I0 ?_);simp only [Act.put,pz])
   exact K0
  ·have M8:(0:Int) < 100 - 25 * (z:Int):=O;have hM:max 0 (100 - 25 * (z:Int)) = 100 - 25 * (z:Int):=O;have HM:=I hM;clear hM;have er:(100:Int) - 25 * (z:Int)≤100:=O;go_wp2_with fail
   refine aF w2 U' U' (aj _) ?_
   repeat ((first | refine aG Z ?_ | refine aH _ Z I0 ?_);simp only [Act.put,pz])
   exact Ku
theorem acy (n:Int) (w:World) (h:n≤100) (h0:-9223372036854775808≤n):Calls Tryz.prog 179 #[.int .i64 n,.int .i64 0,.int .i64 100] w fun e w'=>e = .returned (.int .i64 (max 0 n))∧w' = w:=by
 by_cases hn:n < 0
 ·rw [show max 0 n = 0 by omega];go_enter Tryz.func179,Tryz.ntmps179;go_wp2;go_ret
  exact ⟨rfl,rfl⟩
 ·rw [show max 0 n = n by omega];go_enter Tryz.func179,Tryz.ntmps179;go_wp2;go_ret
  exact ⟨rfl,rfl⟩
theorem ZI (x:aU) (p:nI) (cs ps:List Value) (F G:List Nat) (nm:ByteArray) (w:World) (h:rd w x cs F) (h':rd w p ps G) (hw:(x.wt:Int)≤1048576) (eC:(p.wt:Int)≤1048576) :
 Calls Tryz.prog 153 #[.agg cs.toArray,.string nm,.agg ps.toArray] w fun e w'=>e = .returned (.int .i64 (Rt nm x p))∧Below w.heap.size w w':=by
 have ga:x.wt = kL ba.wt x.aa+kL ag.wt x.J:=rfl;have ue:p.wt = p.name.size+kL aD.wt p.labels+kL bj.wt p.ai+kL bH.wt p.ae:=rfl;have b5:(x.aa.length:Int)≤1048576:=by have:=gJ ba.wt x.aa;omega
 obtain ⟨iu,gx⟩:=FQ (xs:=p.ae) O;have Ux:=I gx;clear gx;obtain ⟨bG,bD,fQ,dn,bW,jg,ax,hF,bQ,dM,hnext,aV,aP,aW⟩:=aO h;obtain ⟨bY,bZ,iq,eU,eX,jV,bg,bn,dK,jU,hG,jW,dA,kQ,lg,lG,iO,bK⟩:=dL h';subst ax jU;rcases yg (iM nm) x.aa with hi | ⟨k,hk,hi⟩
 ·have HF:=I (amY (p:=p) hi);have HI:=I hi;clear hi;go_enter Tryz.func153,Tryz.ntmps153;go_wp2_with fail
  refine (gQ x _ _ nm _ (aJ h bu) b5).mono ?_;rw [HI.out];rintro e w2 ⟨rfl,ao⟩;exact di
 ·have HF:=I (aje (p:=p) hk hi);have HI:=I hi;clear hi;have dj:(kL iU.wt x.aa[k].aT:Int)≤1048576:=by
   exact KJ
  obtain ⟨mB,oT⟩:=BH dj;have Ul:=I oT;clear oT;have C3:=UN p.ae 2 x.aa[k].aT;obtain ⟨b,o,ck,Fk,rfl,o9,hbs,hr,br,hc⟩:=Sl.get (α:=ba) (A:=bG) (c:=bD) bQ hk;obtain ⟨jM,jO,sN,jE,jF,sO,ax,su,zM,qY,Gt,Gw,xg,qA⟩:=iy hr;subst ax;obtain ⟨q0,q1,q2,q3,q4,q5⟩:=lb 6 hc;clear hc;go_enter Tryz.func153,Tryz.ntmps153;go_wp2_with fail
  refine (gQ x _ _ nm _ (aJ h bu) b5).mono ?_;rw [HI.out];rintro e w2 ⟨rfl,ao⟩;obtain ⟨cb,cG⟩:=ay ao;have cI:w.heap.size+1 < w2.heap.size:=sq ao.size;have kk:w.heap.size < w2.heap.size:=by omega
  have dE:Below w.heap.size w w2:=bu;replace q5:=r' dE q5 hbs;have uO:b < w2.heap.size:=by omega
  have sU:∀wq,Below w.heap.size w wq→Calls Tryz.prog 180 #[.slice bg p.ae.length bn,.slice jE x.aa[k].aT.length jF,.int .i64 2] wq fun e w'=>e = .returned (.int .i64 (BD p.ae 2 x.aa[k].aT))∧Below wq.heap.size wq w' :=
   fun wq hq=>UQ p.ae x.aa[k].aT 2 _ _ _ _ _ _ _ _ _ (bK.ext hq) (qA.ext hq) rfl rfl iu mB Ux.out Ul.out
  have II:=I sU;clear sU;generalize BD p.ae 2 x.aa[k].aT = z at II HF C3;have qC:(z:Int)≤1048576:=by omega
  have mr:IntKind.i64.wrap (25 * (z:Int)) = 25 * (z:Int):=IntWalk.i64_in _ O;have mv:IntKind.i64.wrap (100 - 25 * (z:Int)) = 100 - 25 * (z:Int):=IntWalk.i64_in _ O;by_cases fc:(100:Int) - 25 * (z:Int)≤0
  ·have hM:max 0 (100 - 25 * (z:Int)) = 0:=O;have HM:=I hM;clear hM;go_wp2_with fail
   refine aF w2 U' U' (aj _) ?_
   repeat ((first | refine aG Z ?_ | refine aH _ Z IH ?_);simp only [Act.put,pz])
   exact K0
  ·have M8:(0:Int) < 100 - 25 * (z:Int):=O;have hM:max 0 (100 - 25 * (z:Int)) = 100 - 25 * (z:Int):=O;have HM:=I hM;clear hM;have er:(100:Int) - 25 * (z:Int)≤100:=O;go_wp2_with fail
   refine aF w2 U' U' (aj _) ?_
   repeat ((first | refine aG Z ?_ | refine aH _ Z IH ?_);simp only [Act.put,pz])
   exact Ku
def nW (labels:List aD) (x:bj):Bool:=uh x &&
 (if x.op = 1 then (Df x.key labels).2&&MF (Df x.key labels).1 x.values
  else if x.op = 2 then !(Df x.key labels).2 || !MF (Df x.key labels).1 x.values
  else if x.op = 3 then (Df x.key labels).2 else !(Df x.key labels).2)
theorem apu {labels:List aD} {x:bj} (h:uh x = false):nW labels x = false:=by unfold nW;rw [h];rfl
theorem aiV {x:bj} (h:uh x = true):x.op = 1∨x.op = 2∨x.op = 3∨x.op = 4:=by
 unfold uh at h;exact vt
theorem abY (labels:List aD) (x:bj) (A:Option Addr) (n c:Nat) (F:List Nat) (cs:List Value) (G:List Nat) (w:World) (h:Sl w labels A c F) (hn:n = labels.length) (h':rd w x cs G) (gg:(labels.length:Int)≤1048576)
 (fI:(x.key.size:Int)≤1048576) (hl:(x.values.length:Int)≤1048576) (cS:∀v∈x.values,(v.size:Int)≤1048576) :
 Calls Tryz.prog 235 #[.slice A n c,.agg cs.toArray] w fun e w'=>e = .returned (.bool (nW labels x))∧Below w.heap.size w w':=by
 subst hn;have Eo:=I cS;clear cS;have hr:=h';obtain ⟨jy,ji,Bo,ax,qp,cc,hop,kV⟩:=og hr;subst ax;clear qp hr;cases hK:uh x with
 | false =>
   have HF:=I (apu (labels:=labels) hK);have HK:=I hK;clear hK;go_enter Tryz.func235,Tryz.ntmps235;go_wp2_with fail
   refine (Rw x _ _ _ (aJ h' bu) fI hl Eo.out).mono ?_;rw [HK.out];rintro e w2 ⟨rfl,ao⟩;exact di
 | true =>
   have C4:=aiV hK
   have HU:=I (show nW labels x = (if x.op = 1 then (Df x.key labels).2&&MF (Df x.key labels).1 x.values
  else if x.op = 2 then !(Df x.key labels).2 || !MF (Df x.key labels).1 x.values
  else if x.op = 3 then (Df x.key labels).2 else !(Df x.key labels).2) by unfold nW;rw [hK,Bool.true_and])
   have HK:=I hK;clear hK;obtain ⟨v,t,hvt⟩:∃v t,Df x.key labels = (v,t):=⟨_,_,rfl⟩;have hu:=HU.out;rw [hvt] at hu;have HL:=I hvt;clear HU hvt;go_enter Tryz.func235,Tryz.ntmps235;go_wp2_with fail
   refine (Rw x _ _ _ (aJ h' bu) fI hl Eo.out).mono ?_;rw [HK.out];rintro e w2 ⟨rfl,ao⟩;obtain ⟨cb,cG⟩:=ay ao;have cI:w.heap.size < w2.heap.size:=(by have:=ao.size;simp at this;omega);have ui:w2.cell? ⟨w.heap.size,0,none⟩ = some (.string x.key):=(by rw [cb _ _ S',cell_of_row _ _ _ _ _ _ (heap_alloc_new w _)];rfl);have eS:w2.cell? ⟨w.heap.size,1,none⟩ = some (.int .i64 x.op):=(by rw [cb _ _ S',cell_of_row _ _ _ _ _ _ (heap_alloc_new w _)];rfl);have mF:w2.cell? ⟨w.heap.size,2,none⟩ = some (.slice jy x.values.length ji):=(by rw [cb _ _ S',cell_of_row _ _ _ _ _ _ (heap_alloc_new w _)];rfl);have dE:Below w.heap.size w w2:=bu;clear cb cG;go_wp2_with fail
   refine (akJ labels x.key _ _ _ _ _ (h.ext dE) rfl gg).mono ?_;rw [HL.out];rintro e w3 ⟨rfl,bd⟩;replace eS:=r' bd eS cI;replace mF:=r' bd mF cI;have ez:w.heap.size < w3.heap.size:=(by have:=bd.size;omega);have dy:=ah dE bd;clear ui;have HU:=I hu;clear hu;rcases C4 with hop | hop | hop | hop
   all_goals
    have hu:=HU.out;rw [hop] at hu eS;simp only [Int.reduceEq,↓reduceIte] at hu;cases hh:MF v x.values <;> cases t
    all_goals
     have dC:=hu;try rw [hh] at dC
     have ma:=I dC;have HH:=I hh;clear dC hu hh hop;go_wp2_with (go_at_call 240;refine (VG x.values v _ _ _ _ _ (kV.ext bu) rfl hl).mono ?_;rw [HH.out];rintro e w4 ⟨rfl,bL⟩)
     go_ret
     exact ⟨by rw [ma.out];rfl,bu⟩
theorem abZ (labels:List aD) (x:bj) (A:Option Addr) (n c:Nat) (F:List Nat) (cs:List Value) (G:List Nat) (w:World) (h:Sl w labels A c F) (hn:n = labels.length) (h':rd w x cs G) (gg:(labels.length:Int)≤1048576)
 (fI:(x.key.size:Int)≤1048576) (hl:(x.values.length:Int)≤1048576) (cS:∀v∈x.values,(v.size:Int)≤1048576) :
 Calls Tryz.prog 222 #[.slice A n c,.agg cs.toArray] w fun e w'=>e = .returned (.bool (nW labels x))∧Below w.heap.size w w':=by
 subst hn;have Eo:=I cS;clear cS;have hr:=h';obtain ⟨jy,ji,Bo,ax,qp,cc,hop,kV⟩:=og hr;subst ax;clear qp hr;cases hK:uh x with
 | false =>
   have HF:=I (apu (labels:=labels) hK);have HK:=I hK;clear hK;go_enter Tryz.func222,Tryz.ntmps222;go_wp2_with fail
   refine (Rx x _ _ _ (aJ h' bu) fI hl Eo.out).mono ?_;rw [HK.out];rintro e w2 ⟨rfl,ao⟩;exact di
 | true =>
   have C4:=aiV hK
   have HU:=I (show nW labels x = (if x.op = 1 then (Df x.key labels).2&&MF (Df x.key labels).1 x.values
  else if x.op = 2 then !(Df x.key labels).2 || !MF (Df x.key labels).1 x.values
  else if x.op = 3 then (Df x.key labels).2 else !(Df x.key labels).2) by unfold nW;rw [hK,Bool.true_and])
   have HK:=I hK;clear hK;obtain ⟨v,t,hvt⟩:∃v t,Df x.key labels = (v,t):=⟨_,_,rfl⟩;have hu:=HU.out;rw [hvt] at hu;have HL:=I hvt;clear HU hvt;go_enter Tryz.func222,Tryz.ntmps222;go_wp2_with fail
   refine (Rx x _ _ _ (aJ h' bu) fI hl Eo.out).mono ?_;rw [HK.out];rintro e w2 ⟨rfl,ao⟩;obtain ⟨cb,cG⟩:=ay ao;have cI:w.heap.size < w2.heap.size:=(by have:=ao.size;simp at this;omega);have ui:w2.cell? ⟨w.heap.size,0,none⟩ = some (.string x.key):=(by rw [cb _ _ S',cell_of_row _ _ _ _ _ _ (heap_alloc_new w _)];rfl);have eS:w2.cell? ⟨w.heap.size,1,none⟩ = some (.int .i64 x.op):=(by rw [cb _ _ S',cell_of_row _ _ _ _ _ _ (heap_alloc_new w _)];rfl);have mF:w2.cell? ⟨w.heap.size,2,none⟩ = some (.slice jy x.values.length ji):=(by rw [cb _ _ S',cell_of_row _ _ _ _ _ _ (heap_alloc_new w _)];rfl);have dE:Below w.heap.size w w2:=bu;clear cb cG;go_wp2_with fail
   refine (akK labels x.key _ _ _ _ _ (h.ext dE) rfl gg).mono ?_;rw [HL.out];rintro e w3 ⟨rfl,bd⟩;replace eS:=r' bd eS cI;replace mF:=r' bd mF cI;have ez:w.heap.size < w3.heap.size:=(by have:=bd.size;omega);have dy:=ah dE bd;clear ui;have HU:=I hu;clear hu;rcases C4 with hop | hop | hop | hop
   all_goals
    have hu:=HU.out;rw [hop] at hu eS;simp only [Int.reduceEq,↓reduceIte] at hu;cases hh:MF v x.values <;> cases t
    all_goals
     have dC:=hu;try rw [hh] at dC
     have ma:=I dC;have HH:=I hh;clear dC hu hh hop;go_wp2_with (go_at_call 234;refine (aaG x.values v _ _ _ _ _ (kV.ext bu) rfl hl).mono ?_;rw [HH.out];rintro e w4 ⟨rfl,bL⟩)
     go_ret
     exact ⟨by rw [ma.out];rfl,bu⟩
def Hw (labels:List aD) (xs:List bj):Bool:=xs.all (nW labels)
theorem acu {labels:List aD} {xs:List bj} {k:Nat} (hk:k < xs.length) (h:nW labels xs[k] = false):Hw labels xs = false:=by
 unfold Hw;rw [List.all_eq_false];exact ⟨xs[k],List.getElem_mem ..,by simp [h]⟩
theorem amX {α:Type} {p:α→Bool} {xs:List α} {k:Nat} (hk:k < xs.length) (h:∀x∈xs.take k,p x = true) (hx:p xs[k] = true):∀x∈xs.take (k+1),p x = true:=by
 rw [List.take_succ_eq_append_getElem hk];intro x hm;rcases List.mem_append.1 hm with hm | hm
 ·exact h x hm
 ·simp only [List.mem_singleton] at hm;rw [hm];exact hx
theorem acv {labels:List aD} {xs:List bj} (h:∀x∈xs,nW labels x = true):Hw labels xs = true:=by
 unfold Hw;rw [List.all_eq_true];exact h
theorem ala (xs:List bj) (labels:List aD) (A B:Option Addr) (n m c d:Nat) (F G:List Nat) (w:World) (h:Sl w xs A c F) (h':Sl w labels B d G) (hn:n = xs.length) (hm:m = labels.length) (hl:(xs.length:Int)≤1048576) (gg:(labels.length:Int)≤1048576)
 (cS:(∀l∈xs,(l.key.size:Int)≤1048576∧(l.values.length:Int)≤1048576∧∀v∈l.values,(v.size:Int)≤1048576)) :
 Calls Tryz.prog 223 #[.slice A n c,.slice B m d] w fun e w'=>e = .returned (.bool (Hw labels xs))∧Below w.heap.size w w':=by
 subst hn hm;have Eo:=I cS;clear cS;go_enter Tryz.func223,Tryz.ntmps223;go_wp2_with fail
 go_loopw [9] (fun i wr=>∃k:Nat,k≤xs.length∧i = .int .i64 k∧Hid (∀x∈xs.take k,nW labels x = true)∧Below w.heap.size w wr) (fun i _=>xs.length - (intOf i).toNat)
 case atStart=>exact ⟨0,Nat.zero_le _,rfl,by show ∀_,_;simp,bu⟩
 case round =>
  obtain ⟨k,hk,rfl,HN,az⟩:=hrel;by_cases ap:k < xs.length
  ·obtain ⟨b,o,ck,Fk,rfl,o9,hbs,hr,br,hc⟩:=(Sl.ext (w':=wr) (A:=A) (c:=c) h az).get ap;obtain ⟨jy,ji,Bo,ax,su,cc,hop,kV⟩:=og hr;subst ax;obtain ⟨q0,q1,q2⟩:=jN 3 hc;clear hc;obtain ⟨cW,cK,hs3⟩:=Eo.out xs[k] (List.getElem_mem ..);cases hp:nW labels xs[k] with
   | true =>
     have Gn:=I (amX ap HN.out hp);have HP:=I hp;clear hp;go_wp2_with fail
     refine (abY labels xs[k] _ _ _ _ _ _ _ (h'.ext bu) rfl (aJ hr bu) gg cW cK hs3).mono ?_;rw [HP.out];rintro e wn ⟨rfl,hn⟩;exact Bh
   | false =>
     have HF:=I (acu ap hp);have HP:=I hp;clear hp;go_wp2_with fail
     refine (abY labels xs[k] _ _ _ _ _ _ _ (h'.ext bu) rfl (aJ hr bu) gg cW cK hs3).mono ?_;rw [HP.out];rintro e wn ⟨rfl,hn⟩;exact di
  ·exact LR
theorem alb (xs:List bj) (labels:List aD) (A B:Option Addr) (n m c d:Nat) (F G:List Nat) (w:World) (h:Sl w xs A c F) (h':Sl w labels B d G) (hn:n = xs.length) (hm:m = labels.length) (hl:(xs.length:Int)≤1048576) (gg:(labels.length:Int)≤1048576)
 (cS:(∀l∈xs,(l.key.size:Int)≤1048576∧(l.values.length:Int)≤1048576∧∀v∈l.values,(v.size:Int)≤1048576)) :
 Calls Tryz.prog 202 #[.slice A n c,.slice B m d] w fun e w'=>e = .returned (.bool (Hw labels xs))∧Below w.heap.size w w':=by
 subst hn hm;have Eo:=I cS;clear cS;go_enter Tryz.func202,Tryz.ntmps202;go_wp2_with fail
 go_loopw [5] (fun i wr=>∃k:Nat,k≤xs.length∧i = .int .i64 k∧Hid (∀x∈xs.take k,nW labels x = true)∧Below w.heap.size w wr) (fun i _=>xs.length - (intOf i).toNat)
 case atStart=>exact ⟨0,Nat.zero_le _,rfl,by show ∀_,_;simp,bu⟩
 case round =>
  obtain ⟨k,hk,rfl,HN,az⟩:=hrel;by_cases ap:k < xs.length
  ·obtain ⟨b,o,ck,Fk,rfl,o9,hbs,hr,br,hc⟩:=(Sl.ext (w':=wr) (A:=A) (c:=c) h az).get ap;obtain ⟨jy,ji,Bo,ax,su,cc,hop,kV⟩:=og hr;subst ax;obtain ⟨q0,q1,q2⟩:=jN 3 hc;clear hc;obtain ⟨cW,cK,hs3⟩:=Eo.out xs[k] (List.getElem_mem ..);cases hp:nW labels xs[k] with
   | true =>
     have Gn:=I (amX ap HN.out hp);have HP:=I hp;clear hp;go_wp2_with fail
     refine (abZ labels xs[k] _ _ _ _ _ _ _ (h'.ext bu) rfl (aJ hr bu) gg cW cK hs3).mono ?_;rw [HP.out];rintro e wn ⟨rfl,hn⟩;exact Bh
   | false =>
     have HF:=I (acu ap hp);have HP:=I hp;clear hp;go_wp2_with fail
     refine (abZ labels xs[k] _ _ _ _ _ _ _ (h'.ext bu) rfl (aJ hr bu) gg cW cK hs3).mono ?_;rw [HP.out];rintro e wn ⟨rfl,hn⟩;exact di
  ·exact LR
end Go.Proofs.YtjahcnjmjahbaaaGreat
