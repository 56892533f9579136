/- NeedMet, of the program and of the reference. No condition. -/
import Derived.Test.YtajbbmembionpaaGreatHas
import Derived.Test.YtajbbmembionpaaGreatTaintsOk
namespace Go.Proofs.YtajbbmembionpaaGreat
open Go.ChangeShapes Go.WideShapes Go.ChangeAt Go.RowKit
set_option linter.unusedVariables false
set_option linter.unusedSimpArgs false
set_option maxHeartbeats 4000000
set_option maxRecDepth 100000
def sB (labels:List ap) (x:aM):Bool:=uh x &&
 (if x.op = 1 then (Df x.key labels).2&&MF (Df x.key labels).1 x.values
  else if x.op = 2 then !(Df x.key labels).2 || !MF (Df x.key labels).1 x.values
  else if x.op = 3 then (Df x.key labels).2 else !(Df x.key labels).2)
theorem apu {labels:List ap} {x:aM} (h:uh x = false):sB labels x = false:=by unfold sB;rw [h];rfl
theorem aiV {x:aM} (h:uh x = true):x.op = 1∨x.op = 2∨x.op = 3∨x.op = 4:=by
 unfold uh at h;exact tp
theorem SM (labels:List ap) (x:aM) (A:Option Addr) (n c:Nat) (F:List Nat) (cs:List Value) (G:List Nat) (w:World) (h:Sl w labels A c F) (Z:n = labels.length) (h':rd w x cs G) (iJ:(labels.length:Int)≤1048576)
 (gd:(x.key.size:Int)≤1048576) (hl:(x.values.length:Int)≤1048576) (cP:∀v∈x.values,(v.size:Int)≤1048576) :
 Calls Tryz.prog 153 #[.slice A n c,.agg cs.toArray] w fun e w'=>e = .returned (.bool (sB labels x))∧Below w.heap.size w w':=by
 subst Z;have Eo:=I cP;clear cP;have hr:=h';obtain ⟨jy,ji,Bo,aE,qp,cf,ia,kV⟩:=og hr;subst aE;clear qp hr;cases hK:uh x with
 | false =>
   have HF:=I (apu (labels:=labels) hK);have HK:=I hK;clear hK;go_enter Tryz.func153,Tryz.ntmps153;go_wp2_with fail
   refine (Rx x _ _ _ (aJ h' bJ) gd hl Eo.out).mono ?_;rw [HK.out];rintro e w2 ⟨rfl,ar⟩;exact ej
 | true =>
   have Nz:=aiV hK
   have HU:=I (show sB labels x = (if x.op = 1 then (Df x.key labels).2&&MF (Df x.key labels).1 x.values
  else if x.op = 2 then !(Df x.key labels).2 || !MF (Df x.key labels).1 x.values
  else if x.op = 3 then (Df x.key labels).2 else !(Df x.key labels).2) by unfold sB;rw [hK,Bool.true_and])
   have HK:=I hK;clear hK;obtain ⟨v,t,hvt⟩:∃v t,Df x.key labels = (v,t):=⟨_,_,rfl⟩;have hu:=HU.out;rw [hvt] at hu;have HL:=I hvt;clear HU hvt;go_enter Tryz.func153,Tryz.ntmps153;go_wp2_with fail
   refine (Rx x _ _ _ (aJ h' bJ) gd hl Eo.out).mono ?_;rw [HK.out];rintro e w2 ⟨rfl,ar⟩;obtain ⟨cq,cL⟩:=ay ar;have cw:w.heap.size < w2.heap.size:=(by have:=ar.size;simp at this;omega);have sx:w2.cell? ⟨w.heap.size,0,none⟩ = some (.string x.key):=(by rw [cq _ _ S',cell_of_row _ _ _ _ _ _ (heap_alloc_new w _)];rfl);have ei:w2.cell? ⟨w.heap.size,1,none⟩ = some (.int .i64 x.op):=(by rw [cq _ _ S',cell_of_row _ _ _ _ _ _ (heap_alloc_new w _)];rfl);have lR:w2.cell? ⟨w.heap.size,2,none⟩ = some (.slice jy x.values.length ji):=(by rw [cq _ _ S',cell_of_row _ _ _ _ _ _ (heap_alloc_new w _)];rfl);have eM:Below w.heap.size w w2:=bJ;clear cq cL;go_wp2_with fail
   refine (akK labels x.key _ _ _ _ _ (h.ext eM) rfl iJ).mono ?_;rw [HL.out];rintro e w3 ⟨rfl,bb⟩;replace ei:=r' bb ei cw;replace lR:=r' bb lR cw;have cU:w.heap.size < w3.heap.size:=(by have:=bb.size;omega);have dX:=ah eM bb;clear sx;have HU:=I hu;clear hu;rcases Nz with ia | ia | ia | ia
   all_goals
    have hu:=HU.out;rw [ia] at hu ei;simp only [Int.reduceEq,↓reduceIte] at hu;cases hh:MF v x.values <;> cases t
    all_goals
     have bN:=hu;try rw [hh] at bN
     have cJ:=I bN;have HH:=I hh;clear bN hu hh ia;go_wp2_with (go_at_call 163;refine (aaG x.values v _ _ _ _ _ (kV.ext bJ) rfl hl).mono ?_;rw [HH.out];rintro e w4 ⟨rfl,bx⟩)
     go_ret
     exact ⟨by rw [cJ.out];rfl,bJ⟩
def Hw (labels:List ap) (xs:List aM):Bool:=xs.all (sB labels)
theorem acu {labels:List ap} {xs:List aM} {k:Nat} (hk:k < xs.length) (h:sB labels xs[k] = false):Hw labels xs = false:=by
 unfold Hw;rw [List.all_eq_false];exact ⟨xs[k],List.getElem_mem ..,by simp [h]⟩
theorem amX {α:Type} {p:α→Bool} {xs:List α} {k:Nat} (hk:k < xs.length) (h:∀x∈xs.take k,p x = true) (hx:p xs[k] = true):∀x∈xs.take (k+1),p x = true:=by
 rw [List.take_succ_eq_append_getElem hk];intro x hm;rcases List.mem_append.1 hm with hm | hm
 ·exact h x hm
 ·simp only [List.mem_singleton] at hm;rw [hm];exact hx
theorem acv {labels:List ap} {xs:List aM} (h:∀x∈xs,sB labels x = true):Hw labels xs = true:=by
 unfold Hw;rw [List.all_eq_true];exact h
theorem alb (xs:List aM) (labels:List ap) (A B:Option Addr) (n m c d:Nat) (F G:List Nat) (w:World) (h:Sl w xs A c F) (h':Sl w labels B d G) (Z:n = xs.length) (hm:m = labels.length) (hl:(xs.length:Int)≤1048576) (iJ:(labels.length:Int)≤1048576)
 (cP:(∀l∈xs,(l.key.size:Int)≤1048576∧(l.values.length:Int)≤1048576∧∀v∈l.values,(v.size:Int)≤1048576)) :
 Calls Tryz.prog 128 #[.slice A n c,.slice B m d] w fun e w'=>e = .returned (.bool (Hw labels xs))∧Below w.heap.size w w':=by
 subst Z hm;have Eo:=I cP;clear cP;go_enter Tryz.func128,Tryz.ntmps128;go_wp2_with fail
 go_loopw [5] (fun i wr=>∃k:Nat,k≤xs.length∧i = .int .i64 k∧Hid (∀x∈xs.take k,sB labels x = true)∧Below w.heap.size w wr) (fun i _=>xs.length - (intOf i).toNat)
 case atStart=>exact ⟨0,Nat.zero_le _,rfl,by show ∀_,_;simp,bJ⟩
 case round =>
  obtain ⟨k,hk,rfl,HN,aR⟩:=hrel;by_cases ax:k < xs.length
  ·obtain ⟨b,o,ck,Fk,rfl,o9,hbs,hr,bB,hc⟩:=(Sl.ext (w':=wr) (A:=A) (c:=c) h aR).get ax;obtain ⟨jy,ji,Bo,aE,su,cf,ia,kV⟩:=og hr;subst aE;obtain ⟨q0,q1,q2⟩:=pS 3 hc;clear hc;obtain ⟨dB,cR,hs3⟩:=Eo.out xs[k] (List.getElem_mem ..);cases hp:sB labels xs[k] with
   | true =>
     have Gn:=I (amX ax HN.out hp);have HP:=I hp;clear hp;go_wp2_with fail
     refine (SM labels xs[k] _ _ _ _ _ _ _ (h'.ext bJ) rfl (aJ hr bJ) iJ dB cR hs3).mono ?_;rw [HP.out];rintro e wn ⟨rfl,Z⟩;exact xU
   | false =>
     have HF:=I (acu ax hp);have HP:=I hp;clear hp;go_wp2_with fail
     refine (SM labels xs[k] _ _ _ _ _ _ _ (h'.ext bJ) rfl (aJ hr bJ) iJ dB cR hs3).mono ?_;rw [HP.out];rintro e wn ⟨rfl,Z⟩;exact ej
  ·have bF:k = xs.length:=J;subst bF;have Z:=HN.out;rw [List.take_length] at Z;have HF:=I (acv Z);clear Z;exact ej
def Jo (NA NB most:Int):Bool:=match GX NA NB with | some s=>decide (s≤most) | none=>false
def Vm (h:ba) (p:nI) (a b n:Int):Int :=
 if Hw h.labels p.ai = false then 1 else if 0 < (BD p.ae 1 h.aT:Int) then 2
 else if Jo a p.az h.az = false then 3 else if Jo b p.mem h.mem = false then 4 else if h.av≤n then 5 else 0
def oH (nm:ByteArray) (x:aU) (p:nI):Int :=
 if pK (iM nm) x.aa < 0 then 6 else
 match vU (F7 nm x.V),x.aa[(pK (iM nm) x.aa).toNat]? with
 | some (a,b),some h=>Vm h p a b (F7 nm x.V).length
 | _,_=>6
theorem afH {nm:ByteArray} {x:aU} {p:nI} (h:pK (iM nm) x.aa = -1):oH nm x p = 6:=by unfold oH;rw [h];rfl
theorem SN {nm:ByteArray} {x:aU} {p:nI} (h:vU (F7 nm x.V) = none):oH nm x p = 6:=by unfold oH;rw [h];simp
theorem SO {nm:ByteArray} {x:aU} {p:nI} {k:Nat} {a b:Int} (hk:k < x.aa.length) (h:pK (iM nm) x.aa = k) (hs:vU (F7 nm x.V) = some (a,b)):oH nm x p = Vm x.aa[k] p a b (F7 nm x.V).length:=by
 unfold oH;exact xZ
theorem afJ {h:ba} (hw:(h.wt:Int)≤1048576):((h.labels.length:Int)≤1048576)∧((kL iU.wt h.aT:Int)≤1048576):=by
 have im:h.wt = h.name.size+kL ap.wt h.labels+kL iU.wt h.aT:=rfl;have:=gJ ap.wt h.labels;omega
theorem Tz (x:aU) (p:nI) (cs ps:List Value) (F G:List Nat) (nm:ByteArray) (w:World) (h:rd w x cs F) (h':rd w p ps G) (hw:(x.wt:Int)≤1048576) (fN:(p.wt:Int)≤1048576) :
 Calls Tryz.prog 82 #[.agg cs.toArray,.string nm,.agg ps.toArray] w fun e w'=>e = .returned (.int .i64 (oH nm x p))∧Below w.heap.size w w':=by
 have im:x.wt = kL ba.wt x.aa+kL ag.wt x.V:=rfl;have qB:p.wt = p.name.size+kL ap.wt p.labels+kL aM.wt p.ai+kL bH.wt p.ae:=rfl;have cA:(x.aa.length:Int)≤1048576:=by have:=gJ ba.wt x.aa;omega
 have vk:(x.V.length:Int)≤1048576:=by have:=gJ ag.wt x.V;omega
 obtain ⟨kR,jA⟩:=FQ (xs:=p.ae) J;obtain ⟨uK,AN⟩:=Aa (xs:=p.ai) J;have Ux:=I jA;have L8:=I AN;clear jA AN;have hr:=h;have d':=h';obtain ⟨bG,bD,fQ,dn,bW,jg,aE,hF,bQ,dM,hnext,aV,aP,aW⟩:=aO hr;obtain ⟨bY,bZ,iq,eU,eX,jV,bg,bn,dK,jU,hG,jW,dA,kQ,lg,lG,iO,bK⟩:=dL d';subst aE jU;clear hF hG hr d';rcases yg (iM nm) x.aa with hi | ⟨k,hk,hi⟩
 ·have HF:=I (afH (p:=p) hi);have HI:=I hi;clear hi;cases hs:vU (F7 nm x.V) with
  | none =>have HU:=I (AV hs);exact x6
  | some ab =>obtain ⟨a,b⟩:=ab;have HU:=I (AX hs);exact x6
 ·cases hs:vU (F7 nm x.V) with
  | none =>have HF:=I (SN (p:=p) hs);have HI:=I hi;clear hi;have HU:=I (AV hs);exact x6
  | some ab =>
    obtain ⟨a,b⟩:=ab;have cY:=SO (p:=p) hk hi hs;obtain ⟨ha,X⟩:=UD (A:=dn) (c:=bW) dM hs;have HI:=I hi;clear hi;have HU:=I (AX hs);clear hs;have hL:=NK nm x.V;generalize (F7 nm x.V).length = L at cY HU hL;have AZ:(L:Int)≤1048576:=J;clear hL;obtain ⟨Mw,hht⟩:=afJ (h:=x.aa[k]) (by have:=rM (f:=ba.wt) hk;omega);obtain ⟨ot,hxs⟩:=BH hht;have Gf:=UN p.ae 1 x.aa[k].aT;obtain ⟨bh,o,ck,Fk,rfl,o9,hbs,hr,bB,hc⟩:=Sl.get (α:=ba) (A:=bG) (c:=bD) bQ hk;obtain ⟨jM,jO,sN,jE,jF,sO,aE,su,zM,qY,Gt,Gw,xg,qA⟩:=iy hr;subst aE;obtain ⟨q0,q1,q2,q3,q4,q5⟩:=oW 6 hc;clear hc
    have IG:=I (show ∀wq,Below w.heap.size w wq→Calls Tryz.prog 128 #[.slice eU p.ai.length eX,.slice jM x.aa[k].labels.length jO] wq fun e w'=>e = .returned (.bool (Hw x.aa[k].labels p.ai))∧Below wq.heap.size wq w' from
     fun wq hq=>alb p.ai x.aa[k].labels _ _ _ _ _ _ _ _ wq (iO.ext hq) (qY.ext hq) rfl rfl uK Mw L8.out)
    have vi:∀wq,Below w.heap.size w wq→Calls Tryz.prog 129 #[.slice bg p.ae.length bn,.slice jE x.aa[k].aT.length jF,.int .i64 1] wq fun e w'=>e = .returned (.int .i64 (BD p.ae 1 x.aa[k].aT))∧Below wq.heap.size wq w' :=
     fun wq hq=>UQ p.ae x.aa[k].aT 1 _ _ _ _ _ _ _ _ _ (bK.ext hq) (qA.ext hq) rfl rfl kR ot Ux.out hxs
    have IH:=I vi;unfold Vm at cY;clear vi hxs;generalize BD p.ae 1 x.aa[k].aT = z at IH cY Gf;have rp:(z:Int)≤1048576:=J;have Aw:=I cY;clear cY;have NC:=I (show (x.aa.length:Int)≤1048576 from cA);clear hht Mw ot cA;go_enter Tryz.func82,Tryz.ntmps82;go_wp2_with fail
    refine (gQ x _ _ nm _ (aJ h bJ) NC.out).mono ?_;rw [HI.out];rintro e w2 ⟨rfl,ar⟩;obtain ⟨cq,cL⟩:=ay ar;have cw:w.heap.size < w2.heap.size:=(sq ar.size);have ke:w.heap.size+1 < w2.heap.size:=(sq ar.size);have eM:Below w.heap.size w w2:=bJ;go_wp2_with fail
    refine (jm x _ _ nm _ (aJ h bJ) vk).mono ?_;rw [HU.out];rintro e w3 ⟨rfl,bb⟩;obtain ⟨dm,hf3⟩:=ay bb;have cU:w.heap.size < w3.heap.size:=(sq bb.size);have ui:w.heap.size+1 < w3.heap.size:=(sq bb.size);have dX:Below w.heap.size w w3:=ah eM bb;replace q0:=r' dX q0 hbs;replace q1:=r' dX q1 hbs;replace q2:=r' dX q2 hbs;replace q3:=r' dX q3 hbs;replace q4:=r' dX q4 hbs;replace q5:=r' dX q5 hbs;have jd:bh < w3.heap.size:=(by have:=dX.size;omega);cases hS:Hw x.aa[k].labels p.ai
    ·have HF:=I (show oH nm x p = 1 by rw [Aw.out,if_pos hS]);have HS:=I hS;clear hS;go_wp2_with fail
     refine (IG.out _ bJ).mono ?_;rw [HS.out];rintro e w4 ⟨rfl,bx⟩;obtain ⟨fi,hf4⟩:=ay bx;have Wy:w.heap.size < w4.heap.size:=(sq bx.size);have IF:w.heap.size+1 < w4.heap.size:=(sq bx.size);have Lb:w3.heap.size < w4.heap.size:=(sq bx.size);exact tg
    ·by_cases hu:(0:Int) < (z:Int)
     ·have HF:=I (show oH nm x p = 2 by rw [Aw.out,if_neg (by simp [hS]),if_pos hu]);have HS:=I hS;clear hS;go_wp2_with fail
      refine (IG.out _ bJ).mono ?_;rw [HS.out];rintro e w4 ⟨rfl,bx⟩;obtain ⟨fi,hf4⟩:=ay bx;have Wy:w.heap.size < w4.heap.size:=(sq bx.size);have IF:w.heap.size+1 < w4.heap.size:=(sq bx.size);have Lb:w3.heap.size < w4.heap.size:=(sq bx.size);go_wp2_with fail
      refine (IH.out _ bJ).mono ?_;rintro e w5 ⟨rfl,bv⟩;obtain ⟨sM,pF⟩:=ay bv;have Es:w.heap.size < w5.heap.size:=(sq bv.size);have IV:w.heap.size+1 < w5.heap.size:=(sq bv.size);have Ad:w3.heap.size < w5.heap.size:=(sq bv.size);exact tg
     ·cases he1:GX a p.az with
      | none =>have gc:Jo a p.az x.aa[k].az = false:=(by unfold Jo;rw [he1]);exact CH
      | some s1 =>
        by_cases yz:s1≤x.aa[k].az
        ·have gc:Jo a p.az x.aa[k].az = true:=(by unfold Jo;rw [he1];simp [yz]);cases he2:GX b p.mem with
         | none =>have cL:Jo b p.mem x.aa[k].mem = false:=(by unfold Jo;rw [he2]);exact EA
         | some s2 =>
           by_cases hle2:s2≤x.aa[k].mem
           ·have cL:Jo b p.mem x.aa[k].mem = true:=(by unfold Jo;rw [he2];simp [hle2]);by_cases l5:x.aa[k].av≤(L:Int)
            ·have HF:=I (show oH nm x p = 5 by rw [Aw.out,if_neg (by simp [hS]),if_neg hu,if_neg (by simp [gc]),if_neg (by simp [cL]),if_pos l5]);exact we
            ·have HF:=I (show oH nm x p = 0 by rw [Aw.out,if_neg (by simp [hS]),if_neg hu,if_neg (by simp [gc]),if_neg (by simp [cL]),if_neg l5]);exact we
           ·have cL:Jo b p.mem x.aa[k].mem = false:=(by unfold Jo;rw [he2];simp [hle2]);exact EA
        ·have gc:Jo a p.az x.aa[k].az = false:=(by unfold Jo;rw [he1];simp [yz]);exact CH
theorem aY.Oq {w:World} {B:Nat} {xs:List Int} {ds:List Value} {n:Int} (h:aY w B xs ds []) (Z:br n):aY w B (xs++[n]) (ds++[.int .i64 n]) [] :=
 ⟨h.rd.append (.single (jL w n Z)),List.nodup_nil,(fun b X=>by cases X),(fun b X=>by cases X)⟩
theorem Oa (x:aU) (p:nI) (cs ps:List Value) (F G:List Nat) (nm:ByteArray) (w:World) (h:rd w x cs F) (h':rd w p ps G) (hw:(x.wt:Int)≤1048576) (fN:(p.wt:Int)≤1048576) :
 Calls Tryz.prog 41 #[.agg cs.toArray,.string nm,.agg ps.toArray] w fun e w'=>e = .returned (.bool (oH nm x p == 0))∧Below w.heap.size w w':=by
 have hr:=h;have d':=h';obtain ⟨bG,bD,fQ,dn,bW,jg,aE,hF,bQ,dM,hnext,aV,aP,aW⟩:=aO hr;obtain ⟨bY,bZ,iq,eU,eX,jV,bg,bn,dK,jU,hG,jW,dA,kQ,lg,lG,iO,bK⟩:=dL d';subst aE jU;clear hF hG hr d';go_enter Tryz.func41,Tryz.ntmps41;go_wp2_with fail
 refine (Tz x p _ _ _ _ nm _ (aJ h bJ) (aJ h' bJ) hw fN).mono ?_;rintro e w2 ⟨rfl,ar⟩;go_wp2;go_ret
 exact ⟨rfl,bJ⟩
end Go.Proofs.YtajbbmembionpaaGreat
