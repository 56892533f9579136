/- SoftMark, of the program and of the reference. No condition. -/
import Derived.Test.YtajbbmembionpaaGreatTaintsOk
import Derived.Test.YtajbbmembionpaaGreatMark
import Derived.Test.YtajbbmembionpaaGreatSums
namespace Go.Proofs.YtajbbmembionpaaGreat
open Go.ChangeShapes Go.WideShapes Go.ChangeAt Go.RowKit
set_option linter.unusedVariables false
set_option linter.unusedSimpArgs false
set_option maxHeartbeats 2000000
set_option maxRecDepth 100000
def Rt (nm:ByteArray) (x:aU) (p:nI):Int :=
 if pK (iM nm) x.V < 0 then 0 else
 match x.V[(pK (iM nm) x.V).toNat]? with
 | none=>0
 | some h=>max 0 (100 - 25 * (BD p.ae 2 h.aT:Int))
theorem amY {nm:ByteArray} {x:aU} {p:nI} (h:pK (iM nm) x.V = -1):Rt nm x p = 0:=by unfold Rt;rw [h];rfl
theorem aje {nm:ByteArray} {x:aU} {p:nI} {k:Nat} (hk:k < x.V.length) (h:pK (iM nm) x.V = k):Rt nm x p = max 0 (100 - 25 * (BD p.ae 2 x.V[k].aT:Int)):=by
 unfold Rt;rw [h,if_neg J,Int.toNat_natCast,List.getElem?_eq_getElem hk]
theorem XU (n:Int) (w:World) (h:n≤100) (h0:-9223372036854775808≤n):Calls Tryz.prog 144 #[.int .i64 n,.int .i64 0,.int .i64 100] w fun e w'=>e = .returned (.int .i64 (max 0 n))∧w' = w:=by
 by_cases X:n < 0
 ·rw [show max 0 n = 0 by omega];go_enter Tryz.func144,Tryz.ntmps144;go_wp2;go_ret
  exact ⟨rfl,rfl⟩
 ·rw [show max 0 n = n by omega];go_enter Tryz.func144,Tryz.ntmps144;go_wp2;go_ret
  exact ⟨rfl,rfl⟩
theorem ZI (x:aU) (p:nI) (cs ps:List Value) (F G:List Nat) (nm:ByteArray) (w:World) (h:rd w x cs F) (h':rd w p ps G) (hw:(x.wt:Int)≤1048576) (eP:(p.wt:Int)≤1048576) :
 Calls Tryz.prog 102 #[.agg cs.toArray,.string nm,.agg ps.toArray] w fun e w'=>e = .returned (.int .i64 (Rt nm x p))∧Below w.heap.size w w':=by
 have gv:x.wt = kL aR.wt x.V+kL ag.wt x.O:=rfl;have uM:p.wt = p.name.size+kL ao.wt p.labels+kL aL.wt p.ai+kL bH.wt p.ae:=rfl;have cI:(x.V.length:Int)≤1048576:=by have:=gJ aR.wt x.V;omega
 obtain ⟨kF,jz⟩:=FQ (xs:=p.ae) J;have Ux:=I jz;clear jz;obtain ⟨bG,bD,fQ,dn,bW,jg,aD,hF,bQ,dM,hnext,aV,aP,aW⟩:=aO h;obtain ⟨bY,bZ,iq,eU,eX,jV,bg,bn,dK,jU,hG,jW,dA,kQ,lg,lG,iO,bK⟩:=dL h';subst aD jU;rcases yg (iM nm) x.V with hi | ⟨k,hk,hi⟩
 ·have HF:=I (amY (p:=p) hi);have HI:=I hi;clear hi;go_enter Tryz.func102,Tryz.ntmps102;go_wp2_with fail
  refine (gQ x _ _ nm _ (aJ h bL) cI).mono ?_;rw [HI.out];rintro e w2 ⟨rfl,aq⟩;exact ej
 ·have HF:=I (aje (p:=p) hk hi);have HI:=I hi;clear hi;have ft:(kL iU.wt x.V[k].aT:Int)≤1048576:=by
   have Z:=rM (f:=aR.wt) hk;have h2:aR.wt x.V[k] = x.V[k].name.size+kL ao.wt x.V[k].labels+kL iU.wt x.V[k].aT:=rfl;omega
  obtain ⟨mS,hxs⟩:=BH ft;have HXS:=I hxs;clear hxs;have Hs:=UN p.ae 2 x.V[k].aT;obtain ⟨b,o,ck,Fk,rfl,o9,hbs,hr,bA,hc⟩:=Sl.get (α:=aR) (A:=bG) (c:=bD) bQ hk;obtain ⟨jM,jO,sN,jE,jF,sO,aD,su,zM,qY,Gt,Gw,xg,qA⟩:=iy hr;subst aD;obtain ⟨q0,q1,q2,q3,q4,q5⟩:=oI 6 hc;clear hc;go_enter Tryz.func102,Tryz.ntmps102;go_wp2_with fail
  refine (gQ x _ _ nm _ (aJ h bL) cI).mono ?_;rw [HI.out];rintro e w2 ⟨rfl,aq⟩;obtain ⟨cj,cN⟩:=ay aq;have cC:w.heap.size+1 < w2.heap.size:=sq aq.size;have lI:w.heap.size < w2.heap.size:=by omega
  have eS:Below w.heap.size w w2:=bL;replace q5:=r' eS q5 hbs;have uO:b < w2.heap.size:=by omega
  have ve:∀wq,Below w.heap.size w wq→Calls Tryz.prog 129 #[.slice bg p.ae.length bn,.slice jE x.V[k].aT.length jF,.int .i64 2] wq fun e w'=>e = .returned (.int .i64 (BD p.ae 2 x.V[k].aT))∧Below wq.heap.size wq w' :=
   fun wq hq=>UQ p.ae x.V[k].aT 2 _ _ _ _ _ _ _ _ _ (bK.ext hq) (qA.ext hq) rfl rfl kF mS Ux.out HXS.out
  have RB:=I ve;clear ve;generalize BD p.ae 2 x.V[k].aT = z at RB HF Hs;have qF:(z:Int)≤1048576:=by omega
  have oD:IntKind.i64.wrap (25 * (z:Int)) = 25 * (z:Int):=IntWalk.i64_in _ J;have ze:IntKind.i64.wrap (100 - 25 * (z:Int)) = 100 - 25 * (z:Int):=IntWalk.i64_in _ J;by_cases hpos:(100:Int) - 25 * (z:Int)≤0
  ·have hM:max 0 (100 - 25 * (z:Int)) = 0:=J;have HM:=I hM;clear hM;go_wp2_with fail
   refine aF w2 U' U' (aj _) ?_
   repeat ((first | refine aG M ?_ | refine aH _ M DC ?_);simp only [Act.put,pz])
   refine aN ?_;intro wn X;replace X:=X.out;go_wp2;go_ret
   exact ⟨by rw [HF.out,HM.out];rfl,ah eS X⟩
  ·have Us:(0:Int) < 100 - 25 * (z:Int):=J;have hM:max 0 (100 - 25 * (z:Int)) = 100 - 25 * (z:Int):=J;have HM:=I hM;clear hM;have gL:(100:Int) - 25 * (z:Int)≤100:=J;go_wp2_with fail
   refine aF w2 U' U' (aj _) ?_
   repeat ((first | refine aG M ?_ | refine aH _ M DC ?_);simp only [Act.put,pz])
   refine aN ?_;intro wn X;replace X:=X.out;go_wp2;go_ret
   exact ⟨by rw [HF.out,HM.out] <;> first | rfl | (simp;omega),ah eS X⟩
def mT (labels:List ao) (x:aL):Bool:=uh x &&
 (if x.op = 1 then (Df x.key labels).2&&MF (Df x.key labels).1 x.values
  else if x.op = 2 then !(Df x.key labels).2 || !MF (Df x.key labels).1 x.values
  else if x.op = 3 then (Df x.key labels).2 else !(Df x.key labels).2)
theorem Uu {labels:List ao} {x:aL} (h:uh x = false):mT labels x = false:=by unfold mT;rw [h];rfl
theorem Uv {x:aL} (h:uh x = true):x.op = 1∨x.op = 2∨x.op = 3∨x.op = 4:=by
 unfold uh at h;exact sT
theorem Uw (labels:List ao) (x:aL) (A:Option Addr) (n c:Nat) (F:List Nat) (cs:List Value) (G:List Nat) (w:World) (h:Sl w labels A c F) (X:n = labels.length) (h':rd w x cs G) (gr:(labels.length:Int)≤1048576)
 (fh:(x.key.size:Int)≤1048576) (hl:(x.values.length:Int)≤1048576) (cW:∀v∈x.values,(v.size:Int)≤1048576) :
 Calls Tryz.prog 86 #[.slice A n c,.agg cs.toArray] w fun e w'=>e = .returned (.bool (mT labels x))∧Below w.heap.size w w':=by
 subst X;have Eo:=I cW;clear cW;have hr:=h';obtain ⟨jy,ji,Bo,aD,qp,ce,eK,kV⟩:=og hr;subst aD;clear qp hr;cases hK:uh x with
 | false =>
   have HF:=I (Uu (labels:=labels) hK);have HK:=I hK;clear hK;go_enter Tryz.func86,Tryz.ntmps86;go_wp2_with fail
   refine (Rw x _ _ _ (aJ h' bL) fh hl Eo.out).mono ?_;rw [HK.out];rintro e w2 ⟨rfl,aq⟩;exact ej
 | true =>
   have zg:=Uv hK
   have HU:=I (show mT labels x = (if x.op = 1 then (Df x.key labels).2&&MF (Df x.key labels).1 x.values
  else if x.op = 2 then !(Df x.key labels).2 || !MF (Df x.key labels).1 x.values
  else if x.op = 3 then (Df x.key labels).2 else !(Df x.key labels).2) by unfold mT;rw [hK,Bool.true_and])
   have HK:=I hK;clear hK;obtain ⟨v,t,hvt⟩:∃v t,Df x.key labels = (v,t):=⟨_,_,rfl⟩;have hu:=HU.out;rw [hvt] at hu;have HL:=I hvt;clear HU hvt;go_enter Tryz.func86,Tryz.ntmps86;go_wp2_with fail
   refine (Rw x _ _ _ (aJ h' bL) fh hl Eo.out).mono ?_;rw [HK.out];rintro e w2 ⟨rfl,aq⟩;obtain ⟨cj,cN⟩:=ay aq;have cC:w.heap.size < w2.heap.size:=(by have:=aq.size;simp at this;omega);have sc:w2.cell? ⟨w.heap.size,0,none⟩ = some (.string x.key):=(by rw [cj _ _ S',cell_of_row _ _ _ _ _ _ (heap_alloc_new w _)];rfl);have jK:w2.cell? ⟨w.heap.size,1,none⟩ = some (.int .i64 x.op):=(by rw [cj _ _ S',cell_of_row _ _ _ _ _ _ (heap_alloc_new w _)];rfl);have mj:w2.cell? ⟨w.heap.size,2,none⟩ = some (.slice jy x.values.length ji):=(by rw [cj _ _ S',cell_of_row _ _ _ _ _ _ (heap_alloc_new w _)];rfl);have eS:Below w.heap.size w w2:=bL;clear cj cN;go_wp2_with fail
   refine (akJ labels x.key _ _ _ _ _ (h.ext eS) rfl gr).mono ?_;rw [HL.out];rintro e w3 ⟨rfl,bd⟩;replace jK:=r' bd jK cC;replace mj:=r' bd mj cC;have dm:w.heap.size < w3.heap.size:=(by have:=bd.size;omega);have eC:=ah eS bd;clear sc;have HU:=I hu;clear hu;rcases zg with eK | eK | eK | eK
   all_goals
    have hu:=HU.out;rw [eK] at hu jK;simp only [Int.reduceEq,↓reduceIte] at hu;cases hh:MF v x.values <;> cases t
    all_goals
     have b8:=hu;try rw [hh] at b8
     have cY:=I b8;have HH:=I hh;clear b8 hu hh eK;go_wp2_with (go_at_call 134;refine (VG x.values v _ _ _ _ _ (kV.ext bL) rfl hl).mono ?_;rw [HH.out];rintro e w4 ⟨rfl,bw⟩)
     go_ret
     exact ⟨by rw [cY.out];rfl,bL⟩
theorem Uy (labels:List ao) (x:aL) (A:Option Addr) (n c:Nat) (F:List Nat) (cs:List Value) (G:List Nat) (w:World) (h:Sl w labels A c F) (X:n = labels.length) (h':rd w x cs G) (gr:(labels.length:Int)≤1048576)
 (fh:(x.key.size:Int)≤1048576) (hl:(x.values.length:Int)≤1048576) (cW:∀v∈x.values,(v.size:Int)≤1048576) :
 Calls Tryz.prog 153 #[.slice A n c,.agg cs.toArray] w fun e w'=>e = .returned (.bool (mT labels x))∧Below w.heap.size w w':=by
 subst X;have Eo:=I cW;clear cW;have hr:=h';obtain ⟨jy,ji,Bo,aD,qp,ce,eK,kV⟩:=og hr;subst aD;clear qp hr;cases hK:uh x with
 | false =>
   have HF:=I (Uu (labels:=labels) hK);have HK:=I hK;clear hK;go_enter Tryz.func153,Tryz.ntmps153;go_wp2_with fail
   refine (Rx x _ _ _ (aJ h' bL) fh hl Eo.out).mono ?_;rw [HK.out];rintro e w2 ⟨rfl,aq⟩;exact ej
 | true =>
   have zg:=Uv hK
   have HU:=I (show mT labels x = (if x.op = 1 then (Df x.key labels).2&&MF (Df x.key labels).1 x.values
  else if x.op = 2 then !(Df x.key labels).2 || !MF (Df x.key labels).1 x.values
  else if x.op = 3 then (Df x.key labels).2 else !(Df x.key labels).2) by unfold mT;rw [hK,Bool.true_and])
   have HK:=I hK;clear hK;obtain ⟨v,t,hvt⟩:∃v t,Df x.key labels = (v,t):=⟨_,_,rfl⟩;have hu:=HU.out;rw [hvt] at hu;have HL:=I hvt;clear HU hvt;go_enter Tryz.func153,Tryz.ntmps153;go_wp2_with fail
   refine (Rx x _ _ _ (aJ h' bL) fh hl Eo.out).mono ?_;rw [HK.out];rintro e w2 ⟨rfl,aq⟩;obtain ⟨cj,cN⟩:=ay aq;have cC:w.heap.size < w2.heap.size:=(by have:=aq.size;simp at this;omega);have sc:w2.cell? ⟨w.heap.size,0,none⟩ = some (.string x.key):=(by rw [cj _ _ S',cell_of_row _ _ _ _ _ _ (heap_alloc_new w _)];rfl);have jK:w2.cell? ⟨w.heap.size,1,none⟩ = some (.int .i64 x.op):=(by rw [cj _ _ S',cell_of_row _ _ _ _ _ _ (heap_alloc_new w _)];rfl);have mj:w2.cell? ⟨w.heap.size,2,none⟩ = some (.slice jy x.values.length ji):=(by rw [cj _ _ S',cell_of_row _ _ _ _ _ _ (heap_alloc_new w _)];rfl);have eS:Below w.heap.size w w2:=bL;clear cj cN;go_wp2_with fail
   refine (akK labels x.key _ _ _ _ _ (h.ext eS) rfl gr).mono ?_;rw [HL.out];rintro e w3 ⟨rfl,bd⟩;replace jK:=r' bd jK cC;replace mj:=r' bd mj cC;have dm:w.heap.size < w3.heap.size:=(by have:=bd.size;omega);have eC:=ah eS bd;clear sc;have HU:=I hu;clear hu;rcases zg with eK | eK | eK | eK
   all_goals
    have hu:=HU.out;rw [eK] at hu jK;simp only [Int.reduceEq,↓reduceIte] at hu;cases hh:MF v x.values <;> cases t
    all_goals
     have b8:=hu;try rw [hh] at b8
     have cY:=I b8;have HH:=I hh;clear b8 hu hh eK;go_wp2_with (go_at_call 163;refine (aaG x.values v _ _ _ _ _ (kV.ext bL) rfl hl).mono ?_;rw [HH.out];rintro e w4 ⟨rfl,bw⟩)
     go_ret
     exact ⟨by rw [cY.out];rfl,bL⟩
def Hw (labels:List ao) (xs:List aL):Bool:=xs.all (mT labels)
theorem Uz {labels:List ao} {xs:List aL} {k:Nat} (hk:k < xs.length) (h:mT labels xs[k] = false):Hw labels xs = false:=by
 unfold Hw;rw [List.all_eq_false];exact ⟨xs[k],List.getElem_mem ..,by simp [h]⟩
theorem UA {α:Type} {p:α→Bool} {xs:List α} {k:Nat} (hk:k < xs.length) (h:∀x∈xs.take k,p x = true) (hx:p xs[k] = true):∀x∈xs.take (k+1),p x = true:=by
 rw [List.take_succ_eq_append_getElem hk];intro x hm;rcases List.mem_append.1 hm with hm | hm
 ·exact h x hm
 ·simp only [List.mem_singleton] at hm;rw [hm];exact hx
theorem XZ {labels:List ao} {xs:List aL} (h:∀x∈xs,mT labels x = true):Hw labels xs = true:=by
 unfold Hw;rw [List.all_eq_true];exact h
theorem ala (xs:List aL) (labels:List ao) (A B:Option Addr) (n m c d:Nat) (F G:List Nat) (w:World) (h:Sl w xs A c F) (h':Sl w labels B d G) (X:n = xs.length) (hm:m = labels.length) (hl:(xs.length:Int)≤1048576) (gr:(labels.length:Int)≤1048576)
 (cW:(∀l∈xs,(l.key.size:Int)≤1048576∧(l.values.length:Int)≤1048576∧∀v∈l.values,(v.size:Int)≤1048576)) :
 Calls Tryz.prog 44 #[.slice A n c,.slice B m d] w fun e w'=>e = .returned (.bool (Hw labels xs))∧Below w.heap.size w w':=by
 subst X hm;have Eo:=I cW;clear cW;go_enter Tryz.func44,Tryz.ntmps44;go_wp2_with fail
 go_loopw [9] (fun i wr=>∃k:Nat,k≤xs.length∧i = .int .i64 k∧Hid (∀x∈xs.take k,mT labels x = true)∧Below w.heap.size w wr) (fun i _=>xs.length - (intOf i).toNat)
 case atStart=>exact ⟨0,Nat.zero_le _,rfl,by show ∀_,_;simp,bL⟩
 case round =>
  obtain ⟨k,hk,rfl,HN,aK⟩:=hrel;by_cases av:k < xs.length
  ·obtain ⟨b,o,ck,Fk,rfl,o9,hbs,hr,bA,hc⟩:=(Sl.ext (w':=wr) (A:=A) (c:=c) h aK).get av;obtain ⟨jy,ji,Bo,aD,su,ce,eK,kV⟩:=og hr;subst aD;obtain ⟨q0,q1,q2⟩:=pp 3 hc;clear hc;obtain ⟨dq,cR,hs3⟩:=Eo.out xs[k] (List.getElem_mem ..);cases hp:mT labels xs[k] with
   | true =>
     have Gn:=I (UA av HN.out hp);have HP:=I hp;clear hp;go_wp2_with fail
     refine (Uw labels xs[k] _ _ _ _ _ _ _ (h'.ext bL) rfl (aJ hr bL) gr dq cR hs3).mono ?_;rw [HP.out];rintro e wn ⟨rfl,X⟩;exact xD
   | false =>
     have HF:=I (Uz av hp);have HP:=I hp;clear hp;go_wp2_with fail
     refine (Uw labels xs[k] _ _ _ _ _ _ _ (h'.ext bL) rfl (aJ hr bL) gr dq cR hs3).mono ?_;rw [HP.out];rintro e wn ⟨rfl,X⟩;exact ej
  ·exact E'
theorem alb (xs:List aL) (labels:List ao) (A B:Option Addr) (n m c d:Nat) (F G:List Nat) (w:World) (h:Sl w xs A c F) (h':Sl w labels B d G) (X:n = xs.length) (hm:m = labels.length) (hl:(xs.length:Int)≤1048576) (gr:(labels.length:Int)≤1048576)
 (cW:(∀l∈xs,(l.key.size:Int)≤1048576∧(l.values.length:Int)≤1048576∧∀v∈l.values,(v.size:Int)≤1048576)) :
 Calls Tryz.prog 128 #[.slice A n c,.slice B m d] w fun e w'=>e = .returned (.bool (Hw labels xs))∧Below w.heap.size w w':=by
 subst X hm;have Eo:=I cW;clear cW;go_enter Tryz.func128,Tryz.ntmps128;go_wp2_with fail
 go_loopw [5] (fun i wr=>∃k:Nat,k≤xs.length∧i = .int .i64 k∧Hid (∀x∈xs.take k,mT labels x = true)∧Below w.heap.size w wr) (fun i _=>xs.length - (intOf i).toNat)
 case atStart=>exact ⟨0,Nat.zero_le _,rfl,by show ∀_,_;simp,bL⟩
 case round =>
  obtain ⟨k,hk,rfl,HN,aK⟩:=hrel;by_cases av:k < xs.length
  ·obtain ⟨b,o,ck,Fk,rfl,o9,hbs,hr,bA,hc⟩:=(Sl.ext (w':=wr) (A:=A) (c:=c) h aK).get av;obtain ⟨jy,ji,Bo,aD,su,ce,eK,kV⟩:=og hr;subst aD;obtain ⟨q0,q1,q2⟩:=pp 3 hc;clear hc;obtain ⟨dq,cR,hs3⟩:=Eo.out xs[k] (List.getElem_mem ..);cases hp:mT labels xs[k] with
   | true =>
     have Gn:=I (UA av HN.out hp);have HP:=I hp;clear hp;go_wp2_with fail
     refine (Uy labels xs[k] _ _ _ _ _ _ _ (h'.ext bL) rfl (aJ hr bL) gr dq cR hs3).mono ?_;rw [HP.out];rintro e wn ⟨rfl,X⟩;exact xD
   | false =>
     have HF:=I (Uz av hp);have HP:=I hp;clear hp;go_wp2_with fail
     refine (Uy labels xs[k] _ _ _ _ _ _ _ (h'.ext bL) rfl (aJ hr bL) gr dq cR hs3).mono ?_;rw [HP.out];rintro e wn ⟨rfl,X⟩;exact ej
  ·exact E'
theorem OH:∀(xs:List Int) (s t:Int),(∀x∈xs,bt x)→bt s→GZ xs s = some t→bt t
 | [],s,t,_,hs,h=>by simp only [GZ,Option.some.injEq] at h;subst h;exact hs
 | x :: xs,s,t,hx,hs,h=>by
   simp only [GZ] at h;cases e:GX s x with
   | none=>rw [e] at h;cases h
   | some m =>rw [e] at h;exact OH xs m t (fun y hy=>hx y (List.mem_cons_of_mem _ hy)) (K7 e hs (hx x (List.mem_cons_self ..))) h
theorem aqt {xs:List nI} {a b:Int} (hx:∀p∈xs,bt p.az∧bt p.mem) (h:vU xs = some (a,b)):bt a∧bt b:=by
 unfold vU at h;cases e1:GZ (xs.map nI.az) 0 with
 | none=>rw [e1] at h;cases h
 | some m =>
   cases e2:GZ (xs.map nI.mem) 0 with
   | none=>rw [e1,e2] at h;cases h
   | some n =>
     rw [e1,e2] at h;simp only [Option.some.injEq,Prod.mk.injEq] at h;obtain ⟨rfl,rfl⟩:=h;have z:bt 0:=⟨J,J⟩;refine ⟨OH _ 0 _ (fun y hy=>?_) z e1,OH _ 0 _ (fun y hy=>?_) z e2⟩
     ·obtain ⟨p,hp,rfl⟩:=List.mem_map.1 hy;exact (hx p hp).1
     ·obtain ⟨p,hp,rfl⟩:=List.mem_map.1 hy;exact (hx p hp).2
theorem atL {nm:ByteArray} {xs:List ag} {p:nI} (h:p∈F7 nm xs):∃q∈xs,p = q.aS:=by
 unfold F7 at h;obtain ⟨q,hq,rfl⟩:=List.mem_map.1 h;exact ⟨q,(List.mem_filter.1 hq).1,rfl⟩
theorem Sl.ao8 {w:World} {xs:List ag} {A:Option Addr} {c:Nat} {F:List Nat} (h:Sl w xs A c F):∀p∈xs,bt p.aS.az∧bt p.aS.mem:=by
 intro p hp;obtain ⟨k,hk,rfl⟩:=List.getElem_of_mem hp;obtain ⟨b,o,ck,Fk,_,_,_,hr,_⟩:=h.get hk;obtain ⟨gV,gW,lF,iR,iT,mV,dD,dF,iH,aD,hF,nY,iE,rF,rG,oZ,je,dN,gO,hseq⟩:=kE hr;exact ⟨rF,rG⟩
theorem UD {w:World} {xs:List ag} {A:Option Addr} {c:Nat} {F:List Nat} {nm:ByteArray} {a b:Int} (h:Sl w xs A c F) (hs:vU (F7 nm xs) = some (a,b)):bt a∧bt b :=
 aqt (fun p hp=>by obtain ⟨q,hq,rfl⟩:=atL hp;exact h.ao8 q hq) hs
theorem AX {nm:ByteArray} {xs:List ag} {a b:Int} (h:vU (F7 nm xs) = some (a,b)):KF nm xs = .tuple #[.int .i64 a,.int .i64 b,.int .i64 (F7 nm xs).length,.bool true]:=by unfold KF;rw [h]
theorem AV {nm:ByteArray} {xs:List ag} (h:vU (F7 nm xs) = none):KF nm xs = .tuple #[.int .i64 0,.int .i64 0,.int .i64 0,.bool false]:=by unfold KF;rw [h]
theorem YS {x y:aL} (h:(x.key.toList == y.key.toList) = false):nD x y = Op.bytesLess x.key.toList y.key.toList:=by
 have Z:Lib.compareBytes x.key.data.toList y.key.data.toList≠0:=fun e=>by
  exact pL
 unfold nD W9;simp only [Qa,if_neg Z];exact pJ
theorem YT {x y:aL} (hk:(x.key.toList == y.key.toList) = true) (h:x.op≠y.op):nD x y = decide (x.op < y.op):=by
 have h0:Lib.compareBytes x.key.data.toList y.key.data.toList = 0:=by rw [J5,← ByteArray.toList_eq,← ByteArray.toList_eq];simpa using hk
 have Z:Lib.compareInt x.op y.op≠0:=by unfold Lib.compareInt;repeat' split <;> omega
 unfold nD W9;simp only [Qa,if_pos h0,if_neg Z];exact xS
theorem YV {x y:aL} (hk:(x.key.toList == y.key.toList) = true) (h:x.op = y.op):nD x y = decide (qW x.values y.values < 0):=by
 have h0:Lib.compareBytes x.key.data.toList y.key.data.toList = 0:=by rw [J5,← ByteArray.toList_eq,← ByteArray.toList_eq];simpa using hk
 have Z:Lib.compareInt x.op y.op = 0:=by unfold Lib.compareInt;repeat' split <;> omega
 unfold nD W9;simp only [Qa,if_pos h0,if_pos Z];by_cases h2:qW x.values y.values = 0
 ·rw [if_pos h2,h2]
 ·rw [if_neg h2]
theorem TN (x y:aL) (cs ds:List Value) (F G:List Nat) (w:World) (h:rd w x cs F) (h':rd w y ds G) (hl:(x.values.length:Int)≤1048576) (R8:(y.values.length:Int)≤1048576) :
 Calls Tryz.prog 77 #[.agg cs.toArray,.agg ds.toArray] w fun e w'=>e = .returned (.bool (nD x y))∧Below w.heap.size w w':=by
 obtain ⟨pX,pY,KG,aD,hF1,xO,mO,wO⟩:=og h;obtain ⟨qO,qP,KL,jU,lX,vC,hop2,zS⟩:=og h';subst aD jU;cases Z:(x.key.toList == y.key.toList) with
 | false =>rw [YS Z];go_enter Tryz.func77,Tryz.ntmps77;exact lP
 | true =>
   by_cases h3:x.op = y.op
   ·have bB:=YV Z h3;have HF:=I bB;clear bB;have h4:(x.op == y.op) = true:=(by simp [h3]);go_enter Tryz.func77,Tryz.ntmps77;go_wp2;go_loopw [5] (fun i wr=>∃k:Nat,k≤x.values.length∧i = .int .i64 k∧Hid (k≤y.values.length)∧Hid (qW x.values y.values = qW (x.values.drop k) (y.values.drop k))∧wr.cell? ⟨w.heap.size,2,none⟩ = some (.slice pX x.values.length pY)∧wr.cell? ⟨w.heap.size+1,2,none⟩ = some (.slice qO y.values.length qP)∧Below w.heap.size w wr) (fun i _=>x.values.length - (intOf i).toNat)
    case atStart =>
     refine ⟨0,Nat.zero_le _,rfl,Nat.zero_le _,rfl,?_,?_,bL⟩
     ·exact xz
     ·simp
    case round =>
     obtain ⟨k,hk,rfl,HK,HO,hx1,uE,aK⟩:=hrel;have hky:=HK.out;have cq:=World.block_lt_of_cell? wr _ hx1;have cC:=World.block_lt_of_cell? wr _ uE;simp only at cq cC;by_cases av:k < x.values.length
     ·by_cases hly:k < y.values.length
      ·obtain ⟨b,o,ck,Fk,rfl,o9,hbs,hr,bA,hc⟩:=(Sl.ext (w':=wr) (A:=pX) (c:=pY) wO aK).get av;obtain ⟨aD,su,fX⟩:=hr;subst aD su;have q0:wr.cell? ⟨b,o+k,none⟩ = some (.string x.values[k]):=(by have:=hc 0 _ rfl;rwa [show o+(k * bb.size ByteArray+0) = o+k from by show o+(k * 1+0) = _;omega] at this);clear hc;obtain ⟨b2,o2,ck2,Fk2,rfl,ayO,uO,g0,nJ,cj⟩:=(Sl.ext (w':=wr) (A:=qO) (c:=qP) zS aK).get hly;obtain ⟨aD,su,hsz2⟩:=g0;subst aD su;have p0:wr.cell? ⟨b2,o2+k,none⟩ = some (.string y.values[k]):=(by have:=cj 0 _ rfl;rwa [show o2+(k * bb.size ByteArray+0) = o2+k from by show o2+(k * 1+0) = _;omega] at this);clear cj;have hd:=YP av hly;cases he:(x.values[k].toList == y.values[k].toList) with
       | true =>
         have h0:Lib.compareBytes x.values[k].data.toList y.values[k].data.toList = 0:=(by rw [J5,← ByteArray.toList_eq,← ByteArray.toList_eq];simpa using he);rw [if_pos h0] at hd;have HN:=I (HO.out.trans hd);clear hd h0;go_wp2_with fail
         refine aF _ U' U' (aj _) ?_
         repeat ((first | refine aG M ?_ | refine aH _ M d8 ?_);simp only [Act.put,pz])
         refine aN ?_;intro wn X;replace X:=X.out;replace hx1:=r' X hx1 cq;replace uE:=r' X uE cC;replace q0:=r' X q0 hbs;replace p0:=r' X p0 uO;replace cq:=Nat.lt_of_lt_of_le cq X.size;replace cC:=Nat.lt_of_lt_of_le cC X.size;replace hbs:=Nat.lt_of_lt_of_le hbs X.size;replace uO:=Nat.lt_of_lt_of_le uO X.size;replace aK:=ah aK X;go_wp2;exact ⟨⟨k+1,J,N',by show k+1≤y.values.length;omega,HN.out,hx1,uE,aK⟩,by simp [intOf];omega⟩
       | false =>
         have h0:Lib.compareBytes x.values[k].data.toList y.values[k].data.toList≠0:=fun e=>by
          rw [J5,← ByteArray.toList_eq,← ByteArray.toList_eq] at e;simp [e] at he
         rw [if_neg h0] at hd;have hg:nD x y = Op.bytesLess x.values[k].toList y.values[k].toList:=by rw [HF.out,HO.out,hd,Bool.eq_iff_iff,decide_eq_true_eq,Wx,ByteArray.toList_eq,ByteArray.toList_eq]
         have HG:=I hg;clear hd h0 hg;go_wp2_with fail
         refine aF _ U' U' (aj _) ?_
         repeat ((first | refine aG M ?_ | refine aH _ M d8 ?_);simp only [Act.put,pz])
         refine aN ?_;intro wn X;replace X:=X.out;replace hx1:=r' X hx1 cq;replace uE:=r' X uE cC;replace q0:=r' X q0 hbs;replace p0:=r' X p0 uO;replace cq:=Nat.lt_of_lt_of_le cq X.size;replace cC:=Nat.lt_of_lt_of_le cC X.size;replace hbs:=Nat.lt_of_lt_of_le hbs X.size;replace uO:=Nat.lt_of_lt_of_le uO X.size;replace aK:=ah aK X;clear X;go_wp2_with fail
         first
          | (go_ret;exact ⟨by rw [HG.out];first | rfl | simp_all,aK⟩)
          | (refine aF _ U' U' (aj _) ?_
             repeat ((first | refine aG M ?_ | refine aH _ M d8 ?_);simp only [Act.put,pz])
             refine aN ?_;intro wn2 Fs;replace Fs:=Fs.out;go_wp2;go_ret
             exact ⟨by rw [HG.out];first | rfl | simp_all,ah aK Fs⟩)
      ·have hg:nD x y = false:=(by rw [HF.out,HO.out,YQ av J];rfl);have HG:=I hg;have Fw:¬(x.values.length:Int) < y.values.length:=J;clear hg;exact xZ
     ·have bI:k = x.values.length:=J;subst bI;have he:=HO.out.trans (YR (Nat.le_refl _));by_cases hly:x.values.length < y.values.length
      ·rw [if_pos hly] at he;have hg:nD x y = true:=(by rw [HF.out,he];rfl);have HG:=I hg;have Fw:(x.values.length:Int) < y.values.length:=J;clear hg he;exact xZ
      ·rw [if_neg hly] at he;have hg:nD x y = false:=(by rw [HF.out,he];rfl);have HG:=I hg;have Fw:¬(x.values.length:Int) < y.values.length:=J;clear hg he;exact xZ
   ·rw [YT Z h3];have h4:(x.op == y.op) = false:=(by simp [h3]);go_enter Tryz.func77,Tryz.ntmps77;exact lP
structure Cq {β:Type} (c:β→β→Int):Prop where
 refl:∀x,c x x = 0
 fu:∀x y,c y x = - c x y
 trans:∀x y z,c x y≤0→c y z≤0→c x z≤0
section
variable {β γ:Type} {c d:β→β→Int}
theorem Cq.Fy (C:Cq c) {x y z:β} (h:c x y < 0) (k:c y z≤0):c x z < 0:=by
 have Z:=C.trans x y z J k;apply Classical.byContradiction;intro X;have h2:c z x≤0:=by rw [C.fu x z];omega
 have h3:=C.trans y z x k h2;rw [C.fu x y] at h3;omega
theorem Cq.YW (C:Cq c) {x y z:β} (h:c x y≤0) (k:c y z < 0):c x z < 0:=by
 have Z:=C.trans x y z h J;apply Classical.byContradiction;intro X;have h2:c z x≤0:=by rw [C.fu x z];omega
 have h3:=C.trans z x y h2 h;rw [C.fu y z] at h3;omega
theorem Cq.at (C:Cq c) (f:γ→β):Cq fun x y=>c (f x) (f y):=⟨fun x=>C.refl _,fun x y=>C.fu _ _,fun x y z=>C.trans _ _ _⟩
theorem Cq.lex (C:Cq c) (D:Cq d):Cq fun x y=>if c x y = 0 then d x y else c x y:=by
 refine ⟨fun x=>by simp only [C.refl,if_true,D.refl],fun x y=>?_,fun x y z=>?_⟩
 ·have:=C.fu x y;by_cases h:c x y = 0
  ·simp only [h,show c y x = 0 by omega,if_true,D.fu x y]
  ·simp only [if_neg h];rw [if_neg (show ¬c y x = 0 by omega)];exact this
 ·intro h k;by_cases Z:c x y = 0
  ·by_cases h2:c y z = 0
   ·have h3:=C.trans x y z J J;have h4:=C.trans z y x (by rw [C.fu y z];omega) (by rw [C.fu x y];omega);rw [C.fu x z] at h4;simp only [Z,h2,if_true] at h k;simp only [show c x z = 0 by omega,if_true];exact D.trans _ _ _ h k
   ·simp only [if_neg h2] at k;have:=C.YW (x:=x) (y:=y) (z:=z) J J;simp only [if_neg (show ¬c x z = 0 by omega)];omega
  ·simp only [if_neg Z] at h;by_cases h2:c y z = 0
   ·have:=C.Fy (x:=x) (y:=y) (z:=z) J J;simp only [if_neg (show ¬c x z = 0 by omega)];omega
   ·simp only [if_neg h2] at k;have:=C.Fy (x:=x) (y:=y) (z:=z) J k;simp only [if_neg (show ¬c x z = 0 by omega)];omega
theorem Cq.MW (C:Cq c) (h:∀x y,c x y = 0→x = y):ov fun x y=>decide (c x y < 0):=by
 refine ⟨fun x=>by simp [C.refl],fun x y z a b=>?_,fun x y a b=>h x y ?_⟩
 ·simp only [decide_eq_true_eq] at *;exact C.Fy a J
 ·simp only [decide_eq_false_iff_not] at *;have:=C.fu x y;omega
theorem Cq.MX (C:Cq c):lZ fun x y=>decide (c x y < 0):=by
 refine ⟨fun x=>by simp [C.refl],fun x y z a b=>?_,fun x y z a b=>?_⟩
 ·simp only [decide_eq_true_eq] at *;exact C.Fy a J
 ·simp only [decide_eq_false_iff_not] at *;have Z:=C.fu x y;have h2:=C.fu y z;have h3:=C.fu x z;have:=C.trans z y x J J;omega
end
theorem M0:Cq Lib.compareBytes:=by
 refine ⟨fun x=>(J5 x x).2 rfl,fun x y=>K4 x y,?_⟩;intro a;induction a with
 | nil=>intro b c _ _;cases c <;> simp [Lib.compareBytes]
 | cons x a ih =>
   intro b c h k;cases b with
   | nil=>simp [Lib.compareBytes] at h
   | cons y b =>
     cases c with
     | nil=>simp [Lib.compareBytes] at k
     | cons z c =>
       unfold Lib.compareBytes at h k ⊢;simp only [UInt8.lt_iff_toNat_lt] at *;by_cases Z:x.toNat < y.toNat
       ·rw [if_pos Z] at h;by_cases k1:y.toNat < z.toNat
        ·rw [if_pos J];omega
        ·rw [if_neg k1] at k;by_cases k2:z.toNat < y.toNat
         ·rw [if_pos k2] at k;omega
         ·rw [if_pos J];omega
       ·rw [if_neg Z] at h;by_cases h2:y.toNat < x.toNat
        ·rw [if_pos h2] at h;omega
        ·rw [if_neg h2] at h;by_cases k1:y.toNat < z.toNat
         ·rw [if_pos J];omega
         ·rw [if_neg k1] at k;by_cases k2:z.toNat < y.toNat
          ·rw [if_pos k2] at k;omega
          ·rw [if_neg k2] at k;rw [if_neg J,if_neg J];exact ih b c h k
theorem M1:Cq Lib.compareInt:=by
 refine ⟨fun x=>?_,fun x y=>?_,fun x y z=>?_⟩ <;> unfold Lib.compareInt <;> (repeat' split) <;> omega
theorem yi:Cq uC:=by
 refine ⟨fun x=>by cases x <;> decide,fun x y=>by cases x <;> cases y <;> decide,fun x y z=>by cases x <;> cases y <;> cases z <;> decide⟩
theorem uF:Cq fun a b:ByteArray=>Lib.compareBytes a.data.toList b.data.toList:=M0.at fun a:ByteArray=>a.data.toList
theorem fv {a b:ByteArray} (h:Lib.compareBytes a.data.toList b.data.toList = 0):a = b:=by
 have:=(J5 _ _).1 h;cases a;cases b
 simpa using this
theorem mP {a b:Int} (h:Lib.compareInt a b = 0):a = b:=by
 unfold Lib.compareInt at h;repeat' split at h
 all_goals omega
theorem YY {a b:Bool} (h:uC a b = 0):a = b:=by cases a <;> cases b <;> first | rfl | (exfalso;revert h;decide)
theorem M2:∀xs ys:List ByteArray,qW ys xs = - qW xs ys
 | [],[]=>rfl
 | [],_ :: _=>rfl
 | _ :: _,[]=>rfl
 | x :: xs,y :: ys=>by
   have Z:=uF.fu x y;have h2:=M2 xs ys;unfold qW;rw [Z,h2];by_cases h:Lib.compareBytes x.data.toList y.data.toList = 0
   ·rw [if_pos h,if_pos J]
   ·rw [if_neg h,if_neg J]
theorem nL:∀{xs ys:List ByteArray},qW xs ys = 0→xs = ys
 | [],[],_=>rfl
 | [],_ :: _,h=>by simp [qW] at h
 | _ :: _,[],h=>by simp [qW] at h
 | x :: xs,y :: ys,h=>by
   unfold qW at h;by_cases Z:Lib.compareBytes x.data.toList y.data.toList = 0
   ·rw [if_pos Z] at h;rw [fv Z,nL h]
   ·rw [if_neg Z] at h;exact absurd h Z
theorem R9:∀xs ys zs:List ByteArray,qW xs ys≤0→qW ys zs≤0→qW xs zs≤0
 | [],_,[],_,_=>by simp [qW]
 | [],_,_ :: _,_,_=>by simp [qW]
 | _ :: _,[],_,h,_=>by simp [qW] at h
 | _ :: _,_ :: _,[],_,k=>by simp [qW] at k
 | x :: xs,y :: ys,z :: zs,h,k=>by
   have C:=uF;have ih:=R9 xs ys zs;unfold qW at h k ⊢;by_cases Z:Lib.compareBytes x.data.toList y.data.toList = 0
   ·rw [if_pos Z] at h;have e:=fv Z;subst e;by_cases h2:Lib.compareBytes x.data.toList z.data.toList = 0
    ·rw [if_pos h2] at k ⊢;exact ih h k
    ·rw [if_neg h2] at k ⊢;exact k
   ·rw [if_neg Z] at h;by_cases h2:Lib.compareBytes y.data.toList z.data.toList = 0
    ·have e:=fv h2;subst e;rw [if_neg Z];exact h
    ·rw [if_neg h2] at k;have h3:Lib.compareBytes x.data.toList z.data.toList < 0:=C.Fy (x:=x) (y:=y) (z:=z) (show Lib.compareBytes x.data.toList y.data.toList < 0 by omega) k;rw [if_neg J];omega
theorem yj:Cq qW:=⟨fun xs=>by have:=M2 xs xs;omega,M2,R9⟩
theorem p' (a b c:Int):Qa [a,b,c] = if a = 0 then (if b = 0 then c else b) else a:=by
 unfold Qa Qa Qa Qa;by_cases h:c = 0
 ·simp [h]
 ·simp [h]
theorem FA (a b c d:Int):Qa [a,b,c,d] = if a = 0 then (if b = 0 then (if c = 0 then d else c) else b) else a:=by
 rw [show Qa [a,b,c,d] = if a = 0 then Qa [b,c,d] else a from rfl,p']
theorem YZ:Cq fun x y:iU=>Qa (uB x y):=by
 have:=(uF.at iU.key).lex ((uF.at iU.value).lex (M1.at iU.ap));simpa only [uB,p'] using this
theorem FB:Cq fun x y:bH=>Qa (td x y):=by
 have:=(uF.at bH.key).lex ((yi.at bH.equal).lex ((uF.at bH.value).lex (M1.at bH.ap)));simpa only [td,FA] using this
theorem Y0:Cq fun x y:aL=>Qa (W9 x y):=by
 have:=(uF.at aL.key).lex ((M1.at aL.op).lex (yj.at aL.values));simpa only [W9,p'] using this
theorem M3:ov fun x y:iU=>decide (Qa (uB x y) < 0):=YZ.MW fun x y h=>by
 simp only [uB,p'] at h;repeat' split at h
 ·rename_i Z h2;cases x;cases y
  simp only at *;rw [fv Z,fv h2,mP h]
 ·contradiction
 ·contradiction
theorem FC:ov fun x y:bH=>decide (Qa (td x y) < 0):=FB.MW fun x y h=>by
 simp only [td,FA] at h;repeat' split at h
 ·rename_i Z h2 h3;cases x;cases y
  simp only at *;rw [fv Z,YY h2,fv h3,mP h]
 ·contradiction
 ·contradiction
 ·contradiction
theorem M4:ov fun x y:aL=>decide (Qa (W9 x y) < 0):=Y0.MW fun x y h=>by
 simp only [W9,p'] at h;repeat' split at h
 ·rename_i Z h2;cases x;cases y
  simp only at *;rw [fv Z,mP h2,nL h]
 ·contradiction
 ·contradiction
end Go.Proofs.YtajbbmembionpaaGreat
