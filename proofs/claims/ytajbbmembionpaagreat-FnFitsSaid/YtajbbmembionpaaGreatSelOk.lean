/- SelectorOk, of the program and of the reference. No condition. -/
import Derived.Test.YtajbbmembionpaaGreatSoft
namespace Go.Proofs.YtajbbmembionpaaGreat
open Go.ChangeShapes Go.WideShapes Go.ChangeAt Go.RowKit
set_option linter.unusedVariables false
set_option linter.unusedSimpArgs false
set_option maxHeartbeats 2000000
set_option maxRecDepth 100000
def nU (xs:List aL):Bool:=l0 uh nD 4 xs
theorem WJ (xs:List aL) (A:Option Addr) (n c:Nat) (F:List Nat) (w:World) (h:Sl w xs A c F) (X:n = xs.length) (hl:(xs.length:Int)≤1048576) (cW:(∀l∈xs,(l.key.size:Int)≤1048576∧(l.values.length:Int)≤1048576∧∀v∈l.values,(v.size:Int)≤1048576)) :
 Calls Tryz.prog 78 #[.slice A n c] w fun e w'=>e = .returned (.bool (nU xs))∧Below w.heap.size w w':=by
 subst X;have Eo:=I cW;clear cW;by_cases hm:(xs.length:Int)≤4
 ·go_enter Tryz.func78,Tryz.ntmps78;go_wp2_with fail
  go_loopw [3] (fun i wr=>∃k:Nat,k≤xs.length∧i = .int .i64 k∧Hid (∀j,j < k→bO uh nD xs j = true)∧Below w.heap.size w wr) (fun i _=>xs.length - (intOf i).toNat)
  case atStart=>exact ⟨0,Nat.zero_le _,rfl,(fun j hj=>by omega),bL⟩
  case round =>
   obtain ⟨k,hk,rfl,hall,aK⟩:=hrel;by_cases av:k < xs.length
   ·obtain rfl | ⟨j,rfl⟩:k = 0∨∃j,k = j+1:=by cases k with | zero=>exact .inl rfl | succ j=>exact .inr ⟨j,rfl⟩
    ·obtain ⟨b,o,ck,Fk,rfl,o9,hbs,hr,bA,hc⟩:=(Sl.ext (w':=wr) (A:=A) (c:=c) h aK).get av;have d':=hr;obtain ⟨jy,ji,Bo,aD,su,ce,eK,kV⟩:=og hr;subst aD;obtain ⟨q0,q1,q2⟩:=pp 3 hc;clear hc;simp only [Nat.zero_mul,Nat.add_zero] at q0 q1 q2;obtain ⟨dq,cR,hs3⟩:=Eo.out xs[0] (List.getElem_mem ..);cases Z:uh xs[0]
     all_goals
      have hp:=cF (ok:=uh) (less:=nD) av;rw [Z] at hp;try simp only [Bool.false_and,Bool.and_false,Bool.and_true,Bool.and_self] at hp
      change bO uh nD xs _ = _ at hp
      have hK:∀wq,Below wr.heap.size wr wq→Calls Tryz.prog 125 #[.agg #[.string xs[0].key,.int .i64 xs[0].op,.slice jy xs[0].values.length ji]] wq fun e w'=>e = .returned (.bool (uh xs[0]))∧Below wq.heap.size wq w' :=
       fun wq hq=>Rx xs[0] _ _ _ (aJ d' hq) dq cR hs3
      rw [Z] at hK;have Rz:=I hK;clear hK
      first
       | have HN:=I (gq hall.out hp)
       | have HF:=I (wU (most:=4) av hp)
      clear Z hp;go_wp2_with fail
      refine aF _ U' U' (aj _) ?_
      repeat ((first | refine aG M ?_ | refine aH _ M Dz ?_);simp only [Act.put,pz])
      refine aN ?_;intro wn X;replace X:=X.out;go_wp2
      first
       | exact ⟨⟨0+1,J,N',HN.out,ah aK X⟩,by simp [intOf];omega⟩
       | (go_ret;exact ⟨by unfold nU;rw [HF.out];rfl,ah aK X⟩)
    ·obtain ⟨b,o,ck,Fk,rfl,o9,hbs,hr,bA,hc⟩:=(Sl.ext (w':=wr) (A:=A) (c:=c) h aK).get av;have d':=hr;obtain ⟨jy,ji,Bo,aD,su,ce,eK,kV⟩:=og hr;subst aD;obtain ⟨q0,q1,q2⟩:=pp 3 hc;clear hc;obtain ⟨b',o',TY,Xw,e,Ht,hbs',dd,zQ,hc'⟩:=Sl.get (Sl.ext (w':=wr) (c:=c) h aK) (show j < xs.length by omega);have QS:=dd;obtain ⟨qO,qP,KL,jU,abT,vC,hop2,zS⟩:=og dd;subst jU;obtain ⟨rfl,rfl⟩:b' = b∧o' = o:=by simpa using e.symm
     clear e;obtain ⟨p0,p1,p2⟩:=pp 3 hc';clear hc';have yk:IntKind.i64.wrap (j:Int) = j:=IntWalk.i64_in _ J;have mr:j < xs.length:=J;obtain ⟨K6,uy,SN⟩:=Eo.out xs[j] (List.getElem_mem ..);obtain ⟨dq,cR,hs3⟩:=Eo.out xs[j+1] (List.getElem_mem ..);cases Z:uh xs[j+1] <;> cases h3:nD xs[j] xs[j+1]
     all_goals
      have hp:=yS (ok:=uh) (less:=nD) av;rw [Z,h3] at hp;try simp only [Bool.false_and,Bool.and_false,Bool.and_true,Bool.and_self] at hp
      change bO uh nD xs _ = _ at hp
      have hK:∀wq,Below wr.heap.size wr wq→Calls Tryz.prog 125 #[.agg #[.string xs[j+1].key,.int .i64 xs[j+1].op,.slice jy xs[j+1].values.length ji]] wq fun e w'=>e = .returned (.bool (uh xs[j+1]))∧Below wq.heap.size wq w' :=
       fun wq hq=>Rx xs[j+1] _ _ _ (aJ d' hq) dq cR hs3
      rw [Z] at hK;have Rz:=I hK;clear hK
      first
       | have HN:=I (gq hall.out hp)
       | have HF:=I (wU (most:=4) av hp)
      have hC:∀wq,Below wr.heap.size wr wq→Calls Tryz.prog 77 #[.agg #[.string xs[j].key,.int .i64 xs[j].op,.slice qO xs[j].values.length qP],.agg #[.string xs[j+1].key,.int .i64 xs[j+1].op,.slice jy xs[j+1].values.length ji]] wq fun e w'=>e = .returned (.bool (nD xs[j] xs[j+1]))∧Below wq.heap.size wq w' :=
       fun wq hq=>TN xs[j] xs[j+1] _ _ _ _ _ (aJ QS hq) (aJ d' hq) uy cR
      rw [h3] at hC;have xv:=I hC;clear hC;clear Z hp;go_wp2_with fail
      refine aF _ U' U' (aj _) ?_
      repeat ((first | refine aG M ?_ | refine aH _ M Dz ?_);simp only [Act.put,pz])
      refine aN ?_;intro wn X;replace X:=X.out;go_wp2
      first
       | exact ⟨⟨j+1+1,J,N',HN.out,ah aK X⟩,by simp [intOf];omega⟩
       | (go_ret;exact ⟨by unfold nU;rw [HF.out];rfl,ah aK X⟩)
   ·have bI:k = xs.length:=J;subst bI;have HF:=I (Jy hm hall.out);go_wp2;go_ret
    exact ⟨by unfold nU;rw [HF.out];rfl,aK⟩
 ·have HF:=I (Jz (ok:=uh) (less:=nD) hm);go_enter Tryz.func78,Tryz.ntmps78;go_wp2;go_ret
  exact ⟨by unfold nU;rw [HF.out];rfl,bL⟩
def lA (x:aL):aL:=⟨x.key,x.op,ga x.values⟩
def yX (xs:List aL):Bool:=xs.all fun x=>decide (x.values.length≤40)
def jc (xs:List aL):List aL:=ei nD [] (xs.map lA)
def jh (xs:List aL):List aL × Bool:=if xs.length≤40∧yX xs = true∧nU (jc xs) = true then (jc xs,true) else (xs,false)
theorem ayR {xs:List aL} (h:¬xs.length≤40):jh xs = (xs,false):=if_neg fun hh=>h hh.1
theorem ayS {xs:List aL} (h:yX xs = false):jh xs = (xs,false):=if_neg fun hh=>by rw [h] at hh;cases hh.2.1
theorem Tt {xs:List aL} (h:xs.length≤40) (Z:yX xs = true) (h2:nU (jc xs) = true):jh xs = (jc xs,true):=if_pos ⟨h,Z,h2⟩
theorem aAv {xs:List aL} (h2:nU (jc xs) = false):jh xs = (xs,false):=if_neg fun hh=>by rw [h2] at hh;cases hh.2.2
theorem Tu {xs:List aL} {z:aL} (h:z∈jc xs):∃x∈xs,z = lA x:=by
 rcases (AF (lt:=nD) M4 z (xs.map lA) []).1 h with h | h
 ·cases h
 ·obtain ⟨x,hx,rfl⟩:=List.mem_map.1 h;exact ⟨x,hx,rfl⟩
theorem aDu (xs:List aL):(jc xs).length≤xs.length:=by have:=vF nD (xs.map lA) [];unfold jc;simpa using this
theorem aF2 (x:aL):(lA x).wt≤x.wt:=by have:=Ts x.values;unfold lA aL.wt Bi;dsimp only;omega
theorem Tv {α:Type} {f:α→Nat} {g:α→α} (h:∀x,f (g x)≤f x):∀xs:List α,((xs.map g).map f).sum≤(xs.map f).sum
 | []=>Nat.le_refl _
 | x :: xs=>by have Z:=h x;have h2:=Tv h xs;simp only [List.map_cons,List.sum_cons];omega
theorem aAu (xs:List aL):kL aL.wt (jh xs).1≤kL aL.wt xs:=by
 have h:=BV aL.wt nD (xs.map lA) [];have hl:=vF nD (xs.map lA) [];have hm:=Tv aF2 xs;unfold jh kL;split
 ·dsimp only;simp only [List.map_nil,List.sum_nil,List.length_nil,List.length_map] at h hl;unfold jc;omega
 ·exact Nat.le_refl _
theorem aEp {xs:List aL} (h:yX xs = true) {x:aL} (hx:x∈xs):x.values.length≤40:=by
 have:=List.all_eq_true.1 h x hx;simpa using this
theorem aDv {xs:List aL} {x:aL} (hx:x∈xs) (h:¬x.values.length≤40):yX xs = false:=by
 cases hh:yX xs with
 | false=>rfl
 | true=>exact absurd (aEp hh hx) h
theorem Tw {xs:List aL} (h:∀j (hj:j < xs.length),xs[j].values.length≤40):yX xs = true:=by
 refine List.all_eq_true.2 fun x hx=>?_;obtain ⟨j,hj,rfl⟩:=List.getElem_of_mem hx;simpa using h j hj
theorem N4 {x:aL} (h:x.wt≤1048576):((lA x).key.size:Int)≤1048576∧((lA x).values.length:Int)≤1048576∧(∀v∈(lA x).values,(v.size:Int)≤1048576):=by
 have h2:aL.wt x = x.key.size+kL ByteArray.size x.values:=rfl;have h3:=gJ ByteArray.size x.values;have h4:=Tq x.values;refine ⟨?_,?_,fun v hv=>?_⟩
 ·show (x.key.size:Int)≤_;omega
 ·show ((ga x.values).length:Int)≤_;omega
 ·have:=Bq (f:=ByteArray.size) (Tr hv);omega
def Fq (xs:List iU):List iU × Bool:=if xs.length≤40∧La (ei qo [] xs) = true then (ei qo [] xs,true) else (xs,false)
theorem Zs {xs:List iU} (h:¬xs.length≤40):Fq xs = (xs,false):=if_neg fun hh=>h hh.1
theorem Zt {xs:List iU} (h:xs.length≤40) (h2:La (ei qo [] xs) = true):Fq xs = (ei qo [] xs,true):=if_pos ⟨h,h2⟩
theorem Zx {xs:List iU} (h2:La (ei qo [] xs) = false):Fq xs = (xs,false):=if_neg fun hh=>by rw [h2] at hh;cases hh.2
theorem Su {xs:List iU} {z:iU} (h:z∈ei qo [] xs):z∈xs:=by
 rcases (AF M3 z xs []).1 h with h | h
 ·cases h
 ·exact h
theorem Zy (xs:List iU):kL iU.wt (Fq xs).1≤kL iU.wt xs:=by
 have h:=BV iU.wt qo xs [];have hl:=vF qo xs [];unfold Fq kL;split
 ·dsimp only;exact x5
 ·exact Nat.le_refl _
def jC (xs:List bH):List bH × Bool:=if xs.length≤40∧Ya (ei vJ [] xs) = true then (ei vJ [] xs,true) else (xs,false)
theorem az8 {xs:List bH} (h:¬xs.length≤40):jC xs = (xs,false):=if_neg fun hh=>h hh.1
theorem To {xs:List bH} (h:xs.length≤40) (h2:Ya (ei vJ [] xs) = true):jC xs = (ei vJ [] xs,true):=if_pos ⟨h,h2⟩
theorem aBF {xs:List bH} (h2:Ya (ei vJ [] xs) = false):jC xs = (xs,false):=if_neg fun hh=>by rw [h2] at hh;cases hh.2
theorem Tp {xs:List bH} {z:bH} (h:z∈ei vJ [] xs):z∈xs:=by
 rcases (AF FC z xs []).1 h with h | h
 ·cases h
 ·exact h
theorem aBz (xs:List bH):kL bH.wt (jC xs).1≤kL bH.wt xs:=by
 have h:=BV bH.wt vJ xs [];have hl:=vF vJ xs [];unfold jC kL;split
 ·dsimp only;exact x5
 ·exact Nat.le_refl _
def Aj (x:aR):Bool:=Qs x.name&&sD x.labels&&La x.aT&&(decide (0≤x.az)&&decide (0≤x.mem))&&(decide (1≤x.ax)&&decide (x.ax≤20))
theorem rO (x:aR) (cs:List Value) (F:List Nat) (w:World) (h:rd w x cs F) (th:(x.name.size:Int)≤1048576) (gr:(x.labels.length:Int)≤1048576) (dp:∀l∈x.labels,(l.key.size:Int)≤1048576∧(l.value.size:Int)≤1048576) (kF:(x.aT.length:Int)≤1048576) (jz:∀l∈x.aT,(l.key.size:Int)≤1048576∧(l.value.size:Int)≤1048576) :
 Calls Tryz.prog 51 #[.agg cs.toArray] w fun e w'=>e = .returned (.bool (Aj x))∧Below w.heap.size w w':=by
 have Zb:=I dp;have Ux:=I jz;clear dp jz;have hr:=h;obtain ⟨gu,gy,jw,kJ,kK,qU,aD,hF,hname,dO,vg,cG,uI,jq⟩:=iy hr;subst aD;clear hr hF;go_enter Tryz.func51,Tryz.ntmps51
 go_wp2_with (first
  | (go_at_call 81;refine (Rq x.name _ th).mono ?_;rintro e w2 ⟨rfl,aq⟩;obtain ⟨cj,cN⟩:=ay aq;have cC:w.heap.size < w2.heap.size:=(sq aq.size))
  | (go_at_call 75;refine (Jw x.labels _ _ _ _ _ (dO.ext bL) rfl gr Zb.out).mono ?_;rintro e w3 ⟨rfl,bd⟩;obtain ⟨dx,hf3⟩:=ay bd;have dm:w.heap.size < w3.heap.size:=(sq bd.size))
  | (go_at_call 92;refine (ZL x.aT _ _ _ _ _ (jq.ext bL) rfl kF Ux.out).mono ?_;rintro e w4 ⟨rfl,bw⟩;obtain ⟨fa,hf4⟩:=ay bw;have Wy:w.heap.size < w4.heap.size:=(sq bw.size))
  | go_in)
 all_goals first
  | (go_ret;refine ⟨?_,bL⟩;refine congrArg (fun b=>Ending.returned (Value.bool b)) ?_;show (_:Bool) = _;(try clear cj cN);(try clear dx hf3);(try clear fa hf4);unfold Aj;first | (simp [*];done) | (simp [*];omega) | (simp_all;done) | (simp_all;omega))
  | skip
theorem tZ (x:aR) (cs:List Value) (F:List Nat) (w:World) (h:rd w x cs F) (hw:(x.wt:Int)≤1048576) :
 Calls Tryz.prog 51 #[.agg cs.toArray] w fun e w'=>e = .returned (.bool (Aj x))∧Below w.heap.size w w':=by
 have gv:x.wt = x.name.size+kL ao.wt x.labels+kL iU.wt x.aT:=rfl;obtain ⟨gr,dp⟩:=sW (xs:=x.labels) J;obtain ⟨kF,jz⟩:=BH (xs:=x.aT) J;exact rO x cs F w h J gr dp kF jz
def GU (x:nI):Bool:=Qs x.name&&sD x.labels&&nU x.ai&&Ya x.ae&&(decide (0≤x.az)&&decide (0≤x.mem))&&(decide (0≤x.aw)&&decide (x.aw≤1000))
def VX (l:aL):Prop:=(l.key.size:Int)≤1048576∧(l.values.length:Int)≤1048576∧∀v∈l.values,(v.size:Int)≤1048576
def VY (l:bH):Prop:=(l.key.size:Int)≤1048576∧(l.value.size:Int)≤1048576
theorem wM (x:nI) (cs:List Value) (F:List Nat) (w:World) (h:rd w x cs F) (th:(x.name.size:Int)≤1048576) (gr:(x.labels.length:Int)≤1048576) (dp:∀l∈x.labels,(l.key.size:Int)≤1048576∧(l.value.size:Int)≤1048576) (rY:(x.ai.length:Int)≤1048576) (VU:∀l∈x.ai,VX l) (kF:(x.ae.length:Int)≤1048576) (jz:∀l∈x.ae,VY l) :
 Calls Tryz.prog 39 #[.agg cs.toArray] w fun e w'=>e = .returned (.bool (GU x))∧Below w.heap.size w w':=by
 have Zb:=I dp;have FM:=I VU;have Ux:=I jz;clear dp jz VU;have hr:=h;obtain ⟨gu,gy,jw,oh,nT,wG,fA,fB,jY,aD,hF,hname,dO,vg,cG,BJ,mX,eG⟩:=dL hr;subst aD;clear hr hF;go_enter Tryz.func39,Tryz.ntmps39
 go_wp2_with (first
  | (go_at_call 81;refine (Rq x.name _ th).mono ?_;rintro e w2 ⟨rfl,aq⟩;obtain ⟨cj,cN⟩:=ay aq;have cC:w.heap.size < w2.heap.size:=(sq aq.size))
  | (go_at_call 75;refine (Jw x.labels _ _ _ _ _ (dO.ext bL) rfl gr Zb.out).mono ?_;rintro e w3 ⟨rfl,bd⟩;obtain ⟨dx,hf3⟩:=ay bd;have dm:w.heap.size < w3.heap.size:=(sq bd.size))
  | (go_at_call 78;refine (WJ x.ai _ _ _ _ _ (mX.ext bL) rfl rY FM.out).mono ?_;rintro e w4 ⟨rfl,bw⟩;obtain ⟨fa,hf4⟩:=ay bw;have Wy:w.heap.size < w4.heap.size:=(sq bw.size))
  | (go_at_call 80;refine (RI x.ae _ _ _ _ _ (eG.ext bL) rfl kF Ux.out).mono ?_;rintro e w5 ⟨rfl,bs⟩;obtain ⟨py,ox⟩:=ay bs;have Es:w.heap.size < w5.heap.size:=(sq bs.size))
  | go_in)
 all_goals first
  | (go_ret;refine ⟨?_,bL⟩;refine congrArg (fun b=>Ending.returned (Value.bool b)) ?_;show (_:Bool) = _;(try clear cj cN);(try clear dx hf3);(try clear fa hf4);(try clear py ox);unfold GU;first | (simp [*];done) | (simp [*];omega) | (simp_all;done) | (simp_all;omega))
  | skip
theorem yT (x:nI) (cs:List Value) (F:List Nat) (w:World) (h:rd w x cs F) (hw:(x.wt:Int)≤1048576) :
 Calls Tryz.prog 39 #[.agg cs.toArray] w fun e w'=>e = .returned (.bool (GU x))∧Below w.heap.size w w':=by
 have gv:x.wt = x.name.size+kL ao.wt x.labels+kL aL.wt x.ai+kL bH.wt x.ae:=rfl;obtain ⟨gr,dp⟩:=sW (xs:=x.labels) J;obtain ⟨rY,VU⟩:=Aa (xs:=x.ai) J;obtain ⟨kF,jz⟩:=FQ (xs:=x.ae) J;exact wM x cs F w h J gr dp rY VU kF jz
structure U6 (x:aR):Prop where
 ns:(x.name.size:Int)≤1048576
 ll:(x.labels.length:Int)≤1048576
 ls:∀l∈x.labels,(l.key.size:Int)≤1048576∧(l.value.size:Int)≤1048576
 tl:(x.aT.length:Int)≤1048576
 ts:∀l∈x.aT,(l.key.size:Int)≤1048576∧(l.value.size:Int)≤1048576
structure Xl (x:nI):Prop where
 ns:(x.name.size:Int)≤1048576
 ll:(x.labels.length:Int)≤1048576
 ls:∀l∈x.labels,(l.key.size:Int)≤1048576∧(l.value.size:Int)≤1048576
 nl:(x.ai.length:Int)≤1048576
 RM:∀l∈x.ai,VX l
 tl:(x.ae.length:Int)≤1048576
 ts:∀l∈x.ae,VY l
theorem U6.qm (x:aR) (hw:(x.wt:Int)≤1048576):U6 x:=by
 have gv:x.wt = x.name.size+kL ao.wt x.labels+kL iU.wt x.aT:=rfl;obtain ⟨gr,dp⟩:=sW (xs:=x.labels) J;obtain ⟨kF,jz⟩:=BH (xs:=x.aT) J;exact ⟨J,gr,dp,kF,jz⟩
theorem Xl.qm (x:nI) (hw:(x.wt:Int)≤1048576):Xl x:=by
 have gv:x.wt = x.name.size+kL ao.wt x.labels+kL aL.wt x.ai+kL bH.wt x.ae:=rfl;obtain ⟨gr,dp⟩:=sW (xs:=x.labels) J;obtain ⟨rY,VU⟩:=Aa (xs:=x.ai) J;obtain ⟨kF,jz⟩:=FQ (xs:=x.ae) J;exact ⟨J,gr,dp,rY,VU,kF,jz⟩
theorem Z2 (nm:ByteArray) (xs:List ag):(F7 nm xs).length≤xs.length:=by unfold F7;rw [List.length_map];exact List.length_filter_le _ _
theorem Z3 {nm:ByteArray} {xs:List ag} {a b:Int} (h:vU (F7 nm xs) = some (a,b)):KF nm xs = .tuple #[.int .i64 a,.int .i64 b,.int .i64 (F7 nm xs).length,.bool true]:=by unfold KF;rw [h]
theorem Z4 {nm:ByteArray} {xs:List ag} (h:vU (F7 nm xs) = none):KF nm xs = .tuple #[.int .i64 0,.int .i64 0,.int .i64 0,.bool false]:=by unfold KF;rw [h]
def yo (x:aU) (h:aR):Bool:=match vU (F7 h.name x.O) with
 | none=>false
 | some (a,b)=>decide (a≤h.az)&&(decide (b≤h.mem)&&decide (((F7 h.name x.O).length:Int)≤h.ax))
def dY (x:aU) (h:aR):Bool:=Aj h&&yo x h
def dQ (a b:aR):Bool:=Op.bytesLess a.name.toList b.name.toList
def jT (x:aU) (p:ag):Bool:=GU p.aS&&((decide (1≤p.seq)&&decide (p.seq≤x.next - 1))&&((p.on.toList == []) || decide (0≤pK (iM p.on) x.V)))
def dw (a b:ag):Bool:=Op.bytesLess a.aS.name.toList b.aS.name.toList
def en (xs:List ag) (s:Int):Bool:=xs.any fun q=>q.seq == s
def DN (xs:List ag) (k:Nat):Bool:=match xs[k]? with | none=>false | some p=>!(en (xs.take k) p.seq)
theorem sG {xs:List ag} {k:Nat} (h:k < xs.length):DN xs k = !(en (xs.take k) xs[k].seq):=by unfold DN;rw [List.getElem?_eq_getElem h]
def Em (x:aU):Bool:=decide ((x.V.length:Int)≤8)&&(decide ((x.O.length:Int)≤12)&&((decide (1≤x.next)&&decide (x.next≤1000000000))&&zL x.weights.pack x.weights.af x.weights.an))
def iI (x:aU):Bool:=Em x&&((List.range x.V.length).all (bO (dY x) dQ x.V)&&((List.range x.O.length).all (bO (jT x) dw x.O)&&(List.range x.O.length).all (DN x.O)))
theorem oU {x:aU} (h:Em x = false):iI x = false:=by unfold iI;rw [h];rfl
theorem dW {x:aU} {k:Nat} (hk:k < x.V.length) (h:bO (dY x) dQ x.V k = false):iI x = false:=by unfold iI;rw [YF hk h];simp
theorem jP {x:aU} {k:Nat} (hk:k < x.O.length) (h:bO (jT x) dw x.O k = false):iI x = false:=by unfold iI;rw [YF hk h];simp
theorem DR {x:aU} {k:Nat} (hk:k < x.O.length) (h:DN x.O k = false):iI x = false:=by unfold iI;rw [YF hk h];simp
theorem OX {x:aU} (h0:Em x = true) (Z:∀j,j < x.V.length→bO (dY x) dQ x.V j = true) (h2:∀j,j < x.O.length→bO (jT x) dw x.O j = true) (h3:∀j,j < x.O.length→DN x.O j = true):iI x = true:=by
 unfold iI;rw [h0,YG Z,YG h2,YG h3];rfl
theorem pV {α:Type} {ok:α→Bool} {less:α→α→Bool} {xs:List α} {v:Bool} (h:0 < xs.length) (e:ok xs[0] = v):bO ok less xs 0 = v:=by rw [cF h,e]
theorem nM {α:Type} {ok:α→Bool} {less:α→α→Bool} {xs:List α} {j:Nat} {v u:Bool} (h:j+1 < xs.length) (e:ok xs[j+1] = v) (e2:less xs[j] xs[j+1] = u):bO ok less xs (j+1) = (v&&u):=by rw [yS h,e,e2]
theorem SX {x:aU} {h:aR} (e:vU (F7 h.name x.O) = none):yo x h = false:=by unfold yo;rw [e]
theorem Nq {x:aU} {h:aR} {a b:Int} (e:vU (F7 h.name x.O) = some (a,b)):yo x h = (decide (a≤h.az)&&(decide (b≤h.mem)&&decide (((F7 h.name x.O).length:Int)≤h.ax))):=by unfold yo;rw [e]
theorem E8 (x:aU) (h:aR):∃(a b n:Int) (Bl:Bool),KF h.name x.O = .tuple #[.int .i64 a,.int .i64 b,.int .i64 n,.bool Bl]∧yo x h = (Bl&&(decide (a≤h.az)&&(decide (b≤h.mem)&&decide (n≤h.ax))))∧0≤n∧n≤x.O.length:=by
 cases e:vU (F7 h.name x.O) with
 | none=>exact ⟨0,0,0,false,Z4 e,by rw [SX e];rfl,J,J⟩
 | some ab =>obtain ⟨a,b⟩:=ab;have:=Z2 h.name x.O;exact ⟨a,b,(F7 h.name x.O).length,true,Z3 e,by rw [Nq e];rfl,J,J⟩
theorem Sl.Ec {w:World} {xs:List ag} {A:Option Addr} {c:Nat} {F:List Nat} (h:Sl w xs A c F):∀p∈xs,bt p.seq:=by
 intro p hp;obtain ⟨k,hk,rfl⟩:=List.getElem_of_mem hp;obtain ⟨b,o,ck,Fk,_,_,_,hr,_⟩:=h.get hk;obtain ⟨gV,gW,lF,iR,iT,mV,dD,dF,iH,aD,hF,nY,iE,rF,rG,oZ,je,dN,gO,hseq⟩:=kE hr;exact hseq
end Go.Proofs.YtajbbmembionpaaGreat
