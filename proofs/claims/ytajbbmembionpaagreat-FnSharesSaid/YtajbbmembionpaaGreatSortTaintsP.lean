/- SortTaints in plain Lean. No condition. -/
import Derived.Test.YtajbbmembionpaaGreatTaintsOk
import Derived.Test.YtajbbmembionpaaGreatHas
import Derived.Test.YtajbbmembionpaaGreatNeedLess
namespace Go.Proofs.YtajbbmembionpaaGreat
open Go.ChangeShapes Go.WideShapes Go.ChangeAt Go.RowKit
set_option linter.unusedVariables false
set_option linter.unusedSimpArgs false
set_option maxHeartbeats 2000000
set_option maxRecDepth 100000
def Fq (xs:List iU):List iU × Bool:=if xs.length≤40∧La (eh qo [] xs) = true then (eh qo [] xs,true) else (xs,false)
theorem WH {xs:List iU} (h:¬xs.length≤40):Fq xs = (xs,false):=if_neg fun hh=>h hh.1
theorem WI {xs:List iU} (h:xs.length≤40) (h2:La (eh qo [] xs) = true):Fq xs = (eh qo [] xs,true):=if_pos ⟨h,h2⟩
theorem WK {xs:List iU} (h2:La (eh qo [] xs) = false):Fq xs = (xs,false):=if_neg fun hh=>by rw [h2] at hh;cases hh.2
theorem QP {xs:List iU} {z:iU} (h:z∈eh qo [] xs):z∈xs:=by
 rcases (Bx LS z xs []).1 h with h | h
 ·cases h
 ·exact h
theorem WM (xs:List iU):kL iU.wt (Fq xs).1≤kL iU.wt xs:=by
 have h:=By iU.wt qo xs [];have hl:=vA qo xs [];unfold Fq kL;split
 ·dsimp only;exact xY
 ·exact Nat.le_refl _
def j6 (xs:List bH):List bH × Bool:=if xs.length≤40∧Ya (eh vJ [] xs) = true then (eh vJ [] xs,true) else (xs,false)
theorem Yq {xs:List bH} (h:¬xs.length≤40):j6 xs = (xs,false):=if_neg fun hh=>h hh.1
theorem Ys {xs:List bH} (h:xs.length≤40) (h2:Ya (eh vJ [] xs) = true):j6 xs = (eh vJ [] xs,true):=if_pos ⟨h,h2⟩
theorem Yt {xs:List bH} (h2:Ya (eh vJ [] xs) = false):j6 xs = (xs,false):=if_neg fun hh=>by rw [h2] at hh;cases hh.2
theorem Ry {xs:List bH} {z:bH} (h:z∈eh vJ [] xs):z∈xs:=by
 rcases (Bx LV z xs []).1 h with h | h
 ·cases h
 ·exact h
theorem Yu (xs:List bH):kL bH.wt (j6 xs).1≤kL bH.wt xs:=by
 have h:=By bH.wt vJ xs [];have hl:=vA vJ xs [];unfold j6 kL;split
 ·dsimp only;exact xY
 ·exact Nat.le_refl _
def Aj (x:ba):Bool:=Qs x.name&&sD x.labels&&La x.aT&&(decide (0≤x.az)&&decide (0≤x.mem))&&(decide (1≤x.av)&&decide (x.av≤20))
theorem rO (x:ba) (cs:List Value) (F:List Nat) (w:World) (h:rd w x cs F) (AN:(x.name.size:Int)≤1048576) (iJ:(x.labels.length:Int)≤1048576) (cT:∀l∈x.labels,(l.key.size:Int)≤1048576∧(l.value.size:Int)≤1048576) (kR:(x.aT.length:Int)≤1048576) (jA:∀l∈x.aT,(l.key.size:Int)≤1048576∧(l.value.size:Int)≤1048576) :
 Calls Tryz.prog 51 #[.agg cs.toArray] w fun e w'=>e = .returned (.bool (Aj x))∧Below w.heap.size w w':=by
 have Zb:=I cT;have Ux:=I jA;clear cT jA;have hr:=h;obtain ⟨gu,gy,jw,kJ,kK,qU,aE,hF,hname,dO,vg,cB,uI,jq⟩:=iy hr;subst aE;clear hr hF;go_enter Tryz.func51,Tryz.ntmps51
 go_wp2_with (first
  | (go_at_call 81;refine (Rq x.name _ AN).mono ?_;rintro e w2 ⟨rfl,ar⟩;obtain ⟨cq,cL⟩:=ay ar;have cw:w.heap.size < w2.heap.size:=(sq ar.size))
  | (go_at_call 75;refine (Jw x.labels _ _ _ _ _ (dO.ext bJ) rfl iJ Zb.out).mono ?_;rintro e w3 ⟨rfl,bb⟩;obtain ⟨dm,hf3⟩:=ay bb;have cU:w.heap.size < w3.heap.size:=(sq bb.size))
  | (go_at_call 92;refine (ZL x.aT _ _ _ _ _ (jq.ext bJ) rfl kR Ux.out).mono ?_;rintro e w4 ⟨rfl,bx⟩;obtain ⟨fi,hf4⟩:=ay bx;have Wy:w.heap.size < w4.heap.size:=(sq bx.size))
  | go_in)
 all_goals first
  | (go_ret;refine ⟨?_,bJ⟩;refine congrArg (fun b=>Ending.returned (Value.bool b)) ?_;show (_:Bool) = _;(try clear cq cL);(try clear dm hf3);(try clear fi hf4);unfold Aj;first | (simp [*];done) | (simp [*];omega) | (simp_all;done) | (simp_all;omega))
  | skip
theorem tZ (x:ba) (cs:List Value) (F:List Nat) (w:World) (h:rd w x cs F) (hw:(x.wt:Int)≤1048576) :
 Calls Tryz.prog 51 #[.agg cs.toArray] w fun e w'=>e = .returned (.bool (Aj x))∧Below w.heap.size w w':=by
 have im:x.wt = x.name.size+kL ap.wt x.labels+kL iU.wt x.aT:=rfl;obtain ⟨iJ,cT⟩:=sW (xs:=x.labels) J;obtain ⟨kR,jA⟩:=BH (xs:=x.aT) J;exact rO x cs F w h J iJ cT kR jA
def py (xs:List aM):Bool:=nd uh nD 4 xs
theorem WJ (xs:List aM) (A:Option Addr) (n c:Nat) (F:List Nat) (w:World) (h:Sl w xs A c F) (Z:n = xs.length) (hl:(xs.length:Int)≤1048576) (cP:(∀l∈xs,(l.key.size:Int)≤1048576∧(l.values.length:Int)≤1048576∧∀v∈l.values,(v.size:Int)≤1048576)) :
 Calls Tryz.prog 78 #[.slice A n c] w fun e w'=>e = .returned (.bool (py xs))∧Below w.heap.size w w':=by
 subst Z;have Eo:=I cP;clear cP;by_cases hm:(xs.length:Int)≤4
 ·go_enter Tryz.func78,Tryz.ntmps78;go_wp2_with fail
  go_loopw [3] (fun i wr=>∃k:Nat,k≤xs.length∧i = .int .i64 k∧Hid (∀j,j < k→bS uh nD xs j = true)∧Below w.heap.size w wr) (fun i _=>xs.length - (intOf i).toNat)
  case atStart=>exact ⟨0,Nat.zero_le _,rfl,(fun j hj=>by omega),bJ⟩
  case round =>
   obtain ⟨k,hk,rfl,hall,aR⟩:=hrel;by_cases ax:k < xs.length
   ·obtain rfl | ⟨j,rfl⟩:k = 0∨∃j,k = j+1:=by cases k with | zero=>exact .inl rfl | succ j=>exact .inr ⟨j,rfl⟩
    ·obtain ⟨b,o,ck,Fk,rfl,o9,hbs,hr,bB,hc⟩:=(Sl.ext (w':=wr) (A:=A) (c:=c) h aR).get ax;have du:=hr;obtain ⟨jy,ji,Bo,aE,su,cf,ia,kV⟩:=og hr;subst aE;obtain ⟨q0,q1,q2⟩:=pS 3 hc;clear hc;simp only [Nat.zero_mul,Nat.add_zero] at q0 q1 q2;obtain ⟨dB,cR,hs3⟩:=Eo.out xs[0] (List.getElem_mem ..);cases h1:uh xs[0]
     all_goals
      have hp:=cF (ok:=uh) (less:=nD) ax;rw [h1] at hp;try simp only [Bool.false_and,Bool.and_false,Bool.and_true,Bool.and_self] at hp
      change bS uh nD xs _ = _ at hp
      have hK:∀wq,Below wr.heap.size wr wq→Calls Tryz.prog 125 #[.agg #[.string xs[0].key,.int .i64 xs[0].op,.slice jy xs[0].values.length ji]] wq fun e w'=>e = .returned (.bool (uh xs[0]))∧Below wq.heap.size wq w' :=
       fun wq hq=>Rx xs[0] _ _ _ (aJ du hq) dB cR hs3
      rw [h1] at hK;have P1:=I hK;clear hK
      first
       | have HN:=I (gq hall.out hp)
       | have HF:=I (wU (most:=4) ax hp)
      clear h1 hp;go_wp2_with fail
      refine aF _ U' U' (aj _) ?_
      repeat ((first | refine aG O ?_ | refine aH _ O C4 ?_);simp only [Act.put,pz])
      refine aN ?_;intro wn Z;replace Z:=Z.out;go_wp2
      first
       | exact ⟨⟨0+1,J,N',HN.out,ah aR Z⟩,by simp [intOf];omega⟩
       | (go_ret;exact ⟨by unfold py;rw [HF.out];rfl,ah aR Z⟩)
    ·obtain ⟨b,o,ck,Fk,rfl,o9,hbs,hr,bB,hc⟩:=(Sl.ext (w':=wr) (A:=A) (c:=c) h aR).get ax;have du:=hr;obtain ⟨jy,ji,Bo,aE,su,cf,ia,kV⟩:=og hr;subst aE;obtain ⟨q0,q1,q2⟩:=pS 3 hc;clear hc;obtain ⟨b',o',TY,Xw,e,Ht,hbs',d',zQ,hc'⟩:=Sl.get (Sl.ext (w':=wr) (c:=c) h aR) (show j < xs.length by omega);have QS:=d';obtain ⟨qO,qP,KL,jU,abT,vC,hop2,zS⟩:=og d';subst jU;obtain ⟨rfl,rfl⟩:b' = b∧o' = o:=by simpa using e.symm
     clear e;obtain ⟨p0,p1,p2⟩:=pS 3 hc';clear hc';have AJ:IntKind.i64.wrap (j:Int) = j:=IntWalk.i64_in _ J;have mW:j < xs.length:=J;obtain ⟨hp1,yh,QY⟩:=Eo.out xs[j] (List.getElem_mem ..);obtain ⟨dB,cR,hs3⟩:=Eo.out xs[j+1] (List.getElem_mem ..);cases h1:uh xs[j+1] <;> cases h3:nD xs[j] xs[j+1]
     all_goals
      have hp:=yS (ok:=uh) (less:=nD) ax;rw [h1,h3] at hp;try simp only [Bool.false_and,Bool.and_false,Bool.and_true,Bool.and_self] at hp
      change bS uh nD xs _ = _ at hp
      have hK:∀wq,Below wr.heap.size wr wq→Calls Tryz.prog 125 #[.agg #[.string xs[j+1].key,.int .i64 xs[j+1].op,.slice jy xs[j+1].values.length ji]] wq fun e w'=>e = .returned (.bool (uh xs[j+1]))∧Below wq.heap.size wq w' :=
       fun wq hq=>Rx xs[j+1] _ _ _ (aJ du hq) dB cR hs3
      rw [h1] at hK;have P1:=I hK;clear hK
      first
       | have HN:=I (gq hall.out hp)
       | have HF:=I (wU (most:=4) ax hp)
      have hC:∀wq,Below wr.heap.size wr wq→Calls Tryz.prog 77 #[.agg #[.string xs[j].key,.int .i64 xs[j].op,.slice qO xs[j].values.length qP],.agg #[.string xs[j+1].key,.int .i64 xs[j+1].op,.slice jy xs[j+1].values.length ji]] wq fun e w'=>e = .returned (.bool (nD xs[j] xs[j+1]))∧Below wq.heap.size wq w' :=
       fun wq hq=>TN xs[j] xs[j+1] _ _ _ _ _ (aJ QS hq) (aJ du hq) yh cR
      rw [h3] at hC;have xu:=I hC;clear hC;clear h1 hp;go_wp2_with fail
      refine aF _ U' U' (aj _) ?_
      repeat ((first | refine aG O ?_ | refine aH _ O C4 ?_);simp only [Act.put,pz])
      refine aN ?_;intro wn Z;replace Z:=Z.out;go_wp2
      first
       | exact ⟨⟨j+1+1,J,N',HN.out,ah aR Z⟩,by simp [intOf];omega⟩
       | (go_ret;exact ⟨by unfold py;rw [HF.out];rfl,ah aR Z⟩)
   ·have bF:k = xs.length:=J;subst bF;have HF:=I (Jy hm hall.out);go_wp2;go_ret
    exact ⟨by unfold py;rw [HF.out];rfl,aR⟩
 ·have HF:=I (Jz (ok:=uh) (less:=nD) hm);go_enter Tryz.func78,Tryz.ntmps78;go_wp2;go_ret
  exact ⟨by unfold py;rw [HF.out];rfl,bJ⟩
def nf (x:aM):aM:=⟨x.key,x.op,gr x.values⟩
def yU (xs:List aM):Bool:=xs.all fun x=>decide (x.values.length≤40)
def j7 (xs:List aM):List aM:=eh nD [] (xs.map nf)
def jD (xs:List aM):List aM × Bool:=if xs.length≤40∧yU xs = true∧py (j7 xs) = true then (j7 xs,true) else (xs,false)
theorem Yw {xs:List aM} (h:¬xs.length≤40):jD xs = (xs,false):=if_neg fun hh=>h hh.1
theorem Yx {xs:List aM} (h:yU xs = false):jD xs = (xs,false):=if_neg fun hh=>by rw [h] at hh;cases hh.2.1
theorem Yy {xs:List aM} (h:xs.length≤40) (h1:yU xs = true) (h2:py (j7 xs) = true):jD xs = (j7 xs,true):=if_pos ⟨h,h1,h2⟩
theorem Yz {xs:List aM} (h2:py (j7 xs) = false):jD xs = (xs,false):=if_neg fun hh=>by rw [h2] at hh;cases hh.2.2
theorem RC {xs:List aM} {z:aM} (h:z∈j7 xs):∃x∈xs,z = nf x:=by
 rcases (Bx (lt:=nD) Wl z (xs.map nf) []).1 h with h | h
 ·cases h
 ·obtain ⟨x,hx,rfl⟩:=List.mem_map.1 h;exact ⟨x,hx,rfl⟩
theorem YA (xs:List aM):(j7 xs).length≤xs.length:=by have:=vA nD (xs.map nf) [];unfold j7;simpa using this
theorem YD (x:aM):(nf x).wt≤x.wt:=by have:=RB x.values;unfold nf aM.wt AM;dsimp only;omega
theorem RE {α:Type} {f:α→Nat} {g:α→α} (h:∀x,f (g x)≤f x):∀xs:List α,((xs.map g).map f).sum≤(xs.map f).sum
 | []=>Nat.le_refl _
 | x :: xs=>by have h1:=h x;have h2:=RE h xs;simp only [List.map_cons,List.sum_cons];omega
theorem YI (xs:List aM):kL aM.wt (jD xs).1≤kL aM.wt xs:=by
 have h:=By aM.wt nD (xs.map nf) [];have hl:=vA nD (xs.map nf) [];have hm:=RE YD xs;unfold jD kL;split
 ·dsimp only;simp only [List.map_nil,List.sum_nil,List.length_nil,List.length_map] at h hl;unfold j7;omega
 ·exact Nat.le_refl _
theorem YJ {xs:List aM} (h:yU xs = true) {x:aM} (hx:x∈xs):x.values.length≤40:=by
 have:=List.all_eq_true.1 h x hx;simpa using this
theorem YK {xs:List aM} {x:aM} (hx:x∈xs) (h:¬x.values.length≤40):yU xs = false:=by
 cases hh:yU xs with
 | false=>rfl
 | true=>exact absurd (YJ hh hx) h
theorem YL {xs:List aM} (h:∀j (hj:j < xs.length),xs[j].values.length≤40):yU xs = true:=by
 refine List.all_eq_true.2 fun x hx=>?_;obtain ⟨j,hj,rfl⟩:=List.getElem_of_mem hx;simpa using h j hj
theorem ME {x:aM} (h:x.wt≤1048576):((nf x).key.size:Int)≤1048576∧((nf x).values.length:Int)≤1048576∧(∀v∈(nf x).values,(v.size:Int)≤1048576):=by
 have h2:aM.wt x = x.key.size+kL ByteArray.size x.values:=rfl;have h3:=gJ ByteArray.size x.values;have h4:=Rz x.values;refine ⟨?_,?_,fun v hv=>?_⟩
 ·show (x.key.size:Int)≤_;omega
 ·show ((gr x.values).length:Int)≤_;omega
 ·have:=Bq (f:=ByteArray.size) (RA hv);omega
def GU (x:nI):Bool:=Qs x.name&&sD x.labels&&py x.ai&&Ya x.ae&&(decide (0≤x.az)&&decide (0≤x.mem))&&(decide (0≤x.aw)&&decide (x.aw≤1000))
def VX (l:aM):Prop:=(l.key.size:Int)≤1048576∧(l.values.length:Int)≤1048576∧∀v∈l.values,(v.size:Int)≤1048576
def VY (l:bH):Prop:=(l.key.size:Int)≤1048576∧(l.value.size:Int)≤1048576
theorem wM (x:nI) (cs:List Value) (F:List Nat) (w:World) (h:rd w x cs F) (AN:(x.name.size:Int)≤1048576) (iJ:(x.labels.length:Int)≤1048576) (cT:∀l∈x.labels,(l.key.size:Int)≤1048576∧(l.value.size:Int)≤1048576) (uK:(x.ai.length:Int)≤1048576) (VU:∀l∈x.ai,VX l) (kR:(x.ae.length:Int)≤1048576) (jA:∀l∈x.ae,VY l) :
 Calls Tryz.prog 39 #[.agg cs.toArray] w fun e w'=>e = .returned (.bool (GU x))∧Below w.heap.size w w':=by
 have Zb:=I cT;have L8:=I VU;have Ux:=I jA;clear cT jA VU;have hr:=h;obtain ⟨gu,gy,jw,oh,nT,wG,fA,fB,jY,aE,hF,hname,dO,vg,cB,BJ,mX,eG⟩:=dL hr;subst aE;clear hr hF;go_enter Tryz.func39,Tryz.ntmps39
 go_wp2_with (first
  | (go_at_call 81;refine (Rq x.name _ AN).mono ?_;rintro e w2 ⟨rfl,ar⟩;obtain ⟨cq,cL⟩:=ay ar;have cw:w.heap.size < w2.heap.size:=(sq ar.size))
  | (go_at_call 75;refine (Jw x.labels _ _ _ _ _ (dO.ext bJ) rfl iJ Zb.out).mono ?_;rintro e w3 ⟨rfl,bb⟩;obtain ⟨dm,hf3⟩:=ay bb;have cU:w.heap.size < w3.heap.size:=(sq bb.size))
  | (go_at_call 78;refine (WJ x.ai _ _ _ _ _ (mX.ext bJ) rfl uK L8.out).mono ?_;rintro e w4 ⟨rfl,bx⟩;obtain ⟨fi,hf4⟩:=ay bx;have Wy:w.heap.size < w4.heap.size:=(sq bx.size))
  | (go_at_call 80;refine (RI x.ae _ _ _ _ _ (eG.ext bJ) rfl kR Ux.out).mono ?_;rintro e w5 ⟨rfl,bv⟩;obtain ⟨sM,pF⟩:=ay bv;have Es:w.heap.size < w5.heap.size:=(sq bv.size))
  | go_in)
 all_goals first
  | (go_ret;refine ⟨?_,bJ⟩;refine congrArg (fun b=>Ending.returned (Value.bool b)) ?_;show (_:Bool) = _;(try clear cq cL);(try clear dm hf3);(try clear fi hf4);(try clear sM pF);unfold GU;first | (simp [*];done) | (simp [*];omega) | (simp_all;done) | (simp_all;omega))
  | skip
theorem yT (x:nI) (cs:List Value) (F:List Nat) (w:World) (h:rd w x cs F) (hw:(x.wt:Int)≤1048576) :
 Calls Tryz.prog 39 #[.agg cs.toArray] w fun e w'=>e = .returned (.bool (GU x))∧Below w.heap.size w w':=by
 have im:x.wt = x.name.size+kL ap.wt x.labels+kL aM.wt x.ai+kL bH.wt x.ae:=rfl;obtain ⟨iJ,cT⟩:=sW (xs:=x.labels) J;obtain ⟨uK,VU⟩:=Aa (xs:=x.ai) J;obtain ⟨kR,jA⟩:=FQ (xs:=x.ae) J;exact wM x cs F w h J iJ cT uK VU kR jA
structure U6 (x:ba):Prop where
 ns:(x.name.size:Int)≤1048576
 ll:(x.labels.length:Int)≤1048576
 ls:∀l∈x.labels,(l.key.size:Int)≤1048576∧(l.value.size:Int)≤1048576
 tl:(x.aT.length:Int)≤1048576
 ts:∀l∈x.aT,(l.key.size:Int)≤1048576∧(l.value.size:Int)≤1048576
structure Xl (x:nI):Prop where
 ns:(x.name.size:Int)≤1048576
 ll:(x.labels.length:Int)≤1048576
 ls:∀l∈x.labels,(l.key.size:Int)≤1048576∧(l.value.size:Int)≤1048576
 nl:(x.ai.length:Int)≤1048576
 P':∀l∈x.ai,VX l
 tl:(x.ae.length:Int)≤1048576
 ts:∀l∈x.ae,VY l
theorem U6.qz (x:ba) (hw:(x.wt:Int)≤1048576):U6 x:=by
 have im:x.wt = x.name.size+kL ap.wt x.labels+kL iU.wt x.aT:=rfl;obtain ⟨iJ,cT⟩:=sW (xs:=x.labels) J;obtain ⟨kR,jA⟩:=BH (xs:=x.aT) J;exact ⟨J,iJ,cT,kR,jA⟩
theorem Xl.qz (x:nI) (hw:(x.wt:Int)≤1048576):Xl x:=by
 have im:x.wt = x.name.size+kL ap.wt x.labels+kL aM.wt x.ai+kL bH.wt x.ae:=rfl;obtain ⟨iJ,cT⟩:=sW (xs:=x.labels) J;obtain ⟨uK,VU⟩:=Aa (xs:=x.ai) J;obtain ⟨kR,jA⟩:=FQ (xs:=x.ae) J;exact ⟨J,iJ,cT,uK,VU,kR,jA⟩
theorem Xg (nm:ByteArray) (xs:List ag):(F7 nm xs).length≤xs.length:=by unfold F7;rw [List.length_map];exact List.length_filter_le _ _
theorem Xi {nm:ByteArray} {xs:List ag} {a b:Int} (h:vU (F7 nm xs) = some (a,b)):KF nm xs = .tuple #[.int .i64 a,.int .i64 b,.int .i64 (F7 nm xs).length,.bool true]:=by unfold KF;rw [h]
theorem Xo {nm:ByteArray} {xs:List ag} (h:vU (F7 nm xs) = none):KF nm xs = .tuple #[.int .i64 0,.int .i64 0,.int .i64 0,.bool false]:=by unfold KF;rw [h]
def yl (x:aU) (h:ba):Bool:=match vU (F7 h.name x.V) with
 | none=>false
 | some (a,b)=>decide (a≤h.az)&&(decide (b≤h.mem)&&decide (((F7 h.name x.V).length:Int)≤h.av))
def dY (x:aU) (h:ba):Bool:=Aj h&&yl x h
def dQ (a b:ba):Bool:=Op.bytesLess a.name.toList b.name.toList
def jT (x:aU) (p:ag):Bool:=GU p.aS&&((decide (1≤p.seq)&&decide (p.seq≤x.next - 1))&&((p.on.toList == []) || decide (0≤pK (iM p.on) x.aa)))
def dw (a b:ag):Bool:=Op.bytesLess a.aS.name.toList b.aS.name.toList
def ed (xs:List ag) (s:Int):Bool:=xs.any fun q=>q.seq == s
def DN (xs:List ag) (k:Nat):Bool:=match xs[k]? with | none=>false | some p=>!(ed (xs.take k) p.seq)
theorem sG {xs:List ag} {k:Nat} (h:k < xs.length):DN xs k = !(ed (xs.take k) xs[k].seq):=by unfold DN;rw [List.getElem?_eq_getElem h]
def Em (x:aU):Bool:=decide ((x.aa.length:Int)≤8)&&(decide ((x.V.length:Int)≤12)&&((decide (1≤x.next)&&decide (x.next≤1000000000))&&zL x.weights.pack x.weights.af x.weights.an))
def iI (x:aU):Bool:=Em x&&((List.range x.aa.length).all (bS (dY x) dQ x.aa)&&((List.range x.V.length).all (bS (jT x) dw x.V)&&(List.range x.V.length).all (DN x.V)))
theorem oU {x:aU} (h:Em x = false):iI x = false:=by unfold iI;rw [h];rfl
theorem dW {x:aU} {k:Nat} (hk:k < x.aa.length) (h:bS (dY x) dQ x.aa k = false):iI x = false:=by unfold iI;rw [YF hk h];simp
theorem jP {x:aU} {k:Nat} (hk:k < x.V.length) (h:bS (jT x) dw x.V k = false):iI x = false:=by unfold iI;rw [YF hk h];simp
theorem DR {x:aU} {k:Nat} (hk:k < x.V.length) (h:DN x.V k = false):iI x = false:=by unfold iI;rw [YF hk h];simp
theorem OX {x:aU} (h0:Em x = true) (h1:∀j,j < x.aa.length→bS (dY x) dQ x.aa j = true) (h2:∀j,j < x.V.length→bS (jT x) dw x.V j = true) (h3:∀j,j < x.V.length→DN x.V j = true):iI x = true:=by
 unfold iI;rw [h0,YG h1,YG h2,YG h3];rfl
theorem pV {α:Type} {ok:α→Bool} {less:α→α→Bool} {xs:List α} {v:Bool} (h:0 < xs.length) (e:ok xs[0] = v):bS ok less xs 0 = v:=by rw [cF h,e]
theorem nM {α:Type} {ok:α→Bool} {less:α→α→Bool} {xs:List α} {j:Nat} {v u:Bool} (h:j+1 < xs.length) (e:ok xs[j+1] = v) (e2:less xs[j] xs[j+1] = u):bS ok less xs (j+1) = (v&&u):=by rw [yS h,e,e2]
theorem Ra {x:aU} {h:ba} (e:vU (F7 h.name x.V) = none):yl x h = false:=by unfold yl;rw [e]
theorem Mb {x:aU} {h:ba} {a b:Int} (e:vU (F7 h.name x.V) = some (a,b)):yl x h = (decide (a≤h.az)&&(decide (b≤h.mem)&&decide (((F7 h.name x.V).length:Int)≤h.av))):=by unfold yl;rw [e]
theorem E8 (x:aU) (h:ba):∃(a b n:Int) (AS:Bool),KF h.name x.V = .tuple #[.int .i64 a,.int .i64 b,.int .i64 n,.bool AS]∧yl x h = (AS&&(decide (a≤h.az)&&(decide (b≤h.mem)&&decide (n≤h.av))))∧0≤n∧n≤x.V.length:=by
 cases e:vU (F7 h.name x.V) with
 | none=>exact ⟨0,0,0,false,Xo e,by rw [Ra e];rfl,J,J⟩
 | some ab =>obtain ⟨a,b⟩:=ab;have:=Xg h.name x.V;exact ⟨a,b,(F7 h.name x.V).length,true,Xi e,by rw [Mb e];rfl,J,J⟩
theorem Sl.Ec {w:World} {xs:List ag} {A:Option Addr} {c:Nat} {F:List Nat} (h:Sl w xs A c F):∀p∈xs,br p.seq:=by
 intro p hp;obtain ⟨k,hk,rfl⟩:=List.getElem_of_mem hp;obtain ⟨b,o,ck,Fk,_,_,_,hr,_⟩:=h.get hk;obtain ⟨gV,gW,lF,iR,iT,mV,dD,dF,iH,aE,hF,nY,iE,rF,rG,oZ,je,dN,gR,hseq⟩:=kE hr;exact hseq
end Go.Proofs.YtajbbmembionpaaGreat
