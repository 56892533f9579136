/- math/bits Div64. No condition. -/
import Derived.Test.YtjahcnjmjahbaaaGreatNeedOk
namespace Go.Proofs.YtjahcnjmjahbaaaGreat
open Go.ChangeShapes Go.WideShapes Go.ChangeAt Go.RowKit
set_option linter.unusedVariables false
set_option linter.unusedSimpArgs false
set_option maxHeartbeats 4000000
set_option maxRecDepth 100000
theorem apV (hi lo y:Nat) (hl:lo < 18446744073709551616) (hy:y < 18446744073709551616) (h:hi < y) (w:World) :
 Calls Tryz.prog 227 #[.int .u64 hi,.int .u64 lo,.int .u64 y] w fun e w'=>(∃r,e = .returned (.tuple #[.int .u64 (((hi * 18446744073709551616+lo) / y:Nat):Int),r]))∧Below w.heap.size w w':=by
 have bm:decide ((y:Int) = 0) = false:=by simp;omega
 have ao:decide ((y:Int)≤(hi:Int)) = false:=by simp;omega
 by_cases hz:hi = 0
 ·subst hz
  go_enter Tryz.func227,Tryz.ntmps227
  go_wp2_with fail
  go_region
  all_goals
   go_wp2
   go_ret2
   refine ⟨⟨.int .u64 ((lo:Int) % (y:Int)),?_⟩,aA (aj _)⟩
   have e0:IntKind.u64.wrap ((lo:Int) / (y:Int)) = (((0 * 18446744073709551616+lo) / y:Nat):Int):=by
    have h1:lo / y≤lo:=Nat.div_le_self _ _
    rw [Nat.zero_mul,Nat.zero_add,← Int.natCast_ediv]
    exact J7 _ (by omega)
   show Ending.returned (.tuple #[.int .u64 (IntKind.u64.wrap ((lo:Int) / (y:Int))),.int .u64 ((lo:Int) % (y:Int))]) = _
   rw [e0]
 ·have bd:decide ((hi:Int) = 0) = false:=by simp;omega
  obtain ⟨S,hS,eD,b4,bR⟩:=anV y (by omega) hy
  go_enter Tryz.func227,Tryz.ntmps227
  go_wp2_with fail
  refine (aaq (y:Int) _ (by omega) (by omega)).mono ?_
  rw [show (64 - (Lib.bitLen ((y:Int)).toNat:Int)) = (S:Int) by rw [Int.toNat_natCast];exact hS]
  rintro e w2 ⟨rfl,hw⟩
  simp only [hw]
  clear hw w2
  obtain ⟨Y,v1,v0,un,L,u1,u0,P⟩:=apW hi lo y S hl h eD b4 bR
  have eY:=P.eY;have T4:=P.T4;have T5:=P.T5;have T6:=P.T6;have eL:=P.eL;have T7:=P.T7;have T9:=P.T9
  have iG:=P.iG;have pH:=P.pH;have oR:=P.oR;have yf:=P.yf;have lp:=P.lp;have lY:=P.lY;have yi:=P.yi
  have Uh:Y < 18446744073709551616:=by omega
  have lY0:0 < Y:=by omega
  have M5:un < 18446744073709551616:=by omega
  have hdq:=wF un v1 M5
  have Mn:=Qm un v1 M5
  have il:=gC.start (un:=un) (v1:=v1) (v0:=v0) (u0:=u1) (lY ▸ yi) iG pH oR yf
  generalize et:un - un / v1 * v1 = r0 at Mn il
  generalize kv:un / v1 = q0 at hdq Mn il
  have Bg:=Lib.hid il
  have hP:=Lib.hid P
  have ik:=Lib.hid lY
  clear P b4 bR lY kv et il
  go_wp2_with fail
  simp only [show ((y:Int) == 0) = false by simp;omega,show decide (y≤hi) = false by simp;omega,show ((hi:Int) == 0) = false by simp;omega]
  clear eY T4 T5 T6 eL T7 T9 hdq Mn
  go_loopw [15,16] (fun a b wr=>∃q r:Nat,a = .int .u64 q∧b = .int .u64 r∧gC un v1 v0 u1 q r∧wr = w) (fun a _ _=>(intOf a).toNat)
  case atStart=>exact ⟨q0,r0,rfl,rfl,Bg.out,rfl⟩
  case round =>
   obtain ⟨q,r,rfl,rfl,hD,rfl⟩:=hrel
   have CW:=hD.zm
   have CX:=hD.Ez
   have HD:=Lib.hid hD
   clear hD
   by_cases hq4:(q:Int) < 4294967296
   ·obtain ⟨M,hM⟩:∃M,q * v0 = M:=⟨_,rfl⟩
    obtain ⟨A,hA⟩:∃A,4294967296 * r = A:=⟨_,rfl⟩
    obtain ⟨N,hN⟩:∃N,A+u1 = N:=⟨_,rfl⟩
    have CY:M≤4294967296 * 4294967295:=by rw [← hM];exact Nat.mul_le_mul (by omega) (by omega)
    have CZ:A≤4294967296 * 4294967295:=by rw [← hA];exact Nat.mul_le_mul (Nat.le_refl _) (by omega)
    have e3:Value.int .u64 (IntKind.u64.wrap ((q:Int) * (v0:Int))) = Value.int .u64 (M:Int):=by rw [← Int.natCast_mul,hM,J7 _ (by omega)]
    have e4:Value.int .u64 (IntKind.u64.wrap (4294967296 * (r:Int))) = Value.int .u64 (A:Int):=by rw [show (4294967296 * (r:Int)) = ((4294967296 * r:Nat):Int) by rw [Int.natCast_mul];rfl,hA,J7 _ (by omega)]
    have e5:Value.int .u64 (IntKind.u64.wrap ((A:Int)+(u1:Int))) = Value.int .u64 (N:Int):=by rw [← Int.natCast_add,hN,J7 _ (by omega)]
    have HT:=Lib.hid (show 4294967296 * r+u1 = N by rw [hA,hN])
    have HM:=Lib.hid hM
    clear hM hA hN CY CZ
    by_cases hNM:N < M
    ·have sK:(N:Int) < (M:Int):=by omega
     have r8:=Lib.hid hNM
     have gD:=HD.out.kA (ik.out ▸ yi) iG yf (.inr Pt)
     have fc:=gC.pos (r:=r) gD
     obtain ⟨q1,eS⟩:∃q1,q = q1+1:=⟨q - 1,by omega⟩
     obtain ⟨r1,dc⟩:∃r1,r+v1 = r1:=⟨_,rfl⟩
     have e1:Value.int .u64 (IntKind.u64.wrap ((q:Int) - 1)) = Value.int .u64 (q1:Int):=by rw [IntKind.wrap_u64];congr 1;omega
     have e2:Value.int .u64 (IntKind.u64.wrap ((r:Int)+(v1:Int))) = Value.int .u64 (r1:Int):=by rw [IntKind.wrap_u64];congr 1;omega
     have j5:=Lib.hid gD
     have Vd:=Lib.hid eS
     have mQ:=Lib.hid dc
     clear gD eS dc fc
     by_cases hb:(r1:Int) < 4294967296
     ·have df:decide ((4294967296:Int)≤(r1:Int)) = false:=by rw [decide_eq_false_iff_not];omega
      iterate 110 (first | go_step | skip)
      clear e1 e2 df e3 e4 e5
      go_wp2_with fail
      have hn:=HD.out.next j5.out mN
      rw [Vd.out,mQ.out,Nat.add_sub_cancel] at hn
      have gE:(intOf (.int .u64 (q1:Int))).toNat < (intOf (.int .u64 (q:Int))).toNat:=by have:=Vd.out;simp only [intOf];omega
      have lL:max (intOf (.int .u64 (q1:Int))) 0 < intOf (.int .u64 (q:Int)):=by have:=Vd.out;simp only [intOf];omega
      first
       | exact ⟨⟨q1,r1,rfl,rfl,hn,trivial⟩,gE⟩
       | exact ⟨⟨q1,rfl,r1,rfl,hn⟩,lL⟩
       | exact ⟨⟨q1,rfl,r1,rfl,hn⟩,gE⟩
       | (refine ⟨?_,gE⟩
          repeat apply Exists.intro
          exact ⟨⟨q1,r1,rfl,rfl,hn,trivial⟩,rfl⟩)
     ·have df:decide ((4294967296:Int)≤(r1:Int)) = true:=by rw [decide_eq_true_eq];omega
      have ca:q1 = (un * 4294967296+u1) / Y:=by
       have hs:=HD.out.stop j5.out iG oR mN
       rw [Vd.out,← ik.out] at hs
       exact hs
      obtain ⟨qa,hqa⟩:∃qa,qa = q1:=⟨_,rfl⟩
      subst hqa
      have gT:=Lib.hid ca
      clear ca
      have sL:=Lib.hid (show qa < 4294967296 by rw [gT.out];exact OD yi yf)
      have sM:=Ug un u1 Y (by omega) Uh qa gT.out
      obtain ⟨R,hR⟩:∃R,(un * 4294967296+u1) % Y = R:=⟨_,rfl⟩
      rw [hR] at sM
      have sP:R < Y:=by rw [← hR];exact Nat.mod_lt _ (by omega)
      have sR:=wF R v1 (by omega)
      have oS:=Qm R v1 (by omega)
      have gF:=gC.start (un:=R) (v1:=v1) (v0:=v0) (u0:=u0) (ik.out ▸ sP) iG pH oR lp
      generalize et:R - R / v1 * v1 = r0 at oS gF
      generalize kv:R / v1 = q0 at sR oS gF
      have sS:=Lib.hid gF
      have HR:=Lib.hid hR
      have gO:=Lib.hid sP
      replace sM:=congrArg (Value.int .u64) sM
      replace sR:=congrArg (Value.int .u64) sR
      replace oS:=congrArg (Value.int .u64) oS
      clear kv et gF hR sP
      iterate 250 (first | go_step | skip)
      obtain ⟨wo,hwo⟩:∃wo,wo = wr:=⟨_,rfl⟩
      subst hwo
      go_loopw [18,16] (fun a b wr=>∃q r:Nat,a = .int .u64 q∧b = .int .u64 r∧gC R v1 v0 u0 q r∧wr = wo) (fun a _ _=>(intOf a).toNat)
      case atStart=>exact ⟨q0,r0,rfl,rfl,sS.out,rfl⟩
      case round =>
       obtain ⟨q,r,rfl,rfl,hD,rfl⟩:=hrel
       have CW:=hD.zm
       have CX:=hD.Ez
       have HD:=Lib.hid hD
       clear hD
       by_cases hq4:(q:Int) < 4294967296
       ·obtain ⟨M,hM⟩:∃M,q * v0 = M:=⟨_,rfl⟩
        obtain ⟨A,hA⟩:∃A,4294967296 * r = A:=⟨_,rfl⟩
        obtain ⟨N,hN⟩:∃N,A+u0 = N:=⟨_,rfl⟩
        have CY:M≤4294967296 * 4294967295:=by rw [← hM];exact Nat.mul_le_mul (by omega) (by omega)
        have CZ:A≤4294967296 * 4294967295:=by rw [← hA];exact Nat.mul_le_mul (Nat.le_refl _) (by omega)
        have e3:Value.int .u64 (IntKind.u64.wrap ((q:Int) * (v0:Int))) = Value.int .u64 (M:Int):=by rw [← Int.natCast_mul,hM,J7 _ (by omega)]
        have e4:Value.int .u64 (IntKind.u64.wrap (4294967296 * (r:Int))) = Value.int .u64 (A:Int):=by rw [show (4294967296 * (r:Int)) = ((4294967296 * r:Nat):Int) by rw [Int.natCast_mul];rfl,hA,J7 _ (by omega)]
        have e5:Value.int .u64 (IntKind.u64.wrap ((A:Int)+(u0:Int))) = Value.int .u64 (N:Int):=by rw [← Int.natCast_add,hN,J7 _ (by omega)]
        have HT:=Lib.hid (show 4294967296 * r+u0 = N by rw [hA,hN])
        have HM:=Lib.hid hM
        clear hM hA hN CY CZ
        by_cases hNM:N < M
        ·have sK:(N:Int) < (M:Int):=by omega
         have r8:=Lib.hid hNM
         have gD:=HD.out.kA (ik.out ▸ gO.out) iG lp (.inr Pt)
         have fc:=gC.pos (r:=r) gD
         obtain ⟨q1,eS⟩:∃q1,q = q1+1:=⟨q - 1,by omega⟩
         obtain ⟨r1,dc⟩:∃r1,r+v1 = r1:=⟨_,rfl⟩
         have e1:Value.int .u64 (IntKind.u64.wrap ((q:Int) - 1)) = Value.int .u64 (q1:Int):=by rw [IntKind.wrap_u64];congr 1;omega
         have e2:Value.int .u64 (IntKind.u64.wrap ((r:Int)+(v1:Int))) = Value.int .u64 (r1:Int):=by rw [IntKind.wrap_u64];congr 1;omega
         have j5:=Lib.hid gD
         have Vd:=Lib.hid eS
         have mQ:=Lib.hid dc
         clear gD eS dc fc
         by_cases hb:(r1:Int) < 4294967296
         ·have df:decide ((4294967296:Int)≤(r1:Int)) = false:=by rw [decide_eq_false_iff_not];omega
          iterate 110 (first | go_step | skip)
          clear e1 e2 df e3 e4 e5
          go_wp2_with fail
          have hn:=HD.out.next j5.out mN
          rw [Vd.out,mQ.out,Nat.add_sub_cancel] at hn
          have gE:(intOf (.int .u64 (q1:Int))).toNat < (intOf (.int .u64 (q:Int))).toNat:=by have:=Vd.out;simp only [intOf];omega
          have lL:max (intOf (.int .u64 (q1:Int))) 0 < intOf (.int .u64 (q:Int)):=by have:=Vd.out;simp only [intOf];omega
          first
           | exact ⟨⟨q1,r1,rfl,rfl,hn,trivial⟩,gE⟩
           | exact ⟨⟨q1,rfl,r1,rfl,hn⟩,lL⟩
           | exact ⟨⟨q1,rfl,r1,rfl,hn⟩,gE⟩
           | (refine ⟨?_,gE⟩
              repeat apply Exists.intro
              exact ⟨⟨q1,r1,rfl,rfl,hn,trivial⟩,rfl⟩)
         ·have df:decide ((4294967296:Int)≤(r1:Int)) = true:=by rw [decide_eq_true_eq];omega
          have ca:q1 = (R * 4294967296+u0) / Y:=by
           have hs:=HD.out.stop j5.out iG oR mN
           rw [Vd.out,← ik.out] at hs
           exact hs
          have iJ:=Lib.hid ca
          clear ca
          have tG:q1 < 4294967296:=by rw [iJ.out];exact OD gO.out lp
          have bo:(hi * 18446744073709551616+lo) / y = qa * 4294967296+q1:=by
           have h2:=FB (A:=un * 4294967296+u1) (u0:=u0) (Y:=Y) (by omega)
           rw [hP.out.whole,HR.out,← gT.out,← iJ.out,hP.out.yY,Io _ _ _ (Nat.two_pow_pos S)] at h2
           exact h2
          have Xv:IntKind.u64.wrap (IntKind.u64.wrap ((qa:Int) * 4294967296)+(q1:Int)) = (((hi * 18446744073709551616+lo) / y:Nat):Int):=by
           rw [IntKind.wrap_u64,IntKind.wrap_u64,bo]
           have:=sL.out
           omega
          have jh:=Lib.hid (show ((qa:Int) * 4294967296+(q1:Int)) = (((hi * 18446744073709551616+lo) / y:Nat):Int) by rw [bo,Int.natCast_add,Int.natCast_mul];rfl)
          clear bo
          iterate 250 (first | go_step | skip)
          go_ret2
          have mC:((hi:Int) * 18446744073709551616+(lo:Int)) / (y:Int) = (((hi * 18446744073709551616+lo) / y:Nat):Int):=by rw [Int.natCast_ediv,Int.natCast_add,Int.natCast_mul];rfl
          exact ⟨⟨_,by first | (show Ending.returned (.tuple #[.int .u64 (((hi:Int) * 18446744073709551616+(lo:Int)) / (y:Int)),_]) = _;rw [mC]) | (show Ending.returned (.tuple #[.int .u64 (IntKind.u64.wrap (IntKind.u64.wrap ((qa:Int) * 4294967296)+(q1:Int))),_]) = _;rw [Xv]) | (show Ending.returned (.tuple #[.int .u64 ((qa:Int) * 4294967296+(q1:Int)),_]) = _;rw [jh.out])⟩,aj _⟩
        ·have sK:¬(N:Int) < (M:Int):=by omega
         have C0:decide ((4294967296:Int)≤(q:Int)) = false:=by rw [decide_eq_false_iff_not];omega
         have C1:decide ((N:Int) < (M:Int)) = false:=by rw [decide_eq_false_iff_not];exact sK
         have r8:=Lib.hid hNM
         have ca:q = (R * 4294967296+u0) / Y:=by
          have hs:=HD.out.done iG Pu
          rw [← ik.out] at hs
          exact hs
         have iJ:=Lib.hid ca
         clear ca
         have tG:q < 4294967296:=by rw [iJ.out];exact OD gO.out lp
         have bo:(hi * 18446744073709551616+lo) / y = qa * 4294967296+q:=by
          have h2:=FB (A:=un * 4294967296+u1) (u0:=u0) (Y:=Y) (by omega)
          rw [hP.out.whole,HR.out,← gT.out,← iJ.out,hP.out.yY,Io _ _ _ (Nat.two_pow_pos S)] at h2
          exact h2
         have Xv:IntKind.u64.wrap (IntKind.u64.wrap ((qa:Int) * 4294967296)+(q:Int)) = (((hi * 18446744073709551616+lo) / y:Nat):Int):=by
          rw [IntKind.wrap_u64,IntKind.wrap_u64,bo]
          have:=sL.out
          omega
         have jh:=Lib.hid (show ((qa:Int) * 4294967296+(q:Int)) = (((hi * 18446744073709551616+lo) / y:Nat):Int) by rw [bo,Int.natCast_add,Int.natCast_mul];rfl)
         clear bo
         iterate 250 (first | go_step | skip)
         go_ret2
         have mC:((hi:Int) * 18446744073709551616+(lo:Int)) / (y:Int) = (((hi * 18446744073709551616+lo) / y:Nat):Int):=by rw [Int.natCast_ediv,Int.natCast_add,Int.natCast_mul];rfl
         exact ⟨⟨_,by first | (show Ending.returned (.tuple #[.int .u64 (((hi:Int) * 18446744073709551616+(lo:Int)) / (y:Int)),_]) = _;rw [mC]) | (show Ending.returned (.tuple #[.int .u64 (IntKind.u64.wrap (IntKind.u64.wrap ((qa:Int) * 4294967296)+(q:Int))),_]) = _;rw [Xv]) | (show Ending.returned (.tuple #[.int .u64 ((qa:Int) * 4294967296+(q:Int)),_]) = _;rw [jh.out])⟩,aj _⟩
       ·have gD:=HD.out.kA (ik.out ▸ gO.out) iG lp (.inl (by omega))
        have fc:=gC.pos (r:=r) gD
        obtain ⟨q1,eS⟩:∃q1,q = q1+1:=⟨q - 1,by omega⟩
        obtain ⟨r1,dc⟩:∃r1,r+v1 = r1:=⟨_,rfl⟩
        have e1:Value.int .u64 (IntKind.u64.wrap ((q:Int) - 1)) = Value.int .u64 (q1:Int):=by rw [IntKind.wrap_u64];congr 1;omega
        have e2:Value.int .u64 (IntKind.u64.wrap ((r:Int)+(v1:Int))) = Value.int .u64 (r1:Int):=by rw [IntKind.wrap_u64];congr 1;omega
        have j5:=Lib.hid gD
        have Vd:=Lib.hid eS
        have mQ:=Lib.hid dc
        clear gD eS dc fc
        by_cases hb:(r1:Int) < 4294967296
        ·have df:decide ((4294967296:Int)≤(r1:Int)) = false:=by rw [decide_eq_false_iff_not];omega
         iterate 110 (first | go_step | skip)
         clear e1 e2 df
         go_wp2_with fail
         have hn:=HD.out.next j5.out mN
         rw [Vd.out,mQ.out,Nat.add_sub_cancel] at hn
         have gE:(intOf (.int .u64 (q1:Int))).toNat < (intOf (.int .u64 (q:Int))).toNat:=by have:=Vd.out;simp only [intOf];omega
         have lL:max (intOf (.int .u64 (q1:Int))) 0 < intOf (.int .u64 (q:Int)):=by have:=Vd.out;simp only [intOf];omega
         first
          | exact ⟨⟨q1,r1,rfl,rfl,hn,trivial⟩,gE⟩
          | exact ⟨⟨q1,rfl,r1,rfl,hn⟩,lL⟩
          | exact ⟨⟨q1,rfl,r1,rfl,hn⟩,gE⟩
          | (refine ⟨?_,gE⟩
             repeat apply Exists.intro
             exact ⟨⟨q1,r1,rfl,rfl,hn,trivial⟩,rfl⟩)
        ·have df:decide ((4294967296:Int)≤(r1:Int)) = true:=by rw [decide_eq_true_eq];omega
         have ca:q1 = (R * 4294967296+u0) / Y:=by
          have hs:=HD.out.stop j5.out iG oR mN
          rw [Vd.out,← ik.out] at hs
          exact hs
         have iJ:=Lib.hid ca
         clear ca
         have tG:q1 < 4294967296:=by rw [iJ.out];exact OD gO.out lp
         have bo:(hi * 18446744073709551616+lo) / y = qa * 4294967296+q1:=by
          have h2:=FB (A:=un * 4294967296+u1) (u0:=u0) (Y:=Y) (by omega)
          rw [hP.out.whole,HR.out,← gT.out,← iJ.out,hP.out.yY,Io _ _ _ (Nat.two_pow_pos S)] at h2
          exact h2
         have Xv:IntKind.u64.wrap (IntKind.u64.wrap ((qa:Int) * 4294967296)+(q1:Int)) = (((hi * 18446744073709551616+lo) / y:Nat):Int):=by
          rw [IntKind.wrap_u64,IntKind.wrap_u64,bo]
          have:=sL.out
          omega
         have jh:=Lib.hid (show ((qa:Int) * 4294967296+(q1:Int)) = (((hi * 18446744073709551616+lo) / y:Nat):Int) by rw [bo,Int.natCast_add,Int.natCast_mul];rfl)
         clear bo
         iterate 250 (first | go_step | skip)
         go_ret2
         have mC:((hi:Int) * 18446744073709551616+(lo:Int)) / (y:Int) = (((hi * 18446744073709551616+lo) / y:Nat):Int):=by rw [Int.natCast_ediv,Int.natCast_add,Int.natCast_mul];rfl
         exact ⟨⟨_,by first | (show Ending.returned (.tuple #[.int .u64 (((hi:Int) * 18446744073709551616+(lo:Int)) / (y:Int)),_]) = _;rw [mC]) | (show Ending.returned (.tuple #[.int .u64 (IntKind.u64.wrap (IntKind.u64.wrap ((qa:Int) * 4294967296)+(q1:Int))),_]) = _;rw [Xv]) | (show Ending.returned (.tuple #[.int .u64 ((qa:Int) * 4294967296+(q1:Int)),_]) = _;rw [jh.out])⟩,aj _⟩
    ·have sK:¬(N:Int) < (M:Int):=by omega
     have C0:decide ((4294967296:Int)≤(q:Int)) = false:=by rw [decide_eq_false_iff_not];omega
     have C1:decide ((N:Int) < (M:Int)) = false:=by rw [decide_eq_false_iff_not];exact sK
     have r8:=Lib.hid hNM
     have ca:q = (un * 4294967296+u1) / Y:=by
      have hs:=HD.out.done iG Pu
      rw [← ik.out] at hs
      exact hs
     obtain ⟨qa,hqa⟩:∃qa,qa = q:=⟨_,rfl⟩
     subst hqa
     have gT:=Lib.hid ca
     clear ca
     have sL:=Lib.hid (show qa < 4294967296 by rw [gT.out];exact OD yi yf)
     have sM:=Ug un u1 Y (by omega) Uh qa gT.out
     obtain ⟨R,hR⟩:∃R,(un * 4294967296+u1) % Y = R:=⟨_,rfl⟩
     rw [hR] at sM
     have sP:R < Y:=by rw [← hR];exact Nat.mod_lt _ (by omega)
     have sR:=wF R v1 (by omega)
     have oS:=Qm R v1 (by omega)
     have gF:=gC.start (un:=R) (v1:=v1) (v0:=v0) (u0:=u0) (ik.out ▸ sP) iG pH oR lp
     generalize et:R - R / v1 * v1 = r0 at oS gF
     generalize kv:R / v1 = q0 at sR oS gF
     have sS:=Lib.hid gF
     have HR:=Lib.hid hR
     have gO:=Lib.hid sP
     replace sM:=congrArg (Value.int .u64) sM
     replace sR:=congrArg (Value.int .u64) sR
     replace oS:=congrArg (Value.int .u64) oS
     clear kv et gF hR sP
     iterate 250 (first | go_step | skip)
     obtain ⟨wo,hwo⟩:∃wo,wo = wr:=⟨_,rfl⟩
     subst hwo
     go_loopw [18,16] (fun a b wr=>∃q r:Nat,a = .int .u64 q∧b = .int .u64 r∧gC R v1 v0 u0 q r∧wr = wo) (fun a _ _=>(intOf a).toNat)
     case atStart=>exact ⟨q0,r0,rfl,rfl,sS.out,rfl⟩
     case round =>
      obtain ⟨q,r,rfl,rfl,hD,rfl⟩:=hrel
      have CW:=hD.zm
      have CX:=hD.Ez
      have HD:=Lib.hid hD
      clear hD
      by_cases hq4:(q:Int) < 4294967296
      ·obtain ⟨M,hM⟩:∃M,q * v0 = M:=⟨_,rfl⟩
       obtain ⟨A,hA⟩:∃A,4294967296 * r = A:=⟨_,rfl⟩
       obtain ⟨N,hN⟩:∃N,A+u0 = N:=⟨_,rfl⟩
       have CY:M≤4294967296 * 4294967295:=by rw [← hM];exact Nat.mul_le_mul (by omega) (by omega)
       have CZ:A≤4294967296 * 4294967295:=by rw [← hA];exact Nat.mul_le_mul (Nat.le_refl _) (by omega)
       have e3:Value.int .u64 (IntKind.u64.wrap ((q:Int) * (v0:Int))) = Value.int .u64 (M:Int):=by rw [← Int.natCast_mul,hM,J7 _ (by omega)]
       have e4:Value.int .u64 (IntKind.u64.wrap (4294967296 * (r:Int))) = Value.int .u64 (A:Int):=by rw [show (4294967296 * (r:Int)) = ((4294967296 * r:Nat):Int) by rw [Int.natCast_mul];rfl,hA,J7 _ (by omega)]
       have e5:Value.int .u64 (IntKind.u64.wrap ((A:Int)+(u0:Int))) = Value.int .u64 (N:Int):=by rw [← Int.natCast_add,hN,J7 _ (by omega)]
       have HT:=Lib.hid (show 4294967296 * r+u0 = N by rw [hA,hN])
       have HM:=Lib.hid hM
       clear hM hA hN CY CZ
       by_cases hNM:N < M
       ·have sK:(N:Int) < (M:Int):=by omega
        have r8:=Lib.hid hNM
        have gD:=HD.out.kA (ik.out ▸ gO.out) iG lp (.inr Pt)
        have fc:=gC.pos (r:=r) gD
        obtain ⟨q1,eS⟩:∃q1,q = q1+1:=⟨q - 1,by omega⟩
        obtain ⟨r1,dc⟩:∃r1,r+v1 = r1:=⟨_,rfl⟩
        have e1:Value.int .u64 (IntKind.u64.wrap ((q:Int) - 1)) = Value.int .u64 (q1:Int):=by rw [IntKind.wrap_u64];congr 1;omega
        have e2:Value.int .u64 (IntKind.u64.wrap ((r:Int)+(v1:Int))) = Value.int .u64 (r1:Int):=by rw [IntKind.wrap_u64];congr 1;omega
        have j5:=Lib.hid gD
        have Vd:=Lib.hid eS
        have mQ:=Lib.hid dc
        clear gD eS dc fc
        by_cases hb:(r1:Int) < 4294967296
        ·have df:decide ((4294967296:Int)≤(r1:Int)) = false:=by rw [decide_eq_false_iff_not];omega
         iterate 110 (first | go_step | skip)
         clear e1 e2 df e3 e4 e5
         go_wp2_with fail
         have hn:=HD.out.next j5.out mN
         rw [Vd.out,mQ.out,Nat.add_sub_cancel] at hn
         have gE:(intOf (.int .u64 (q1:Int))).toNat < (intOf (.int .u64 (q:Int))).toNat:=by have:=Vd.out;simp only [intOf];omega
         have lL:max (intOf (.int .u64 (q1:Int))) 0 < intOf (.int .u64 (q:Int)):=by have:=Vd.out;simp only [intOf];omega
         first
          | exact ⟨⟨q1,r1,rfl,rfl,hn,trivial⟩,gE⟩
          | exact ⟨⟨q1,rfl,r1,rfl,hn⟩,lL⟩
          | exact ⟨⟨q1,rfl,r1,rfl,hn⟩,gE⟩
          | (refine ⟨?_,gE⟩
             repeat apply Exists.intro
             exact ⟨⟨q1,r1,rfl,rfl,hn,trivial⟩,rfl⟩)
        ·have df:decide ((4294967296:Int)≤(r1:Int)) = true:=by rw [decide_eq_true_eq];omega
         have ca:q1 = (R * 4294967296+u0) / Y:=by
          have hs:=HD.out.stop j5.out iG oR mN
          rw [Vd.out,← ik.out] at hs
          exact hs
         have iJ:=Lib.hid ca
         clear ca
         have tG:q1 < 4294967296:=by rw [iJ.out];exact OD gO.out lp
         have bo:(hi * 18446744073709551616+lo) / y = qa * 4294967296+q1:=by
          have h2:=FB (A:=un * 4294967296+u1) (u0:=u0) (Y:=Y) (by omega)
          rw [hP.out.whole,HR.out,← gT.out,← iJ.out,hP.out.yY,Io _ _ _ (Nat.two_pow_pos S)] at h2
          exact h2
         have Xv:IntKind.u64.wrap (IntKind.u64.wrap ((qa:Int) * 4294967296)+(q1:Int)) = (((hi * 18446744073709551616+lo) / y:Nat):Int):=by
          rw [IntKind.wrap_u64,IntKind.wrap_u64,bo]
          have:=sL.out
          omega
         have jh:=Lib.hid (show ((qa:Int) * 4294967296+(q1:Int)) = (((hi * 18446744073709551616+lo) / y:Nat):Int) by rw [bo,Int.natCast_add,Int.natCast_mul];rfl)
         clear bo
         iterate 250 (first | go_step | skip)
         go_ret2
         have mC:((hi:Int) * 18446744073709551616+(lo:Int)) / (y:Int) = (((hi * 18446744073709551616+lo) / y:Nat):Int):=by rw [Int.natCast_ediv,Int.natCast_add,Int.natCast_mul];rfl
         exact ⟨⟨_,by first | (show Ending.returned (.tuple #[.int .u64 (((hi:Int) * 18446744073709551616+(lo:Int)) / (y:Int)),_]) = _;rw [mC]) | (show Ending.returned (.tuple #[.int .u64 (IntKind.u64.wrap (IntKind.u64.wrap ((qa:Int) * 4294967296)+(q1:Int))),_]) = _;rw [Xv]) | (show Ending.returned (.tuple #[.int .u64 ((qa:Int) * 4294967296+(q1:Int)),_]) = _;rw [jh.out])⟩,aj _⟩
       ·have sK:¬(N:Int) < (M:Int):=by omega
        have C0:decide ((4294967296:Int)≤(q:Int)) = false:=by rw [decide_eq_false_iff_not];omega
        have C1:decide ((N:Int) < (M:Int)) = false:=by rw [decide_eq_false_iff_not];exact sK
        have r8:=Lib.hid hNM
        have ca:q = (R * 4294967296+u0) / Y:=by
         have hs:=HD.out.done iG Pu
         rw [← ik.out] at hs
         exact hs
        have iJ:=Lib.hid ca
        clear ca
        have tG:q < 4294967296:=by rw [iJ.out];exact OD gO.out lp
        have bo:(hi * 18446744073709551616+lo) / y = qa * 4294967296+q:=by
         have h2:=FB (A:=un * 4294967296+u1) (u0:=u0) (Y:=Y) (by omega)
         rw [hP.out.whole,HR.out,← gT.out,← iJ.out,hP.out.yY,Io _ _ _ (Nat.two_pow_pos S)] at h2
         exact h2
        have Xv:IntKind.u64.wrap (IntKind.u64.wrap ((qa:Int) * 4294967296)+(q:Int)) = (((hi * 18446744073709551616+lo) / y:Nat):Int):=by
         rw [IntKind.wrap_u64,IntKind.wrap_u64,bo]
         have:=sL.out
         omega
        have jh:=Lib.hid (show ((qa:Int) * 4294967296+(q:Int)) = (((hi * 18446744073709551616+lo) / y:Nat):Int) by rw [bo,Int.natCast_add,Int.natCast_mul];rfl)
        clear bo
        iterate 250 (first | go_step | skip)
        go_ret2
        have mC:((hi:Int) * 18446744073709551616+(lo:Int)) / (y:Int) = (((hi * 18446744073709551616+lo) / y:Nat):Int):=by rw [Int.natCast_ediv,Int.natCast_add,Int.natCast_mul];rfl
        exact ⟨⟨_,by first | (show Ending.returned (.tuple #[.int .u64 (((hi:Int) * 18446744073709551616+(lo:Int)) / (y:Int)),_]) = _;rw [mC]) | (show Ending.returned (.tuple #[.int .u64 (IntKind.u64.wrap (IntKind.u64.wrap ((qa:Int) * 4294967296)+(q:Int))),_]) = _;rw [Xv]) | (show Ending.returned (.tuple #[.int .u64 ((qa:Int) * 4294967296+(q:Int)),_]) = _;rw [jh.out])⟩,aj _⟩
      ·have gD:=HD.out.kA (ik.out ▸ gO.out) iG lp (.inl (by omega))
       have fc:=gC.pos (r:=r) gD
       obtain ⟨q1,eS⟩:∃q1,q = q1+1:=⟨q - 1,by omega⟩
       obtain ⟨r1,dc⟩:∃r1,r+v1 = r1:=⟨_,rfl⟩
       have e1:Value.int .u64 (IntKind.u64.wrap ((q:Int) - 1)) = Value.int .u64 (q1:Int):=by rw [IntKind.wrap_u64];congr 1;omega
       have e2:Value.int .u64 (IntKind.u64.wrap ((r:Int)+(v1:Int))) = Value.int .u64 (r1:Int):=by rw [IntKind.wrap_u64];congr 1;omega
       have j5:=Lib.hid gD
       have Vd:=Lib.hid eS
       have mQ:=Lib.hid dc
       clear gD eS dc fc
       by_cases hb:(r1:Int) < 4294967296
       ·have df:decide ((4294967296:Int)≤(r1:Int)) = false:=by rw [decide_eq_false_iff_not];omega
        iterate 110 (first | go_step | skip)
        clear e1 e2 df
        go_wp2_with fail
        have hn:=HD.out.next j5.out mN
        rw [Vd.out,mQ.out,Nat.add_sub_cancel] at hn
        have gE:(intOf (.int .u64 (q1:Int))).toNat < (intOf (.int .u64 (q:Int))).toNat:=by have:=Vd.out;simp only [intOf];omega
        have lL:max (intOf (.int .u64 (q1:Int))) 0 < intOf (.int .u64 (q:Int)):=by have:=Vd.out;simp only [intOf];omega
        first
         | exact ⟨⟨q1,r1,rfl,rfl,hn,trivial⟩,gE⟩
         | exact ⟨⟨q1,rfl,r1,rfl,hn⟩,lL⟩
         | exact ⟨⟨q1,rfl,r1,rfl,hn⟩,gE⟩
         | (refine ⟨?_,gE⟩
            repeat apply Exists.intro
            exact ⟨⟨q1,r1,rfl,rfl,hn,trivial⟩,rfl⟩)
       ·have df:decide ((4294967296:Int)≤(r1:Int)) = true:=by rw [decide_eq_true_eq];omega
        have ca:q1 = (R * 4294967296+u0) / Y:=by
         have hs:=HD.out.stop j5.out iG oR mN
         rw [Vd.out,← ik.out] at hs
         exact hs
        have iJ:=Lib.hid ca
        clear ca
        have tG:q1 < 4294967296:=by rw [iJ.out];exact OD gO.out lp
        have bo:(hi * 18446744073709551616+lo) / y = qa * 4294967296+q1:=by
         have h2:=FB (A:=un * 4294967296+u1) (u0:=u0) (Y:=Y) (by omega)
         rw [hP.out.whole,HR.out,← gT.out,← iJ.out,hP.out.yY,Io _ _ _ (Nat.two_pow_pos S)] at h2
         exact h2
        have Xv:IntKind.u64.wrap (IntKind.u64.wrap ((qa:Int) * 4294967296)+(q1:Int)) = (((hi * 18446744073709551616+lo) / y:Nat):Int):=by
         rw [IntKind.wrap_u64,IntKind.wrap_u64,bo]
         have:=sL.out
         omega
        have jh:=Lib.hid (show ((qa:Int) * 4294967296+(q1:Int)) = (((hi * 18446744073709551616+lo) / y:Nat):Int) by rw [bo,Int.natCast_add,Int.natCast_mul];rfl)
        clear bo
        iterate 250 (first | go_step | skip)
        go_ret2
        have mC:((hi:Int) * 18446744073709551616+(lo:Int)) / (y:Int) = (((hi * 18446744073709551616+lo) / y:Nat):Int):=by rw [Int.natCast_ediv,Int.natCast_add,Int.natCast_mul];rfl
        exact ⟨⟨_,by first | (show Ending.returned (.tuple #[.int .u64 (((hi:Int) * 18446744073709551616+(lo:Int)) / (y:Int)),_]) = _;rw [mC]) | (show Ending.returned (.tuple #[.int .u64 (IntKind.u64.wrap (IntKind.u64.wrap ((qa:Int) * 4294967296)+(q1:Int))),_]) = _;rw [Xv]) | (show Ending.returned (.tuple #[.int .u64 ((qa:Int) * 4294967296+(q1:Int)),_]) = _;rw [jh.out])⟩,aj _⟩
   ·have gD:=HD.out.kA (ik.out ▸ yi) iG yf (.inl (by omega))
    have fc:=gC.pos (r:=r) gD
    obtain ⟨q1,eS⟩:∃q1,q = q1+1:=⟨q - 1,by omega⟩
    obtain ⟨r1,dc⟩:∃r1,r+v1 = r1:=⟨_,rfl⟩
    have e1:Value.int .u64 (IntKind.u64.wrap ((q:Int) - 1)) = Value.int .u64 (q1:Int):=by rw [IntKind.wrap_u64];congr 1;omega
    have e2:Value.int .u64 (IntKind.u64.wrap ((r:Int)+(v1:Int))) = Value.int .u64 (r1:Int):=by rw [IntKind.wrap_u64];congr 1;omega
    have j5:=Lib.hid gD
    have Vd:=Lib.hid eS
    have mQ:=Lib.hid dc
    clear gD eS dc fc
    by_cases hb:(r1:Int) < 4294967296
    ·have df:decide ((4294967296:Int)≤(r1:Int)) = false:=by rw [decide_eq_false_iff_not];omega
     iterate 110 (first | go_step | skip)
     clear e1 e2 df
     go_wp2_with fail
     have hn:=HD.out.next j5.out mN
     rw [Vd.out,mQ.out,Nat.add_sub_cancel] at hn
     have gE:(intOf (.int .u64 (q1:Int))).toNat < (intOf (.int .u64 (q:Int))).toNat:=by have:=Vd.out;simp only [intOf];omega
     have lL:max (intOf (.int .u64 (q1:Int))) 0 < intOf (.int .u64 (q:Int)):=by have:=Vd.out;simp only [intOf];omega
     first
      | exact ⟨⟨q1,r1,rfl,rfl,hn,trivial⟩,gE⟩
      | exact ⟨⟨q1,rfl,r1,rfl,hn⟩,lL⟩
      | exact ⟨⟨q1,rfl,r1,rfl,hn⟩,gE⟩
      | (refine ⟨?_,gE⟩
         repeat apply Exists.intro
         exact ⟨⟨q1,r1,rfl,rfl,hn,trivial⟩,rfl⟩)
    ·have df:decide ((4294967296:Int)≤(r1:Int)) = true:=by rw [decide_eq_true_eq];omega
     have ca:q1 = (un * 4294967296+u1) / Y:=by
      have hs:=HD.out.stop j5.out iG oR mN
      rw [Vd.out,← ik.out] at hs
      exact hs
     obtain ⟨qa,hqa⟩:∃qa,qa = q1:=⟨_,rfl⟩
     subst hqa
     have gT:=Lib.hid ca
     clear ca
     have sL:=Lib.hid (show qa < 4294967296 by rw [gT.out];exact OD yi yf)
     have sM:=Ug un u1 Y (by omega) Uh qa gT.out
     obtain ⟨R,hR⟩:∃R,(un * 4294967296+u1) % Y = R:=⟨_,rfl⟩
     rw [hR] at sM
     have sP:R < Y:=by rw [← hR];exact Nat.mod_lt _ (by omega)
     have sR:=wF R v1 (by omega)
     have oS:=Qm R v1 (by omega)
     have gF:=gC.start (un:=R) (v1:=v1) (v0:=v0) (u0:=u0) (ik.out ▸ sP) iG pH oR lp
     generalize et:R - R / v1 * v1 = r0 at oS gF
     generalize kv:R / v1 = q0 at sR oS gF
     have sS:=Lib.hid gF
     have HR:=Lib.hid hR
     have gO:=Lib.hid sP
     replace sM:=congrArg (Value.int .u64) sM
     replace sR:=congrArg (Value.int .u64) sR
     replace oS:=congrArg (Value.int .u64) oS
     clear kv et gF hR sP
     iterate 250 (first | go_step | skip)
     obtain ⟨wo,hwo⟩:∃wo,wo = wr:=⟨_,rfl⟩
     subst hwo
     go_loopw [18,16] (fun a b wr=>∃q r:Nat,a = .int .u64 q∧b = .int .u64 r∧gC R v1 v0 u0 q r∧wr = wo) (fun a _ _=>(intOf a).toNat)
     case atStart=>exact ⟨q0,r0,rfl,rfl,sS.out,rfl⟩
     case round =>
      obtain ⟨q,r,rfl,rfl,hD,rfl⟩:=hrel
      have CW:=hD.zm
      have CX:=hD.Ez
      have HD:=Lib.hid hD
      clear hD
      by_cases hq4:(q:Int) < 4294967296
      ·obtain ⟨M,hM⟩:∃M,q * v0 = M:=⟨_,rfl⟩
       obtain ⟨A,hA⟩:∃A,4294967296 * r = A:=⟨_,rfl⟩
       obtain ⟨N,hN⟩:∃N,A+u0 = N:=⟨_,rfl⟩
       have CY:M≤4294967296 * 4294967295:=by rw [← hM];exact Nat.mul_le_mul (by omega) (by omega)
       have CZ:A≤4294967296 * 4294967295:=by rw [← hA];exact Nat.mul_le_mul (Nat.le_refl _) (by omega)
       have e3:Value.int .u64 (IntKind.u64.wrap ((q:Int) * (v0:Int))) = Value.int .u64 (M:Int):=by rw [← Int.natCast_mul,hM,J7 _ (by omega)]
       have e4:Value.int .u64 (IntKind.u64.wrap (4294967296 * (r:Int))) = Value.int .u64 (A:Int):=by rw [show (4294967296 * (r:Int)) = ((4294967296 * r:Nat):Int) by rw [Int.natCast_mul];rfl,hA,J7 _ (by omega)]
       have e5:Value.int .u64 (IntKind.u64.wrap ((A:Int)+(u0:Int))) = Value.int .u64 (N:Int):=by rw [← Int.natCast_add,hN,J7 _ (by omega)]
       have HT:=Lib.hid (show 4294967296 * r+u0 = N by rw [hA,hN])
       have HM:=Lib.hid hM
       clear hM hA hN CY CZ
       by_cases hNM:N < M
       ·have sK:(N:Int) < (M:Int):=by omega
        have r8:=Lib.hid hNM
        have gD:=HD.out.kA (ik.out ▸ gO.out) iG lp (.inr Pt)
        have fc:=gC.pos (r:=r) gD
        obtain ⟨q1,eS⟩:∃q1,q = q1+1:=⟨q - 1,by omega⟩
        obtain ⟨r1,dc⟩:∃r1,r+v1 = r1:=⟨_,rfl⟩
        have e1:Value.int .u64 (IntKind.u64.wrap ((q:Int) - 1)) = Value.int .u64 (q1:Int):=by rw [IntKind.wrap_u64];congr 1;omega
        have e2:Value.int .u64 (IntKind.u64.wrap ((r:Int)+(v1:Int))) = Value.int .u64 (r1:Int):=by rw [IntKind.wrap_u64];congr 1;omega
        have j5:=Lib.hid gD
        have Vd:=Lib.hid eS
        have mQ:=Lib.hid dc
        clear gD eS dc fc
        by_cases hb:(r1:Int) < 4294967296
        ·have df:decide ((4294967296:Int)≤(r1:Int)) = false:=by rw [decide_eq_false_iff_not];omega
         iterate 110 (first | go_step | skip)
         clear e1 e2 df e3 e4 e5
         go_wp2_with fail
         have hn:=HD.out.next j5.out mN
         rw [Vd.out,mQ.out,Nat.add_sub_cancel] at hn
         have gE:(intOf (.int .u64 (q1:Int))).toNat < (intOf (.int .u64 (q:Int))).toNat:=by have:=Vd.out;simp only [intOf];omega
         have lL:max (intOf (.int .u64 (q1:Int))) 0 < intOf (.int .u64 (q:Int)):=by have:=Vd.out;simp only [intOf];omega
         first
          | exact ⟨⟨q1,r1,rfl,rfl,hn,trivial⟩,gE⟩
          | exact ⟨⟨q1,rfl,r1,rfl,hn⟩,lL⟩
          | exact ⟨⟨q1,rfl,r1,rfl,hn⟩,gE⟩
          | (refine ⟨?_,gE⟩
             repeat apply Exists.intro
             exact ⟨⟨q1,r1,rfl,rfl,hn,trivial⟩,rfl⟩)
        ·have df:decide ((4294967296:Int)≤(r1:Int)) = true:=by rw [decide_eq_true_eq];omega
         have ca:q1 = (R * 4294967296+u0) / Y:=by
          have hs:=HD.out.stop j5.out iG oR mN
          rw [Vd.out,← ik.out] at hs
          exact hs
         have iJ:=Lib.hid ca
         clear ca
         have tG:q1 < 4294967296:=by rw [iJ.out];exact OD gO.out lp
         have bo:(hi * 18446744073709551616+lo) / y = qa * 4294967296+q1:=by
          have h2:=FB (A:=un * 4294967296+u1) (u0:=u0) (Y:=Y) (by omega)
          rw [hP.out.whole,HR.out,← gT.out,← iJ.out,hP.out.yY,Io _ _ _ (Nat.two_pow_pos S)] at h2
          exact h2
         have Xv:IntKind.u64.wrap (IntKind.u64.wrap ((qa:Int) * 4294967296)+(q1:Int)) = (((hi * 18446744073709551616+lo) / y:Nat):Int):=by
          rw [IntKind.wrap_u64,IntKind.wrap_u64,bo]
          have:=sL.out
          omega
         have jh:=Lib.hid (show ((qa:Int) * 4294967296+(q1:Int)) = (((hi * 18446744073709551616+lo) / y:Nat):Int) by rw [bo,Int.natCast_add,Int.natCast_mul];rfl)
         clear bo
         iterate 250 (first | go_step | skip)
         go_ret2
         have mC:((hi:Int) * 18446744073709551616+(lo:Int)) / (y:Int) = (((hi * 18446744073709551616+lo) / y:Nat):Int):=by rw [Int.natCast_ediv,Int.natCast_add,Int.natCast_mul];rfl
         exact ⟨⟨_,by first | (show Ending.returned (.tuple #[.int .u64 (((hi:Int) * 18446744073709551616+(lo:Int)) / (y:Int)),_]) = _;rw [mC]) | (show Ending.returned (.tuple #[.int .u64 (IntKind.u64.wrap (IntKind.u64.wrap ((qa:Int) * 4294967296)+(q1:Int))),_]) = _;rw [Xv]) | (show Ending.returned (.tuple #[.int .u64 ((qa:Int) * 4294967296+(q1:Int)),_]) = _;rw [jh.out])⟩,aj _⟩
       ·have sK:¬(N:Int) < (M:Int):=by omega
        have C0:decide ((4294967296:Int)≤(q:Int)) = false:=by rw [decide_eq_false_iff_not];omega
        have C1:decide ((N:Int) < (M:Int)) = false:=by rw [decide_eq_false_iff_not];exact sK
        have r8:=Lib.hid hNM
        have ca:q = (R * 4294967296+u0) / Y:=by
         have hs:=HD.out.done iG Pu
         rw [← ik.out] at hs
         exact hs
        have iJ:=Lib.hid ca
        clear ca
        have tG:q < 4294967296:=by rw [iJ.out];exact OD gO.out lp
        have bo:(hi * 18446744073709551616+lo) / y = qa * 4294967296+q:=by
         have h2:=FB (A:=un * 4294967296+u1) (u0:=u0) (Y:=Y) (by omega)
         rw [hP.out.whole,HR.out,← gT.out,← iJ.out,hP.out.yY,Io _ _ _ (Nat.two_pow_pos S)] at h2
         exact h2
        have Xv:IntKind.u64.wrap (IntKind.u64.wrap ((qa:Int) * 4294967296)+(q:Int)) = (((hi * 18446744073709551616+lo) / y:Nat):Int):=by
         rw [IntKind.wrap_u64,IntKind.wrap_u64,bo]
         have:=sL.out
         omega
        have jh:=Lib.hid (show ((qa:Int) * 4294967296+(q:Int)) = (((hi * 18446744073709551616+lo) / y:Nat):Int) by rw [bo,Int.natCast_add,Int.natCast_mul];rfl)
        clear bo
        iterate 250 (first | go_step | skip)
        go_ret2
        have mC:((hi:Int) * 18446744073709551616+(lo:Int)) / (y:Int) = (((hi * 18446744073709551616+lo) / y:Nat):Int):=by rw [Int.natCast_ediv,Int.natCast_add,Int.natCast_mul];rfl
        exact ⟨⟨_,by first | (show Ending.returned (.tuple #[.int .u64 (((hi:Int) * 18446744073709551616+(lo:Int)) / (y:Int)),_]) = _;rw [mC]) | (show Ending.returned (.tuple #[.int .u64 (IntKind.u64.wrap (IntKind.u64.wrap ((qa:Int) * 4294967296)+(q:Int))),_]) = _;rw [Xv]) | (show Ending.returned (.tuple #[.int .u64 ((qa:Int) * 4294967296+(q:Int)),_]) = _;rw [jh.out])⟩,aj _⟩
      ·have gD:=HD.out.kA (ik.out ▸ gO.out) iG lp (.inl (by omega))
       have fc:=gC.pos (r:=r) gD
       obtain ⟨q1,eS⟩:∃q1,q = q1+1:=⟨q - 1,by omega⟩
       obtain ⟨r1,dc⟩:∃r1,r+v1 = r1:=⟨_,rfl⟩
       have e1:Value.int .u64 (IntKind.u64.wrap ((q:Int) - 1)) = Value.int .u64 (q1:Int):=by rw [IntKind.wrap_u64];congr 1;omega
       have e2:Value.int .u64 (IntKind.u64.wrap ((r:Int)+(v1:Int))) = Value.int .u64 (r1:Int):=by rw [IntKind.wrap_u64];congr 1;omega
       have j5:=Lib.hid gD
       have Vd:=Lib.hid eS
       have mQ:=Lib.hid dc
       clear gD eS dc fc
       by_cases hb:(r1:Int) < 4294967296
       ·have df:decide ((4294967296:Int)≤(r1:Int)) = false:=by rw [decide_eq_false_iff_not];omega
        iterate 110 (first | go_step | skip)
        clear e1 e2 df
        go_wp2_with fail
        have hn:=HD.out.next j5.out mN
        rw [Vd.out,mQ.out,Nat.add_sub_cancel] at hn
        have gE:(intOf (.int .u64 (q1:Int))).toNat < (intOf (.int .u64 (q:Int))).toNat:=by have:=Vd.out;simp only [intOf];omega
        have lL:max (intOf (.int .u64 (q1:Int))) 0 < intOf (.int .u64 (q:Int)):=by have:=Vd.out;simp only [intOf];omega
        first
         | exact ⟨⟨q1,r1,rfl,rfl,hn,trivial⟩,gE⟩
         | exact ⟨⟨q1,rfl,r1,rfl,hn⟩,lL⟩
         | exact ⟨⟨q1,rfl,r1,rfl,hn⟩,gE⟩
         | (refine ⟨?_,gE⟩
            repeat apply Exists.intro
            exact ⟨⟨q1,r1,rfl,rfl,hn,trivial⟩,rfl⟩)
       ·have df:decide ((4294967296:Int)≤(r1:Int)) = true:=by rw [decide_eq_true_eq];omega
        have ca:q1 = (R * 4294967296+u0) / Y:=by
         have hs:=HD.out.stop j5.out iG oR mN
         rw [Vd.out,← ik.out] at hs
         exact hs
        have iJ:=Lib.hid ca
        clear ca
        have tG:q1 < 4294967296:=by rw [iJ.out];exact OD gO.out lp
        have bo:(hi * 18446744073709551616+lo) / y = qa * 4294967296+q1:=by
         have h2:=FB (A:=un * 4294967296+u1) (u0:=u0) (Y:=Y) (by omega)
         rw [hP.out.whole,HR.out,← gT.out,← iJ.out,hP.out.yY,Io _ _ _ (Nat.two_pow_pos S)] at h2
         exact h2
        have Xv:IntKind.u64.wrap (IntKind.u64.wrap ((qa:Int) * 4294967296)+(q1:Int)) = (((hi * 18446744073709551616+lo) / y:Nat):Int):=by
         rw [IntKind.wrap_u64,IntKind.wrap_u64,bo]
         have:=sL.out
         omega
        have jh:=Lib.hid (show ((qa:Int) * 4294967296+(q1:Int)) = (((hi * 18446744073709551616+lo) / y:Nat):Int) by rw [bo,Int.natCast_add,Int.natCast_mul];rfl)
        clear bo
        iterate 250 (first | go_step | skip)
        go_ret2
        have mC:((hi:Int) * 18446744073709551616+(lo:Int)) / (y:Int) = (((hi * 18446744073709551616+lo) / y:Nat):Int):=by rw [Int.natCast_ediv,Int.natCast_add,Int.natCast_mul];rfl
        exact ⟨⟨_,by first | (show Ending.returned (.tuple #[.int .u64 (((hi:Int) * 18446744073709551616+(lo:Int)) / (y:Int)),_]) = _;rw [mC]) | (show Ending.returned (.tuple #[.int .u64 (IntKind.u64.wrap (IntKind.u64.wrap ((qa:Int) * 4294967296)+(q1:Int))),_]) = _;rw [Xv]) | (show Ending.returned (.tuple #[.int .u64 ((qa:Int) * 4294967296+(q1:Int)),_]) = _;rw [jh.out])⟩,aj _⟩
end Go.Proofs.YtjahcnjmjahbaaaGreat
