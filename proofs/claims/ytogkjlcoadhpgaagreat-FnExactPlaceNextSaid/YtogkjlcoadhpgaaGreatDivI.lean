/- math/bits Div64. No condition. -/
import Derived.Test.YtogkjlcoadhpgaaGreatWordsS
import Derived.Test.YtogkjlcoadhpgaaGreatDivP
import Derived.Test.YtogkjlcoadhpgaaGreatRegion
namespace Go.Proofs.YtogkjlcoadhpgaaGreat
open Go.ChangeShapes Go.WideShapes Go.ChangeAt Go.RowKit
set_option linter.unusedVariables false
set_option linter.unusedSimpArgs false
set_option maxRecDepth 100000 in
set_option maxHeartbeats 4000000 in
theorem apV (hi lo y:Nat) (hl:lo < 18446744073709551616) (hy:y < 18446744073709551616) (h:hi < y) (w:World) :
 Calls Tryz.prog 202 #[.int .u64 hi,.int .u64 lo,.int .u64 y] w fun e w'=>(∃r,e = .returned (.tuple #[.int .u64 (((hi * 18446744073709551616+lo) / y:Nat):Int),r]))∧Below w.heap.size w w':=by
 have hb1:decide ((y:Int) = 0) = false:=by simp;omega
 have hb2:decide ((y:Int)≤(hi:Int)) = false:=by simp;omega
 by_cases hz:hi = 0
 ·subst hz
  go_enter Tryz.func202,Tryz.ntmps202
  go_wp2_with fail
  go_region
  all_goals
   go_wp2
   go_ret2
   refine ⟨⟨.int .u64 ((lo:Int) % (y:Int)),?_⟩,aA (aj _)⟩
   have e0:IntKind.u64.wrap ((lo:Int) / (y:Int)) = (((0 * 18446744073709551616+lo) / y:Nat):Int):=by
    have h1:lo / y≤lo:=Nat.div_le_self _ _
    rw [Nat.zero_mul,Nat.zero_add,← Int.natCast_ediv]
    exact J7 _ (by omega)
   show Ending.returned (.tuple #[.int .u64 (IntKind.u64.wrap ((lo:Int) / (y:Int))),.int .u64 ((lo:Int) % (y:Int))]) = _
   rw [e0]
 ·have hb3:decide ((hi:Int) = 0) = false:=by simp;omega
  obtain ⟨S,hS,hS1,hS2,hS3⟩:=anV y (by omega) hy
  go_enter Tryz.func202,Tryz.ntmps202
  go_wp2_with fail
  refine (aaq (y:Int) _ (by omega) (by omega)).mono ?_
  rw [show (64 - (Lib.bitLen ((y:Int)).toNat:Int)) = (S:Int) by rw [Int.toNat_natCast];exact hS]
  rintro e w2 ⟨rfl,hw⟩
  simp only [hw]
  clear hw w2
  obtain ⟨Y,v1,v0,un,L,u1,u0,P⟩:=apW hi lo y S hl h hS1 hS2 hS3
  have eY:=P.eY;have ev1:=P.ev1;have ev0:=P.ev0;have eun:=P.eun;have eL:=P.eL;have eu1:=P.eu1;have eu0:=P.eu0
  have lv1:=P.lv1;have lv1b:=P.lv1b;have lv0:=P.lv0;have lu1:=P.lu1;have lu0:=P.lu0;have lY:=P.lY;have lun:=P.lun
  have lYb:Y < 18446744073709551616:=by omega
  have lY0:0 < Y:=by omega
  have lunb:un < 18446744073709551616:=by omega
  have hdq:=divU un v1 lunb
  have hlf:=aph un v1 lunb
  have hst:=Dig.start (un:=un) (v1:=v1) (v0:=v0) (u0:=u1) (lY ▸ lun) lv1 lv1b lv0 lu1
  generalize hg2:un - un / v1 * v1 = r0 at hlf hst
  generalize hg1:un / v1 = q0 at hdq hlf hst
  have HST:=Lib.hid hst
  have hP:=Lib.hid P
  have HLY:=Lib.hid lY
  clear P hS2 hS3 lY hg1 hg2 hst
  go_wp2_with fail
  simp only [show ((y:Int) == 0) = false by simp;omega,show decide (y≤hi) = false by simp;omega,show ((hi:Int) == 0) = false by simp;omega]
  clear eY ev1 ev0 eun eL eu1 eu0 hdq hlf
  go_loopw [15,16] (fun a b wr=>∃q r:Nat,a = .int .u64 q∧b = .int .u64 r∧Dig un v1 v0 u1 q r∧wr = w) (fun a _ _=>(intOf a).toNat)
  case atStart=>exact ⟨q0,r0,rfl,rfl,HST.out,rfl⟩
  case round =>
   obtain ⟨q,r,rfl,rfl,hD,rfl⟩:=hrel
   have hlow:=hD.low
   have hfew:=hD.few
   have HD:=Lib.hid hD
   clear hD
   by_cases hq4:(q:Int) < 4294967296
   ·obtain ⟨M,hM⟩:∃M,q * v0 = M:=⟨_,rfl⟩
    obtain ⟨A,hA⟩:∃A,4294967296 * r = A:=⟨_,rfl⟩
    obtain ⟨N,hN⟩:∃N,A+u1 = N:=⟨_,rfl⟩
    have hMb:M≤4294967296 * 4294967295:=by rw [← hM];exact Nat.mul_le_mul (by omega) (by omega)
    have hAb:A≤4294967296 * 4294967295:=by rw [← hA];exact Nat.mul_le_mul (Nat.le_refl _) (by omega)
    have e3:Value.int .u64 (IntKind.u64.wrap ((q:Int) * (v0:Int))) = Value.int .u64 (M:Int):=by rw [← Int.natCast_mul,hM,J7 _ (by omega)]
    have e4:Value.int .u64 (IntKind.u64.wrap (4294967296 * (r:Int))) = Value.int .u64 (A:Int):=by rw [show (4294967296 * (r:Int)) = ((4294967296 * r:Nat):Int) by rw [Int.natCast_mul];rfl,hA,J7 _ (by omega)]
    have e5:Value.int .u64 (IntKind.u64.wrap ((A:Int)+(u1:Int))) = Value.int .u64 (N:Int):=by rw [← Int.natCast_add,hN,J7 _ (by omega)]
    have HT:=Lib.hid (show 4294967296 * r+u1 = N by rw [hA,hN])
    have HM:=Lib.hid hM
    clear hM hA hN hMb hAb
    by_cases hNM:N < M
    ·have afw:(N:Int) < (M:Int):=by omega
     have HNM:=Lib.hid hNM
     have hov:=HD.out.over (HLY.out ▸ lun) lv1 lu1 (.inr av8)
     have hpos:=Dig.pos (r:=r) hov
     obtain ⟨q1,hq1⟩:∃q1,q = q1+1:=⟨q - 1,by omega⟩
     obtain ⟨r1,hr1⟩:∃r1,r+v1 = r1:=⟨_,rfl⟩
     have e1:Value.int .u64 (IntKind.u64.wrap ((q:Int) - 1)) = Value.int .u64 (q1:Int):=by rw [IntKind.wrap_u64];congr 1;omega
     have e2:Value.int .u64 (IntKind.u64.wrap ((r:Int)+(v1:Int))) = Value.int .u64 (r1:Int):=by rw [IntKind.wrap_u64];congr 1;omega
     have HOV:=Lib.hid hov
     have Vd:=Lib.hid hq1
     have HR1:=Lib.hid hr1
     clear hov hq1 hr1 hpos
     by_cases hb:(r1:Int) < 4294967296
     ·have hbd:decide ((4294967296:Int)≤(r1:Int)) = false:=by rw [decide_eq_false_iff_not];omega
      iterate 110 (first | go_step | skip)
      clear e1 e2 hbd e3 e4 e5
      go_wp2_with fail
      have hn:=HD.out.next HOV.out aur
      rw [Vd.out,HR1.out,Nat.add_sub_cancel] at hn
      have hme:(intOf (.int .u64 (q1:Int))).toNat < (intOf (.int .u64 (q:Int))).toNat:=by have:=Vd.out;simp only [intOf];omega
      have hmx:max (intOf (.int .u64 (q1:Int))) 0 < intOf (.int .u64 (q:Int)):=by have:=Vd.out;simp only [intOf];omega
      first
       | exact ⟨⟨q1,r1,rfl,rfl,hn,trivial⟩,hme⟩
       | exact ⟨⟨q1,rfl,r1,rfl,hn⟩,hmx⟩
       | exact ⟨⟨q1,rfl,r1,rfl,hn⟩,hme⟩
       | (refine ⟨?_,hme⟩
          repeat apply Exists.intro
          exact ⟨⟨q1,r1,rfl,rfl,hn,trivial⟩,rfl⟩)
     ·have hbd:decide ((4294967296:Int)≤(r1:Int)) = true:=by rw [decide_eq_true_eq];omega
      have hdone:q1 = (un * 4294967296+u1) / Y:=by
       have hs:=HD.out.stop HOV.out lv1 lv0 aur
       rw [Vd.out,← HLY.out] at hs
       exact hs
      obtain ⟨qa,hqa⟩:∃qa,qa = q1:=⟨_,rfl⟩
      subst hqa
      have HD1:=Lib.hid hdone
      clear hdone
      have afx:=Lib.hid (show qa < 4294967296 by rw [HD1.out];exact OD lun lu1)
      have hRu:=aqH un u1 Y (by omega) lYb qa HD1.out
      obtain ⟨R,hR⟩:∃R,(un * 4294967296+u1) % Y = R:=⟨_,rfl⟩
      rw [hR] at hRu
      have hRl:R < Y:=by rw [← hR];exact Nat.mod_lt _ (by omega)
      have afy:=divU R v1 (by omega)
      have abv:=aph R v1 (by omega)
      have hst2:=Dig.start (un:=R) (v1:=v1) (v0:=v0) (u0:=u0) (HLY.out ▸ hRl) lv1 lv1b lv0 lu0
      generalize hg2:R - R / v1 * v1 = r0 at abv hst2
      generalize hg1:R / v1 = q0 at afy abv hst2
      have HST2:=Lib.hid hst2
      have HR:=Lib.hid hR
      have HRL:=Lib.hid hRl
      replace hRu:=congrArg (Value.int .u64) hRu
      replace afy:=congrArg (Value.int .u64) afy
      replace abv:=congrArg (Value.int .u64) abv
      clear hg1 hg2 hst2 hR hRl
      iterate 250 (first | go_step | skip)
      obtain ⟨wo,hwo⟩:∃wo,wo = wr:=⟨_,rfl⟩
      subst hwo
      go_loopw [18,16] (fun a b wr=>∃q r:Nat,a = .int .u64 q∧b = .int .u64 r∧Dig R v1 v0 u0 q r∧wr = wo) (fun a _ _=>(intOf a).toNat)
      case atStart=>exact ⟨q0,r0,rfl,rfl,HST2.out,rfl⟩
      case round =>
       obtain ⟨q,r,rfl,rfl,hD,rfl⟩:=hrel
       have hlow:=hD.low
       have hfew:=hD.few
       have HD:=Lib.hid hD
       clear hD
       by_cases hq4:(q:Int) < 4294967296
       ·obtain ⟨M,hM⟩:∃M,q * v0 = M:=⟨_,rfl⟩
        obtain ⟨A,hA⟩:∃A,4294967296 * r = A:=⟨_,rfl⟩
        obtain ⟨N,hN⟩:∃N,A+u0 = N:=⟨_,rfl⟩
        have hMb:M≤4294967296 * 4294967295:=by rw [← hM];exact Nat.mul_le_mul (by omega) (by omega)
        have hAb:A≤4294967296 * 4294967295:=by rw [← hA];exact Nat.mul_le_mul (Nat.le_refl _) (by omega)
        have e3:Value.int .u64 (IntKind.u64.wrap ((q:Int) * (v0:Int))) = Value.int .u64 (M:Int):=by rw [← Int.natCast_mul,hM,J7 _ (by omega)]
        have e4:Value.int .u64 (IntKind.u64.wrap (4294967296 * (r:Int))) = Value.int .u64 (A:Int):=by rw [show (4294967296 * (r:Int)) = ((4294967296 * r:Nat):Int) by rw [Int.natCast_mul];rfl,hA,J7 _ (by omega)]
        have e5:Value.int .u64 (IntKind.u64.wrap ((A:Int)+(u0:Int))) = Value.int .u64 (N:Int):=by rw [← Int.natCast_add,hN,J7 _ (by omega)]
        have HT:=Lib.hid (show 4294967296 * r+u0 = N by rw [hA,hN])
        have HM:=Lib.hid hM
        clear hM hA hN hMb hAb
        by_cases hNM:N < M
        ·have afw:(N:Int) < (M:Int):=by omega
         have HNM:=Lib.hid hNM
         have hov:=HD.out.over (HLY.out ▸ HRL.out) lv1 lu0 (.inr av8)
         have hpos:=Dig.pos (r:=r) hov
         obtain ⟨q1,hq1⟩:∃q1,q = q1+1:=⟨q - 1,by omega⟩
         obtain ⟨r1,hr1⟩:∃r1,r+v1 = r1:=⟨_,rfl⟩
         have e1:Value.int .u64 (IntKind.u64.wrap ((q:Int) - 1)) = Value.int .u64 (q1:Int):=by rw [IntKind.wrap_u64];congr 1;omega
         have e2:Value.int .u64 (IntKind.u64.wrap ((r:Int)+(v1:Int))) = Value.int .u64 (r1:Int):=by rw [IntKind.wrap_u64];congr 1;omega
         have HOV:=Lib.hid hov
         have Vd:=Lib.hid hq1
         have HR1:=Lib.hid hr1
         clear hov hq1 hr1 hpos
         by_cases hb:(r1:Int) < 4294967296
         ·have hbd:decide ((4294967296:Int)≤(r1:Int)) = false:=by rw [decide_eq_false_iff_not];omega
          iterate 110 (first | go_step | skip)
          clear e1 e2 hbd e3 e4 e5
          go_wp2_with fail
          have hn:=HD.out.next HOV.out aur
          rw [Vd.out,HR1.out,Nat.add_sub_cancel] at hn
          have hme:(intOf (.int .u64 (q1:Int))).toNat < (intOf (.int .u64 (q:Int))).toNat:=by have:=Vd.out;simp only [intOf];omega
          have hmx:max (intOf (.int .u64 (q1:Int))) 0 < intOf (.int .u64 (q:Int)):=by have:=Vd.out;simp only [intOf];omega
          first
           | exact ⟨⟨q1,r1,rfl,rfl,hn,trivial⟩,hme⟩
           | exact ⟨⟨q1,rfl,r1,rfl,hn⟩,hmx⟩
           | exact ⟨⟨q1,rfl,r1,rfl,hn⟩,hme⟩
           | (refine ⟨?_,hme⟩
              repeat apply Exists.intro
              exact ⟨⟨q1,r1,rfl,rfl,hn,trivial⟩,rfl⟩)
         ·have hbd:decide ((4294967296:Int)≤(r1:Int)) = true:=by rw [decide_eq_true_eq];omega
          have hdone:q1 = (R * 4294967296+u0) / Y:=by
           have hs:=HD.out.stop HOV.out lv1 lv0 aur
           rw [Vd.out,← HLY.out] at hs
           exact hs
          have HD2:=Lib.hid hdone
          clear hdone
          have hqb:q1 < 4294967296:=by rw [HD2.out];exact OD HRL.out lu0
          have hfin:(hi * 18446744073709551616+lo) / y = qa * 4294967296+q1:=by
           have h2:=FB (A:=un * 4294967296+u1) (u0:=u0) (Y:=Y) (by omega)
           rw [hP.out.whole,HR.out,← HD1.out,← HD2.out,hP.out.yY,Io _ _ _ (Nat.two_pow_pos S)] at h2
           exact h2
          have Xv:IntKind.u64.wrap (IntKind.u64.wrap ((qa:Int) * 4294967296)+(q1:Int)) = (((hi * 18446744073709551616+lo) / y:Nat):Int):=by
           rw [IntKind.wrap_u64,IntKind.wrap_u64,hfin]
           have:=afx.out
           omega
          have HE3:=Lib.hid (show ((qa:Int) * 4294967296+(q1:Int)) = (((hi * 18446744073709551616+lo) / y:Nat):Int) by rw [hfin,Int.natCast_add,Int.natCast_mul];rfl)
          clear hfin
          iterate 250 (first | go_step | skip)
          go_ret2
          have eE2:((hi:Int) * 18446744073709551616+(lo:Int)) / (y:Int) = (((hi * 18446744073709551616+lo) / y:Nat):Int):=by rw [Int.natCast_ediv,Int.natCast_add,Int.natCast_mul];rfl
          exact ⟨⟨_,by first | (show Ending.returned (.tuple #[.int .u64 (((hi:Int) * 18446744073709551616+(lo:Int)) / (y:Int)),_]) = _;rw [eE2]) | (show Ending.returned (.tuple #[.int .u64 (IntKind.u64.wrap (IntKind.u64.wrap ((qa:Int) * 4294967296)+(q1:Int))),_]) = _;rw [Xv]) | (show Ending.returned (.tuple #[.int .u64 ((qa:Int) * 4294967296+(q1:Int)),_]) = _;rw [HE3.out])⟩,aj _⟩
        ·have afw:¬(N:Int) < (M:Int):=by omega
         have hq4d:decide ((4294967296:Int)≤(q:Int)) = false:=by rw [decide_eq_false_iff_not];omega
         have hNMd:decide ((N:Int) < (M:Int)) = false:=by rw [decide_eq_false_iff_not];exact afw
         have HNM:=Lib.hid hNM
         have hdone:q = (R * 4294967296+u0) / Y:=by
          have hs:=HD.out.done lv1 av9
          rw [← HLY.out] at hs
          exact hs
         have HD2:=Lib.hid hdone
         clear hdone
         have hqb:q < 4294967296:=by rw [HD2.out];exact OD HRL.out lu0
         have hfin:(hi * 18446744073709551616+lo) / y = qa * 4294967296+q:=by
          have h2:=FB (A:=un * 4294967296+u1) (u0:=u0) (Y:=Y) (by omega)
          rw [hP.out.whole,HR.out,← HD1.out,← HD2.out,hP.out.yY,Io _ _ _ (Nat.two_pow_pos S)] at h2
          exact h2
         have Xv:IntKind.u64.wrap (IntKind.u64.wrap ((qa:Int) * 4294967296)+(q:Int)) = (((hi * 18446744073709551616+lo) / y:Nat):Int):=by
          rw [IntKind.wrap_u64,IntKind.wrap_u64,hfin]
          have:=afx.out
          omega
         have HE3:=Lib.hid (show ((qa:Int) * 4294967296+(q:Int)) = (((hi * 18446744073709551616+lo) / y:Nat):Int) by rw [hfin,Int.natCast_add,Int.natCast_mul];rfl)
         clear hfin
         iterate 250 (first | go_step | skip)
         go_ret2
         have eE2:((hi:Int) * 18446744073709551616+(lo:Int)) / (y:Int) = (((hi * 18446744073709551616+lo) / y:Nat):Int):=by rw [Int.natCast_ediv,Int.natCast_add,Int.natCast_mul];rfl
         exact ⟨⟨_,by first | (show Ending.returned (.tuple #[.int .u64 (((hi:Int) * 18446744073709551616+(lo:Int)) / (y:Int)),_]) = _;rw [eE2]) | (show Ending.returned (.tuple #[.int .u64 (IntKind.u64.wrap (IntKind.u64.wrap ((qa:Int) * 4294967296)+(q:Int))),_]) = _;rw [Xv]) | (show Ending.returned (.tuple #[.int .u64 ((qa:Int) * 4294967296+(q:Int)),_]) = _;rw [HE3.out])⟩,aj _⟩
       ·have hov:=HD.out.over (HLY.out ▸ HRL.out) lv1 lu0 (.inl (by omega))
        have hpos:=Dig.pos (r:=r) hov
        obtain ⟨q1,hq1⟩:∃q1,q = q1+1:=⟨q - 1,by omega⟩
        obtain ⟨r1,hr1⟩:∃r1,r+v1 = r1:=⟨_,rfl⟩
        have e1:Value.int .u64 (IntKind.u64.wrap ((q:Int) - 1)) = Value.int .u64 (q1:Int):=by rw [IntKind.wrap_u64];congr 1;omega
        have e2:Value.int .u64 (IntKind.u64.wrap ((r:Int)+(v1:Int))) = Value.int .u64 (r1:Int):=by rw [IntKind.wrap_u64];congr 1;omega
        have HOV:=Lib.hid hov
        have Vd:=Lib.hid hq1
        have HR1:=Lib.hid hr1
        clear hov hq1 hr1 hpos
        by_cases hb:(r1:Int) < 4294967296
        ·have hbd:decide ((4294967296:Int)≤(r1:Int)) = false:=by rw [decide_eq_false_iff_not];omega
         iterate 110 (first | go_step | skip)
         clear e1 e2 hbd
         go_wp2_with fail
         have hn:=HD.out.next HOV.out aur
         rw [Vd.out,HR1.out,Nat.add_sub_cancel] at hn
         have hme:(intOf (.int .u64 (q1:Int))).toNat < (intOf (.int .u64 (q:Int))).toNat:=by have:=Vd.out;simp only [intOf];omega
         have hmx:max (intOf (.int .u64 (q1:Int))) 0 < intOf (.int .u64 (q:Int)):=by have:=Vd.out;simp only [intOf];omega
         first
          | exact ⟨⟨q1,r1,rfl,rfl,hn,trivial⟩,hme⟩
          | exact ⟨⟨q1,rfl,r1,rfl,hn⟩,hmx⟩
          | exact ⟨⟨q1,rfl,r1,rfl,hn⟩,hme⟩
          | (refine ⟨?_,hme⟩
             repeat apply Exists.intro
             exact ⟨⟨q1,r1,rfl,rfl,hn,trivial⟩,rfl⟩)
        ·have hbd:decide ((4294967296:Int)≤(r1:Int)) = true:=by rw [decide_eq_true_eq];omega
         have hdone:q1 = (R * 4294967296+u0) / Y:=by
          have hs:=HD.out.stop HOV.out lv1 lv0 aur
          rw [Vd.out,← HLY.out] at hs
          exact hs
         have HD2:=Lib.hid hdone
         clear hdone
         have hqb:q1 < 4294967296:=by rw [HD2.out];exact OD HRL.out lu0
         have hfin:(hi * 18446744073709551616+lo) / y = qa * 4294967296+q1:=by
          have h2:=FB (A:=un * 4294967296+u1) (u0:=u0) (Y:=Y) (by omega)
          rw [hP.out.whole,HR.out,← HD1.out,← HD2.out,hP.out.yY,Io _ _ _ (Nat.two_pow_pos S)] at h2
          exact h2
         have Xv:IntKind.u64.wrap (IntKind.u64.wrap ((qa:Int) * 4294967296)+(q1:Int)) = (((hi * 18446744073709551616+lo) / y:Nat):Int):=by
          rw [IntKind.wrap_u64,IntKind.wrap_u64,hfin]
          have:=afx.out
          omega
         have HE3:=Lib.hid (show ((qa:Int) * 4294967296+(q1:Int)) = (((hi * 18446744073709551616+lo) / y:Nat):Int) by rw [hfin,Int.natCast_add,Int.natCast_mul];rfl)
         clear hfin
         iterate 250 (first | go_step | skip)
         go_ret2
         have eE2:((hi:Int) * 18446744073709551616+(lo:Int)) / (y:Int) = (((hi * 18446744073709551616+lo) / y:Nat):Int):=by rw [Int.natCast_ediv,Int.natCast_add,Int.natCast_mul];rfl
         exact ⟨⟨_,by first | (show Ending.returned (.tuple #[.int .u64 (((hi:Int) * 18446744073709551616+(lo:Int)) / (y:Int)),_]) = _;rw [eE2]) | (show Ending.returned (.tuple #[.int .u64 (IntKind.u64.wrap (IntKind.u64.wrap ((qa:Int) * 4294967296)+(q1:Int))),_]) = _;rw [Xv]) | (show Ending.returned (.tuple #[.int .u64 ((qa:Int) * 4294967296+(q1:Int)),_]) = _;rw [HE3.out])⟩,aj _⟩
    ·have afw:¬(N:Int) < (M:Int):=by omega
     have hq4d:decide ((4294967296:Int)≤(q:Int)) = false:=by rw [decide_eq_false_iff_not];omega
     have hNMd:decide ((N:Int) < (M:Int)) = false:=by rw [decide_eq_false_iff_not];exact afw
     have HNM:=Lib.hid hNM
     have hdone:q = (un * 4294967296+u1) / Y:=by
      have hs:=HD.out.done lv1 av9
      rw [← HLY.out] at hs
      exact hs
     obtain ⟨qa,hqa⟩:∃qa,qa = q:=⟨_,rfl⟩
     subst hqa
     have HD1:=Lib.hid hdone
     clear hdone
     have afx:=Lib.hid (show qa < 4294967296 by rw [HD1.out];exact OD lun lu1)
     have hRu:=aqH un u1 Y (by omega) lYb qa HD1.out
     obtain ⟨R,hR⟩:∃R,(un * 4294967296+u1) % Y = R:=⟨_,rfl⟩
     rw [hR] at hRu
     have hRl:R < Y:=by rw [← hR];exact Nat.mod_lt _ (by omega)
     have afy:=divU R v1 (by omega)
     have abv:=aph R v1 (by omega)
     have hst2:=Dig.start (un:=R) (v1:=v1) (v0:=v0) (u0:=u0) (HLY.out ▸ hRl) lv1 lv1b lv0 lu0
     generalize hg2:R - R / v1 * v1 = r0 at abv hst2
     generalize hg1:R / v1 = q0 at afy abv hst2
     have HST2:=Lib.hid hst2
     have HR:=Lib.hid hR
     have HRL:=Lib.hid hRl
     replace hRu:=congrArg (Value.int .u64) hRu
     replace afy:=congrArg (Value.int .u64) afy
     replace abv:=congrArg (Value.int .u64) abv
     clear hg1 hg2 hst2 hR hRl
     iterate 250 (first | go_step | skip)
     obtain ⟨wo,hwo⟩:∃wo,wo = wr:=⟨_,rfl⟩
     subst hwo
     go_loopw [18,16] (fun a b wr=>∃q r:Nat,a = .int .u64 q∧b = .int .u64 r∧Dig R v1 v0 u0 q r∧wr = wo) (fun a _ _=>(intOf a).toNat)
     case atStart=>exact ⟨q0,r0,rfl,rfl,HST2.out,rfl⟩
     case round =>
      obtain ⟨q,r,rfl,rfl,hD,rfl⟩:=hrel
      have hlow:=hD.low
      have hfew:=hD.few
      have HD:=Lib.hid hD
      clear hD
      by_cases hq4:(q:Int) < 4294967296
      ·obtain ⟨M,hM⟩:∃M,q * v0 = M:=⟨_,rfl⟩
       obtain ⟨A,hA⟩:∃A,4294967296 * r = A:=⟨_,rfl⟩
       obtain ⟨N,hN⟩:∃N,A+u0 = N:=⟨_,rfl⟩
       have hMb:M≤4294967296 * 4294967295:=by rw [← hM];exact Nat.mul_le_mul (by omega) (by omega)
       have hAb:A≤4294967296 * 4294967295:=by rw [← hA];exact Nat.mul_le_mul (Nat.le_refl _) (by omega)
       have e3:Value.int .u64 (IntKind.u64.wrap ((q:Int) * (v0:Int))) = Value.int .u64 (M:Int):=by rw [← Int.natCast_mul,hM,J7 _ (by omega)]
       have e4:Value.int .u64 (IntKind.u64.wrap (4294967296 * (r:Int))) = Value.int .u64 (A:Int):=by rw [show (4294967296 * (r:Int)) = ((4294967296 * r:Nat):Int) by rw [Int.natCast_mul];rfl,hA,J7 _ (by omega)]
       have e5:Value.int .u64 (IntKind.u64.wrap ((A:Int)+(u0:Int))) = Value.int .u64 (N:Int):=by rw [← Int.natCast_add,hN,J7 _ (by omega)]
       have HT:=Lib.hid (show 4294967296 * r+u0 = N by rw [hA,hN])
       have HM:=Lib.hid hM
       clear hM hA hN hMb hAb
       by_cases hNM:N < M
       ·have afw:(N:Int) < (M:Int):=by omega
        have HNM:=Lib.hid hNM
        have hov:=HD.out.over (HLY.out ▸ HRL.out) lv1 lu0 (.inr av8)
        have hpos:=Dig.pos (r:=r) hov
        obtain ⟨q1,hq1⟩:∃q1,q = q1+1:=⟨q - 1,by omega⟩
        obtain ⟨r1,hr1⟩:∃r1,r+v1 = r1:=⟨_,rfl⟩
        have e1:Value.int .u64 (IntKind.u64.wrap ((q:Int) - 1)) = Value.int .u64 (q1:Int):=by rw [IntKind.wrap_u64];congr 1;omega
        have e2:Value.int .u64 (IntKind.u64.wrap ((r:Int)+(v1:Int))) = Value.int .u64 (r1:Int):=by rw [IntKind.wrap_u64];congr 1;omega
        have HOV:=Lib.hid hov
        have Vd:=Lib.hid hq1
        have HR1:=Lib.hid hr1
        clear hov hq1 hr1 hpos
        by_cases hb:(r1:Int) < 4294967296
        ·have hbd:decide ((4294967296:Int)≤(r1:Int)) = false:=by rw [decide_eq_false_iff_not];omega
         iterate 110 (first | go_step | skip)
         clear e1 e2 hbd e3 e4 e5
         go_wp2_with fail
         have hn:=HD.out.next HOV.out aur
         rw [Vd.out,HR1.out,Nat.add_sub_cancel] at hn
         have hme:(intOf (.int .u64 (q1:Int))).toNat < (intOf (.int .u64 (q:Int))).toNat:=by have:=Vd.out;simp only [intOf];omega
         have hmx:max (intOf (.int .u64 (q1:Int))) 0 < intOf (.int .u64 (q:Int)):=by have:=Vd.out;simp only [intOf];omega
         first
          | exact ⟨⟨q1,r1,rfl,rfl,hn,trivial⟩,hme⟩
          | exact ⟨⟨q1,rfl,r1,rfl,hn⟩,hmx⟩
          | exact ⟨⟨q1,rfl,r1,rfl,hn⟩,hme⟩
          | (refine ⟨?_,hme⟩
             repeat apply Exists.intro
             exact ⟨⟨q1,r1,rfl,rfl,hn,trivial⟩,rfl⟩)
        ·have hbd:decide ((4294967296:Int)≤(r1:Int)) = true:=by rw [decide_eq_true_eq];omega
         have hdone:q1 = (R * 4294967296+u0) / Y:=by
          have hs:=HD.out.stop HOV.out lv1 lv0 aur
          rw [Vd.out,← HLY.out] at hs
          exact hs
         have HD2:=Lib.hid hdone
         clear hdone
         have hqb:q1 < 4294967296:=by rw [HD2.out];exact OD HRL.out lu0
         have hfin:(hi * 18446744073709551616+lo) / y = qa * 4294967296+q1:=by
          have h2:=FB (A:=un * 4294967296+u1) (u0:=u0) (Y:=Y) (by omega)
          rw [hP.out.whole,HR.out,← HD1.out,← HD2.out,hP.out.yY,Io _ _ _ (Nat.two_pow_pos S)] at h2
          exact h2
         have Xv:IntKind.u64.wrap (IntKind.u64.wrap ((qa:Int) * 4294967296)+(q1:Int)) = (((hi * 18446744073709551616+lo) / y:Nat):Int):=by
          rw [IntKind.wrap_u64,IntKind.wrap_u64,hfin]
          have:=afx.out
          omega
         have HE3:=Lib.hid (show ((qa:Int) * 4294967296+(q1:Int)) = (((hi * 18446744073709551616+lo) / y:Nat):Int) by rw [hfin,Int.natCast_add,Int.natCast_mul];rfl)
         clear hfin
         iterate 250 (first | go_step | skip)
         go_ret2
         have eE2:((hi:Int) * 18446744073709551616+(lo:Int)) / (y:Int) = (((hi * 18446744073709551616+lo) / y:Nat):Int):=by rw [Int.natCast_ediv,Int.natCast_add,Int.natCast_mul];rfl
         exact ⟨⟨_,by first | (show Ending.returned (.tuple #[.int .u64 (((hi:Int) * 18446744073709551616+(lo:Int)) / (y:Int)),_]) = _;rw [eE2]) | (show Ending.returned (.tuple #[.int .u64 (IntKind.u64.wrap (IntKind.u64.wrap ((qa:Int) * 4294967296)+(q1:Int))),_]) = _;rw [Xv]) | (show Ending.returned (.tuple #[.int .u64 ((qa:Int) * 4294967296+(q1:Int)),_]) = _;rw [HE3.out])⟩,aj _⟩
       ·have afw:¬(N:Int) < (M:Int):=by omega
        have hq4d:decide ((4294967296:Int)≤(q:Int)) = false:=by rw [decide_eq_false_iff_not];omega
        have hNMd:decide ((N:Int) < (M:Int)) = false:=by rw [decide_eq_false_iff_not];exact afw
        have HNM:=Lib.hid hNM
        have hdone:q = (R * 4294967296+u0) / Y:=by
         have hs:=HD.out.done lv1 av9
         rw [← HLY.out] at hs
         exact hs
        have HD2:=Lib.hid hdone
        clear hdone
        have hqb:q < 4294967296:=by rw [HD2.out];exact OD HRL.out lu0
        have hfin:(hi * 18446744073709551616+lo) / y = qa * 4294967296+q:=by
         have h2:=FB (A:=un * 4294967296+u1) (u0:=u0) (Y:=Y) (by omega)
         rw [hP.out.whole,HR.out,← HD1.out,← HD2.out,hP.out.yY,Io _ _ _ (Nat.two_pow_pos S)] at h2
         exact h2
        have Xv:IntKind.u64.wrap (IntKind.u64.wrap ((qa:Int) * 4294967296)+(q:Int)) = (((hi * 18446744073709551616+lo) / y:Nat):Int):=by
         rw [IntKind.wrap_u64,IntKind.wrap_u64,hfin]
         have:=afx.out
         omega
        have HE3:=Lib.hid (show ((qa:Int) * 4294967296+(q:Int)) = (((hi * 18446744073709551616+lo) / y:Nat):Int) by rw [hfin,Int.natCast_add,Int.natCast_mul];rfl)
        clear hfin
        iterate 250 (first | go_step | skip)
        go_ret2
        have eE2:((hi:Int) * 18446744073709551616+(lo:Int)) / (y:Int) = (((hi * 18446744073709551616+lo) / y:Nat):Int):=by rw [Int.natCast_ediv,Int.natCast_add,Int.natCast_mul];rfl
        exact ⟨⟨_,by first | (show Ending.returned (.tuple #[.int .u64 (((hi:Int) * 18446744073709551616+(lo:Int)) / (y:Int)),_]) = _;rw [eE2]) | (show Ending.returned (.tuple #[.int .u64 (IntKind.u64.wrap (IntKind.u64.wrap ((qa:Int) * 4294967296)+(q:Int))),_]) = _;rw [Xv]) | (show Ending.returned (.tuple #[.int .u64 ((qa:Int) * 4294967296+(q:Int)),_]) = _;rw [HE3.out])⟩,aj _⟩
      ·have hov:=HD.out.over (HLY.out ▸ HRL.out) lv1 lu0 (.inl (by omega))
       have hpos:=Dig.pos (r:=r) hov
       obtain ⟨q1,hq1⟩:∃q1,q = q1+1:=⟨q - 1,by omega⟩
       obtain ⟨r1,hr1⟩:∃r1,r+v1 = r1:=⟨_,rfl⟩
       have e1:Value.int .u64 (IntKind.u64.wrap ((q:Int) - 1)) = Value.int .u64 (q1:Int):=by rw [IntKind.wrap_u64];congr 1;omega
       have e2:Value.int .u64 (IntKind.u64.wrap ((r:Int)+(v1:Int))) = Value.int .u64 (r1:Int):=by rw [IntKind.wrap_u64];congr 1;omega
       have HOV:=Lib.hid hov
       have Vd:=Lib.hid hq1
       have HR1:=Lib.hid hr1
       clear hov hq1 hr1 hpos
       by_cases hb:(r1:Int) < 4294967296
       ·have hbd:decide ((4294967296:Int)≤(r1:Int)) = false:=by rw [decide_eq_false_iff_not];omega
        iterate 110 (first | go_step | skip)
        clear e1 e2 hbd
        go_wp2_with fail
        have hn:=HD.out.next HOV.out aur
        rw [Vd.out,HR1.out,Nat.add_sub_cancel] at hn
        have hme:(intOf (.int .u64 (q1:Int))).toNat < (intOf (.int .u64 (q:Int))).toNat:=by have:=Vd.out;simp only [intOf];omega
        have hmx:max (intOf (.int .u64 (q1:Int))) 0 < intOf (.int .u64 (q:Int)):=by have:=Vd.out;simp only [intOf];omega
        first
         | exact ⟨⟨q1,r1,rfl,rfl,hn,trivial⟩,hme⟩
         | exact ⟨⟨q1,rfl,r1,rfl,hn⟩,hmx⟩
         | exact ⟨⟨q1,rfl,r1,rfl,hn⟩,hme⟩
         | (refine ⟨?_,hme⟩
            repeat apply Exists.intro
            exact ⟨⟨q1,r1,rfl,rfl,hn,trivial⟩,rfl⟩)
       ·have hbd:decide ((4294967296:Int)≤(r1:Int)) = true:=by rw [decide_eq_true_eq];omega
        have hdone:q1 = (R * 4294967296+u0) / Y:=by
         have hs:=HD.out.stop HOV.out lv1 lv0 aur
         rw [Vd.out,← HLY.out] at hs
         exact hs
        have HD2:=Lib.hid hdone
        clear hdone
        have hqb:q1 < 4294967296:=by rw [HD2.out];exact OD HRL.out lu0
        have hfin:(hi * 18446744073709551616+lo) / y = qa * 4294967296+q1:=by
         have h2:=FB (A:=un * 4294967296+u1) (u0:=u0) (Y:=Y) (by omega)
         rw [hP.out.whole,HR.out,← HD1.out,← HD2.out,hP.out.yY,Io _ _ _ (Nat.two_pow_pos S)] at h2
         exact h2
        have Xv:IntKind.u64.wrap (IntKind.u64.wrap ((qa:Int) * 4294967296)+(q1:Int)) = (((hi * 18446744073709551616+lo) / y:Nat):Int):=by
         rw [IntKind.wrap_u64,IntKind.wrap_u64,hfin]
         have:=afx.out
         omega
        have HE3:=Lib.hid (show ((qa:Int) * 4294967296+(q1:Int)) = (((hi * 18446744073709551616+lo) / y:Nat):Int) by rw [hfin,Int.natCast_add,Int.natCast_mul];rfl)
        clear hfin
        iterate 250 (first | go_step | skip)
        go_ret2
        have eE2:((hi:Int) * 18446744073709551616+(lo:Int)) / (y:Int) = (((hi * 18446744073709551616+lo) / y:Nat):Int):=by rw [Int.natCast_ediv,Int.natCast_add,Int.natCast_mul];rfl
        exact ⟨⟨_,by first | (show Ending.returned (.tuple #[.int .u64 (((hi:Int) * 18446744073709551616+(lo:Int)) / (y:Int)),_]) = _;rw [eE2]) | (show Ending.returned (.tuple #[.int .u64 (IntKind.u64.wrap (IntKind.u64.wrap ((qa:Int) * 4294967296)+(q1:Int))),_]) = _;rw [Xv]) | (show Ending.returned (.tuple #[.int .u64 ((qa:Int) * 4294967296+(q1:Int)),_]) = _;rw [HE3.out])⟩,aj _⟩
   ·have hov:=HD.out.over (HLY.out ▸ lun) lv1 lu1 (.inl (by omega))
    have hpos:=Dig.pos (r:=r) hov
    obtain ⟨q1,hq1⟩:∃q1,q = q1+1:=⟨q - 1,by omega⟩
    obtain ⟨r1,hr1⟩:∃r1,r+v1 = r1:=⟨_,rfl⟩
    have e1:Value.int .u64 (IntKind.u64.wrap ((q:Int) - 1)) = Value.int .u64 (q1:Int):=by rw [IntKind.wrap_u64];congr 1;omega
    have e2:Value.int .u64 (IntKind.u64.wrap ((r:Int)+(v1:Int))) = Value.int .u64 (r1:Int):=by rw [IntKind.wrap_u64];congr 1;omega
    have HOV:=Lib.hid hov
    have Vd:=Lib.hid hq1
    have HR1:=Lib.hid hr1
    clear hov hq1 hr1 hpos
    by_cases hb:(r1:Int) < 4294967296
    ·have hbd:decide ((4294967296:Int)≤(r1:Int)) = false:=by rw [decide_eq_false_iff_not];omega
     iterate 110 (first | go_step | skip)
     clear e1 e2 hbd
     go_wp2_with fail
     have hn:=HD.out.next HOV.out aur
     rw [Vd.out,HR1.out,Nat.add_sub_cancel] at hn
     have hme:(intOf (.int .u64 (q1:Int))).toNat < (intOf (.int .u64 (q:Int))).toNat:=by have:=Vd.out;simp only [intOf];omega
     have hmx:max (intOf (.int .u64 (q1:Int))) 0 < intOf (.int .u64 (q:Int)):=by have:=Vd.out;simp only [intOf];omega
     first
      | exact ⟨⟨q1,r1,rfl,rfl,hn,trivial⟩,hme⟩
      | exact ⟨⟨q1,rfl,r1,rfl,hn⟩,hmx⟩
      | exact ⟨⟨q1,rfl,r1,rfl,hn⟩,hme⟩
      | (refine ⟨?_,hme⟩
         repeat apply Exists.intro
         exact ⟨⟨q1,r1,rfl,rfl,hn,trivial⟩,rfl⟩)
    ·have hbd:decide ((4294967296:Int)≤(r1:Int)) = true:=by rw [decide_eq_true_eq];omega
     have hdone:q1 = (un * 4294967296+u1) / Y:=by
      have hs:=HD.out.stop HOV.out lv1 lv0 aur
      rw [Vd.out,← HLY.out] at hs
      exact hs
     obtain ⟨qa,hqa⟩:∃qa,qa = q1:=⟨_,rfl⟩
     subst hqa
     have HD1:=Lib.hid hdone
     clear hdone
     have afx:=Lib.hid (show qa < 4294967296 by rw [HD1.out];exact OD lun lu1)
     have hRu:=aqH un u1 Y (by omega) lYb qa HD1.out
     obtain ⟨R,hR⟩:∃R,(un * 4294967296+u1) % Y = R:=⟨_,rfl⟩
     rw [hR] at hRu
     have hRl:R < Y:=by rw [← hR];exact Nat.mod_lt _ (by omega)
     have afy:=divU R v1 (by omega)
     have abv:=aph R v1 (by omega)
     have hst2:=Dig.start (un:=R) (v1:=v1) (v0:=v0) (u0:=u0) (HLY.out ▸ hRl) lv1 lv1b lv0 lu0
     generalize hg2:R - R / v1 * v1 = r0 at abv hst2
     generalize hg1:R / v1 = q0 at afy abv hst2
     have HST2:=Lib.hid hst2
     have HR:=Lib.hid hR
     have HRL:=Lib.hid hRl
     replace hRu:=congrArg (Value.int .u64) hRu
     replace afy:=congrArg (Value.int .u64) afy
     replace abv:=congrArg (Value.int .u64) abv
     clear hg1 hg2 hst2 hR hRl
     iterate 250 (first | go_step | skip)
     obtain ⟨wo,hwo⟩:∃wo,wo = wr:=⟨_,rfl⟩
     subst hwo
     go_loopw [18,16] (fun a b wr=>∃q r:Nat,a = .int .u64 q∧b = .int .u64 r∧Dig R v1 v0 u0 q r∧wr = wo) (fun a _ _=>(intOf a).toNat)
     case atStart=>exact ⟨q0,r0,rfl,rfl,HST2.out,rfl⟩
     case round =>
      obtain ⟨q,r,rfl,rfl,hD,rfl⟩:=hrel
      have hlow:=hD.low
      have hfew:=hD.few
      have HD:=Lib.hid hD
      clear hD
      by_cases hq4:(q:Int) < 4294967296
      ·obtain ⟨M,hM⟩:∃M,q * v0 = M:=⟨_,rfl⟩
       obtain ⟨A,hA⟩:∃A,4294967296 * r = A:=⟨_,rfl⟩
       obtain ⟨N,hN⟩:∃N,A+u0 = N:=⟨_,rfl⟩
       have hMb:M≤4294967296 * 4294967295:=by rw [← hM];exact Nat.mul_le_mul (by omega) (by omega)
       have hAb:A≤4294967296 * 4294967295:=by rw [← hA];exact Nat.mul_le_mul (Nat.le_refl _) (by omega)
       have e3:Value.int .u64 (IntKind.u64.wrap ((q:Int) * (v0:Int))) = Value.int .u64 (M:Int):=by rw [← Int.natCast_mul,hM,J7 _ (by omega)]
       have e4:Value.int .u64 (IntKind.u64.wrap (4294967296 * (r:Int))) = Value.int .u64 (A:Int):=by rw [show (4294967296 * (r:Int)) = ((4294967296 * r:Nat):Int) by rw [Int.natCast_mul];rfl,hA,J7 _ (by omega)]
       have e5:Value.int .u64 (IntKind.u64.wrap ((A:Int)+(u0:Int))) = Value.int .u64 (N:Int):=by rw [← Int.natCast_add,hN,J7 _ (by omega)]
       have HT:=Lib.hid (show 4294967296 * r+u0 = N by rw [hA,hN])
       have HM:=Lib.hid hM
       clear hM hA hN hMb hAb
       by_cases hNM:N < M
       ·have afw:(N:Int) < (M:Int):=by omega
        have HNM:=Lib.hid hNM
        have hov:=HD.out.over (HLY.out ▸ HRL.out) lv1 lu0 (.inr av8)
        have hpos:=Dig.pos (r:=r) hov
        obtain ⟨q1,hq1⟩:∃q1,q = q1+1:=⟨q - 1,by omega⟩
        obtain ⟨r1,hr1⟩:∃r1,r+v1 = r1:=⟨_,rfl⟩
        have e1:Value.int .u64 (IntKind.u64.wrap ((q:Int) - 1)) = Value.int .u64 (q1:Int):=by rw [IntKind.wrap_u64];congr 1;omega
        have e2:Value.int .u64 (IntKind.u64.wrap ((r:Int)+(v1:Int))) = Value.int .u64 (r1:Int):=by rw [IntKind.wrap_u64];congr 1;omega
        have HOV:=Lib.hid hov
        have Vd:=Lib.hid hq1
        have HR1:=Lib.hid hr1
        clear hov hq1 hr1 hpos
        by_cases hb:(r1:Int) < 4294967296
        ·have hbd:decide ((4294967296:Int)≤(r1:Int)) = false:=by rw [decide_eq_false_iff_not];omega
         iterate 110 (first | go_step | skip)
         clear e1 e2 hbd e3 e4 e5
         go_wp2_with fail
         have hn:=HD.out.next HOV.out aur
         rw [Vd.out,HR1.out,Nat.add_sub_cancel] at hn
         have hme:(intOf (.int .u64 (q1:Int))).toNat < (intOf (.int .u64 (q:Int))).toNat:=by have:=Vd.out;simp only [intOf];omega
         have hmx:max (intOf (.int .u64 (q1:Int))) 0 < intOf (.int .u64 (q:Int)):=by have:=Vd.out;simp only [intOf];omega
         first
          | exact ⟨⟨q1,r1,rfl,rfl,hn,trivial⟩,hme⟩
          | exact ⟨⟨q1,rfl,r1,rfl,hn⟩,hmx⟩
          | exact ⟨⟨q1,rfl,r1,rfl,hn⟩,hme⟩
          | (refine ⟨?_,hme⟩
             repeat apply Exists.intro
             exact ⟨⟨q1,r1,rfl,rfl,hn,trivial⟩,rfl⟩)
        ·have hbd:decide ((4294967296:Int)≤(r1:Int)) = true:=by rw [decide_eq_true_eq];omega
         have hdone:q1 = (R * 4294967296+u0) / Y:=by
          have hs:=HD.out.stop HOV.out lv1 lv0 aur
          rw [Vd.out,← HLY.out] at hs
          exact hs
         have HD2:=Lib.hid hdone
         clear hdone
         have hqb:q1 < 4294967296:=by rw [HD2.out];exact OD HRL.out lu0
         have hfin:(hi * 18446744073709551616+lo) / y = qa * 4294967296+q1:=by
          have h2:=FB (A:=un * 4294967296+u1) (u0:=u0) (Y:=Y) (by omega)
          rw [hP.out.whole,HR.out,← HD1.out,← HD2.out,hP.out.yY,Io _ _ _ (Nat.two_pow_pos S)] at h2
          exact h2
         have Xv:IntKind.u64.wrap (IntKind.u64.wrap ((qa:Int) * 4294967296)+(q1:Int)) = (((hi * 18446744073709551616+lo) / y:Nat):Int):=by
          rw [IntKind.wrap_u64,IntKind.wrap_u64,hfin]
          have:=afx.out
          omega
         have HE3:=Lib.hid (show ((qa:Int) * 4294967296+(q1:Int)) = (((hi * 18446744073709551616+lo) / y:Nat):Int) by rw [hfin,Int.natCast_add,Int.natCast_mul];rfl)
         clear hfin
         iterate 250 (first | go_step | skip)
         go_ret2
         have eE2:((hi:Int) * 18446744073709551616+(lo:Int)) / (y:Int) = (((hi * 18446744073709551616+lo) / y:Nat):Int):=by rw [Int.natCast_ediv,Int.natCast_add,Int.natCast_mul];rfl
         exact ⟨⟨_,by first | (show Ending.returned (.tuple #[.int .u64 (((hi:Int) * 18446744073709551616+(lo:Int)) / (y:Int)),_]) = _;rw [eE2]) | (show Ending.returned (.tuple #[.int .u64 (IntKind.u64.wrap (IntKind.u64.wrap ((qa:Int) * 4294967296)+(q1:Int))),_]) = _;rw [Xv]) | (show Ending.returned (.tuple #[.int .u64 ((qa:Int) * 4294967296+(q1:Int)),_]) = _;rw [HE3.out])⟩,aj _⟩
       ·have afw:¬(N:Int) < (M:Int):=by omega
        have hq4d:decide ((4294967296:Int)≤(q:Int)) = false:=by rw [decide_eq_false_iff_not];omega
        have hNMd:decide ((N:Int) < (M:Int)) = false:=by rw [decide_eq_false_iff_not];exact afw
        have HNM:=Lib.hid hNM
        have hdone:q = (R * 4294967296+u0) / Y:=by
         have hs:=HD.out.done lv1 av9
         rw [← HLY.out] at hs
         exact hs
        have HD2:=Lib.hid hdone
        clear hdone
        have hqb:q < 4294967296:=by rw [HD2.out];exact OD HRL.out lu0
        have hfin:(hi * 18446744073709551616+lo) / y = qa * 4294967296+q:=by
         have h2:=FB (A:=un * 4294967296+u1) (u0:=u0) (Y:=Y) (by omega)
         rw [hP.out.whole,HR.out,← HD1.out,← HD2.out,hP.out.yY,Io _ _ _ (Nat.two_pow_pos S)] at h2
         exact h2
        have Xv:IntKind.u64.wrap (IntKind.u64.wrap ((qa:Int) * 4294967296)+(q:Int)) = (((hi * 18446744073709551616+lo) / y:Nat):Int):=by
         rw [IntKind.wrap_u64,IntKind.wrap_u64,hfin]
         have:=afx.out
         omega
        have HE3:=Lib.hid (show ((qa:Int) * 4294967296+(q:Int)) = (((hi * 18446744073709551616+lo) / y:Nat):Int) by rw [hfin,Int.natCast_add,Int.natCast_mul];rfl)
        clear hfin
        iterate 250 (first | go_step | skip)
        go_ret2
        have eE2:((hi:Int) * 18446744073709551616+(lo:Int)) / (y:Int) = (((hi * 18446744073709551616+lo) / y:Nat):Int):=by rw [Int.natCast_ediv,Int.natCast_add,Int.natCast_mul];rfl
        exact ⟨⟨_,by first | (show Ending.returned (.tuple #[.int .u64 (((hi:Int) * 18446744073709551616+(lo:Int)) / (y:Int)),_]) = _;rw [eE2]) | (show Ending.returned (.tuple #[.int .u64 (IntKind.u64.wrap (IntKind.u64.wrap ((qa:Int) * 4294967296)+(q:Int))),_]) = _;rw [Xv]) | (show Ending.returned (.tuple #[.int .u64 ((qa:Int) * 4294967296+(q:Int)),_]) = _;rw [HE3.out])⟩,aj _⟩
      ·have hov:=HD.out.over (HLY.out ▸ HRL.out) lv1 lu0 (.inl (by omega))
       have hpos:=Dig.pos (r:=r) hov
       obtain ⟨q1,hq1⟩:∃q1,q = q1+1:=⟨q - 1,by omega⟩
       obtain ⟨r1,hr1⟩:∃r1,r+v1 = r1:=⟨_,rfl⟩
       have e1:Value.int .u64 (IntKind.u64.wrap ((q:Int) - 1)) = Value.int .u64 (q1:Int):=by rw [IntKind.wrap_u64];congr 1;omega
       have e2:Value.int .u64 (IntKind.u64.wrap ((r:Int)+(v1:Int))) = Value.int .u64 (r1:Int):=by rw [IntKind.wrap_u64];congr 1;omega
       have HOV:=Lib.hid hov
       have Vd:=Lib.hid hq1
       have HR1:=Lib.hid hr1
       clear hov hq1 hr1 hpos
       by_cases hb:(r1:Int) < 4294967296
       ·have hbd:decide ((4294967296:Int)≤(r1:Int)) = false:=by rw [decide_eq_false_iff_not];omega
        iterate 110 (first | go_step | skip)
        clear e1 e2 hbd
        go_wp2_with fail
        have hn:=HD.out.next HOV.out aur
        rw [Vd.out,HR1.out,Nat.add_sub_cancel] at hn
        have hme:(intOf (.int .u64 (q1:Int))).toNat < (intOf (.int .u64 (q:Int))).toNat:=by have:=Vd.out;simp only [intOf];omega
        have hmx:max (intOf (.int .u64 (q1:Int))) 0 < intOf (.int .u64 (q:Int)):=by have:=Vd.out;simp only [intOf];omega
        first
         | exact ⟨⟨q1,r1,rfl,rfl,hn,trivial⟩,hme⟩
         | exact ⟨⟨q1,rfl,r1,rfl,hn⟩,hmx⟩
         | exact ⟨⟨q1,rfl,r1,rfl,hn⟩,hme⟩
         | (refine ⟨?_,hme⟩
            repeat apply Exists.intro
            exact ⟨⟨q1,r1,rfl,rfl,hn,trivial⟩,rfl⟩)
       ·have hbd:decide ((4294967296:Int)≤(r1:Int)) = true:=by rw [decide_eq_true_eq];omega
        have hdone:q1 = (R * 4294967296+u0) / Y:=by
         have hs:=HD.out.stop HOV.out lv1 lv0 aur
         rw [Vd.out,← HLY.out] at hs
         exact hs
        have HD2:=Lib.hid hdone
        clear hdone
        have hqb:q1 < 4294967296:=by rw [HD2.out];exact OD HRL.out lu0
        have hfin:(hi * 18446744073709551616+lo) / y = qa * 4294967296+q1:=by
         have h2:=FB (A:=un * 4294967296+u1) (u0:=u0) (Y:=Y) (by omega)
         rw [hP.out.whole,HR.out,← HD1.out,← HD2.out,hP.out.yY,Io _ _ _ (Nat.two_pow_pos S)] at h2
         exact h2
        have Xv:IntKind.u64.wrap (IntKind.u64.wrap ((qa:Int) * 4294967296)+(q1:Int)) = (((hi * 18446744073709551616+lo) / y:Nat):Int):=by
         rw [IntKind.wrap_u64,IntKind.wrap_u64,hfin]
         have:=afx.out
         omega
        have HE3:=Lib.hid (show ((qa:Int) * 4294967296+(q1:Int)) = (((hi * 18446744073709551616+lo) / y:Nat):Int) by rw [hfin,Int.natCast_add,Int.natCast_mul];rfl)
        clear hfin
        iterate 250 (first | go_step | skip)
        go_ret2
        have eE2:((hi:Int) * 18446744073709551616+(lo:Int)) / (y:Int) = (((hi * 18446744073709551616+lo) / y:Nat):Int):=by rw [Int.natCast_ediv,Int.natCast_add,Int.natCast_mul];rfl
        exact ⟨⟨_,by first | (show Ending.returned (.tuple #[.int .u64 (((hi:Int) * 18446744073709551616+(lo:Int)) / (y:Int)),_]) = _;rw [eE2]) | (show Ending.returned (.tuple #[.int .u64 (IntKind.u64.wrap (IntKind.u64.wrap ((qa:Int) * 4294967296)+(q1:Int))),_]) = _;rw [Xv]) | (show Ending.returned (.tuple #[.int .u64 ((qa:Int) * 4294967296+(q1:Int)),_]) = _;rw [HE3.out])⟩,aj _⟩
end Go.Proofs.YtogkjlcoadhpgaaGreat
