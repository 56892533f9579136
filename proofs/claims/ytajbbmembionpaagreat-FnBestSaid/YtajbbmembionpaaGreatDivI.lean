/- math/bits Div64. No condition. -/
import Derived.Test.YtajbbmembionpaaGreatGr
import Derived.Test.YtajbbmembionpaaGreatDivP
import Derived.Test.YtajbbmembionpaaGreatRegion
namespace Go.Proofs.YtajbbmembionpaaGreat
open Go.ChangeShapes Go.WideShapes Go.ChangeAt Go.RowKit
set_option linter.unusedVariables false
set_option linter.unusedSimpArgs false
set_option maxHeartbeats 4000000
set_option maxRecDepth 100000
theorem apV (hi lo y:Nat) (hl:lo < 18446744073709551616) (hy:y < 18446744073709551616) (h:hi < y) (w:World) :
 Calls Tryz.prog 55 #[.int .u64 hi,.int .u64 lo,.int .u64 y] w fun e w'=>(∃r,e = .returned (.tuple #[.int .u64 (((hi * 18446744073709551616+lo) / y:Nat):Int),r]))∧Below w.heap.size w w':=by
 have bo:decide ((y:Int) = 0) = false:=by simp;omega
 have ap:decide ((y:Int)≤(hi:Int)) = false:=by simp;omega
 by_cases hz:hi = 0
 ·subst hz
  go_enter Tryz.func55,Tryz.ntmps55
  go_wp2_with fail
  go_region
  all_goals
   go_wp2
   go_ret2
   refine ⟨⟨.int .u64 ((lo:Int) % (y:Int)),?_⟩,aA (aj _)⟩
   have e0:IntKind.u64.wrap ((lo:Int) / (y:Int)) = (((0 * 18446744073709551616+lo) / y:Nat):Int):=by
    have h1:lo / y≤lo:=Nat.div_le_self _ _
    rw [Nat.zero_mul,Nat.zero_add,← Int.natCast_ediv]
    exact J7 _ (by omega)
   show Ending.returned (.tuple #[.int .u64 (IntKind.u64.wrap ((lo:Int) / (y:Int))),.int .u64 ((lo:Int) % (y:Int))]) = _
   rw [e0]
 ·have aR:decide ((hi:Int) = 0) = false:=by simp;omega
  obtain ⟨S,hS,fg,ce,dx⟩:=anV y (by omega) hy
  go_enter Tryz.func55,Tryz.ntmps55
  go_wp2_with fail
  refine (aaq (y:Int) _ (by omega) (by omega)).mono ?_
  rw [show (64 - (Lib.bitLen ((y:Int)).toNat:Int)) = (S:Int) by rw [Int.toNat_natCast];exact hS]
  rintro e w2 ⟨rfl,hw⟩
  simp only [hw]
  clear hw w2
  obtain ⟨Y,v1,v0,un,L,u1,u0,P⟩:=apW hi lo y S hl h fg ce dx
  have eY:=P.eY;have QP:=P.QP;have QQ:=P.QQ;have QR:=P.QR;have eL:=P.eL;have QT:=P.QT;have QU:=P.QU
  have iL:=P.iL;have pS:=P.pS;have pd:=P.pd;have xf:=P.xf;have lj:=P.lj;have lY:=P.lY;have xh:=P.xh
  have QY:Y < 18446744073709551616:=by omega
  have lY0:0 < Y:=by omega
  have Kd:un < 18446744073709551616:=by omega
  have XI:=vp un v1 Kd
  have QZ:=Nq un v1 Kd
  have gL:=gp.start (un:=un) (v1:=v1) (v0:=v0) (u0:=u1) (lY ▸ xh) iL pS pd xf
  generalize ev:un - un / v1 * v1 = r0 at QZ gL
  generalize kz:un / v1 = q0 at XI QZ gL
  have oW:=Lib.hid gL
  have hP:=Lib.hid P
  have j4:=Lib.hid lY
  clear P ce dx lY kz ev gL
  go_wp2_with fail
  simp only [show ((y:Int) == 0) = false by simp;omega,show decide (y≤hi) = false by simp;omega,show ((hi:Int) == 0) = false by simp;omega]
  clear eY QP QQ QR eL QT QU XI QZ
  go_loopw [15,16] (fun a b wr=>∃q r:Nat,a = .int .u64 q∧b = .int .u64 r∧gp un v1 v0 u1 q r∧wr = w) (fun a _ _=>(intOf a).toNat)
  case atStart=>exact ⟨q0,r0,rfl,rfl,oW.out,rfl⟩
  case round =>
   obtain ⟨q,r,rfl,rfl,hD,rfl⟩:=hrel
   have Bi:=hD.low
   have Bj:=hD.Dm
   have HD:=Lib.hid hD
   clear hD
   by_cases hq4:(q:Int) < 4294967296
   ·obtain ⟨M,hM⟩:∃M,q * v0 = M:=⟨_,rfl⟩
    obtain ⟨A,hA⟩:∃A,4294967296 * r = A:=⟨_,rfl⟩
    obtain ⟨N,hN⟩:∃N,A+u1 = N:=⟨_,rfl⟩
    have Bk:M≤4294967296 * 4294967295:=by rw [← hM];exact Nat.mul_le_mul (by omega) (by omega)
    have Bl:A≤4294967296 * 4294967295:=by rw [← hA];exact Nat.mul_le_mul (Nat.le_refl _) (by omega)
    have e3:Value.int .u64 (IntKind.u64.wrap ((q:Int) * (v0:Int))) = Value.int .u64 (M:Int):=by rw [← Int.natCast_mul,hM,J7 _ (by omega)]
    have e4:Value.int .u64 (IntKind.u64.wrap (4294967296 * (r:Int))) = Value.int .u64 (A:Int):=by rw [show (4294967296 * (r:Int)) = ((4294967296 * r:Nat):Int) by rw [Int.natCast_mul];rfl,hA,J7 _ (by omega)]
    have e5:Value.int .u64 (IntKind.u64.wrap ((A:Int)+(u1:Int))) = Value.int .u64 (N:Int):=by rw [← Int.natCast_add,hN,J7 _ (by omega)]
    have HT:=Lib.hid (show 4294967296 * r+u1 = N by rw [hA,hN])
    have HM:=Lib.hid hM
    clear hM hA hN Bk Bl
    by_cases hNM:N < M
    ·have sr:(N:Int) < (M:Int):=by omega
     have rA:=Lib.hid hNM
     have gv:=HD.out.over (j4.out ▸ xh) iL xf (.inr Mk)
     have fu:=gp.pos (r:=r) gv
     obtain ⟨q1,et⟩:∃q1,q = q1+1:=⟨q - 1,by omega⟩
     obtain ⟨r1,dj⟩:∃r1,r+v1 = r1:=⟨_,rfl⟩
     have e1:Value.int .u64 (IntKind.u64.wrap ((q:Int) - 1)) = Value.int .u64 (q1:Int):=by rw [IntKind.wrap_u64];congr 1;omega
     have e2:Value.int .u64 (IntKind.u64.wrap ((r:Int)+(v1:Int))) = Value.int .u64 (r1:Int):=by rw [IntKind.wrap_u64];congr 1;omega
     have j5:=Lib.hid gv
     have Vd:=Lib.hid et
     have ic:=Lib.hid dj
     clear gv et dj fu
     by_cases hb:(r1:Int) < 4294967296
     ·have dB:decide ((4294967296:Int)≤(r1:Int)) = false:=by rw [decide_eq_false_iff_not];omega
      iterate 110 (first | go_step | skip)
      clear e1 e2 dB e3 e4 e5
      go_wp2_with fail
      have hn:=HD.out.next j5.out nk
      rw [Vd.out,ic.out,Nat.add_sub_cancel] at hn
      have fl:(intOf (.int .u64 (q1:Int))).toNat < (intOf (.int .u64 (q:Int))).toNat:=by have:=Vd.out;simp only [intOf];omega
      have mO:max (intOf (.int .u64 (q1:Int))) 0 < intOf (.int .u64 (q:Int)):=by have:=Vd.out;simp only [intOf];omega
      first
       | exact ⟨⟨q1,r1,rfl,rfl,hn,trivial⟩,fl⟩
       | exact ⟨⟨q1,rfl,r1,rfl,hn⟩,mO⟩
       | exact ⟨⟨q1,rfl,r1,rfl,hn⟩,fl⟩
       | (refine ⟨?_,fl⟩
          repeat apply Exists.intro
          exact ⟨⟨q1,r1,rfl,rfl,hn,trivial⟩,rfl⟩)
     ·have dB:decide ((4294967296:Int)≤(r1:Int)) = true:=by rw [decide_eq_true_eq];omega
      have bM:q1 = (un * 4294967296+u1) / Y:=by
       have hs:=HD.out.stop j5.out iL pd nk
       rw [Vd.out,← j4.out] at hs
       exact hs
      obtain ⟨qa,hqa⟩:∃qa,qa = q1:=⟨_,rfl⟩
      subst hqa
      have gU:=Lib.hid bM
      clear bM
      have ss:=Lib.hid (show qa < 4294967296 by rw [gU.out];exact OD xh xf)
      have sv:=QV un u1 Y (by omega) QY qa gU.out
      obtain ⟨R,hR⟩:∃R,(un * 4294967296+u1) % Y = R:=⟨_,rfl⟩
      rw [hR] at sv
      have sw:R < Y:=by rw [← hR];exact Nat.mod_lt _ (by omega)
      have sx:=vp R v1 (by omega)
      have pe:=Nq R v1 (by omega)
      have gw:=gp.start (un:=R) (v1:=v1) (v0:=v0) (u0:=u0) (j4.out ▸ sw) iL pS pd lj
      generalize ev:R - R / v1 * v1 = r0 at pe gw
      generalize kz:R / v1 = q0 at sx pe gw
      have sy:=Lib.hid gw
      have HR:=Lib.hid hR
      have gx:=Lib.hid sw
      replace sv:=congrArg (Value.int .u64) sv
      replace sx:=congrArg (Value.int .u64) sx
      replace pe:=congrArg (Value.int .u64) pe
      clear kz ev gw hR sw
      iterate 250 (first | go_step | skip)
      obtain ⟨wo,hwo⟩:∃wo,wo = wr:=⟨_,rfl⟩
      subst hwo
      go_loopw [18,16] (fun a b wr=>∃q r:Nat,a = .int .u64 q∧b = .int .u64 r∧gp R v1 v0 u0 q r∧wr = wo) (fun a _ _=>(intOf a).toNat)
      case atStart=>exact ⟨q0,r0,rfl,rfl,sy.out,rfl⟩
      case round =>
       obtain ⟨q,r,rfl,rfl,hD,rfl⟩:=hrel
       have Bi:=hD.low
       have Bj:=hD.Dm
       have HD:=Lib.hid hD
       clear hD
       by_cases hq4:(q:Int) < 4294967296
       ·obtain ⟨M,hM⟩:∃M,q * v0 = M:=⟨_,rfl⟩
        obtain ⟨A,hA⟩:∃A,4294967296 * r = A:=⟨_,rfl⟩
        obtain ⟨N,hN⟩:∃N,A+u0 = N:=⟨_,rfl⟩
        have Bk:M≤4294967296 * 4294967295:=by rw [← hM];exact Nat.mul_le_mul (by omega) (by omega)
        have Bl:A≤4294967296 * 4294967295:=by rw [← hA];exact Nat.mul_le_mul (Nat.le_refl _) (by omega)
        have e3:Value.int .u64 (IntKind.u64.wrap ((q:Int) * (v0:Int))) = Value.int .u64 (M:Int):=by rw [← Int.natCast_mul,hM,J7 _ (by omega)]
        have e4:Value.int .u64 (IntKind.u64.wrap (4294967296 * (r:Int))) = Value.int .u64 (A:Int):=by rw [show (4294967296 * (r:Int)) = ((4294967296 * r:Nat):Int) by rw [Int.natCast_mul];rfl,hA,J7 _ (by omega)]
        have e5:Value.int .u64 (IntKind.u64.wrap ((A:Int)+(u0:Int))) = Value.int .u64 (N:Int):=by rw [← Int.natCast_add,hN,J7 _ (by omega)]
        have HT:=Lib.hid (show 4294967296 * r+u0 = N by rw [hA,hN])
        have HM:=Lib.hid hM
        clear hM hA hN Bk Bl
        by_cases hNM:N < M
        ·have sr:(N:Int) < (M:Int):=by omega
         have rA:=Lib.hid hNM
         have gv:=HD.out.over (j4.out ▸ gx.out) iL lj (.inr Mk)
         have fu:=gp.pos (r:=r) gv
         obtain ⟨q1,et⟩:∃q1,q = q1+1:=⟨q - 1,by omega⟩
         obtain ⟨r1,dj⟩:∃r1,r+v1 = r1:=⟨_,rfl⟩
         have e1:Value.int .u64 (IntKind.u64.wrap ((q:Int) - 1)) = Value.int .u64 (q1:Int):=by rw [IntKind.wrap_u64];congr 1;omega
         have e2:Value.int .u64 (IntKind.u64.wrap ((r:Int)+(v1:Int))) = Value.int .u64 (r1:Int):=by rw [IntKind.wrap_u64];congr 1;omega
         have j5:=Lib.hid gv
         have Vd:=Lib.hid et
         have ic:=Lib.hid dj
         clear gv et dj fu
         by_cases hb:(r1:Int) < 4294967296
         ·have dB:decide ((4294967296:Int)≤(r1:Int)) = false:=by rw [decide_eq_false_iff_not];omega
          iterate 110 (first | go_step | skip)
          clear e1 e2 dB e3 e4 e5
          go_wp2_with fail
          have hn:=HD.out.next j5.out nk
          rw [Vd.out,ic.out,Nat.add_sub_cancel] at hn
          have fl:(intOf (.int .u64 (q1:Int))).toNat < (intOf (.int .u64 (q:Int))).toNat:=by have:=Vd.out;simp only [intOf];omega
          have mO:max (intOf (.int .u64 (q1:Int))) 0 < intOf (.int .u64 (q:Int)):=by have:=Vd.out;simp only [intOf];omega
          first
           | exact ⟨⟨q1,r1,rfl,rfl,hn,trivial⟩,fl⟩
           | exact ⟨⟨q1,rfl,r1,rfl,hn⟩,mO⟩
           | exact ⟨⟨q1,rfl,r1,rfl,hn⟩,fl⟩
           | (refine ⟨?_,fl⟩
              repeat apply Exists.intro
              exact ⟨⟨q1,r1,rfl,rfl,hn,trivial⟩,rfl⟩)
         ·have dB:decide ((4294967296:Int)≤(r1:Int)) = true:=by rw [decide_eq_true_eq];omega
          have bM:q1 = (R * 4294967296+u0) / Y:=by
           have hs:=HD.out.stop j5.out iL pd nk
           rw [Vd.out,← j4.out] at hs
           exact hs
          have iN:=Lib.hid bM
          clear bM
          have t7:q1 < 4294967296:=by rw [iN.out];exact OD gx.out lj
          have bi:(hi * 18446744073709551616+lo) / y = qa * 4294967296+q1:=by
           have h2:=FB (A:=un * 4294967296+u1) (u0:=u0) (Y:=Y) (by omega)
           rw [hP.out.whole,HR.out,← gU.out,← iN.out,hP.out.yY,Io _ _ _ (Nat.two_pow_pos S)] at h2
           exact h2
          have Xv:IntKind.u64.wrap (IntKind.u64.wrap ((qa:Int) * 4294967296)+(q1:Int)) = (((hi * 18446744073709551616+lo) / y:Nat):Int):=by
           rw [IntKind.wrap_u64,IntKind.wrap_u64,bi]
           have:=ss.out
           omega
          have mP:=Lib.hid (show ((qa:Int) * 4294967296+(q1:Int)) = (((hi * 18446744073709551616+lo) / y:Nat):Int) by rw [bi,Int.natCast_add,Int.natCast_mul];rfl)
          clear bi
          iterate 250 (first | go_step | skip)
          go_ret2
          have mQ:((hi:Int) * 18446744073709551616+(lo:Int)) / (y:Int) = (((hi * 18446744073709551616+lo) / y:Nat):Int):=by rw [Int.natCast_ediv,Int.natCast_add,Int.natCast_mul];rfl
          exact ⟨⟨_,by first | (show Ending.returned (.tuple #[.int .u64 (((hi:Int) * 18446744073709551616+(lo:Int)) / (y:Int)),_]) = _;rw [mQ]) | (show Ending.returned (.tuple #[.int .u64 (IntKind.u64.wrap (IntKind.u64.wrap ((qa:Int) * 4294967296)+(q1:Int))),_]) = _;rw [Xv]) | (show Ending.returned (.tuple #[.int .u64 ((qa:Int) * 4294967296+(q1:Int)),_]) = _;rw [mP.out])⟩,aj _⟩
        ·have sr:¬(N:Int) < (M:Int):=by omega
         have Bm:decide ((4294967296:Int)≤(q:Int)) = false:=by rw [decide_eq_false_iff_not];omega
         have Bn:decide ((N:Int) < (M:Int)) = false:=by rw [decide_eq_false_iff_not];exact sr
         have rA:=Lib.hid hNM
         have bM:q = (R * 4294967296+u0) / Y:=by
          have hs:=HD.out.done iL Ml
          rw [← j4.out] at hs
          exact hs
         have iN:=Lib.hid bM
         clear bM
         have t7:q < 4294967296:=by rw [iN.out];exact OD gx.out lj
         have bi:(hi * 18446744073709551616+lo) / y = qa * 4294967296+q:=by
          have h2:=FB (A:=un * 4294967296+u1) (u0:=u0) (Y:=Y) (by omega)
          rw [hP.out.whole,HR.out,← gU.out,← iN.out,hP.out.yY,Io _ _ _ (Nat.two_pow_pos S)] at h2
          exact h2
         have Xv:IntKind.u64.wrap (IntKind.u64.wrap ((qa:Int) * 4294967296)+(q:Int)) = (((hi * 18446744073709551616+lo) / y:Nat):Int):=by
          rw [IntKind.wrap_u64,IntKind.wrap_u64,bi]
          have:=ss.out
          omega
         have mP:=Lib.hid (show ((qa:Int) * 4294967296+(q:Int)) = (((hi * 18446744073709551616+lo) / y:Nat):Int) by rw [bi,Int.natCast_add,Int.natCast_mul];rfl)
         clear bi
         iterate 250 (first | go_step | skip)
         go_ret2
         have mQ:((hi:Int) * 18446744073709551616+(lo:Int)) / (y:Int) = (((hi * 18446744073709551616+lo) / y:Nat):Int):=by rw [Int.natCast_ediv,Int.natCast_add,Int.natCast_mul];rfl
         exact ⟨⟨_,by first | (show Ending.returned (.tuple #[.int .u64 (((hi:Int) * 18446744073709551616+(lo:Int)) / (y:Int)),_]) = _;rw [mQ]) | (show Ending.returned (.tuple #[.int .u64 (IntKind.u64.wrap (IntKind.u64.wrap ((qa:Int) * 4294967296)+(q:Int))),_]) = _;rw [Xv]) | (show Ending.returned (.tuple #[.int .u64 ((qa:Int) * 4294967296+(q:Int)),_]) = _;rw [mP.out])⟩,aj _⟩
       ·have gv:=HD.out.over (j4.out ▸ gx.out) iL lj (.inl (by omega))
        have fu:=gp.pos (r:=r) gv
        obtain ⟨q1,et⟩:∃q1,q = q1+1:=⟨q - 1,by omega⟩
        obtain ⟨r1,dj⟩:∃r1,r+v1 = r1:=⟨_,rfl⟩
        have e1:Value.int .u64 (IntKind.u64.wrap ((q:Int) - 1)) = Value.int .u64 (q1:Int):=by rw [IntKind.wrap_u64];congr 1;omega
        have e2:Value.int .u64 (IntKind.u64.wrap ((r:Int)+(v1:Int))) = Value.int .u64 (r1:Int):=by rw [IntKind.wrap_u64];congr 1;omega
        have j5:=Lib.hid gv
        have Vd:=Lib.hid et
        have ic:=Lib.hid dj
        clear gv et dj fu
        by_cases hb:(r1:Int) < 4294967296
        ·have dB:decide ((4294967296:Int)≤(r1:Int)) = false:=by rw [decide_eq_false_iff_not];omega
         iterate 110 (first | go_step | skip)
         clear e1 e2 dB
         go_wp2_with fail
         have hn:=HD.out.next j5.out nk
         rw [Vd.out,ic.out,Nat.add_sub_cancel] at hn
         have fl:(intOf (.int .u64 (q1:Int))).toNat < (intOf (.int .u64 (q:Int))).toNat:=by have:=Vd.out;simp only [intOf];omega
         have mO:max (intOf (.int .u64 (q1:Int))) 0 < intOf (.int .u64 (q:Int)):=by have:=Vd.out;simp only [intOf];omega
         first
          | exact ⟨⟨q1,r1,rfl,rfl,hn,trivial⟩,fl⟩
          | exact ⟨⟨q1,rfl,r1,rfl,hn⟩,mO⟩
          | exact ⟨⟨q1,rfl,r1,rfl,hn⟩,fl⟩
          | (refine ⟨?_,fl⟩
             repeat apply Exists.intro
             exact ⟨⟨q1,r1,rfl,rfl,hn,trivial⟩,rfl⟩)
        ·have dB:decide ((4294967296:Int)≤(r1:Int)) = true:=by rw [decide_eq_true_eq];omega
         have bM:q1 = (R * 4294967296+u0) / Y:=by
          have hs:=HD.out.stop j5.out iL pd nk
          rw [Vd.out,← j4.out] at hs
          exact hs
         have iN:=Lib.hid bM
         clear bM
         have t7:q1 < 4294967296:=by rw [iN.out];exact OD gx.out lj
         have bi:(hi * 18446744073709551616+lo) / y = qa * 4294967296+q1:=by
          have h2:=FB (A:=un * 4294967296+u1) (u0:=u0) (Y:=Y) (by omega)
          rw [hP.out.whole,HR.out,← gU.out,← iN.out,hP.out.yY,Io _ _ _ (Nat.two_pow_pos S)] at h2
          exact h2
         have Xv:IntKind.u64.wrap (IntKind.u64.wrap ((qa:Int) * 4294967296)+(q1:Int)) = (((hi * 18446744073709551616+lo) / y:Nat):Int):=by
          rw [IntKind.wrap_u64,IntKind.wrap_u64,bi]
          have:=ss.out
          omega
         have mP:=Lib.hid (show ((qa:Int) * 4294967296+(q1:Int)) = (((hi * 18446744073709551616+lo) / y:Nat):Int) by rw [bi,Int.natCast_add,Int.natCast_mul];rfl)
         clear bi
         iterate 250 (first | go_step | skip)
         go_ret2
         have mQ:((hi:Int) * 18446744073709551616+(lo:Int)) / (y:Int) = (((hi * 18446744073709551616+lo) / y:Nat):Int):=by rw [Int.natCast_ediv,Int.natCast_add,Int.natCast_mul];rfl
         exact ⟨⟨_,by first | (show Ending.returned (.tuple #[.int .u64 (((hi:Int) * 18446744073709551616+(lo:Int)) / (y:Int)),_]) = _;rw [mQ]) | (show Ending.returned (.tuple #[.int .u64 (IntKind.u64.wrap (IntKind.u64.wrap ((qa:Int) * 4294967296)+(q1:Int))),_]) = _;rw [Xv]) | (show Ending.returned (.tuple #[.int .u64 ((qa:Int) * 4294967296+(q1:Int)),_]) = _;rw [mP.out])⟩,aj _⟩
    ·have sr:¬(N:Int) < (M:Int):=by omega
     have Bm:decide ((4294967296:Int)≤(q:Int)) = false:=by rw [decide_eq_false_iff_not];omega
     have Bn:decide ((N:Int) < (M:Int)) = false:=by rw [decide_eq_false_iff_not];exact sr
     have rA:=Lib.hid hNM
     have bM:q = (un * 4294967296+u1) / Y:=by
      have hs:=HD.out.done iL Ml
      rw [← j4.out] at hs
      exact hs
     obtain ⟨qa,hqa⟩:∃qa,qa = q:=⟨_,rfl⟩
     subst hqa
     have gU:=Lib.hid bM
     clear bM
     have ss:=Lib.hid (show qa < 4294967296 by rw [gU.out];exact OD xh xf)
     have sv:=QV un u1 Y (by omega) QY qa gU.out
     obtain ⟨R,hR⟩:∃R,(un * 4294967296+u1) % Y = R:=⟨_,rfl⟩
     rw [hR] at sv
     have sw:R < Y:=by rw [← hR];exact Nat.mod_lt _ (by omega)
     have sx:=vp R v1 (by omega)
     have pe:=Nq R v1 (by omega)
     have gw:=gp.start (un:=R) (v1:=v1) (v0:=v0) (u0:=u0) (j4.out ▸ sw) iL pS pd lj
     generalize ev:R - R / v1 * v1 = r0 at pe gw
     generalize kz:R / v1 = q0 at sx pe gw
     have sy:=Lib.hid gw
     have HR:=Lib.hid hR
     have gx:=Lib.hid sw
     replace sv:=congrArg (Value.int .u64) sv
     replace sx:=congrArg (Value.int .u64) sx
     replace pe:=congrArg (Value.int .u64) pe
     clear kz ev gw hR sw
     iterate 250 (first | go_step | skip)
     obtain ⟨wo,hwo⟩:∃wo,wo = wr:=⟨_,rfl⟩
     subst hwo
     go_loopw [18,16] (fun a b wr=>∃q r:Nat,a = .int .u64 q∧b = .int .u64 r∧gp R v1 v0 u0 q r∧wr = wo) (fun a _ _=>(intOf a).toNat)
     case atStart=>exact ⟨q0,r0,rfl,rfl,sy.out,rfl⟩
     case round =>
      obtain ⟨q,r,rfl,rfl,hD,rfl⟩:=hrel
      have Bi:=hD.low
      have Bj:=hD.Dm
      have HD:=Lib.hid hD
      clear hD
      by_cases hq4:(q:Int) < 4294967296
      ·obtain ⟨M,hM⟩:∃M,q * v0 = M:=⟨_,rfl⟩
       obtain ⟨A,hA⟩:∃A,4294967296 * r = A:=⟨_,rfl⟩
       obtain ⟨N,hN⟩:∃N,A+u0 = N:=⟨_,rfl⟩
       have Bk:M≤4294967296 * 4294967295:=by rw [← hM];exact Nat.mul_le_mul (by omega) (by omega)
       have Bl:A≤4294967296 * 4294967295:=by rw [← hA];exact Nat.mul_le_mul (Nat.le_refl _) (by omega)
       have e3:Value.int .u64 (IntKind.u64.wrap ((q:Int) * (v0:Int))) = Value.int .u64 (M:Int):=by rw [← Int.natCast_mul,hM,J7 _ (by omega)]
       have e4:Value.int .u64 (IntKind.u64.wrap (4294967296 * (r:Int))) = Value.int .u64 (A:Int):=by rw [show (4294967296 * (r:Int)) = ((4294967296 * r:Nat):Int) by rw [Int.natCast_mul];rfl,hA,J7 _ (by omega)]
       have e5:Value.int .u64 (IntKind.u64.wrap ((A:Int)+(u0:Int))) = Value.int .u64 (N:Int):=by rw [← Int.natCast_add,hN,J7 _ (by omega)]
       have HT:=Lib.hid (show 4294967296 * r+u0 = N by rw [hA,hN])
       have HM:=Lib.hid hM
       clear hM hA hN Bk Bl
       by_cases hNM:N < M
       ·have sr:(N:Int) < (M:Int):=by omega
        have rA:=Lib.hid hNM
        have gv:=HD.out.over (j4.out ▸ gx.out) iL lj (.inr Mk)
        have fu:=gp.pos (r:=r) gv
        obtain ⟨q1,et⟩:∃q1,q = q1+1:=⟨q - 1,by omega⟩
        obtain ⟨r1,dj⟩:∃r1,r+v1 = r1:=⟨_,rfl⟩
        have e1:Value.int .u64 (IntKind.u64.wrap ((q:Int) - 1)) = Value.int .u64 (q1:Int):=by rw [IntKind.wrap_u64];congr 1;omega
        have e2:Value.int .u64 (IntKind.u64.wrap ((r:Int)+(v1:Int))) = Value.int .u64 (r1:Int):=by rw [IntKind.wrap_u64];congr 1;omega
        have j5:=Lib.hid gv
        have Vd:=Lib.hid et
        have ic:=Lib.hid dj
        clear gv et dj fu
        by_cases hb:(r1:Int) < 4294967296
        ·have dB:decide ((4294967296:Int)≤(r1:Int)) = false:=by rw [decide_eq_false_iff_not];omega
         iterate 110 (first | go_step | skip)
         clear e1 e2 dB e3 e4 e5
         go_wp2_with fail
         have hn:=HD.out.next j5.out nk
         rw [Vd.out,ic.out,Nat.add_sub_cancel] at hn
         have fl:(intOf (.int .u64 (q1:Int))).toNat < (intOf (.int .u64 (q:Int))).toNat:=by have:=Vd.out;simp only [intOf];omega
         have mO:max (intOf (.int .u64 (q1:Int))) 0 < intOf (.int .u64 (q:Int)):=by have:=Vd.out;simp only [intOf];omega
         first
          | exact ⟨⟨q1,r1,rfl,rfl,hn,trivial⟩,fl⟩
          | exact ⟨⟨q1,rfl,r1,rfl,hn⟩,mO⟩
          | exact ⟨⟨q1,rfl,r1,rfl,hn⟩,fl⟩
          | (refine ⟨?_,fl⟩
             repeat apply Exists.intro
             exact ⟨⟨q1,r1,rfl,rfl,hn,trivial⟩,rfl⟩)
        ·have dB:decide ((4294967296:Int)≤(r1:Int)) = true:=by rw [decide_eq_true_eq];omega
         have bM:q1 = (R * 4294967296+u0) / Y:=by
          have hs:=HD.out.stop j5.out iL pd nk
          rw [Vd.out,← j4.out] at hs
          exact hs
         have iN:=Lib.hid bM
         clear bM
         have t7:q1 < 4294967296:=by rw [iN.out];exact OD gx.out lj
         have bi:(hi * 18446744073709551616+lo) / y = qa * 4294967296+q1:=by
          have h2:=FB (A:=un * 4294967296+u1) (u0:=u0) (Y:=Y) (by omega)
          rw [hP.out.whole,HR.out,← gU.out,← iN.out,hP.out.yY,Io _ _ _ (Nat.two_pow_pos S)] at h2
          exact h2
         have Xv:IntKind.u64.wrap (IntKind.u64.wrap ((qa:Int) * 4294967296)+(q1:Int)) = (((hi * 18446744073709551616+lo) / y:Nat):Int):=by
          rw [IntKind.wrap_u64,IntKind.wrap_u64,bi]
          have:=ss.out
          omega
         have mP:=Lib.hid (show ((qa:Int) * 4294967296+(q1:Int)) = (((hi * 18446744073709551616+lo) / y:Nat):Int) by rw [bi,Int.natCast_add,Int.natCast_mul];rfl)
         clear bi
         iterate 250 (first | go_step | skip)
         go_ret2
         have mQ:((hi:Int) * 18446744073709551616+(lo:Int)) / (y:Int) = (((hi * 18446744073709551616+lo) / y:Nat):Int):=by rw [Int.natCast_ediv,Int.natCast_add,Int.natCast_mul];rfl
         exact ⟨⟨_,by first | (show Ending.returned (.tuple #[.int .u64 (((hi:Int) * 18446744073709551616+(lo:Int)) / (y:Int)),_]) = _;rw [mQ]) | (show Ending.returned (.tuple #[.int .u64 (IntKind.u64.wrap (IntKind.u64.wrap ((qa:Int) * 4294967296)+(q1:Int))),_]) = _;rw [Xv]) | (show Ending.returned (.tuple #[.int .u64 ((qa:Int) * 4294967296+(q1:Int)),_]) = _;rw [mP.out])⟩,aj _⟩
       ·have sr:¬(N:Int) < (M:Int):=by omega
        have Bm:decide ((4294967296:Int)≤(q:Int)) = false:=by rw [decide_eq_false_iff_not];omega
        have Bn:decide ((N:Int) < (M:Int)) = false:=by rw [decide_eq_false_iff_not];exact sr
        have rA:=Lib.hid hNM
        have bM:q = (R * 4294967296+u0) / Y:=by
         have hs:=HD.out.done iL Ml
         rw [← j4.out] at hs
         exact hs
        have iN:=Lib.hid bM
        clear bM
        have t7:q < 4294967296:=by rw [iN.out];exact OD gx.out lj
        have bi:(hi * 18446744073709551616+lo) / y = qa * 4294967296+q:=by
         have h2:=FB (A:=un * 4294967296+u1) (u0:=u0) (Y:=Y) (by omega)
         rw [hP.out.whole,HR.out,← gU.out,← iN.out,hP.out.yY,Io _ _ _ (Nat.two_pow_pos S)] at h2
         exact h2
        have Xv:IntKind.u64.wrap (IntKind.u64.wrap ((qa:Int) * 4294967296)+(q:Int)) = (((hi * 18446744073709551616+lo) / y:Nat):Int):=by
         rw [IntKind.wrap_u64,IntKind.wrap_u64,bi]
         have:=ss.out
         omega
        have mP:=Lib.hid (show ((qa:Int) * 4294967296+(q:Int)) = (((hi * 18446744073709551616+lo) / y:Nat):Int) by rw [bi,Int.natCast_add,Int.natCast_mul];rfl)
        clear bi
        iterate 250 (first | go_step | skip)
        go_ret2
        have mQ:((hi:Int) * 18446744073709551616+(lo:Int)) / (y:Int) = (((hi * 18446744073709551616+lo) / y:Nat):Int):=by rw [Int.natCast_ediv,Int.natCast_add,Int.natCast_mul];rfl
        exact ⟨⟨_,by first | (show Ending.returned (.tuple #[.int .u64 (((hi:Int) * 18446744073709551616+(lo:Int)) / (y:Int)),_]) = _;rw [mQ]) | (show Ending.returned (.tuple #[.int .u64 (IntKind.u64.wrap (IntKind.u64.wrap ((qa:Int) * 4294967296)+(q:Int))),_]) = _;rw [Xv]) | (show Ending.returned (.tuple #[.int .u64 ((qa:Int) * 4294967296+(q:Int)),_]) = _;rw [mP.out])⟩,aj _⟩
      ·have gv:=HD.out.over (j4.out ▸ gx.out) iL lj (.inl (by omega))
       have fu:=gp.pos (r:=r) gv
       obtain ⟨q1,et⟩:∃q1,q = q1+1:=⟨q - 1,by omega⟩
       obtain ⟨r1,dj⟩:∃r1,r+v1 = r1:=⟨_,rfl⟩
       have e1:Value.int .u64 (IntKind.u64.wrap ((q:Int) - 1)) = Value.int .u64 (q1:Int):=by rw [IntKind.wrap_u64];congr 1;omega
       have e2:Value.int .u64 (IntKind.u64.wrap ((r:Int)+(v1:Int))) = Value.int .u64 (r1:Int):=by rw [IntKind.wrap_u64];congr 1;omega
       have j5:=Lib.hid gv
       have Vd:=Lib.hid et
       have ic:=Lib.hid dj
       clear gv et dj fu
       by_cases hb:(r1:Int) < 4294967296
       ·have dB:decide ((4294967296:Int)≤(r1:Int)) = false:=by rw [decide_eq_false_iff_not];omega
        iterate 110 (first | go_step | skip)
        clear e1 e2 dB
        go_wp2_with fail
        have hn:=HD.out.next j5.out nk
        rw [Vd.out,ic.out,Nat.add_sub_cancel] at hn
        have fl:(intOf (.int .u64 (q1:Int))).toNat < (intOf (.int .u64 (q:Int))).toNat:=by have:=Vd.out;simp only [intOf];omega
        have mO:max (intOf (.int .u64 (q1:Int))) 0 < intOf (.int .u64 (q:Int)):=by have:=Vd.out;simp only [intOf];omega
        first
         | exact ⟨⟨q1,r1,rfl,rfl,hn,trivial⟩,fl⟩
         | exact ⟨⟨q1,rfl,r1,rfl,hn⟩,mO⟩
         | exact ⟨⟨q1,rfl,r1,rfl,hn⟩,fl⟩
         | (refine ⟨?_,fl⟩
            repeat apply Exists.intro
            exact ⟨⟨q1,r1,rfl,rfl,hn,trivial⟩,rfl⟩)
       ·have dB:decide ((4294967296:Int)≤(r1:Int)) = true:=by rw [decide_eq_true_eq];omega
        have bM:q1 = (R * 4294967296+u0) / Y:=by
         have hs:=HD.out.stop j5.out iL pd nk
         rw [Vd.out,← j4.out] at hs
         exact hs
        have iN:=Lib.hid bM
        clear bM
        have t7:q1 < 4294967296:=by rw [iN.out];exact OD gx.out lj
        have bi:(hi * 18446744073709551616+lo) / y = qa * 4294967296+q1:=by
         have h2:=FB (A:=un * 4294967296+u1) (u0:=u0) (Y:=Y) (by omega)
         rw [hP.out.whole,HR.out,← gU.out,← iN.out,hP.out.yY,Io _ _ _ (Nat.two_pow_pos S)] at h2
         exact h2
        have Xv:IntKind.u64.wrap (IntKind.u64.wrap ((qa:Int) * 4294967296)+(q1:Int)) = (((hi * 18446744073709551616+lo) / y:Nat):Int):=by
         rw [IntKind.wrap_u64,IntKind.wrap_u64,bi]
         have:=ss.out
         omega
        have mP:=Lib.hid (show ((qa:Int) * 4294967296+(q1:Int)) = (((hi * 18446744073709551616+lo) / y:Nat):Int) by rw [bi,Int.natCast_add,Int.natCast_mul];rfl)
        clear bi
        iterate 250 (first | go_step | skip)
        go_ret2
        have mQ:((hi:Int) * 18446744073709551616+(lo:Int)) / (y:Int) = (((hi * 18446744073709551616+lo) / y:Nat):Int):=by rw [Int.natCast_ediv,Int.natCast_add,Int.natCast_mul];rfl
        exact ⟨⟨_,by first | (show Ending.returned (.tuple #[.int .u64 (((hi:Int) * 18446744073709551616+(lo:Int)) / (y:Int)),_]) = _;rw [mQ]) | (show Ending.returned (.tuple #[.int .u64 (IntKind.u64.wrap (IntKind.u64.wrap ((qa:Int) * 4294967296)+(q1:Int))),_]) = _;rw [Xv]) | (show Ending.returned (.tuple #[.int .u64 ((qa:Int) * 4294967296+(q1:Int)),_]) = _;rw [mP.out])⟩,aj _⟩
   ·have gv:=HD.out.over (j4.out ▸ xh) iL xf (.inl (by omega))
    have fu:=gp.pos (r:=r) gv
    obtain ⟨q1,et⟩:∃q1,q = q1+1:=⟨q - 1,by omega⟩
    obtain ⟨r1,dj⟩:∃r1,r+v1 = r1:=⟨_,rfl⟩
    have e1:Value.int .u64 (IntKind.u64.wrap ((q:Int) - 1)) = Value.int .u64 (q1:Int):=by rw [IntKind.wrap_u64];congr 1;omega
    have e2:Value.int .u64 (IntKind.u64.wrap ((r:Int)+(v1:Int))) = Value.int .u64 (r1:Int):=by rw [IntKind.wrap_u64];congr 1;omega
    have j5:=Lib.hid gv
    have Vd:=Lib.hid et
    have ic:=Lib.hid dj
    clear gv et dj fu
    by_cases hb:(r1:Int) < 4294967296
    ·have dB:decide ((4294967296:Int)≤(r1:Int)) = false:=by rw [decide_eq_false_iff_not];omega
     iterate 110 (first | go_step | skip)
     clear e1 e2 dB
     go_wp2_with fail
     have hn:=HD.out.next j5.out nk
     rw [Vd.out,ic.out,Nat.add_sub_cancel] at hn
     have fl:(intOf (.int .u64 (q1:Int))).toNat < (intOf (.int .u64 (q:Int))).toNat:=by have:=Vd.out;simp only [intOf];omega
     have mO:max (intOf (.int .u64 (q1:Int))) 0 < intOf (.int .u64 (q:Int)):=by have:=Vd.out;simp only [intOf];omega
     first
      | exact ⟨⟨q1,r1,rfl,rfl,hn,trivial⟩,fl⟩
      | exact ⟨⟨q1,rfl,r1,rfl,hn⟩,mO⟩
      | exact ⟨⟨q1,rfl,r1,rfl,hn⟩,fl⟩
      | (refine ⟨?_,fl⟩
         repeat apply Exists.intro
         exact ⟨⟨q1,r1,rfl,rfl,hn,trivial⟩,rfl⟩)
    ·have dB:decide ((4294967296:Int)≤(r1:Int)) = true:=by rw [decide_eq_true_eq];omega
     have bM:q1 = (un * 4294967296+u1) / Y:=by
      have hs:=HD.out.stop j5.out iL pd nk
      rw [Vd.out,← j4.out] at hs
      exact hs
     obtain ⟨qa,hqa⟩:∃qa,qa = q1:=⟨_,rfl⟩
     subst hqa
     have gU:=Lib.hid bM
     clear bM
     have ss:=Lib.hid (show qa < 4294967296 by rw [gU.out];exact OD xh xf)
     have sv:=QV un u1 Y (by omega) QY qa gU.out
     obtain ⟨R,hR⟩:∃R,(un * 4294967296+u1) % Y = R:=⟨_,rfl⟩
     rw [hR] at sv
     have sw:R < Y:=by rw [← hR];exact Nat.mod_lt _ (by omega)
     have sx:=vp R v1 (by omega)
     have pe:=Nq R v1 (by omega)
     have gw:=gp.start (un:=R) (v1:=v1) (v0:=v0) (u0:=u0) (j4.out ▸ sw) iL pS pd lj
     generalize ev:R - R / v1 * v1 = r0 at pe gw
     generalize kz:R / v1 = q0 at sx pe gw
     have sy:=Lib.hid gw
     have HR:=Lib.hid hR
     have gx:=Lib.hid sw
     replace sv:=congrArg (Value.int .u64) sv
     replace sx:=congrArg (Value.int .u64) sx
     replace pe:=congrArg (Value.int .u64) pe
     clear kz ev gw hR sw
     iterate 250 (first | go_step | skip)
     obtain ⟨wo,hwo⟩:∃wo,wo = wr:=⟨_,rfl⟩
     subst hwo
     go_loopw [18,16] (fun a b wr=>∃q r:Nat,a = .int .u64 q∧b = .int .u64 r∧gp R v1 v0 u0 q r∧wr = wo) (fun a _ _=>(intOf a).toNat)
     case atStart=>exact ⟨q0,r0,rfl,rfl,sy.out,rfl⟩
     case round =>
      obtain ⟨q,r,rfl,rfl,hD,rfl⟩:=hrel
      have Bi:=hD.low
      have Bj:=hD.Dm
      have HD:=Lib.hid hD
      clear hD
      by_cases hq4:(q:Int) < 4294967296
      ·obtain ⟨M,hM⟩:∃M,q * v0 = M:=⟨_,rfl⟩
       obtain ⟨A,hA⟩:∃A,4294967296 * r = A:=⟨_,rfl⟩
       obtain ⟨N,hN⟩:∃N,A+u0 = N:=⟨_,rfl⟩
       have Bk:M≤4294967296 * 4294967295:=by rw [← hM];exact Nat.mul_le_mul (by omega) (by omega)
       have Bl:A≤4294967296 * 4294967295:=by rw [← hA];exact Nat.mul_le_mul (Nat.le_refl _) (by omega)
       have e3:Value.int .u64 (IntKind.u64.wrap ((q:Int) * (v0:Int))) = Value.int .u64 (M:Int):=by rw [← Int.natCast_mul,hM,J7 _ (by omega)]
       have e4:Value.int .u64 (IntKind.u64.wrap (4294967296 * (r:Int))) = Value.int .u64 (A:Int):=by rw [show (4294967296 * (r:Int)) = ((4294967296 * r:Nat):Int) by rw [Int.natCast_mul];rfl,hA,J7 _ (by omega)]
       have e5:Value.int .u64 (IntKind.u64.wrap ((A:Int)+(u0:Int))) = Value.int .u64 (N:Int):=by rw [← Int.natCast_add,hN,J7 _ (by omega)]
       have HT:=Lib.hid (show 4294967296 * r+u0 = N by rw [hA,hN])
       have HM:=Lib.hid hM
       clear hM hA hN Bk Bl
       by_cases hNM:N < M
       ·have sr:(N:Int) < (M:Int):=by omega
        have rA:=Lib.hid hNM
        have gv:=HD.out.over (j4.out ▸ gx.out) iL lj (.inr Mk)
        have fu:=gp.pos (r:=r) gv
        obtain ⟨q1,et⟩:∃q1,q = q1+1:=⟨q - 1,by omega⟩
        obtain ⟨r1,dj⟩:∃r1,r+v1 = r1:=⟨_,rfl⟩
        have e1:Value.int .u64 (IntKind.u64.wrap ((q:Int) - 1)) = Value.int .u64 (q1:Int):=by rw [IntKind.wrap_u64];congr 1;omega
        have e2:Value.int .u64 (IntKind.u64.wrap ((r:Int)+(v1:Int))) = Value.int .u64 (r1:Int):=by rw [IntKind.wrap_u64];congr 1;omega
        have j5:=Lib.hid gv
        have Vd:=Lib.hid et
        have ic:=Lib.hid dj
        clear gv et dj fu
        by_cases hb:(r1:Int) < 4294967296
        ·have dB:decide ((4294967296:Int)≤(r1:Int)) = false:=by rw [decide_eq_false_iff_not];omega
         iterate 110 (first | go_step | skip)
         clear e1 e2 dB e3 e4 e5
         go_wp2_with fail
         have hn:=HD.out.next j5.out nk
         rw [Vd.out,ic.out,Nat.add_sub_cancel] at hn
         have fl:(intOf (.int .u64 (q1:Int))).toNat < (intOf (.int .u64 (q:Int))).toNat:=by have:=Vd.out;simp only [intOf];omega
         have mO:max (intOf (.int .u64 (q1:Int))) 0 < intOf (.int .u64 (q:Int)):=by have:=Vd.out;simp only [intOf];omega
         first
          | exact ⟨⟨q1,r1,rfl,rfl,hn,trivial⟩,fl⟩
          | exact ⟨⟨q1,rfl,r1,rfl,hn⟩,mO⟩
          | exact ⟨⟨q1,rfl,r1,rfl,hn⟩,fl⟩
          | (refine ⟨?_,fl⟩
             repeat apply Exists.intro
             exact ⟨⟨q1,r1,rfl,rfl,hn,trivial⟩,rfl⟩)
        ·have dB:decide ((4294967296:Int)≤(r1:Int)) = true:=by rw [decide_eq_true_eq];omega
         have bM:q1 = (R * 4294967296+u0) / Y:=by
          have hs:=HD.out.stop j5.out iL pd nk
          rw [Vd.out,← j4.out] at hs
          exact hs
         have iN:=Lib.hid bM
         clear bM
         have t7:q1 < 4294967296:=by rw [iN.out];exact OD gx.out lj
         have bi:(hi * 18446744073709551616+lo) / y = qa * 4294967296+q1:=by
          have h2:=FB (A:=un * 4294967296+u1) (u0:=u0) (Y:=Y) (by omega)
          rw [hP.out.whole,HR.out,← gU.out,← iN.out,hP.out.yY,Io _ _ _ (Nat.two_pow_pos S)] at h2
          exact h2
         have Xv:IntKind.u64.wrap (IntKind.u64.wrap ((qa:Int) * 4294967296)+(q1:Int)) = (((hi * 18446744073709551616+lo) / y:Nat):Int):=by
          rw [IntKind.wrap_u64,IntKind.wrap_u64,bi]
          have:=ss.out
          omega
         have mP:=Lib.hid (show ((qa:Int) * 4294967296+(q1:Int)) = (((hi * 18446744073709551616+lo) / y:Nat):Int) by rw [bi,Int.natCast_add,Int.natCast_mul];rfl)
         clear bi
         iterate 250 (first | go_step | skip)
         go_ret2
         have mQ:((hi:Int) * 18446744073709551616+(lo:Int)) / (y:Int) = (((hi * 18446744073709551616+lo) / y:Nat):Int):=by rw [Int.natCast_ediv,Int.natCast_add,Int.natCast_mul];rfl
         exact ⟨⟨_,by first | (show Ending.returned (.tuple #[.int .u64 (((hi:Int) * 18446744073709551616+(lo:Int)) / (y:Int)),_]) = _;rw [mQ]) | (show Ending.returned (.tuple #[.int .u64 (IntKind.u64.wrap (IntKind.u64.wrap ((qa:Int) * 4294967296)+(q1:Int))),_]) = _;rw [Xv]) | (show Ending.returned (.tuple #[.int .u64 ((qa:Int) * 4294967296+(q1:Int)),_]) = _;rw [mP.out])⟩,aj _⟩
       ·have sr:¬(N:Int) < (M:Int):=by omega
        have Bm:decide ((4294967296:Int)≤(q:Int)) = false:=by rw [decide_eq_false_iff_not];omega
        have Bn:decide ((N:Int) < (M:Int)) = false:=by rw [decide_eq_false_iff_not];exact sr
        have rA:=Lib.hid hNM
        have bM:q = (R * 4294967296+u0) / Y:=by
         have hs:=HD.out.done iL Ml
         rw [← j4.out] at hs
         exact hs
        have iN:=Lib.hid bM
        clear bM
        have t7:q < 4294967296:=by rw [iN.out];exact OD gx.out lj
        have bi:(hi * 18446744073709551616+lo) / y = qa * 4294967296+q:=by
         have h2:=FB (A:=un * 4294967296+u1) (u0:=u0) (Y:=Y) (by omega)
         rw [hP.out.whole,HR.out,← gU.out,← iN.out,hP.out.yY,Io _ _ _ (Nat.two_pow_pos S)] at h2
         exact h2
        have Xv:IntKind.u64.wrap (IntKind.u64.wrap ((qa:Int) * 4294967296)+(q:Int)) = (((hi * 18446744073709551616+lo) / y:Nat):Int):=by
         rw [IntKind.wrap_u64,IntKind.wrap_u64,bi]
         have:=ss.out
         omega
        have mP:=Lib.hid (show ((qa:Int) * 4294967296+(q:Int)) = (((hi * 18446744073709551616+lo) / y:Nat):Int) by rw [bi,Int.natCast_add,Int.natCast_mul];rfl)
        clear bi
        iterate 250 (first | go_step | skip)
        go_ret2
        have mQ:((hi:Int) * 18446744073709551616+(lo:Int)) / (y:Int) = (((hi * 18446744073709551616+lo) / y:Nat):Int):=by rw [Int.natCast_ediv,Int.natCast_add,Int.natCast_mul];rfl
        exact ⟨⟨_,by first | (show Ending.returned (.tuple #[.int .u64 (((hi:Int) * 18446744073709551616+(lo:Int)) / (y:Int)),_]) = _;rw [mQ]) | (show Ending.returned (.tuple #[.int .u64 (IntKind.u64.wrap (IntKind.u64.wrap ((qa:Int) * 4294967296)+(q:Int))),_]) = _;rw [Xv]) | (show Ending.returned (.tuple #[.int .u64 ((qa:Int) * 4294967296+(q:Int)),_]) = _;rw [mP.out])⟩,aj _⟩
      ·have gv:=HD.out.over (j4.out ▸ gx.out) iL lj (.inl (by omega))
       have fu:=gp.pos (r:=r) gv
       obtain ⟨q1,et⟩:∃q1,q = q1+1:=⟨q - 1,by omega⟩
       obtain ⟨r1,dj⟩:∃r1,r+v1 = r1:=⟨_,rfl⟩
       have e1:Value.int .u64 (IntKind.u64.wrap ((q:Int) - 1)) = Value.int .u64 (q1:Int):=by rw [IntKind.wrap_u64];congr 1;omega
       have e2:Value.int .u64 (IntKind.u64.wrap ((r:Int)+(v1:Int))) = Value.int .u64 (r1:Int):=by rw [IntKind.wrap_u64];congr 1;omega
       have j5:=Lib.hid gv
       have Vd:=Lib.hid et
       have ic:=Lib.hid dj
       clear gv et dj fu
       by_cases hb:(r1:Int) < 4294967296
       ·have dB:decide ((4294967296:Int)≤(r1:Int)) = false:=by rw [decide_eq_false_iff_not];omega
        iterate 110 (first | go_step | skip)
        clear e1 e2 dB
        go_wp2_with fail
        have hn:=HD.out.next j5.out nk
        rw [Vd.out,ic.out,Nat.add_sub_cancel] at hn
        have fl:(intOf (.int .u64 (q1:Int))).toNat < (intOf (.int .u64 (q:Int))).toNat:=by have:=Vd.out;simp only [intOf];omega
        have mO:max (intOf (.int .u64 (q1:Int))) 0 < intOf (.int .u64 (q:Int)):=by have:=Vd.out;simp only [intOf];omega
        first
         | exact ⟨⟨q1,r1,rfl,rfl,hn,trivial⟩,fl⟩
         | exact ⟨⟨q1,rfl,r1,rfl,hn⟩,mO⟩
         | exact ⟨⟨q1,rfl,r1,rfl,hn⟩,fl⟩
         | (refine ⟨?_,fl⟩
            repeat apply Exists.intro
            exact ⟨⟨q1,r1,rfl,rfl,hn,trivial⟩,rfl⟩)
       ·have dB:decide ((4294967296:Int)≤(r1:Int)) = true:=by rw [decide_eq_true_eq];omega
        have bM:q1 = (R * 4294967296+u0) / Y:=by
         have hs:=HD.out.stop j5.out iL pd nk
         rw [Vd.out,← j4.out] at hs
         exact hs
        have iN:=Lib.hid bM
        clear bM
        have t7:q1 < 4294967296:=by rw [iN.out];exact OD gx.out lj
        have bi:(hi * 18446744073709551616+lo) / y = qa * 4294967296+q1:=by
         have h2:=FB (A:=un * 4294967296+u1) (u0:=u0) (Y:=Y) (by omega)
         rw [hP.out.whole,HR.out,← gU.out,← iN.out,hP.out.yY,Io _ _ _ (Nat.two_pow_pos S)] at h2
         exact h2
        have Xv:IntKind.u64.wrap (IntKind.u64.wrap ((qa:Int) * 4294967296)+(q1:Int)) = (((hi * 18446744073709551616+lo) / y:Nat):Int):=by
         rw [IntKind.wrap_u64,IntKind.wrap_u64,bi]
         have:=ss.out
         omega
        have mP:=Lib.hid (show ((qa:Int) * 4294967296+(q1:Int)) = (((hi * 18446744073709551616+lo) / y:Nat):Int) by rw [bi,Int.natCast_add,Int.natCast_mul];rfl)
        clear bi
        iterate 250 (first | go_step | skip)
        go_ret2
        have mQ:((hi:Int) * 18446744073709551616+(lo:Int)) / (y:Int) = (((hi * 18446744073709551616+lo) / y:Nat):Int):=by rw [Int.natCast_ediv,Int.natCast_add,Int.natCast_mul];rfl
        exact ⟨⟨_,by first | (show Ending.returned (.tuple #[.int .u64 (((hi:Int) * 18446744073709551616+(lo:Int)) / (y:Int)),_]) = _;rw [mQ]) | (show Ending.returned (.tuple #[.int .u64 (IntKind.u64.wrap (IntKind.u64.wrap ((qa:Int) * 4294967296)+(q1:Int))),_]) = _;rw [Xv]) | (show Ending.returned (.tuple #[.int .u64 ((qa:Int) * 4294967296+(q1:Int)),_]) = _;rw [mP.out])⟩,aj _⟩
end Go.Proofs.YtajbbmembionpaaGreat
