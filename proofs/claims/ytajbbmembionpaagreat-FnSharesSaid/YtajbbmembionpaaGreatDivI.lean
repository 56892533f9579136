/- math/bits Div64. No condition. -/
import Derived.Test.YtajbbmembionpaaGreatDivP
import Derived.Test.YtajbbmembionpaaGreatRegion
namespace Go.Proofs.YtajbbmembionpaaGreat
open Go.ChangeShapes Go.WideShapes Go.ChangeAt Go.RowKit
set_option linter.unusedVariables false
set_option linter.unusedSimpArgs false
set_option maxHeartbeats 4000000
set_option maxRecDepth 100000
theorem Z5 (hi lo y:Nat) (hl:lo < 18446744073709551616) (hy:y < 18446744073709551616) (h:hi < y) (w:World) :
 Calls Tryz.prog 55 #[.int .u64 hi,.int .u64 lo,.int .u64 y] w fun e w'=>(∃r,e = .returned (.tuple #[.int .u64 (((hi * 18446744073709551616+lo) / y:Nat):Int),r]))∧Below w.heap.size w w':=by
 have bo:decide ((y:Int) = 0) = false:=by simp;omega
 have ar:decide ((y:Int)≤(hi:Int)) = false:=by simp;omega
 by_cases hz:hi = 0
 ·subst hz
  go_enter Tryz.func55,Tryz.ntmps55
  go_wp2_with fail
  go_region
  all_goals
   go_wp2
   go_ret2
   refine ⟨⟨.int .u64 ((lo:Int) % (y:Int)),?_⟩,aA (aj _)⟩
   have e0:IntKind.u64.wrap ((lo:Int) / (y:Int)) = (((0 * 18446744073709551616+lo) / y:Nat):Int):=by
    have h1:lo / y≤lo:=Nat.div_le_self _ _
    rw [Nat.zero_mul,Nat.zero_add,← Int.natCast_ediv]
    exact J7 _ (by omega)
   show Ending.returned (.tuple #[.int .u64 (IntKind.u64.wrap ((lo:Int) / (y:Int))),.int .u64 ((lo:Int) % (y:Int))]) = _
   rw [e0]
 ·have bb:decide ((hi:Int) = 0) = false:=by simp;omega
  obtain ⟨S,hS,gb,iY,pd⟩:=ZZ y (by omega) hy
  go_enter Tryz.func55,Tryz.ntmps55
  go_wp2_with fail
  refine (ZW (y:Int) _ (by omega) (by omega)).mono ?_
  rw [show (64 - (Lib.bitLen ((y:Int)).toNat:Int)) = (S:Int) by rw [Int.toNat_natCast];exact hS]
  rintro e w2 ⟨rfl,hw⟩
  simp only [hw]
  clear hw w2
  obtain ⟨Y,v1,v0,un,L,u1,u0,P⟩:=Z1 hi lo y S hl h gb iY pd
  have eY:=P.eY;have Nf:=P.Nf;have Ng:=P.Ng;have Ni:=P.Ni;have eL:=P.eL;have Nn:=P.Nn;have Nq:=P.Nq
  have ib:=P.ib;have pc:=P.pc;have ou:=P.ou;have ve:=P.ve;have kt:=P.kt;have lY:=P.lY;have vf:=P.vf
  have Ns:Y < 18446744073709551616:=by omega
  have lY0:0 < Y:=by omega
  have Ge:un < 18446744073709551616:=by omega
  have Sx:=tR un v1 Ge
  have Nt:=Kw un v1 Ge
  have ng:=f9.start (un:=un) (v1:=v1) (v0:=v0) (u0:=u1) (lY ▸ vf) ib pc ou ve
  generalize eA:un - un / v1 * v1 = r0 at Nt ng
  generalize kp:un / v1 = q0 at Sx Nt ng
  have rc:=Lib.hid ng
  have hP:=Lib.hid P
  have ja:=Lib.hid lY
  clear P iY pd lY kp eA ng
  go_wp2_with fail
  simp only [show ((y:Int) == 0) = false by simp;omega,show decide (y≤hi) = false by simp;omega,show ((hi:Int) == 0) = false by simp;omega]
  clear eY Nf Ng Ni eL Nn Nq Sx Nt
  go_loopw [15,16] (fun a b wr=>∃q r:Nat,a = .int .u64 q∧b = .int .u64 r∧f9 un v1 v0 u1 q r∧wr = w) (fun a _ _=>(intOf a).toNat)
  case atStart=>exact ⟨q0,r0,rfl,rfl,rc.out,rfl⟩
  case round =>
   obtain ⟨q,r,rfl,rfl,hD,rfl⟩:=hrel
   have za:=hD.vB
   have zb:=hD.Bi
   have HD:=Lib.hid hD
   clear hD
   by_cases hq4:(q:Int) < 4294967296
   ·obtain ⟨M,hM⟩:∃M,q * v0 = M:=⟨_,rfl⟩
    obtain ⟨A,hA⟩:∃A,4294967296 * r = A:=⟨_,rfl⟩
    obtain ⟨N,hN⟩:∃N,A+u1 = N:=⟨_,rfl⟩
    have zd:M≤4294967296 * 4294967295:=by rw [← hM];exact Nat.mul_le_mul (by omega) (by omega)
    have ze:A≤4294967296 * 4294967295:=by rw [← hA];exact Nat.mul_le_mul (Nat.le_refl _) (by omega)
    have e3:Value.int .u64 (IntKind.u64.wrap ((q:Int) * (v0:Int))) = Value.int .u64 (M:Int):=by rw [← Int.natCast_mul,hM,J7 _ (by omega)]
    have e4:Value.int .u64 (IntKind.u64.wrap (4294967296 * (r:Int))) = Value.int .u64 (A:Int):=by rw [show (4294967296 * (r:Int)) = ((4294967296 * r:Nat):Int) by rw [Int.natCast_mul];rfl,hA,J7 _ (by omega)]
    have e5:Value.int .u64 (IntKind.u64.wrap ((A:Int)+(u1:Int))) = Value.int .u64 (N:Int):=by rw [← Int.natCast_add,hN,J7 _ (by omega)]
    have HT:=Lib.hid (show 4294967296 * r+u1 = N by rw [hA,hN])
    have HM:=Lib.hid hM
    clear hM hA hN zd ze
    by_cases hNM:N < M
    ·have re:(N:Int) < (M:Int):=by omega
     have pT:=Lib.hid hNM
     have f':=HD.out.j9 (ja.out ▸ vf) ib ve (.inr I9)
     have fd:=f9.pos (r:=r) f'
     obtain ⟨q1,ei⟩:∃q1,q = q1+1:=⟨q - 1,by omega⟩
     obtain ⟨r1,cW⟩:∃r1,r+v1 = r1:=⟨_,rfl⟩
     have e1:Value.int .u64 (IntKind.u64.wrap ((q:Int) - 1)) = Value.int .u64 (q1:Int):=by rw [IntKind.wrap_u64];congr 1;omega
     have e2:Value.int .u64 (IntKind.u64.wrap ((r:Int)+(v1:Int))) = Value.int .u64 (r1:Int):=by rw [IntKind.wrap_u64];congr 1;omega
     have jb:=Lib.hid f'
     have Vd:=Lib.hid ei
     have gP:=Lib.hid cW
     clear f' ei cW fd
     by_cases X:(r1:Int) < 4294967296
     ·have dq:decide ((4294967296:Int)≤(r1:Int)) = false:=by rw [decide_eq_false_iff_not];omega
      iterate 110 (first | go_step | skip)
      clear e1 e2 dq e3 e4 e5
      go_wp2_with fail
      have Z:=HD.out.next jb.out mw
      rw [Vd.out,gP.out,Nat.add_sub_cancel] at Z
      have e9:(intOf (.int .u64 (q1:Int))).toNat < (intOf (.int .u64 (q:Int))).toNat:=by have:=Vd.out;simp only [intOf];omega
      have l':max (intOf (.int .u64 (q1:Int))) 0 < intOf (.int .u64 (q:Int)):=by have:=Vd.out;simp only [intOf];omega
      first
       | exact ⟨⟨q1,r1,rfl,rfl,Z,trivial⟩,e9⟩
       | exact ⟨⟨q1,rfl,r1,rfl,Z⟩,l'⟩
       | exact ⟨⟨q1,rfl,r1,rfl,Z⟩,e9⟩
       | (refine ⟨?_,e9⟩
          repeat apply Exists.intro
          exact ⟨⟨q1,r1,rfl,rfl,Z,trivial⟩,rfl⟩)
     ·have dq:decide ((4294967296:Int)≤(r1:Int)) = true:=by rw [decide_eq_true_eq];omega
      have bO:q1 = (un * 4294967296+u1) / Y:=by
       have hs:=HD.out.stop jb.out ib ou mw
       rw [Vd.out,← ja.out] at hs
       exact hs
      obtain ⟨qa,hqa⟩:∃qa,qa = q1:=⟨_,rfl⟩
      subst hqa
      have gC:=Lib.hid bO
      clear bO
      have rg:=Lib.hid (show qa < 4294967296 by rw [gC.out];exact OD vf ve)
      have rh:=Nr un u1 Y (by omega) Ns qa gC.out
      obtain ⟨R,hR⟩:∃R,(un * 4294967296+u1) % Y = R:=⟨_,rfl⟩
      rw [hR] at rh
      have ri:R < Y:=by rw [← hR];exact Nat.mod_lt _ (by omega)
      have rj:=tR R v1 (by omega)
      have ov:=Kw R v1 (by omega)
      have ga:=f9.start (un:=R) (v1:=v1) (v0:=v0) (u0:=u0) (ja.out ▸ ri) ib pc ou kt
      generalize eA:R - R / v1 * v1 = r0 at ov ga
      generalize kp:R / v1 = q0 at rj ov ga
      have rm:=Lib.hid ga
      have HR:=Lib.hid hR
      have g6:=Lib.hid ri
      replace rh:=congrArg (Value.int .u64) rh
      replace rj:=congrArg (Value.int .u64) rj
      replace ov:=congrArg (Value.int .u64) ov
      clear kp eA ga hR ri
      iterate 250 (first | go_step | skip)
      obtain ⟨wo,hwo⟩:∃wo,wo = wr:=⟨_,rfl⟩
      subst hwo
      go_loopw [18,16] (fun a b wr=>∃q r:Nat,a = .int .u64 q∧b = .int .u64 r∧f9 R v1 v0 u0 q r∧wr = wo) (fun a _ _=>(intOf a).toNat)
      case atStart=>exact ⟨q0,r0,rfl,rfl,rm.out,rfl⟩
      case round =>
       obtain ⟨q,r,rfl,rfl,hD,rfl⟩:=hrel
       have za:=hD.vB
       have zb:=hD.Bi
       have HD:=Lib.hid hD
       clear hD
       by_cases hq4:(q:Int) < 4294967296
       ·obtain ⟨M,hM⟩:∃M,q * v0 = M:=⟨_,rfl⟩
        obtain ⟨A,hA⟩:∃A,4294967296 * r = A:=⟨_,rfl⟩
        obtain ⟨N,hN⟩:∃N,A+u0 = N:=⟨_,rfl⟩
        have zd:M≤4294967296 * 4294967295:=by rw [← hM];exact Nat.mul_le_mul (by omega) (by omega)
        have ze:A≤4294967296 * 4294967295:=by rw [← hA];exact Nat.mul_le_mul (Nat.le_refl _) (by omega)
        have e3:Value.int .u64 (IntKind.u64.wrap ((q:Int) * (v0:Int))) = Value.int .u64 (M:Int):=by rw [← Int.natCast_mul,hM,J7 _ (by omega)]
        have e4:Value.int .u64 (IntKind.u64.wrap (4294967296 * (r:Int))) = Value.int .u64 (A:Int):=by rw [show (4294967296 * (r:Int)) = ((4294967296 * r:Nat):Int) by rw [Int.natCast_mul];rfl,hA,J7 _ (by omega)]
        have e5:Value.int .u64 (IntKind.u64.wrap ((A:Int)+(u0:Int))) = Value.int .u64 (N:Int):=by rw [← Int.natCast_add,hN,J7 _ (by omega)]
        have HT:=Lib.hid (show 4294967296 * r+u0 = N by rw [hA,hN])
        have HM:=Lib.hid hM
        clear hM hA hN zd ze
        by_cases hNM:N < M
        ·have re:(N:Int) < (M:Int):=by omega
         have pT:=Lib.hid hNM
         have f':=HD.out.j9 (ja.out ▸ g6.out) ib kt (.inr I9)
         have fd:=f9.pos (r:=r) f'
         obtain ⟨q1,ei⟩:∃q1,q = q1+1:=⟨q - 1,by omega⟩
         obtain ⟨r1,cW⟩:∃r1,r+v1 = r1:=⟨_,rfl⟩
         have e1:Value.int .u64 (IntKind.u64.wrap ((q:Int) - 1)) = Value.int .u64 (q1:Int):=by rw [IntKind.wrap_u64];congr 1;omega
         have e2:Value.int .u64 (IntKind.u64.wrap ((r:Int)+(v1:Int))) = Value.int .u64 (r1:Int):=by rw [IntKind.wrap_u64];congr 1;omega
         have jb:=Lib.hid f'
         have Vd:=Lib.hid ei
         have gP:=Lib.hid cW
         clear f' ei cW fd
         by_cases X:(r1:Int) < 4294967296
         ·have dq:decide ((4294967296:Int)≤(r1:Int)) = false:=by rw [decide_eq_false_iff_not];omega
          iterate 110 (first | go_step | skip)
          clear e1 e2 dq e3 e4 e5
          go_wp2_with fail
          have Z:=HD.out.next jb.out mw
          rw [Vd.out,gP.out,Nat.add_sub_cancel] at Z
          have e9:(intOf (.int .u64 (q1:Int))).toNat < (intOf (.int .u64 (q:Int))).toNat:=by have:=Vd.out;simp only [intOf];omega
          have l':max (intOf (.int .u64 (q1:Int))) 0 < intOf (.int .u64 (q:Int)):=by have:=Vd.out;simp only [intOf];omega
          first
           | exact ⟨⟨q1,r1,rfl,rfl,Z,trivial⟩,e9⟩
           | exact ⟨⟨q1,rfl,r1,rfl,Z⟩,l'⟩
           | exact ⟨⟨q1,rfl,r1,rfl,Z⟩,e9⟩
           | (refine ⟨?_,e9⟩
              repeat apply Exists.intro
              exact ⟨⟨q1,r1,rfl,rfl,Z,trivial⟩,rfl⟩)
         ·have dq:decide ((4294967296:Int)≤(r1:Int)) = true:=by rw [decide_eq_true_eq];omega
          have bO:q1 = (R * 4294967296+u0) / Y:=by
           have hs:=HD.out.stop jb.out ib ou mw
           rw [Vd.out,← ja.out] at hs
           exact hs
          have ic:=Lib.hid bO
          clear bO
          have vh:q1 < 4294967296:=by rw [ic.out];exact OD g6.out kt
          have bi:(hi * 18446744073709551616+lo) / y = qa * 4294967296+q1:=by
           have h2:=FB (A:=un * 4294967296+u1) (u0:=u0) (Y:=Y) (by omega)
           rw [hP.out.whole,HR.out,← gC.out,← ic.out,hP.out.yY,Io _ _ _ (Nat.two_pow_pos S)] at h2
           exact h2
          have Xv:IntKind.u64.wrap (IntKind.u64.wrap ((qa:Int) * 4294967296)+(q1:Int)) = (((hi * 18446744073709551616+lo) / y:Nat):Int):=by
           rw [IntKind.wrap_u64,IntKind.wrap_u64,bi]
           have:=rg.out
           omega
          have ma:=Lib.hid (show ((qa:Int) * 4294967296+(q1:Int)) = (((hi * 18446744073709551616+lo) / y:Nat):Int) by rw [bi,Int.natCast_add,Int.natCast_mul];rfl)
          clear bi
          iterate 250 (first | go_step | skip)
          go_ret2
          have mb:((hi:Int) * 18446744073709551616+(lo:Int)) / (y:Int) = (((hi * 18446744073709551616+lo) / y:Nat):Int):=by rw [Int.natCast_ediv,Int.natCast_add,Int.natCast_mul];rfl
          exact ⟨⟨_,by first | (show Ending.returned (.tuple #[.int .u64 (((hi:Int) * 18446744073709551616+(lo:Int)) / (y:Int)),_]) = _;rw [mb]) | (show Ending.returned (.tuple #[.int .u64 (IntKind.u64.wrap (IntKind.u64.wrap ((qa:Int) * 4294967296)+(q1:Int))),_]) = _;rw [Xv]) | (show Ending.returned (.tuple #[.int .u64 ((qa:Int) * 4294967296+(q1:Int)),_]) = _;rw [ma.out])⟩,aj _⟩
        ·have re:¬(N:Int) < (M:Int):=by omega
         have zf:decide ((4294967296:Int)≤(q:Int)) = false:=by rw [decide_eq_false_iff_not];omega
         have zg:decide ((N:Int) < (M:Int)) = false:=by rw [decide_eq_false_iff_not];exact re
         have pT:=Lib.hid hNM
         have bO:q = (R * 4294967296+u0) / Y:=by
          have hs:=HD.out.done ib Ja
          rw [← ja.out] at hs
          exact hs
         have ic:=Lib.hid bO
         clear bO
         have vh:q < 4294967296:=by rw [ic.out];exact OD g6.out kt
         have bi:(hi * 18446744073709551616+lo) / y = qa * 4294967296+q:=by
          have h2:=FB (A:=un * 4294967296+u1) (u0:=u0) (Y:=Y) (by omega)
          rw [hP.out.whole,HR.out,← gC.out,← ic.out,hP.out.yY,Io _ _ _ (Nat.two_pow_pos S)] at h2
          exact h2
         have Xv:IntKind.u64.wrap (IntKind.u64.wrap ((qa:Int) * 4294967296)+(q:Int)) = (((hi * 18446744073709551616+lo) / y:Nat):Int):=by
          rw [IntKind.wrap_u64,IntKind.wrap_u64,bi]
          have:=rg.out
          omega
         have ma:=Lib.hid (show ((qa:Int) * 4294967296+(q:Int)) = (((hi * 18446744073709551616+lo) / y:Nat):Int) by rw [bi,Int.natCast_add,Int.natCast_mul];rfl)
         clear bi
         iterate 250 (first | go_step | skip)
         go_ret2
         have mb:((hi:Int) * 18446744073709551616+(lo:Int)) / (y:Int) = (((hi * 18446744073709551616+lo) / y:Nat):Int):=by rw [Int.natCast_ediv,Int.natCast_add,Int.natCast_mul];rfl
         exact ⟨⟨_,by first | (show Ending.returned (.tuple #[.int .u64 (((hi:Int) * 18446744073709551616+(lo:Int)) / (y:Int)),_]) = _;rw [mb]) | (show Ending.returned (.tuple #[.int .u64 (IntKind.u64.wrap (IntKind.u64.wrap ((qa:Int) * 4294967296)+(q:Int))),_]) = _;rw [Xv]) | (show Ending.returned (.tuple #[.int .u64 ((qa:Int) * 4294967296+(q:Int)),_]) = _;rw [ma.out])⟩,aj _⟩
       ·have f':=HD.out.j9 (ja.out ▸ g6.out) ib kt (.inl (by omega))
        have fd:=f9.pos (r:=r) f'
        obtain ⟨q1,ei⟩:∃q1,q = q1+1:=⟨q - 1,by omega⟩
        obtain ⟨r1,cW⟩:∃r1,r+v1 = r1:=⟨_,rfl⟩
        have e1:Value.int .u64 (IntKind.u64.wrap ((q:Int) - 1)) = Value.int .u64 (q1:Int):=by rw [IntKind.wrap_u64];congr 1;omega
        have e2:Value.int .u64 (IntKind.u64.wrap ((r:Int)+(v1:Int))) = Value.int .u64 (r1:Int):=by rw [IntKind.wrap_u64];congr 1;omega
        have jb:=Lib.hid f'
        have Vd:=Lib.hid ei
        have gP:=Lib.hid cW
        clear f' ei cW fd
        by_cases X:(r1:Int) < 4294967296
        ·have dq:decide ((4294967296:Int)≤(r1:Int)) = false:=by rw [decide_eq_false_iff_not];omega
         iterate 110 (first | go_step | skip)
         clear e1 e2 dq
         go_wp2_with fail
         have Z:=HD.out.next jb.out mw
         rw [Vd.out,gP.out,Nat.add_sub_cancel] at Z
         have e9:(intOf (.int .u64 (q1:Int))).toNat < (intOf (.int .u64 (q:Int))).toNat:=by have:=Vd.out;simp only [intOf];omega
         have l':max (intOf (.int .u64 (q1:Int))) 0 < intOf (.int .u64 (q:Int)):=by have:=Vd.out;simp only [intOf];omega
         first
          | exact ⟨⟨q1,r1,rfl,rfl,Z,trivial⟩,e9⟩
          | exact ⟨⟨q1,rfl,r1,rfl,Z⟩,l'⟩
          | exact ⟨⟨q1,rfl,r1,rfl,Z⟩,e9⟩
          | (refine ⟨?_,e9⟩
             repeat apply Exists.intro
             exact ⟨⟨q1,r1,rfl,rfl,Z,trivial⟩,rfl⟩)
        ·have dq:decide ((4294967296:Int)≤(r1:Int)) = true:=by rw [decide_eq_true_eq];omega
         have bO:q1 = (R * 4294967296+u0) / Y:=by
          have hs:=HD.out.stop jb.out ib ou mw
          rw [Vd.out,← ja.out] at hs
          exact hs
         have ic:=Lib.hid bO
         clear bO
         have vh:q1 < 4294967296:=by rw [ic.out];exact OD g6.out kt
         have bi:(hi * 18446744073709551616+lo) / y = qa * 4294967296+q1:=by
          have h2:=FB (A:=un * 4294967296+u1) (u0:=u0) (Y:=Y) (by omega)
          rw [hP.out.whole,HR.out,← gC.out,← ic.out,hP.out.yY,Io _ _ _ (Nat.two_pow_pos S)] at h2
          exact h2
         have Xv:IntKind.u64.wrap (IntKind.u64.wrap ((qa:Int) * 4294967296)+(q1:Int)) = (((hi * 18446744073709551616+lo) / y:Nat):Int):=by
          rw [IntKind.wrap_u64,IntKind.wrap_u64,bi]
          have:=rg.out
          omega
         have ma:=Lib.hid (show ((qa:Int) * 4294967296+(q1:Int)) = (((hi * 18446744073709551616+lo) / y:Nat):Int) by rw [bi,Int.natCast_add,Int.natCast_mul];rfl)
         clear bi
         iterate 250 (first | go_step | skip)
         go_ret2
         have mb:((hi:Int) * 18446744073709551616+(lo:Int)) / (y:Int) = (((hi * 18446744073709551616+lo) / y:Nat):Int):=by rw [Int.natCast_ediv,Int.natCast_add,Int.natCast_mul];rfl
         exact ⟨⟨_,by first | (show Ending.returned (.tuple #[.int .u64 (((hi:Int) * 18446744073709551616+(lo:Int)) / (y:Int)),_]) = _;rw [mb]) | (show Ending.returned (.tuple #[.int .u64 (IntKind.u64.wrap (IntKind.u64.wrap ((qa:Int) * 4294967296)+(q1:Int))),_]) = _;rw [Xv]) | (show Ending.returned (.tuple #[.int .u64 ((qa:Int) * 4294967296+(q1:Int)),_]) = _;rw [ma.out])⟩,aj _⟩
    ·have re:¬(N:Int) < (M:Int):=by omega
     have zf:decide ((4294967296:Int)≤(q:Int)) = false:=by rw [decide_eq_false_iff_not];omega
     have zg:decide ((N:Int) < (M:Int)) = false:=by rw [decide_eq_false_iff_not];exact re
     have pT:=Lib.hid hNM
     have bO:q = (un * 4294967296+u1) / Y:=by
      have hs:=HD.out.done ib Ja
      rw [← ja.out] at hs
      exact hs
     obtain ⟨qa,hqa⟩:∃qa,qa = q:=⟨_,rfl⟩
     subst hqa
     have gC:=Lib.hid bO
     clear bO
     have rg:=Lib.hid (show qa < 4294967296 by rw [gC.out];exact OD vf ve)
     have rh:=Nr un u1 Y (by omega) Ns qa gC.out
     obtain ⟨R,hR⟩:∃R,(un * 4294967296+u1) % Y = R:=⟨_,rfl⟩
     rw [hR] at rh
     have ri:R < Y:=by rw [← hR];exact Nat.mod_lt _ (by omega)
     have rj:=tR R v1 (by omega)
     have ov:=Kw R v1 (by omega)
     have ga:=f9.start (un:=R) (v1:=v1) (v0:=v0) (u0:=u0) (ja.out ▸ ri) ib pc ou kt
     generalize eA:R - R / v1 * v1 = r0 at ov ga
     generalize kp:R / v1 = q0 at rj ov ga
     have rm:=Lib.hid ga
     have HR:=Lib.hid hR
     have g6:=Lib.hid ri
     replace rh:=congrArg (Value.int .u64) rh
     replace rj:=congrArg (Value.int .u64) rj
     replace ov:=congrArg (Value.int .u64) ov
     clear kp eA ga hR ri
     iterate 250 (first | go_step | skip)
     obtain ⟨wo,hwo⟩:∃wo,wo = wr:=⟨_,rfl⟩
     subst hwo
     go_loopw [18,16] (fun a b wr=>∃q r:Nat,a = .int .u64 q∧b = .int .u64 r∧f9 R v1 v0 u0 q r∧wr = wo) (fun a _ _=>(intOf a).toNat)
     case atStart=>exact ⟨q0,r0,rfl,rfl,rm.out,rfl⟩
     case round =>
      obtain ⟨q,r,rfl,rfl,hD,rfl⟩:=hrel
      have za:=hD.vB
      have zb:=hD.Bi
      have HD:=Lib.hid hD
      clear hD
      by_cases hq4:(q:Int) < 4294967296
      ·obtain ⟨M,hM⟩:∃M,q * v0 = M:=⟨_,rfl⟩
       obtain ⟨A,hA⟩:∃A,4294967296 * r = A:=⟨_,rfl⟩
       obtain ⟨N,hN⟩:∃N,A+u0 = N:=⟨_,rfl⟩
       have zd:M≤4294967296 * 4294967295:=by rw [← hM];exact Nat.mul_le_mul (by omega) (by omega)
       have ze:A≤4294967296 * 4294967295:=by rw [← hA];exact Nat.mul_le_mul (Nat.le_refl _) (by omega)
       have e3:Value.int .u64 (IntKind.u64.wrap ((q:Int) * (v0:Int))) = Value.int .u64 (M:Int):=by rw [← Int.natCast_mul,hM,J7 _ (by omega)]
       have e4:Value.int .u64 (IntKind.u64.wrap (4294967296 * (r:Int))) = Value.int .u64 (A:Int):=by rw [show (4294967296 * (r:Int)) = ((4294967296 * r:Nat):Int) by rw [Int.natCast_mul];rfl,hA,J7 _ (by omega)]
       have e5:Value.int .u64 (IntKind.u64.wrap ((A:Int)+(u0:Int))) = Value.int .u64 (N:Int):=by rw [← Int.natCast_add,hN,J7 _ (by omega)]
       have HT:=Lib.hid (show 4294967296 * r+u0 = N by rw [hA,hN])
       have HM:=Lib.hid hM
       clear hM hA hN zd ze
       by_cases hNM:N < M
       ·have re:(N:Int) < (M:Int):=by omega
        have pT:=Lib.hid hNM
        have f':=HD.out.j9 (ja.out ▸ g6.out) ib kt (.inr I9)
        have fd:=f9.pos (r:=r) f'
        obtain ⟨q1,ei⟩:∃q1,q = q1+1:=⟨q - 1,by omega⟩
        obtain ⟨r1,cW⟩:∃r1,r+v1 = r1:=⟨_,rfl⟩
        have e1:Value.int .u64 (IntKind.u64.wrap ((q:Int) - 1)) = Value.int .u64 (q1:Int):=by rw [IntKind.wrap_u64];congr 1;omega
        have e2:Value.int .u64 (IntKind.u64.wrap ((r:Int)+(v1:Int))) = Value.int .u64 (r1:Int):=by rw [IntKind.wrap_u64];congr 1;omega
        have jb:=Lib.hid f'
        have Vd:=Lib.hid ei
        have gP:=Lib.hid cW
        clear f' ei cW fd
        by_cases X:(r1:Int) < 4294967296
        ·have dq:decide ((4294967296:Int)≤(r1:Int)) = false:=by rw [decide_eq_false_iff_not];omega
         iterate 110 (first | go_step | skip)
         clear e1 e2 dq e3 e4 e5
         go_wp2_with fail
         have Z:=HD.out.next jb.out mw
         rw [Vd.out,gP.out,Nat.add_sub_cancel] at Z
         have e9:(intOf (.int .u64 (q1:Int))).toNat < (intOf (.int .u64 (q:Int))).toNat:=by have:=Vd.out;simp only [intOf];omega
         have l':max (intOf (.int .u64 (q1:Int))) 0 < intOf (.int .u64 (q:Int)):=by have:=Vd.out;simp only [intOf];omega
         first
          | exact ⟨⟨q1,r1,rfl,rfl,Z,trivial⟩,e9⟩
          | exact ⟨⟨q1,rfl,r1,rfl,Z⟩,l'⟩
          | exact ⟨⟨q1,rfl,r1,rfl,Z⟩,e9⟩
          | (refine ⟨?_,e9⟩
             repeat apply Exists.intro
             exact ⟨⟨q1,r1,rfl,rfl,Z,trivial⟩,rfl⟩)
        ·have dq:decide ((4294967296:Int)≤(r1:Int)) = true:=by rw [decide_eq_true_eq];omega
         have bO:q1 = (R * 4294967296+u0) / Y:=by
          have hs:=HD.out.stop jb.out ib ou mw
          rw [Vd.out,← ja.out] at hs
          exact hs
         have ic:=Lib.hid bO
         clear bO
         have vh:q1 < 4294967296:=by rw [ic.out];exact OD g6.out kt
         have bi:(hi * 18446744073709551616+lo) / y = qa * 4294967296+q1:=by
          have h2:=FB (A:=un * 4294967296+u1) (u0:=u0) (Y:=Y) (by omega)
          rw [hP.out.whole,HR.out,← gC.out,← ic.out,hP.out.yY,Io _ _ _ (Nat.two_pow_pos S)] at h2
          exact h2
         have Xv:IntKind.u64.wrap (IntKind.u64.wrap ((qa:Int) * 4294967296)+(q1:Int)) = (((hi * 18446744073709551616+lo) / y:Nat):Int):=by
          rw [IntKind.wrap_u64,IntKind.wrap_u64,bi]
          have:=rg.out
          omega
         have ma:=Lib.hid (show ((qa:Int) * 4294967296+(q1:Int)) = (((hi * 18446744073709551616+lo) / y:Nat):Int) by rw [bi,Int.natCast_add,Int.natCast_mul];rfl)
         clear bi
         iterate 250 (first | go_step | skip)
         go_ret2
         have mb:((hi:Int) * 18446744073709551616+(lo:Int)) / (y:Int) = (((hi * 18446744073709551616+lo) / y:Nat):Int):=by rw [Int.natCast_ediv,Int.natCast_add,Int.natCast_mul];rfl
         exact ⟨⟨_,by first | (show Ending.returned (.tuple #[.int .u64 (((hi:Int) * 18446744073709551616+(lo:Int)) / (y:Int)),_]) = _;rw [mb]) | (show Ending.returned (.tuple #[.int .u64 (IntKind.u64.wrap (IntKind.u64.wrap ((qa:Int) * 4294967296)+(q1:Int))),_]) = _;rw [Xv]) | (show Ending.returned (.tuple #[.int .u64 ((qa:Int) * 4294967296+(q1:Int)),_]) = _;rw [ma.out])⟩,aj _⟩
       ·have re:¬(N:Int) < (M:Int):=by omega
        have zf:decide ((4294967296:Int)≤(q:Int)) = false:=by rw [decide_eq_false_iff_not];omega
        have zg:decide ((N:Int) < (M:Int)) = false:=by rw [decide_eq_false_iff_not];exact re
        have pT:=Lib.hid hNM
        have bO:q = (R * 4294967296+u0) / Y:=by
         have hs:=HD.out.done ib Ja
         rw [← ja.out] at hs
         exact hs
        have ic:=Lib.hid bO
        clear bO
        have vh:q < 4294967296:=by rw [ic.out];exact OD g6.out kt
        have bi:(hi * 18446744073709551616+lo) / y = qa * 4294967296+q:=by
         have h2:=FB (A:=un * 4294967296+u1) (u0:=u0) (Y:=Y) (by omega)
         rw [hP.out.whole,HR.out,← gC.out,← ic.out,hP.out.yY,Io _ _ _ (Nat.two_pow_pos S)] at h2
         exact h2
        have Xv:IntKind.u64.wrap (IntKind.u64.wrap ((qa:Int) * 4294967296)+(q:Int)) = (((hi * 18446744073709551616+lo) / y:Nat):Int):=by
         rw [IntKind.wrap_u64,IntKind.wrap_u64,bi]
         have:=rg.out
         omega
        have ma:=Lib.hid (show ((qa:Int) * 4294967296+(q:Int)) = (((hi * 18446744073709551616+lo) / y:Nat):Int) by rw [bi,Int.natCast_add,Int.natCast_mul];rfl)
        clear bi
        iterate 250 (first | go_step | skip)
        go_ret2
        have mb:((hi:Int) * 18446744073709551616+(lo:Int)) / (y:Int) = (((hi * 18446744073709551616+lo) / y:Nat):Int):=by rw [Int.natCast_ediv,Int.natCast_add,Int.natCast_mul];rfl
        exact ⟨⟨_,by first | (show Ending.returned (.tuple #[.int .u64 (((hi:Int) * 18446744073709551616+(lo:Int)) / (y:Int)),_]) = _;rw [mb]) | (show Ending.returned (.tuple #[.int .u64 (IntKind.u64.wrap (IntKind.u64.wrap ((qa:Int) * 4294967296)+(q:Int))),_]) = _;rw [Xv]) | (show Ending.returned (.tuple #[.int .u64 ((qa:Int) * 4294967296+(q:Int)),_]) = _;rw [ma.out])⟩,aj _⟩
      ·have f':=HD.out.j9 (ja.out ▸ g6.out) ib kt (.inl (by omega))
       have fd:=f9.pos (r:=r) f'
       obtain ⟨q1,ei⟩:∃q1,q = q1+1:=⟨q - 1,by omega⟩
       obtain ⟨r1,cW⟩:∃r1,r+v1 = r1:=⟨_,rfl⟩
       have e1:Value.int .u64 (IntKind.u64.wrap ((q:Int) - 1)) = Value.int .u64 (q1:Int):=by rw [IntKind.wrap_u64];congr 1;omega
       have e2:Value.int .u64 (IntKind.u64.wrap ((r:Int)+(v1:Int))) = Value.int .u64 (r1:Int):=by rw [IntKind.wrap_u64];congr 1;omega
       have jb:=Lib.hid f'
       have Vd:=Lib.hid ei
       have gP:=Lib.hid cW
       clear f' ei cW fd
       by_cases X:(r1:Int) < 4294967296
       ·have dq:decide ((4294967296:Int)≤(r1:Int)) = false:=by rw [decide_eq_false_iff_not];omega
        iterate 110 (first | go_step | skip)
        clear e1 e2 dq
        go_wp2_with fail
        have Z:=HD.out.next jb.out mw
        rw [Vd.out,gP.out,Nat.add_sub_cancel] at Z
        have e9:(intOf (.int .u64 (q1:Int))).toNat < (intOf (.int .u64 (q:Int))).toNat:=by have:=Vd.out;simp only [intOf];omega
        have l':max (intOf (.int .u64 (q1:Int))) 0 < intOf (.int .u64 (q:Int)):=by have:=Vd.out;simp only [intOf];omega
        first
         | exact ⟨⟨q1,r1,rfl,rfl,Z,trivial⟩,e9⟩
         | exact ⟨⟨q1,rfl,r1,rfl,Z⟩,l'⟩
         | exact ⟨⟨q1,rfl,r1,rfl,Z⟩,e9⟩
         | (refine ⟨?_,e9⟩
            repeat apply Exists.intro
            exact ⟨⟨q1,r1,rfl,rfl,Z,trivial⟩,rfl⟩)
       ·have dq:decide ((4294967296:Int)≤(r1:Int)) = true:=by rw [decide_eq_true_eq];omega
        have bO:q1 = (R * 4294967296+u0) / Y:=by
         have hs:=HD.out.stop jb.out ib ou mw
         rw [Vd.out,← ja.out] at hs
         exact hs
        have ic:=Lib.hid bO
        clear bO
        have vh:q1 < 4294967296:=by rw [ic.out];exact OD g6.out kt
        have bi:(hi * 18446744073709551616+lo) / y = qa * 4294967296+q1:=by
         have h2:=FB (A:=un * 4294967296+u1) (u0:=u0) (Y:=Y) (by omega)
         rw [hP.out.whole,HR.out,← gC.out,← ic.out,hP.out.yY,Io _ _ _ (Nat.two_pow_pos S)] at h2
         exact h2
        have Xv:IntKind.u64.wrap (IntKind.u64.wrap ((qa:Int) * 4294967296)+(q1:Int)) = (((hi * 18446744073709551616+lo) / y:Nat):Int):=by
         rw [IntKind.wrap_u64,IntKind.wrap_u64,bi]
         have:=rg.out
         omega
        have ma:=Lib.hid (show ((qa:Int) * 4294967296+(q1:Int)) = (((hi * 18446744073709551616+lo) / y:Nat):Int) by rw [bi,Int.natCast_add,Int.natCast_mul];rfl)
        clear bi
        iterate 250 (first | go_step | skip)
        go_ret2
        have mb:((hi:Int) * 18446744073709551616+(lo:Int)) / (y:Int) = (((hi * 18446744073709551616+lo) / y:Nat):Int):=by rw [Int.natCast_ediv,Int.natCast_add,Int.natCast_mul];rfl
        exact ⟨⟨_,by first | (show Ending.returned (.tuple #[.int .u64 (((hi:Int) * 18446744073709551616+(lo:Int)) / (y:Int)),_]) = _;rw [mb]) | (show Ending.returned (.tuple #[.int .u64 (IntKind.u64.wrap (IntKind.u64.wrap ((qa:Int) * 4294967296)+(q1:Int))),_]) = _;rw [Xv]) | (show Ending.returned (.tuple #[.int .u64 ((qa:Int) * 4294967296+(q1:Int)),_]) = _;rw [ma.out])⟩,aj _⟩
   ·have f':=HD.out.j9 (ja.out ▸ vf) ib ve (.inl (by omega))
    have fd:=f9.pos (r:=r) f'
    obtain ⟨q1,ei⟩:∃q1,q = q1+1:=⟨q - 1,by omega⟩
    obtain ⟨r1,cW⟩:∃r1,r+v1 = r1:=⟨_,rfl⟩
    have e1:Value.int .u64 (IntKind.u64.wrap ((q:Int) - 1)) = Value.int .u64 (q1:Int):=by rw [IntKind.wrap_u64];congr 1;omega
    have e2:Value.int .u64 (IntKind.u64.wrap ((r:Int)+(v1:Int))) = Value.int .u64 (r1:Int):=by rw [IntKind.wrap_u64];congr 1;omega
    have jb:=Lib.hid f'
    have Vd:=Lib.hid ei
    have gP:=Lib.hid cW
    clear f' ei cW fd
    by_cases X:(r1:Int) < 4294967296
    ·have dq:decide ((4294967296:Int)≤(r1:Int)) = false:=by rw [decide_eq_false_iff_not];omega
     iterate 110 (first | go_step | skip)
     clear e1 e2 dq
     go_wp2_with fail
     have Z:=HD.out.next jb.out mw
     rw [Vd.out,gP.out,Nat.add_sub_cancel] at Z
     have e9:(intOf (.int .u64 (q1:Int))).toNat < (intOf (.int .u64 (q:Int))).toNat:=by have:=Vd.out;simp only [intOf];omega
     have l':max (intOf (.int .u64 (q1:Int))) 0 < intOf (.int .u64 (q:Int)):=by have:=Vd.out;simp only [intOf];omega
     first
      | exact ⟨⟨q1,r1,rfl,rfl,Z,trivial⟩,e9⟩
      | exact ⟨⟨q1,rfl,r1,rfl,Z⟩,l'⟩
      | exact ⟨⟨q1,rfl,r1,rfl,Z⟩,e9⟩
      | (refine ⟨?_,e9⟩
         repeat apply Exists.intro
         exact ⟨⟨q1,r1,rfl,rfl,Z,trivial⟩,rfl⟩)
    ·have dq:decide ((4294967296:Int)≤(r1:Int)) = true:=by rw [decide_eq_true_eq];omega
     have bO:q1 = (un * 4294967296+u1) / Y:=by
      have hs:=HD.out.stop jb.out ib ou mw
      rw [Vd.out,← ja.out] at hs
      exact hs
     obtain ⟨qa,hqa⟩:∃qa,qa = q1:=⟨_,rfl⟩
     subst hqa
     have gC:=Lib.hid bO
     clear bO
     have rg:=Lib.hid (show qa < 4294967296 by rw [gC.out];exact OD vf ve)
     have rh:=Nr un u1 Y (by omega) Ns qa gC.out
     obtain ⟨R,hR⟩:∃R,(un * 4294967296+u1) % Y = R:=⟨_,rfl⟩
     rw [hR] at rh
     have ri:R < Y:=by rw [← hR];exact Nat.mod_lt _ (by omega)
     have rj:=tR R v1 (by omega)
     have ov:=Kw R v1 (by omega)
     have ga:=f9.start (un:=R) (v1:=v1) (v0:=v0) (u0:=u0) (ja.out ▸ ri) ib pc ou kt
     generalize eA:R - R / v1 * v1 = r0 at ov ga
     generalize kp:R / v1 = q0 at rj ov ga
     have rm:=Lib.hid ga
     have HR:=Lib.hid hR
     have g6:=Lib.hid ri
     replace rh:=congrArg (Value.int .u64) rh
     replace rj:=congrArg (Value.int .u64) rj
     replace ov:=congrArg (Value.int .u64) ov
     clear kp eA ga hR ri
     iterate 250 (first | go_step | skip)
     obtain ⟨wo,hwo⟩:∃wo,wo = wr:=⟨_,rfl⟩
     subst hwo
     go_loopw [18,16] (fun a b wr=>∃q r:Nat,a = .int .u64 q∧b = .int .u64 r∧f9 R v1 v0 u0 q r∧wr = wo) (fun a _ _=>(intOf a).toNat)
     case atStart=>exact ⟨q0,r0,rfl,rfl,rm.out,rfl⟩
     case round =>
      obtain ⟨q,r,rfl,rfl,hD,rfl⟩:=hrel
      have za:=hD.vB
      have zb:=hD.Bi
      have HD:=Lib.hid hD
      clear hD
      by_cases hq4:(q:Int) < 4294967296
      ·obtain ⟨M,hM⟩:∃M,q * v0 = M:=⟨_,rfl⟩
       obtain ⟨A,hA⟩:∃A,4294967296 * r = A:=⟨_,rfl⟩
       obtain ⟨N,hN⟩:∃N,A+u0 = N:=⟨_,rfl⟩
       have zd:M≤4294967296 * 4294967295:=by rw [← hM];exact Nat.mul_le_mul (by omega) (by omega)
       have ze:A≤4294967296 * 4294967295:=by rw [← hA];exact Nat.mul_le_mul (Nat.le_refl _) (by omega)
       have e3:Value.int .u64 (IntKind.u64.wrap ((q:Int) * (v0:Int))) = Value.int .u64 (M:Int):=by rw [← Int.natCast_mul,hM,J7 _ (by omega)]
       have e4:Value.int .u64 (IntKind.u64.wrap (4294967296 * (r:Int))) = Value.int .u64 (A:Int):=by rw [show (4294967296 * (r:Int)) = ((4294967296 * r:Nat):Int) by rw [Int.natCast_mul];rfl,hA,J7 _ (by omega)]
       have e5:Value.int .u64 (IntKind.u64.wrap ((A:Int)+(u0:Int))) = Value.int .u64 (N:Int):=by rw [← Int.natCast_add,hN,J7 _ (by omega)]
       have HT:=Lib.hid (show 4294967296 * r+u0 = N by rw [hA,hN])
       have HM:=Lib.hid hM
       clear hM hA hN zd ze
       by_cases hNM:N < M
       ·have re:(N:Int) < (M:Int):=by omega
        have pT:=Lib.hid hNM
        have f':=HD.out.j9 (ja.out ▸ g6.out) ib kt (.inr I9)
        have fd:=f9.pos (r:=r) f'
        obtain ⟨q1,ei⟩:∃q1,q = q1+1:=⟨q - 1,by omega⟩
        obtain ⟨r1,cW⟩:∃r1,r+v1 = r1:=⟨_,rfl⟩
        have e1:Value.int .u64 (IntKind.u64.wrap ((q:Int) - 1)) = Value.int .u64 (q1:Int):=by rw [IntKind.wrap_u64];congr 1;omega
        have e2:Value.int .u64 (IntKind.u64.wrap ((r:Int)+(v1:Int))) = Value.int .u64 (r1:Int):=by rw [IntKind.wrap_u64];congr 1;omega
        have jb:=Lib.hid f'
        have Vd:=Lib.hid ei
        have gP:=Lib.hid cW
        clear f' ei cW fd
        by_cases X:(r1:Int) < 4294967296
        ·have dq:decide ((4294967296:Int)≤(r1:Int)) = false:=by rw [decide_eq_false_iff_not];omega
         iterate 110 (first | go_step | skip)
         clear e1 e2 dq e3 e4 e5
         go_wp2_with fail
         have Z:=HD.out.next jb.out mw
         rw [Vd.out,gP.out,Nat.add_sub_cancel] at Z
         have e9:(intOf (.int .u64 (q1:Int))).toNat < (intOf (.int .u64 (q:Int))).toNat:=by have:=Vd.out;simp only [intOf];omega
         have l':max (intOf (.int .u64 (q1:Int))) 0 < intOf (.int .u64 (q:Int)):=by have:=Vd.out;simp only [intOf];omega
         first
          | exact ⟨⟨q1,r1,rfl,rfl,Z,trivial⟩,e9⟩
          | exact ⟨⟨q1,rfl,r1,rfl,Z⟩,l'⟩
          | exact ⟨⟨q1,rfl,r1,rfl,Z⟩,e9⟩
          | (refine ⟨?_,e9⟩
             repeat apply Exists.intro
             exact ⟨⟨q1,r1,rfl,rfl,Z,trivial⟩,rfl⟩)
        ·have dq:decide ((4294967296:Int)≤(r1:Int)) = true:=by rw [decide_eq_true_eq];omega
         have bO:q1 = (R * 4294967296+u0) / Y:=by
          have hs:=HD.out.stop jb.out ib ou mw
          rw [Vd.out,← ja.out] at hs
          exact hs
         have ic:=Lib.hid bO
         clear bO
         have vh:q1 < 4294967296:=by rw [ic.out];exact OD g6.out kt
         have bi:(hi * 18446744073709551616+lo) / y = qa * 4294967296+q1:=by
          have h2:=FB (A:=un * 4294967296+u1) (u0:=u0) (Y:=Y) (by omega)
          rw [hP.out.whole,HR.out,← gC.out,← ic.out,hP.out.yY,Io _ _ _ (Nat.two_pow_pos S)] at h2
          exact h2
         have Xv:IntKind.u64.wrap (IntKind.u64.wrap ((qa:Int) * 4294967296)+(q1:Int)) = (((hi * 18446744073709551616+lo) / y:Nat):Int):=by
          rw [IntKind.wrap_u64,IntKind.wrap_u64,bi]
          have:=rg.out
          omega
         have ma:=Lib.hid (show ((qa:Int) * 4294967296+(q1:Int)) = (((hi * 18446744073709551616+lo) / y:Nat):Int) by rw [bi,Int.natCast_add,Int.natCast_mul];rfl)
         clear bi
         iterate 250 (first | go_step | skip)
         go_ret2
         have mb:((hi:Int) * 18446744073709551616+(lo:Int)) / (y:Int) = (((hi * 18446744073709551616+lo) / y:Nat):Int):=by rw [Int.natCast_ediv,Int.natCast_add,Int.natCast_mul];rfl
         exact ⟨⟨_,by first | (show Ending.returned (.tuple #[.int .u64 (((hi:Int) * 18446744073709551616+(lo:Int)) / (y:Int)),_]) = _;rw [mb]) | (show Ending.returned (.tuple #[.int .u64 (IntKind.u64.wrap (IntKind.u64.wrap ((qa:Int) * 4294967296)+(q1:Int))),_]) = _;rw [Xv]) | (show Ending.returned (.tuple #[.int .u64 ((qa:Int) * 4294967296+(q1:Int)),_]) = _;rw [ma.out])⟩,aj _⟩
       ·have re:¬(N:Int) < (M:Int):=by omega
        have zf:decide ((4294967296:Int)≤(q:Int)) = false:=by rw [decide_eq_false_iff_not];omega
        have zg:decide ((N:Int) < (M:Int)) = false:=by rw [decide_eq_false_iff_not];exact re
        have pT:=Lib.hid hNM
        have bO:q = (R * 4294967296+u0) / Y:=by
         have hs:=HD.out.done ib Ja
         rw [← ja.out] at hs
         exact hs
        have ic:=Lib.hid bO
        clear bO
        have vh:q < 4294967296:=by rw [ic.out];exact OD g6.out kt
        have bi:(hi * 18446744073709551616+lo) / y = qa * 4294967296+q:=by
         have h2:=FB (A:=un * 4294967296+u1) (u0:=u0) (Y:=Y) (by omega)
         rw [hP.out.whole,HR.out,← gC.out,← ic.out,hP.out.yY,Io _ _ _ (Nat.two_pow_pos S)] at h2
         exact h2
        have Xv:IntKind.u64.wrap (IntKind.u64.wrap ((qa:Int) * 4294967296)+(q:Int)) = (((hi * 18446744073709551616+lo) / y:Nat):Int):=by
         rw [IntKind.wrap_u64,IntKind.wrap_u64,bi]
         have:=rg.out
         omega
        have ma:=Lib.hid (show ((qa:Int) * 4294967296+(q:Int)) = (((hi * 18446744073709551616+lo) / y:Nat):Int) by rw [bi,Int.natCast_add,Int.natCast_mul];rfl)
        clear bi
        iterate 250 (first | go_step | skip)
        go_ret2
        have mb:((hi:Int) * 18446744073709551616+(lo:Int)) / (y:Int) = (((hi * 18446744073709551616+lo) / y:Nat):Int):=by rw [Int.natCast_ediv,Int.natCast_add,Int.natCast_mul];rfl
        exact ⟨⟨_,by first | (show Ending.returned (.tuple #[.int .u64 (((hi:Int) * 18446744073709551616+(lo:Int)) / (y:Int)),_]) = _;rw [mb]) | (show Ending.returned (.tuple #[.int .u64 (IntKind.u64.wrap (IntKind.u64.wrap ((qa:Int) * 4294967296)+(q:Int))),_]) = _;rw [Xv]) | (show Ending.returned (.tuple #[.int .u64 ((qa:Int) * 4294967296+(q:Int)),_]) = _;rw [ma.out])⟩,aj _⟩
      ·have f':=HD.out.j9 (ja.out ▸ g6.out) ib kt (.inl (by omega))
       have fd:=f9.pos (r:=r) f'
       obtain ⟨q1,ei⟩:∃q1,q = q1+1:=⟨q - 1,by omega⟩
       obtain ⟨r1,cW⟩:∃r1,r+v1 = r1:=⟨_,rfl⟩
       have e1:Value.int .u64 (IntKind.u64.wrap ((q:Int) - 1)) = Value.int .u64 (q1:Int):=by rw [IntKind.wrap_u64];congr 1;omega
       have e2:Value.int .u64 (IntKind.u64.wrap ((r:Int)+(v1:Int))) = Value.int .u64 (r1:Int):=by rw [IntKind.wrap_u64];congr 1;omega
       have jb:=Lib.hid f'
       have Vd:=Lib.hid ei
       have gP:=Lib.hid cW
       clear f' ei cW fd
       by_cases X:(r1:Int) < 4294967296
       ·have dq:decide ((4294967296:Int)≤(r1:Int)) = false:=by rw [decide_eq_false_iff_not];omega
        iterate 110 (first | go_step | skip)
        clear e1 e2 dq
        go_wp2_with fail
        have Z:=HD.out.next jb.out mw
        rw [Vd.out,gP.out,Nat.add_sub_cancel] at Z
        have e9:(intOf (.int .u64 (q1:Int))).toNat < (intOf (.int .u64 (q:Int))).toNat:=by have:=Vd.out;simp only [intOf];omega
        have l':max (intOf (.int .u64 (q1:Int))) 0 < intOf (.int .u64 (q:Int)):=by have:=Vd.out;simp only [intOf];omega
        first
         | exact ⟨⟨q1,r1,rfl,rfl,Z,trivial⟩,e9⟩
         | exact ⟨⟨q1,rfl,r1,rfl,Z⟩,l'⟩
         | exact ⟨⟨q1,rfl,r1,rfl,Z⟩,e9⟩
         | (refine ⟨?_,e9⟩
            repeat apply Exists.intro
            exact ⟨⟨q1,r1,rfl,rfl,Z,trivial⟩,rfl⟩)
       ·have dq:decide ((4294967296:Int)≤(r1:Int)) = true:=by rw [decide_eq_true_eq];omega
        have bO:q1 = (R * 4294967296+u0) / Y:=by
         have hs:=HD.out.stop jb.out ib ou mw
         rw [Vd.out,← ja.out] at hs
         exact hs
        have ic:=Lib.hid bO
        clear bO
        have vh:q1 < 4294967296:=by rw [ic.out];exact OD g6.out kt
        have bi:(hi * 18446744073709551616+lo) / y = qa * 4294967296+q1:=by
         have h2:=FB (A:=un * 4294967296+u1) (u0:=u0) (Y:=Y) (by omega)
         rw [hP.out.whole,HR.out,← gC.out,← ic.out,hP.out.yY,Io _ _ _ (Nat.two_pow_pos S)] at h2
         exact h2
        have Xv:IntKind.u64.wrap (IntKind.u64.wrap ((qa:Int) * 4294967296)+(q1:Int)) = (((hi * 18446744073709551616+lo) / y:Nat):Int):=by
         rw [IntKind.wrap_u64,IntKind.wrap_u64,bi]
         have:=rg.out
         omega
        have ma:=Lib.hid (show ((qa:Int) * 4294967296+(q1:Int)) = (((hi * 18446744073709551616+lo) / y:Nat):Int) by rw [bi,Int.natCast_add,Int.natCast_mul];rfl)
        clear bi
        iterate 250 (first | go_step | skip)
        go_ret2
        have mb:((hi:Int) * 18446744073709551616+(lo:Int)) / (y:Int) = (((hi * 18446744073709551616+lo) / y:Nat):Int):=by rw [Int.natCast_ediv,Int.natCast_add,Int.natCast_mul];rfl
        exact ⟨⟨_,by first | (show Ending.returned (.tuple #[.int .u64 (((hi:Int) * 18446744073709551616+(lo:Int)) / (y:Int)),_]) = _;rw [mb]) | (show Ending.returned (.tuple #[.int .u64 (IntKind.u64.wrap (IntKind.u64.wrap ((qa:Int) * 4294967296)+(q1:Int))),_]) = _;rw [Xv]) | (show Ending.returned (.tuple #[.int .u64 ((qa:Int) * 4294967296+(q1:Int)),_]) = _;rw [ma.out])⟩,aj _⟩
end Go.Proofs.YtajbbmembionpaaGreat
