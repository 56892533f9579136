/- The library's merging of two sorted runs in place, walked at Placed: two runs of any length. No condition. -/
import Derived.Test.YtogkjlcoadhpgaaGreatStabSP
import Derived.Test.YtogkjlcoadhpgaaGreatWaitP
import Derived.Test.YtogkjlcoadhpgaaGreatInsP
import Derived.Test.YtogkjlcoadhpgaaGreatRegionIx
namespace Go.Proofs.YtogkjlcoadhpgaaGreat
open Go.ChangeShapes Go.WideShapes Go.ChangeAt Go.RowKit
set_option linter.unusedVariables false
set_option linter.unusedSimpArgs false
section
set_option maxRecDepth 100000 in
set_option maxHeartbeats 8000000 in
theorem aac (K:Nat):∀(W0 w:World) (b o c N:Nat) (P L R Q:List Eb) (a m bb:Nat) (cv:Eb→Eb→Int) (h:jJ tH 9 W0 w b o (P++(L++(R++Q)))) (hN:(P++(L++(R++Q))).length≤N) (BI:N≤1048576) (ha:Hid (P.length = a)) (hm:Hid (a+L.length = m)) (hb:Hid (m+R.length = bb)) (h1:0 < L.length) (h2:0 < R.length) (W:Weak (kS cv)) (hL:Sorted (kS cv) L) (hR:Sorted (kS cv) R) (hc:ads cv W0 b) (hK:L.length+R.length≤K),
 Calls Tryz.prog 141 #[.slice (some ⟨b,o,none⟩) N c,.int .i64 a,.int .i64 m,.int .i64 bb,.func (.func 55) #[] #[]] w fun e w'=>e = .returned (.tuple #[])∧jJ tH 9 W0 w' b o (P++(fO (kS cv) L R++Q)):=by
 induction K with
 | zero=>intro W0 w b o c N P L R Q a m bb cv h hN BI ha hm hb h1 h2 W hL hR hc hK;omega
 | succ K ih =>
   intro W0 w b o c N P L R Q a m bb cv h hN BI ha hm hb h1 h2 W hL hR hc hK
   by_cases hL1:L.length = 1
   ·obtain ⟨x,rfl⟩:=List.length_eq_one_iff.1 hL1
    have e:m = a+1:=by simpa using hm.out.symm
    subst e
    exact ahs W0 w b o c N P R Q x a bb cv h hN BI ha hb W hR hc
   by_cases hR1:R.length = 1
   ·obtain ⟨y,rfl⟩:=List.length_eq_one_iff.1 hR1
    have e:bb = m+1:=by simpa using hb.out.symm
    subst e
    exact aeP W0 w b o c N P L Q y a m cv h hN BI ha hm (by omega) W hL hc
   have hlq:(P++(L++(R++Q))).length = P.length+L.length+R.length+Q.length:=by simp only [List.length_append];omega
   have HN:=Lib.hid (show P.length+L.length+R.length+Q.length≤N by omega)
   have hlen:bb≤N:=by have:=HN.out;have:=ha.out;have:=hm.out;have:=hb.out;omega
   have hLL:2≤L.length:=by omega
   have hRR:2≤R.length:=by omega
   have ham:a+2≤m:=by have:=hm.out;omega
   have hmb:m+2≤bb:=by have:=hb.out;omega
   have HC:=Lib.hid hc
   have HW:=Lib.hid W
   have HSL:=Lib.hid hL
   have HSR:=Lib.hid hR
   have HKK:=Lib.hid hK
   have HIH:=Lib.hid ih
   have hne1:((m:Int) - a == 1) = false:=by simp;omega
   have hne2:((bb:Int) - m == 1) = false:=by simp;omega
   obtain ⟨mid,hmid⟩:∃mid:Nat,(a+bb) / 2 = mid:=⟨_,rfl⟩
   have hmI:((a:Int)+bb) / 2 = mid:=by omega
   obtain ⟨d,hd⟩:∃d,a+d = mid:=⟨mid - a,by omega⟩
   have HD:=Lib.hid (show a+d = mid∧(2 * d = L.length+R.length∨2 * d+1 = L.length+R.length) by have:=hm.out;have:=hb.out;omega)
   obtain ⟨lo,HLO⟩:∃lo:Nat,Hid ((mid < m→lo+R.length = d)∧(¬mid < m→lo = 0)):=by
    exact Zade
   obtain ⟨hi,HHI⟩:∃hi:Nat,Hid ((mid < m→hi = d)∧(¬mid < m→hi = L.length)):=by
    exact Zadv
   have hmab:a≤mid∧mid≤bb:=by omega
   obtain ⟨hma,hmbb⟩:=hmab
   clear hc hN W hL hR hK ih hL1 hR1 hlq hmid hd
   go_enter Tryz.func141,Tryz.ntmps141
   by_cases hgt:mid < m
   ·have hlo:lo+R.length = d:=by have:=HLO.out.1 hgt;omega
    have hhi:hi = d:=HHI.out.1 hgt
    have aoW:=Lib.hid (show lo = 0∨lo+R.length = d from .inr hlo)
    have aoX:=Lib.hid (show hi = L.length∨hi = d from .inr hhi)
    exact Zaaa
   ·have hlo:lo = 0:=HLO.out.2 (by omega)
    have hhi:hi = L.length:=HHI.out.2 (by omega)
    have aoW:=Lib.hid (show lo = 0∨lo+R.length = d from .inl hlo)
    have aoX:=Lib.hid (show hi = L.length∨hi = d from .inl hhi)
    exact Zaaa
end
end Go.Proofs.YtogkjlcoadhpgaaGreat
namespace Go.Proofs.YtogkjlcoadhpgaaGreat
open Go.ChangeShapes Go.WideShapes Go.ChangeAt Go.RowKit
set_option linter.unusedVariables false
set_option linter.unusedSimpArgs false
section
set_option maxRecDepth 100000 in
set_option maxHeartbeats 8000000 in
theorem am4 (W0 w:World) (b o c N:Nat) (D:List Eb) (cv:Eb→Eb→Int) (h:jJ tH 9 W0 w b o (D)) (hN:D.length = N) (BI:N≤1048576) (W:Weak (kS cv)) (hc:ads cv W0 b) :
 Calls Tryz.prog 97 #[.slice (some ⟨b,o,none⟩) N c,.int .i64 N,.func (.func 55) #[] #[]] w fun e w'=>e = .returned (.tuple #[])∧jJ tH 9 W0 w' b o (sortB (kS cv) [] D):=by
 have HC:=Lib.hid hc
 have HW:=Lib.hid W
 have HN:=Lib.hid hN
 clear hc hN W
 go_enter Tryz.func97,Tryz.ntmps97
 go_wp2_with fail
 go_loopw [7,8] (fun i j wr=>∃(a0 b0:Nat) (A:List Eb),i = .int .i64 (a0:Int)∧j = .int .i64 (b0:Int)∧b0 = a0+20∧a0≤N∧Hid (A.length = a0)∧Hid (runs (kS cv) 20 D = A++runs (kS cv) 20 (D.drop a0))∧jJ tH 9 W0 wr b o (A++D.drop a0)) (fun i _ _=>N - (intOf i).toNat)
 case atStart=>exact ⟨0,20,[],rfl,rfl,rfl,by omega,Lib.hid rfl,Lib.hid (by simp),by simpa using h⟩
 case round =>
  obtain ⟨a0,b0,A,rfl,rfl,hb0,ha0,HA,HR,hS⟩:=hrel
  by_cases hlt:b0≤N
  ·have HB:=Lib.hid hb0
   have hab:a0 < b0:=by omega
   clear hb0
   go_wp2_with fail
   have hx:((D.drop a0).take 20).length = 20:=by rw [List.length_take,List.length_drop];have:=HB.out;have:=HN.out;omega
   have hdr:(D.drop a0).drop 20 = D.drop b0:=by rw [List.drop_drop,HB.out]
   have hst:=Ky (lt:=(kS cv)) (s:=20) (by omega) (D.drop a0)
   rw [hdr] at hst
   refine (Yx W0 _ b o c N A ((D.drop a0).take 20) (D.drop b0) a0 b0 cv (by rw [← hdr,List.take_append_drop];exact hS) (by rw [← hdr,List.take_append_drop,List.length_append,List.length_drop];have:=HA.out;have:=HN.out;omega) BI HA (Lib.hid (by rw [hx];exact HB.out.symm)) HW.out HC.out).mono ?_
   exact Zacj
  ·go_wp2_with fail
   have hx:(D.drop a0).length≤20:=by rw [List.length_drop];have:=HN.out;omega
   have hst:=zo (lt:=(kS cv)) hx
   refine (Yx W0 _ b o c N A (D.drop a0) [] a0 N cv awF (by rw [List.append_nil,List.length_append,List.length_drop];have:=HA.out;have:=HN.out;omega) BI HA (Lib.hid auV) HW.out HC.out).mono ?_
   rintro e w2 ⟨rfl,hS2⟩
   have hS3:jJ tH 9 W0 w2 b o (runs (kS cv) 20 D):=by rw [HR.out,hst];simpa only [List.append_nil] using hS2
   clear hS2 hS hx hst HR HA hb0 hlt
   go_wp2_with fail
   go_loopw [6] (fun z wr=>∃s:Nat,0 < s∧s≤2097152∧z = .int .i64 (s:Int)∧jJ tH 9 W0 wr b o (runs (kS cv) s D)) (fun z _=>N - (intOf z).toNat)
   case atStart=>exact ⟨20,by omega,by omega,rfl,hS3⟩
   case round =>
    obtain ⟨s,hs0,hs1,rfl,hS4⟩:=hrel
    by_cases hsn:s < N
    ·obtain ⟨wo,hwo⟩:∃wo,wo = wr:=⟨_,rfl⟩
     subst hwo
     clear hS3
     go_wp2_with fail
     go_loopw [7,8] (fun i j wr=>∃(a0 b0:Nat) (A:List Eb),i = .int .i64 (a0:Int)∧j = .int .i64 (b0:Int)∧b0 = a0+2 * s∧a0≤N∧Hid (A.length = a0)∧Hid (runs (kS cv) (2 * s) D = A++runs (kS cv) (2 * s) (D.drop a0))∧jJ tH 9 W0 wr b o (A++runs (kS cv) s (D.drop a0))) (fun i _ _=>N - (intOf i).toNat)
     case atStart=>exact ⟨0,2 * s,[],rfl,by go_num,by omega,by omega,Lib.hid rfl,Lib.hid (by simp),by simpa using hS4⟩
     case round =>
      obtain ⟨a0,b0,A,rfl,rfl,hb0,ha0,HA,HR,hS⟩:=hrel
      by_cases hlt:b0≤N
      ·have HB:=Lib.hid hb0
       have hab:a0+s < b0:=by omega
       clear hb0
       go_wp2_with fail
       obtain ⟨h1,h2⟩:=am0 HW.out hs0 (D.drop a0)
       have hdr:(D.drop a0).drop (2 * s) = D.drop b0:=by rw [List.drop_drop,HB.out]
       have hst:=Ky (lt:=(kS cv)) (s:=2 * s) (by omega) (D.drop a0)
       rw [hdr] at h1 hst
       have hl1:(sortB (kS cv) [] ((D.drop a0).take s)).length = s:=by rw [rD,List.length_take,List.length_drop];have:=HB.out;have:=HN.out;simp;omega
       have hl2:(sortB (kS cv) [] (((D.drop a0).drop s).take s)).length = s:=by rw [rD,List.length_take,List.length_drop,List.length_drop];have:=HB.out;have:=HN.out;simp;omega
       have hl3:(runs (kS cv) s (D.drop b0)).length = N - b0:=by rw [am3 hs0 _ _ (Nat.le_refl _),List.length_drop,HN.out]
       rw [h1] at hS
       have hx:(sortB (kS cv) [] ((D.drop a0).take (2 * s))).length = 2 * s:=by rw [rD,List.length_take,List.length_drop];have:=HB.out;have:=HN.out;simp;omega
       rw [show ((a0:Int)+s) = ((a0+s:Nat):Int) by omega]
       refine (aac (s+s) W0 _ b o c N A _ _ _ a0 (a0+s) b0 cv hS (by simp only [List.length_append,hl1,hl2,hl3];have:=HA.out;have:=HB.out;omega) BI HA (Lib.hid (by rw [hl1])) (Lib.hid (by rw [hl2];have:=HB.out;omega)) (by omega) (by omega) HW.out (yc HW.out _ _ List.Pairwise.nil) (yc HW.out _ _ List.Pairwise.nil) HC.out (by rw [hl1,hl2];exact Nat.le_refl _)).mono ?_
       exact Zab9
      ·by_cases hm:a0+s < N
       ·go_wp2_with fail
        obtain ⟨h1,h2⟩:=ajf HW.out hs0 (ys:=D.drop a0) auV auV
        have hl1:(sortB (kS cv) [] ((D.drop a0).take s)).length = s:=by rw [rD,List.length_take,List.length_drop];have:=HN.out;simp;omega
        have hl2:(sortB (kS cv) [] ((D.drop a0).drop s)).length = N - a0 - s:=by rw [rD,List.length_drop,List.length_drop];have:=HN.out;simp;omega
        rw [h1] at hS
        try rw [show ((a0:Int)+s) = ((a0+s:Nat):Int) by omega]
        refine (aac (s+s) W0 _ b o c N A _ _ [] a0 (a0+s) N cv awF (by simp only [List.length_append,hl1,hl2,List.length_nil];have:=HA.out;omega) BI HA (Lib.hid (by rw [hl1])) (Lib.hid (by rw [hl2];omega)) (by omega) (by omega) HW.out (yc HW.out _ _ List.Pairwise.nil) (yc HW.out _ _ List.Pairwise.nil) HC.out (by rw [hl1,hl2];omega)).mono ?_
        exact Zac2
       ·exact Zacm
    ·exact Zad7
set_option maxRecDepth 100000 in
theorem aeR (W0 w:World) (b o c N:Nat) (D:List Eb) (cv:Eb→Eb→Int) (h:jJ tH 9 W0 w b o (D)) (hN:D.length = N) (BI:N≤1048576) (W:Weak (kS cv)) (hc:ads cv W0 b) :
 Calls Tryz.prog 54 #[.slice (some ⟨b,o,none⟩) N c,.func (.func 55) #[] #[]] w fun e w'=>e = .returned (.tuple #[])∧jJ tH 9 W0 w' b o (sortB (kS cv) [] D):=by
 have HN:=Lib.hid hN
 clear hN
 go_enter Tryz.func54,Tryz.ntmps54
 go_wp2_with fail
 refine (am4 W0 _ b o c N D cv h HN.out BI W hc).mono ?_
 rintro e w2 ⟨rfl,hS⟩
 go_wp2
 go_end0
 exact ⟨rfl,hS⟩
set_option maxRecDepth 100000 in
theorem ahu (w:World) (A:Option Addr) (c:Nat) (f:Value):Calls Tryz.prog 140 #[.slice A 0 c,.int .i64 0,.int .i64 0,f] w fun e w'=>e = .returned (.tuple #[])∧w' = w:=by
 go_enter Tryz.func140,Tryz.ntmps140
 exact Zadk
set_option maxRecDepth 100000 in
theorem am5 (w:World) (A:Option Addr) (c:Nat) (f:Value):Calls Tryz.prog 97 #[.slice A 0 c,.int .i64 0,f] w fun e w'=>e = .returned (.tuple #[])∧w' = w:=by
 go_enter Tryz.func97,Tryz.ntmps97
 go_wp2_with fail
 go_loopw [7,8] (fun i j wr=>i = .int .i64 0∧j = .int .i64 20∧wr = w) (fun _ _ _=>0)
 case atStart=>exact ⟨rfl,rfl,rfl⟩
 case round =>
  obtain ⟨rfl,rfl,hw⟩:=hrel
  subst hw
  go_wp2_with fail
  refine (ahu _ A c f).mono ?_
  exact Zac1
set_option maxRecDepth 100000 in
theorem aeS (w:World) (A:Option Addr) (c:Nat) (f:Value):Calls Tryz.prog 54 #[.slice A 0 c,f] w fun e w'=>e = .returned (.tuple #[])∧w' = w:=by
 go_enter Tryz.func54,Tryz.ntmps54
 go_wp2_with fail
 refine (am5 _ A c f).mono ?_
 rintro e w2 ⟨rfl,hw⟩
 subst hw
 go_wp2
 go_end0
 exact ⟨rfl,rfl⟩
end
end Go.Proofs.YtogkjlcoadhpgaaGreat
namespace Go.Proofs.YtogkjlcoadhpgaaGreat
open Go.ChangeShapes Go.WideShapes Go.ChangeAt Go.RowKit
set_option linter.unusedVariables false
set_option linter.unusedSimpArgs false
def prk (r:Eb):ao9:=(r.name,r.rank,r.seq)
def prV (a b:Eb):Int:=wkV (prk a) (prk b)
theorem asP:Weak (kS prV):=by
 have h:=aqu
 exact ⟨fun x=>h.irr (prk x),fun x y z=>h.tr (prk x) (prk y) (prk z),fun x y z=>h.neg (prk x) (prk y) (prk z)⟩
theorem asQ (rs:List Eb):(sortB (kS prV) [] rs).map prk = sortB (kS wkV) [] (rs.map prk):=ajm (lt:=kS wkV) prk rs []
theorem Sl.ints2w (W:World) (a b:Int) (t:TypeId) (ha:I64 a) (hb:I64 b) (N:Nat) (hN:W.heap.size = N):Sl (W.alloc (.cells #[.int .i64 a,.int .i64 b] t)) [a,b] (some ⟨N,0,none⟩) 2 [N]:=by
 exact Zads
set_option maxRecDepth 100000 in
set_option maxHeartbeats 4000000 in
theorem asR (x y:Eb) (w:World) :
 Calls Tryz.prog 55 #[.agg #[.string x.name,.slice x.la x.ln x.lc,.int .i64 x.cpu,.int .i64 x.mem,.int .i64 x.rank,.slice x.na x.nn x.nc,.slice x.ta x.tn x.tc,.string x.on,.int .i64 x.seq],.agg #[.string y.name,.slice y.la y.ln y.lc,.int .i64 y.cpu,.int .i64 y.mem,.int .i64 y.rank,.slice y.na y.nn y.nc,.slice y.ta y.tn y.tc,.string y.on,.int .i64 y.seq]] w fun e w'=>e = .returned (.int .i64 (prV x y))∧Below w.heap.size w w':=by
 have hr1:=BU y.rank x.rank
 have hr2:=BU x.seq y.seq
 go_enter Tryz.func55,Tryz.ntmps55
 go_wp2_with fail
 refine nS ((w.alloc (.cells #[.string x.name,.slice x.la x.ln x.lc,.int .i64 x.cpu,.int .i64 x.mem,.int .i64 x.rank,.slice x.na x.nn x.nc,.slice x.ta x.tn x.tc,.string x.on,.int .i64 x.seq] 78)).alloc (.cells #[.string y.name,.slice y.la y.ln y.lc,.int .i64 y.cpu,.int .i64 y.mem,.int .i64 y.rank,.slice y.na y.nn y.nc,.slice y.ta y.tn y.tc,.string y.on,.int .i64 y.seq] 78)) [0,1,2,3,4,5,7,8,9,10] [6,11,12,13,14] (by kernel_rfl) (by kernel_rfl) (fun _ _ d _ _ h=>by cases d <;> exact h) (aj _) ?_
 simp only [pick,List.getElem?_cons_succ,List.getElem?_cons_zero]
 iterate 10
  (apply dR
   case hy =>
    exact Zacf
   simp only [Act.put,pz])
 refine fE ?_
 have hbx:=aA (aj ((w.alloc (.cells #[.string x.name,.slice x.la x.ln x.lc,.int .i64 x.cpu,.int .i64 x.mem,.int .i64 x.rank,.slice x.na x.nn x.nc,.slice x.ta x.tn x.tc,.string x.on,.int .i64 x.seq] 78)).alloc (.cells #[.string y.name,.slice y.la y.ln y.lc,.int .i64 y.cpu,.int .i64 y.mem,.int .i64 y.rank,.slice y.na y.nn y.nc,.slice y.ta y.tn y.tc,.string y.on,.int .i64 y.seq] 78)))
 refine aK rfl (fun K hK=>?_)
 go_simp
 refine (EI y.rank x.rank _).mono ?_
 rintro e wz ⟨rfl,hw⟩
 simp only [hw]
 clear hw wz
 refine hK _ _ hbx (fun _=>?_)
 try simp only [Act.put,pz]
 clear hK K
 refine aK rfl (fun K hK=>?_)
 go_simp
 refine (EI x.seq y.seq _).mono ?_
 rintro e wz ⟨rfl,hw⟩
 simp only [hw]
 clear hw wz
 refine hK _ _ hbx (fun _=>?_)
 try simp only [Act.put,pz]
 clear hK K
 refine aK rfl (fun K hK=>?_)
 go_simp
 replace hbx:=ak hbx (.cells #[.int .i64 (Lib.compareInt y.rank x.rank),.int .i64 (Lib.compareInt x.seq y.seq)] 3)
 refine hK _ _ hbx (fun _=>?_)
 try simp only [Act.put,pz]
 clear hK K
 have hS:=Sl.ape (Sl.ints2w ((w.alloc (.cells #[.string x.name,.slice x.la x.ln x.lc,.int .i64 x.cpu,.int .i64 x.mem,.int .i64 x.rank,.slice x.na x.nn x.nc,.slice x.ta x.tn x.tc,.string x.on,.int .i64 x.seq] 78)).alloc (.cells #[.string y.name,.slice y.la y.ln y.lc,.int .i64 y.cpu,.int .i64 y.mem,.int .i64 y.rank,.slice y.na y.nn y.nc,.slice y.ta y.tn y.tc,.string y.on,.int .i64 y.seq] 78)) _ _ 3 (I64.small hr1) (I64.small hr2) (w.heap.size+2) (by simp))
 refine aK rfl (fun K hK=>?_)
 go_simp
 refine (afl _ _ 2 _ _ _ hS rfl (by simp)).mono ?_
 rintro e wz ⟨rfl,hw⟩
 simp only [hw]
 clear hw wz
 refine hK _ _ hbx (fun _=>?_)
 try simp only [Act.put,pz]
 clear hK K
 refine aK rfl (fun K hK=>?_)
 go_simp
 refine hK _ _ hbx (fun _=>?_)
 try simp only [Act.put,pz]
 clear hK K
 refine dX ?_
 go_wp2
 go_ret
 exact ⟨rfl,ah (ak (ak (aj _) _) _) hbx⟩
end Go.Proofs.YtogkjlcoadhpgaaGreat
