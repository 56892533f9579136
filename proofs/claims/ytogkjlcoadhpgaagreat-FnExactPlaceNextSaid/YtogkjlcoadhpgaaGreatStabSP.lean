/- The library's merging of two sorted runs in place, walked at Placed. No condition. -/
import Derived.Test.YtogkjlcoadhpgaaGreatStabIP
namespace Go.Proofs.YtogkjlcoadhpgaaGreat
open Go.ChangeShapes Go.WideShapes Go.ChangeAt Go.RowKit
set_option linter.unusedVariables false
set_option linter.unusedSimpArgs false
section
set_option maxRecDepth 100000 in
set_option maxHeartbeats 4000000 in
theorem ahs (W0 w:World) (b o c N:Nat) (P R Q:List Eb) (x:Eb) (a bb:Nat) (cv:Eb→Eb→Int) (h:jJ tH 9 W0 w b o (P++(x :: (R++Q)))) (hN:(P++(x :: (R++Q))).length≤N) (BI:N≤1048576) (ha:Hid (P.length = a)) (hm:Hid (a+1+R.length = bb)) (W:Weak (kS cv)) (hR:Sorted (kS cv) R) (hc:ads cv W0 b) :
 Calls Tryz.prog 141 #[.slice (some ⟨b,o,none⟩) N c,.int .i64 a,.int .i64 ((a+1:Nat):Int),.int .i64 bb,.func (.func 55) #[] #[]] w fun e w'=>e = .returned (.tuple #[])∧jJ tH 9 W0 w' b o (P++(fO (kS cv) [x] R++Q)):=by
 have hlen:bb≤N:=by have e1:=ha.out;have e2:=hm.out;simp only [List.length_append,List.length_cons] at hN;omega
 have hle:a+1≤bb:=by have e2:=hm.out;omega
 have HC:=Lib.hid hc
 have HW:=Lib.hid W
 have HR:=Lib.hid hR
 clear hc hN W hR
 go_enter Tryz.func141,Tryz.ntmps141
 go_wp2_with fail
 go_loopw [10,11] (fun i j wr=>∃u v i0 j0:Nat,u≤v∧v≤R.length∧i = .int .i64 (i0:Int)∧j = .int .i64 (j0:Int)∧Hid (a+1+u = i0)∧Hid (a+1+v = j0)∧Hid (∀y∈R.take u,kS cv y x = true)∧Hid (∀y∈R.drop v,kS cv y x = false)∧jJ tH 9 W0 wr b o (P++(x :: (R++Q)))) (fun i j _=>(intOf j - intOf i).toNat)
 case atStart =>
  have e2:=hm.out
  exact ⟨0,R.length,a+1,bb,by omega,by omega,rfl,rfl,Lib.hid rfl,hm,Lib.hid (by simp),Lib.hid (by simp),h⟩
 case round =>
  obtain ⟨u,v,i0,j0,huv,hv,rfl,rfl,HI,HJ,HY,HN,hS⟩:=hrel
  by_cases hlt:u < v
  ·have hij:i0 < j0:=by have:=HI.out;have:=HJ.out;omega
   have hjb:j0≤bb:=by have:=HJ.out;have:=hm.out;omega
   have hai:a+1≤i0:=by have:=HI.out;omega
   obtain ⟨t,ht⟩:∃t:Nat,(i0+j0) / 2 = t:=⟨_,rfl⟩
   have hti:i0≤t:=by omega
   have htj:t < j0:=by omega
   obtain ⟨k,hk⟩:∃k,a+1+k = t:=⟨t - (a+1),by omega⟩
   have hkR:k < R.length:=by have:=hm.out;omega
   have huk:u≤k:=by have:=HI.out;omega
   have hkv:k < v:=by have:=HJ.out;omega
   have hR1:R[k]? = some R[k]:=List.getElem?_eq_getElem hkR
   obtain ⟨y,hy⟩:∃y,R[k] = y:=⟨_,rfl⟩
   have MV:(P++(x :: (R++Q)))[t]? = some y:=by
    exact Zad3
   have hgx:(P++(x :: (R++Q)))[a]? = some x:=by
    rw [List.getElem?_append_right auu,show a - P.length = 0 by have:=ha.out;omega];rfl
   have qx0:wr.cell? ⟨b,o+a * 9,none⟩ = some (.string x.name):=hS.tab _ x hgx 0 _ rfl
   have qx1:wr.cell? ⟨b,o+a * 9+1,none⟩ = some (.slice x.la x.ln x.lc):=hS.tab _ x hgx 1 _ rfl
   have qx2:wr.cell? ⟨b,o+a * 9+2,none⟩ = some (.int .i64 x.cpu):=hS.tab _ x hgx 2 _ rfl
   have qx3:wr.cell? ⟨b,o+a * 9+3,none⟩ = some (.int .i64 x.mem):=hS.tab _ x hgx 3 _ rfl
   have qx4:wr.cell? ⟨b,o+a * 9+4,none⟩ = some (.int .i64 x.rank):=hS.tab _ x hgx 4 _ rfl
   have qx5:wr.cell? ⟨b,o+a * 9+5,none⟩ = some (.slice x.na x.nn x.nc):=hS.tab _ x hgx 5 _ rfl
   have qx6:wr.cell? ⟨b,o+a * 9+6,none⟩ = some (.slice x.ta x.tn x.tc):=hS.tab _ x hgx 6 _ rfl
   have qx7:wr.cell? ⟨b,o+a * 9+7,none⟩ = some (.string x.on):=hS.tab _ x hgx 7 _ rfl
   have qx8:wr.cell? ⟨b,o+a * 9+8,none⟩ = some (.int .i64 x.seq):=hS.tab _ x hgx 8 _ rfl
   have qy0:wr.cell? ⟨b,o+t * 9,none⟩ = some (.string y.name):=hS.tab _ y MV 0 _ rfl
   have qy1:wr.cell? ⟨b,o+t * 9+1,none⟩ = some (.slice y.la y.ln y.lc):=hS.tab _ y MV 1 _ rfl
   have qy2:wr.cell? ⟨b,o+t * 9+2,none⟩ = some (.int .i64 y.cpu):=hS.tab _ y MV 2 _ rfl
   have qy3:wr.cell? ⟨b,o+t * 9+3,none⟩ = some (.int .i64 y.mem):=hS.tab _ y MV 3 _ rfl
   have qy4:wr.cell? ⟨b,o+t * 9+4,none⟩ = some (.int .i64 y.rank):=hS.tab _ y MV 4 _ rfl
   have qy5:wr.cell? ⟨b,o+t * 9+5,none⟩ = some (.slice y.na y.nn y.nc):=hS.tab _ y MV 5 _ rfl
   have qy6:wr.cell? ⟨b,o+t * 9+6,none⟩ = some (.slice y.ta y.tn y.tc):=hS.tab _ y MV 6 _ rfl
   have qy7:wr.cell? ⟨b,o+t * 9+7,none⟩ = some (.string y.on):=hS.tab _ y MV 7 _ rfl
   have qy8:wr.cell? ⟨b,o+t * 9+8,none⟩ = some (.int .i64 y.seq):=hS.tab _ y MV 8 _ rfl
   exact Zaef
  ·have aa4:v = u:=by omega
   subst aa4
   have hj0:j0 = i0:=by have:=HI.out;have:=HJ.out;omega
   subst hj0
   have HM:=Lib.hid (Yw HY.out HN.out)
   have hai:a+1≤j0:=by have:=HI.out;omega
   have hjb:j0≤bb:=by have:=HJ.out;have:=hm.out;omega
   obtain ⟨wo,hwo⟩:∃wo,wo = wr:=⟨_,rfl⟩
   subst hwo
   clear HJ HY HN
   go_wp2_with fail
   go_loopw [13] (fun k wr=>∃s k0:Nat,s≤v∧k = .int .i64 (k0:Int)∧Hid (a+s = k0)∧jJ tH 9 W0 wr b o (P++(R.take s++(x :: (R.drop s++Q))))) (fun k _=>j0 - (intOf k).toNat)
   case atStart=>exact ⟨0,a,by omega,rfl,Lib.hid rfl,by simpa using hS⟩
   case round =>
    obtain ⟨s,k0,hs,rfl,HK,hS2⟩:=hrel
    by_cases hlt:s < v
    ·have hks:(k0:Int) < j0 - 1:=by have:=HI.out;have:=HK.out;omega
     have hkb:k0+1 < bb:=by omega
     have hsR:s < R.length:=by omega
     obtain ⟨y,hy⟩:∃y,R[s] = y:=⟨_,rfl⟩
     have hdr:R.drop s = y :: R.drop (s+1):=by rw [← hy];exact (List.getElem_cons_drop ..).symm
     have htk:R.take (s+1) = R.take s++[y]:=by rw [← hy];exact List.take_succ_eq_append_getElem hsR
     rw [hdr] at hS2
     have hS3:jJ tH 9 W0 wr b o (P++(R.take s++(x :: y :: (R.drop (s+1)++Q)))):=hS2
     have hpk:P.length+(R.take s).length = k0:=by rw [List.length_take];have:=HK.out;have:=ha.out;omega
     have g1:=wY P (R.take s) (R.drop (s+1)++Q) x y hpk
     have g2:=wZ P (R.take s) (R.drop (s+1)++Q) x y hpk
     have qx0:wr.cell? ⟨b,o+k0 * 9,none⟩ = some (.string x.name):=hS3.tab _ x g1 0 _ rfl
     have qx1:wr.cell? ⟨b,o+k0 * 9+1,none⟩ = some (.slice x.la x.ln x.lc):=hS3.tab _ x g1 1 _ rfl
     have qx2:wr.cell? ⟨b,o+k0 * 9+2,none⟩ = some (.int .i64 x.cpu):=hS3.tab _ x g1 2 _ rfl
     have qx3:wr.cell? ⟨b,o+k0 * 9+3,none⟩ = some (.int .i64 x.mem):=hS3.tab _ x g1 3 _ rfl
     have qx4:wr.cell? ⟨b,o+k0 * 9+4,none⟩ = some (.int .i64 x.rank):=hS3.tab _ x g1 4 _ rfl
     have qx5:wr.cell? ⟨b,o+k0 * 9+5,none⟩ = some (.slice x.na x.nn x.nc):=hS3.tab _ x g1 5 _ rfl
     have qx6:wr.cell? ⟨b,o+k0 * 9+6,none⟩ = some (.slice x.ta x.tn x.tc):=hS3.tab _ x g1 6 _ rfl
     have qx7:wr.cell? ⟨b,o+k0 * 9+7,none⟩ = some (.string x.on):=hS3.tab _ x g1 7 _ rfl
     have qx8:wr.cell? ⟨b,o+k0 * 9+8,none⟩ = some (.int .i64 x.seq):=hS3.tab _ x g1 8 _ rfl
     have qy0:wr.cell? ⟨b,o+(k0+1) * 9,none⟩ = some (.string y.name):=hS3.tab _ y g2 0 _ rfl
     have qy1:wr.cell? ⟨b,o+(k0+1) * 9+1,none⟩ = some (.slice y.la y.ln y.lc):=hS3.tab _ y g2 1 _ rfl
     have qy2:wr.cell? ⟨b,o+(k0+1) * 9+2,none⟩ = some (.int .i64 y.cpu):=hS3.tab _ y g2 2 _ rfl
     have qy3:wr.cell? ⟨b,o+(k0+1) * 9+3,none⟩ = some (.int .i64 y.mem):=hS3.tab _ y g2 3 _ rfl
     have qy4:wr.cell? ⟨b,o+(k0+1) * 9+4,none⟩ = some (.int .i64 y.rank):=hS3.tab _ y g2 4 _ rfl
     have qy5:wr.cell? ⟨b,o+(k0+1) * 9+5,none⟩ = some (.slice y.na y.nn y.nc):=hS3.tab _ y g2 5 _ rfl
     have qy6:wr.cell? ⟨b,o+(k0+1) * 9+6,none⟩ = some (.slice y.ta y.tn y.tc):=hS3.tab _ y g2 6 _ rfl
     have qy7:wr.cell? ⟨b,o+(k0+1) * 9+7,none⟩ = some (.string y.on):=hS3.tab _ y g2 7 _ rfl
     have qy8:wr.cell? ⟨b,o+(k0+1) * 9+8,none⟩ = some (.int .i64 y.seq):=hS3.tab _ y g2 8 _ rfl
     have qf:=hS3.plain.frozen
     have ql:=hS3.plain.lt
     have h2:=hS3.swap_ (fun _=>rfl) g1 g2
     rw [ajh P (R.take s) (R.drop (s+1)++Q) x y hpk] at h2
     exact Zab2
    ·exact Zafi
set_option maxRecDepth 100000 in
set_option maxHeartbeats 4000000 in
theorem aeP (W0 w:World) (b o c N:Nat) (P L Q:List Eb) (y:Eb) (a m:Nat) (cv:Eb→Eb→Int) (h:jJ tH 9 W0 w b o (P++(L++(y :: Q)))) (hN:(P++(L++(y :: Q))).length≤N) (BI:N≤1048576) (ha:Hid (P.length = a)) (hm:Hid (a+L.length = m)) (h2:2≤L.length) (W:Weak (kS cv)) (hL:Sorted (kS cv) L) (hc:ads cv W0 b) :
 Calls Tryz.prog 141 #[.slice (some ⟨b,o,none⟩) N c,.int .i64 a,.int .i64 m,.int .i64 ((m+1:Nat):Int),.func (.func 55) #[] #[]] w fun e w'=>e = .returned (.tuple #[])∧jJ tH 9 W0 w' b o (P++(fO (kS cv) L [y]++Q)):=by
 have hlen:m+1≤N:=by have e1:=ha.out;have e2:=hm.out;simp only [List.length_append,List.length_cons] at hN;omega
 have hle:a+2≤m:=by have e2:=hm.out;omega
 have HC:=Lib.hid hc
 have HW:=Lib.hid W
 have HL:=Lib.hid hL
 have hne1:((m:Int) - a == 1) = false:=by simp;omega
 clear hc hN W hL
 go_enter Tryz.func141,Tryz.ntmps141
 go_wp2_with fail
 go_loopw [14,15] (fun i j wr=>∃u v i0 j0:Nat,u≤v∧v≤L.length∧i = .int .i64 (i0:Int)∧j = .int .i64 (j0:Int)∧Hid (a+u = i0)∧Hid (a+v = j0)∧Hid (∀x∈L.take u,kS cv y x = false)∧Hid (∀x∈L.drop v,kS cv y x = true)∧jJ tH 9 W0 wr b o (P++(L++(y :: Q)))) (fun i j _=>(intOf j - intOf i).toNat)
 case atStart =>
  have e2:=hm.out
  exact ⟨0,L.length,a,m,by omega,by omega,rfl,rfl,Lib.hid rfl,hm,Lib.hid (by simp),Lib.hid (by simp),h⟩
 case round =>
  obtain ⟨u,v,i0,j0,huv,hv,rfl,rfl,HI,HJ,HY,HN,hS⟩:=hrel
  by_cases hlt:u < v
  ·have hij:i0 < j0:=by have:=HI.out;have:=HJ.out;omega
   have hjb:j0≤m:=by have:=HJ.out;have:=hm.out;omega
   have hai:a≤i0:=by have:=HI.out;omega
   obtain ⟨t,ht⟩:∃t:Nat,(i0+j0) / 2 = t:=⟨_,rfl⟩
   have hti:i0≤t:=by omega
   have htj:t < j0:=by omega
   obtain ⟨k,hk⟩:∃k,a+k = t:=⟨t - a,by omega⟩
   have hkL:k < L.length:=by have:=hm.out;omega
   have huk:u≤k:=by have:=HI.out;omega
   have hkv:k < v:=by have:=HJ.out;omega
   have hL1:L[k]? = some L[k]:=List.getElem?_eq_getElem hkL
   obtain ⟨x,hx⟩:∃x,L[k] = x:=⟨_,rfl⟩
   have hgx:(P++(L++(y :: Q)))[t]? = some x:=by
    rw [List.getElem?_append_right auu,show t - P.length = k by have:=ha.out;omega,List.getElem?_append_left hkL,hL1,hx]
   have MV:(P++(L++(y :: Q)))[m]? = some y:=by
    exact Zad5
   have qx0:wr.cell? ⟨b,o+t * 9,none⟩ = some (.string x.name):=hS.tab _ x hgx 0 _ rfl
   have qx1:wr.cell? ⟨b,o+t * 9+1,none⟩ = some (.slice x.la x.ln x.lc):=hS.tab _ x hgx 1 _ rfl
   have qx2:wr.cell? ⟨b,o+t * 9+2,none⟩ = some (.int .i64 x.cpu):=hS.tab _ x hgx 2 _ rfl
   have qx3:wr.cell? ⟨b,o+t * 9+3,none⟩ = some (.int .i64 x.mem):=hS.tab _ x hgx 3 _ rfl
   have qx4:wr.cell? ⟨b,o+t * 9+4,none⟩ = some (.int .i64 x.rank):=hS.tab _ x hgx 4 _ rfl
   have qx5:wr.cell? ⟨b,o+t * 9+5,none⟩ = some (.slice x.na x.nn x.nc):=hS.tab _ x hgx 5 _ rfl
   have qx6:wr.cell? ⟨b,o+t * 9+6,none⟩ = some (.slice x.ta x.tn x.tc):=hS.tab _ x hgx 6 _ rfl
   have qx7:wr.cell? ⟨b,o+t * 9+7,none⟩ = some (.string x.on):=hS.tab _ x hgx 7 _ rfl
   have qx8:wr.cell? ⟨b,o+t * 9+8,none⟩ = some (.int .i64 x.seq):=hS.tab _ x hgx 8 _ rfl
   have qy0:wr.cell? ⟨b,o+m * 9,none⟩ = some (.string y.name):=hS.tab _ y MV 0 _ rfl
   have qy1:wr.cell? ⟨b,o+m * 9+1,none⟩ = some (.slice y.la y.ln y.lc):=hS.tab _ y MV 1 _ rfl
   have qy2:wr.cell? ⟨b,o+m * 9+2,none⟩ = some (.int .i64 y.cpu):=hS.tab _ y MV 2 _ rfl
   have qy3:wr.cell? ⟨b,o+m * 9+3,none⟩ = some (.int .i64 y.mem):=hS.tab _ y MV 3 _ rfl
   have qy4:wr.cell? ⟨b,o+m * 9+4,none⟩ = some (.int .i64 y.rank):=hS.tab _ y MV 4 _ rfl
   have qy5:wr.cell? ⟨b,o+m * 9+5,none⟩ = some (.slice y.na y.nn y.nc):=hS.tab _ y MV 5 _ rfl
   have qy6:wr.cell? ⟨b,o+m * 9+6,none⟩ = some (.slice y.ta y.tn y.tc):=hS.tab _ y MV 6 _ rfl
   have qy7:wr.cell? ⟨b,o+m * 9+7,none⟩ = some (.string y.on):=hS.tab _ y MV 7 _ rfl
   have qy8:wr.cell? ⟨b,o+m * 9+8,none⟩ = some (.int .i64 y.seq):=hS.tab _ y MV 8 _ rfl
   exact Zaeg
  ·have aa4:v = u:=by omega
   subst aa4
   have hj0:j0 = i0:=by have:=HI.out;have:=HJ.out;omega
   subst hj0
   have HM:=Lib.hid (WR HY.out HN.out)
   have hai:a≤j0:=by have:=HI.out;omega
   have hjb:j0≤m:=by have:=HJ.out;have:=hm.out;omega
   obtain ⟨wo,hwo⟩:∃wo,wo = wr:=⟨_,rfl⟩
   subst hwo
   clear HJ HY HN
   go_wp2_with fail
   go_loopw [17] (fun k wr=>∃s k0:Nat,v≤s∧s≤L.length∧k = .int .i64 (k0:Int)∧Hid (a+s = k0)∧jJ tH 9 W0 wr b o (P++(L.take s++(y :: (L.drop s++Q))))) (fun k _=>(intOf k).toNat)
   case atStart=>exact ⟨L.length,m,hv,by omega,rfl,hm,by simpa using hS⟩
   case round =>
    obtain ⟨s,k1,hs1,hs,rfl,HK,hS2⟩:=hrel
    by_cases hlt:v < s
    ·obtain ⟨s,rfl⟩:∃s',s = s'+1:=⟨s - 1,by omega⟩
     obtain ⟨k0,rfl⟩:∃k',k1 = k'+1:=⟨k1 - 1,by have:=HK.out;omega⟩
     have hks:(j0:Int) < k0+1:=by have:=HI.out;have:=HK.out;omega
     have hkb:k0+1≤m:=by have:=HK.out;have:=hm.out;omega
     have hsL:s < L.length:=by omega
     obtain ⟨x,hx⟩:∃x,L[s] = x:=⟨_,rfl⟩
     have hdr:L.drop s = x :: L.drop (s+1):=by rw [← hx];exact (List.getElem_cons_drop ..).symm
     have htk:L.take (s+1) = L.take s++[x]:=by rw [← hx];exact List.take_succ_eq_append_getElem hsL
     rw [htk] at hS2
     have hS3:jJ tH 9 W0 wr b o (P++(L.take s++(x :: y :: (L.drop (s+1)++Q)))):=by
      exact Zadj
     have hpk:P.length+(L.take s).length = k0:=by rw [List.length_take];have:=HK.out;have:=ha.out;omega
     have g1:=wY P (L.take s) (L.drop (s+1)++Q) x y hpk
     have g2:=wZ P (L.take s) (L.drop (s+1)++Q) x y hpk
     have qx0:wr.cell? ⟨b,o+k0 * 9,none⟩ = some (.string x.name):=hS3.tab _ x g1 0 _ rfl
     have qx1:wr.cell? ⟨b,o+k0 * 9+1,none⟩ = some (.slice x.la x.ln x.lc):=hS3.tab _ x g1 1 _ rfl
     have qx2:wr.cell? ⟨b,o+k0 * 9+2,none⟩ = some (.int .i64 x.cpu):=hS3.tab _ x g1 2 _ rfl
     have qx3:wr.cell? ⟨b,o+k0 * 9+3,none⟩ = some (.int .i64 x.mem):=hS3.tab _ x g1 3 _ rfl
     have qx4:wr.cell? ⟨b,o+k0 * 9+4,none⟩ = some (.int .i64 x.rank):=hS3.tab _ x g1 4 _ rfl
     have qx5:wr.cell? ⟨b,o+k0 * 9+5,none⟩ = some (.slice x.na x.nn x.nc):=hS3.tab _ x g1 5 _ rfl
     have qx6:wr.cell? ⟨b,o+k0 * 9+6,none⟩ = some (.slice x.ta x.tn x.tc):=hS3.tab _ x g1 6 _ rfl
     have qx7:wr.cell? ⟨b,o+k0 * 9+7,none⟩ = some (.string x.on):=hS3.tab _ x g1 7 _ rfl
     have qx8:wr.cell? ⟨b,o+k0 * 9+8,none⟩ = some (.int .i64 x.seq):=hS3.tab _ x g1 8 _ rfl
     have qy0:wr.cell? ⟨b,o+(k0+1) * 9,none⟩ = some (.string y.name):=hS3.tab _ y g2 0 _ rfl
     have qy1:wr.cell? ⟨b,o+(k0+1) * 9+1,none⟩ = some (.slice y.la y.ln y.lc):=hS3.tab _ y g2 1 _ rfl
     have qy2:wr.cell? ⟨b,o+(k0+1) * 9+2,none⟩ = some (.int .i64 y.cpu):=hS3.tab _ y g2 2 _ rfl
     have qy3:wr.cell? ⟨b,o+(k0+1) * 9+3,none⟩ = some (.int .i64 y.mem):=hS3.tab _ y g2 3 _ rfl
     have qy4:wr.cell? ⟨b,o+(k0+1) * 9+4,none⟩ = some (.int .i64 y.rank):=hS3.tab _ y g2 4 _ rfl
     have qy5:wr.cell? ⟨b,o+(k0+1) * 9+5,none⟩ = some (.slice y.na y.nn y.nc):=hS3.tab _ y g2 5 _ rfl
     have qy6:wr.cell? ⟨b,o+(k0+1) * 9+6,none⟩ = some (.slice y.ta y.tn y.tc):=hS3.tab _ y g2 6 _ rfl
     have qy7:wr.cell? ⟨b,o+(k0+1) * 9+7,none⟩ = some (.string y.on):=hS3.tab _ y g2 7 _ rfl
     have qy8:wr.cell? ⟨b,o+(k0+1) * 9+8,none⟩ = some (.int .i64 y.seq):=hS3.tab _ y g2 8 _ rfl
     have qf:=hS3.plain.frozen
     have ql:=hS3.plain.lt
     have h2:=hS3.swap_ (fun _=>rfl) g2 g1
     rw [V7 P (L.take s) (L.drop (s+1)++Q) x y hpk] at h2
     exact Zacl
    ·exact Zafh
end
end Go.Proofs.YtogkjlcoadhpgaaGreat
