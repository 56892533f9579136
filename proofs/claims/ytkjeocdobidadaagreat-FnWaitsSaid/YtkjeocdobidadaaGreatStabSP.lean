/- The library's merging of two sorted runs in place, walked at Placed. No condition. -/
import Derived.Test.YtkjeocdobidadaaGreatStabWP
namespace Go.Proofs.YtkjeocdobidadaaGreat
open Go.ChangeShapes Go.WideShapes Go.ChangeAt Go.RowKit
set_option linter.unusedVariables false
set_option linter.unusedSimpArgs false
set_option maxHeartbeats 8000000
set_option maxRecDepth 100000
section
theorem ahs (W0 w:World) (b o c N:Nat) (P R Q:List Eb) (x:Eb) (a bb:Nat) (cv:Eb→Eb→Int) (h:jJ tH 9 W0 w b o (P++(x :: (R++Q)))) (hN:(P++(x :: (R++Q))).length≤N) (BI:N≤1048576) (ha:Hid (P.length = a)) (hm:Hid (a+1+R.length = bb)) (W:Weak (kS cv)) (hR:Sorted (kS cv) R) (hc:ads cv W0 b) :
 Calls Tryz.prog 191 #[.slice (some ⟨b,o,none⟩) N c,.int .i64 a,.int .i64 ((a+1:Nat):Int),.int .i64 bb,.func (.func 92) #[] #[]] w fun e w'=>e = .returned (.tuple #[])∧jJ tH 9 W0 w' b o (P++(fO (kS cv) [x] R++Q)):=by
 have hlen:bb≤N:=by have e1:=ha.out;have e2:=hm.out;simp only [List.length_append,List.length_cons] at hN;omega
 have hle:a+1≤bb:=by have e2:=hm.out;omega
 have HC:=I' hc;have HW:=I' W;have HR:=I' hR;clear hc hN W hR;go_enter Tryz.func191,Tryz.ntmps191;go_wp2_with fail
 go_loopw [10,11] (fun i j wr=>∃u v i0 j0:Nat,u≤v∧v≤R.length∧i = .int .i64 (i0:Int)∧j = .int .i64 (j0:Int)∧Hid (a+1+u = i0)∧Hid (a+1+v = j0)∧Hid (∀y∈R.take u,kS cv y x = true)∧Hid (∀y∈R.drop v,kS cv y x = false)∧jJ tH 9 W0 wr b o (P++(x :: (R++Q)))) (fun i j _=>(intOf j - intOf i).toNat)
 case atStart =>have e2:=hm.out;exact ⟨0,R.length,a+1,bb,O',O',rfl,rfl,I' rfl,hm,I' S',I' S',h⟩
 case round =>
  obtain ⟨u,v,i0,j0,huv,hv,rfl,rfl,HI,HJ,HY,HN,hS⟩:=hrel;by_cases hlt:u < v
  ·have hij:i0 < j0:=(by have:=HI.out;have:=HJ.out;omega);have hjb:j0≤bb:=(by have:=HJ.out;have:=hm.out;omega);have hai:a+1≤i0:=(by have:=HI.out;omega);obtain ⟨t,ht⟩:∃t:Nat,(i0+j0) / 2 = t:=⟨_,rfl⟩;have hti:i0≤t:=O';have htj:t < j0:=O';obtain ⟨k,hk⟩:∃k,a+1+k = t:=⟨t - (a+1),O'⟩;have hkR:k < R.length:=(by have:=hm.out;omega);have huk:u≤k:=(by have:=HI.out;omega);have hkv:k < v:=(by have:=HJ.out;omega);have hR1:R[k]? = some R[k]:=List.getElem?_eq_getElem hkR;obtain ⟨y,hy⟩:∃y,R[k] = y:=⟨_,rfl⟩;have MV:(P++(x :: (R++Q)))[t]? = some y:=by
    rw [List.getElem?_append_right auu,show t - P.length = k+1 by have:=ha.out;omega,List.getElem?_cons_succ,List.getElem?_append_left hkR,hR1,hy]
   have hgx:(P++(x :: (R++Q)))[a]? = some x:=by rw [List.getElem?_append_right auu,show a - P.length = 0 by have:=ha.out;omega];rfl
   have qx0:wr.cell? ⟨b,o+a * 9,none⟩ = some (.string x.name):=hS.tab _ x hgx 0 _ rfl;have qx1:wr.cell? ⟨b,o+a * 9+1,none⟩ = some (.slice x.la x.ln x.lc):=hS.tab _ x hgx 1 _ rfl;have qx2:wr.cell? ⟨b,o+a * 9+2,none⟩ = some (.int .i64 x.cpu):=hS.tab _ x hgx 2 _ rfl;have qx3:wr.cell? ⟨b,o+a * 9+3,none⟩ = some (.int .i64 x.mem):=hS.tab _ x hgx 3 _ rfl;have qx4:wr.cell? ⟨b,o+a * 9+4,none⟩ = some (.int .i64 x.rank):=hS.tab _ x hgx 4 _ rfl;have qx5:wr.cell? ⟨b,o+a * 9+5,none⟩ = some (.slice x.na x.nn x.nc):=hS.tab _ x hgx 5 _ rfl;have qx6:wr.cell? ⟨b,o+a * 9+6,none⟩ = some (.slice x.ta x.tn x.tc):=hS.tab _ x hgx 6 _ rfl;have qx7:wr.cell? ⟨b,o+a * 9+7,none⟩ = some (.string x.on):=hS.tab _ x hgx 7 _ rfl;have qx8:wr.cell? ⟨b,o+a * 9+8,none⟩ = some (.int .i64 x.seq):=hS.tab _ x hgx 8 _ rfl;have qy0:wr.cell? ⟨b,o+t * 9,none⟩ = some (.string y.name):=hS.tab _ y MV 0 _ rfl;have qy1:wr.cell? ⟨b,o+t * 9+1,none⟩ = some (.slice y.la y.ln y.lc):=hS.tab _ y MV 1 _ rfl;have qy2:wr.cell? ⟨b,o+t * 9+2,none⟩ = some (.int .i64 y.cpu):=hS.tab _ y MV 2 _ rfl;have qy3:wr.cell? ⟨b,o+t * 9+3,none⟩ = some (.int .i64 y.mem):=hS.tab _ y MV 3 _ rfl;have qy4:wr.cell? ⟨b,o+t * 9+4,none⟩ = some (.int .i64 y.rank):=hS.tab _ y MV 4 _ rfl;have qy5:wr.cell? ⟨b,o+t * 9+5,none⟩ = some (.slice y.na y.nn y.nc):=hS.tab _ y MV 5 _ rfl;have qy6:wr.cell? ⟨b,o+t * 9+6,none⟩ = some (.slice y.ta y.tn y.tc):=hS.tab _ y MV 6 _ rfl;have qy7:wr.cell? ⟨b,o+t * 9+7,none⟩ = some (.string y.on):=hS.tab _ y MV 7 _ rfl;have qy8:wr.cell? ⟨b,o+t * 9+8,none⟩ = some (.int .i64 y.seq):=hS.tab _ y MV 8 _ rfl;have HU:=I' hS.upd;have hbl:b < wr.heap.size:=hS.plain.lt;have HS:=I' hS;have HK:=I' hk;have htI:((i0:Int)+j0) / 2 = t:=O';have HY2:=I' (fun h:kS cv y x = true=>acA HW.out HR.out hkR (by rw [hy];exact h));have Gn:=I' (fun h:kS cv y x = false=>ad7 HW.out HR.out hkR (by rw [hy];exact h));clear hS hR1 MV hgx ht hk hy;cases hcv:decide (cv y x < 0) with
   | true =>exact Zae5
   | false =>exact Zae6
  ·have aa4:v = u:=O';subst aa4;have hj0:j0 = i0:=(by have:=HI.out;have:=HJ.out;omega);subst hj0;have HM:=I' (Yw HY.out HN.out);have hai:a+1≤j0:=(by have:=HI.out;omega);have hjb:j0≤bb:=(by have:=HJ.out;have:=hm.out;omega);obtain ⟨wo,hwo⟩:∃wo,wo = wr:=⟨_,rfl⟩;subst hwo;clear HJ HY HN;go_wp2_with fail
   go_loopw [13] (fun k wr=>∃s k0:Nat,s≤v∧k = .int .i64 (k0:Int)∧Hid (a+s = k0)∧jJ tH 9 W0 wr b o (P++(R.take s++(x :: (R.drop s++Q))))) (fun k _=>j0 - (intOf k).toNat)
   case atStart=>exact ⟨0,a,O',rfl,I' rfl,by simpa using hS⟩
   case round =>
    obtain ⟨s,k0,hs,rfl,HK,hS2⟩:=hrel;by_cases hlt:s < v
    ·have hks:(k0:Int) < j0 - 1:=(by have:=HI.out;have:=HK.out;omega);have hkb:k0+1 < bb:=O';have hsR:s < R.length:=O';obtain ⟨y,hy⟩:∃y,R[s] = y:=⟨_,rfl⟩;have hdr:R.drop s = y :: R.drop (s+1):=(by rw [← hy];exact (List.getElem_cons_drop ..).symm);have htk:R.take (s+1) = R.take s++[y]:=(by rw [← hy];exact List.take_succ_eq_append_getElem hsR);rw [hdr] at hS2;have hS3:jJ tH 9 W0 wr b o (P++(R.take s++(x :: y :: (R.drop (s+1)++Q)))):=hS2;have hpk:P.length+(R.take s).length = k0:=(by rw [List.length_take];have:=HK.out;have:=ha.out;omega);have g1:=wY P (R.take s) (R.drop (s+1)++Q) x y hpk;have g2:=wZ P (R.take s) (R.drop (s+1)++Q) x y hpk;have qx0:wr.cell? ⟨b,o+k0 * 9,none⟩ = some (.string x.name):=hS3.tab _ x g1 0 _ rfl;have qx1:wr.cell? ⟨b,o+k0 * 9+1,none⟩ = some (.slice x.la x.ln x.lc):=hS3.tab _ x g1 1 _ rfl;have qx2:wr.cell? ⟨b,o+k0 * 9+2,none⟩ = some (.int .i64 x.cpu):=hS3.tab _ x g1 2 _ rfl;have qx3:wr.cell? ⟨b,o+k0 * 9+3,none⟩ = some (.int .i64 x.mem):=hS3.tab _ x g1 3 _ rfl;have qx4:wr.cell? ⟨b,o+k0 * 9+4,none⟩ = some (.int .i64 x.rank):=hS3.tab _ x g1 4 _ rfl;have qx5:wr.cell? ⟨b,o+k0 * 9+5,none⟩ = some (.slice x.na x.nn x.nc):=hS3.tab _ x g1 5 _ rfl;have qx6:wr.cell? ⟨b,o+k0 * 9+6,none⟩ = some (.slice x.ta x.tn x.tc):=hS3.tab _ x g1 6 _ rfl;have qx7:wr.cell? ⟨b,o+k0 * 9+7,none⟩ = some (.string x.on):=hS3.tab _ x g1 7 _ rfl;have qx8:wr.cell? ⟨b,o+k0 * 9+8,none⟩ = some (.int .i64 x.seq):=hS3.tab _ x g1 8 _ rfl;have qy0:wr.cell? ⟨b,o+(k0+1) * 9,none⟩ = some (.string y.name):=hS3.tab _ y g2 0 _ rfl;have qy1:wr.cell? ⟨b,o+(k0+1) * 9+1,none⟩ = some (.slice y.la y.ln y.lc):=hS3.tab _ y g2 1 _ rfl;have qy2:wr.cell? ⟨b,o+(k0+1) * 9+2,none⟩ = some (.int .i64 y.cpu):=hS3.tab _ y g2 2 _ rfl;have qy3:wr.cell? ⟨b,o+(k0+1) * 9+3,none⟩ = some (.int .i64 y.mem):=hS3.tab _ y g2 3 _ rfl;have qy4:wr.cell? ⟨b,o+(k0+1) * 9+4,none⟩ = some (.int .i64 y.rank):=hS3.tab _ y g2 4 _ rfl;have qy5:wr.cell? ⟨b,o+(k0+1) * 9+5,none⟩ = some (.slice y.na y.nn y.nc):=hS3.tab _ y g2 5 _ rfl;have qy6:wr.cell? ⟨b,o+(k0+1) * 9+6,none⟩ = some (.slice y.ta y.tn y.tc):=hS3.tab _ y g2 6 _ rfl;have qy7:wr.cell? ⟨b,o+(k0+1) * 9+7,none⟩ = some (.string y.on):=hS3.tab _ y g2 7 _ rfl;have qy8:wr.cell? ⟨b,o+(k0+1) * 9+8,none⟩ = some (.int .i64 y.seq):=hS3.tab _ y g2 8 _ rfl;have qf:=hS3.plain.frozen;have ql:=hS3.plain.lt;have h2:=hS3.swap_ (fun _=>rfl) g1 g2;rw [ajh P (R.take s) (R.drop (s+1)++Q) x y hpk] at h2;have H2:=I' h2;have HTK:=I' htk;clear hS2 hS3 h2 htk hdr hpk g1 g2 hy;go_wp2_with fail
     go_region
     go_wp2;refine ⟨⟨s+1,k0+1,O',N',I' auL,?_⟩,by simp [intOf];omega⟩;have h3:=jJ.ext H2.out (aA (aj _));rw [HTK.out,show P++((R.take s++[y])++(x :: (R.drop (s+1)++Q))) = P++(R.take s++(y :: x :: (R.drop (s+1)++Q))) by simp only [List.append_assoc,List.cons_append,List.nil_append]];exact h3
    ·have hsv:s = v:=O';subst hsv;have hks:(j0:Int) - 1≤k0:=(by have:=HI.out;have:=HK.out;omega);exact Zadn
theorem aeP (W0 w:World) (b o c N:Nat) (P L Q:List Eb) (y:Eb) (a m:Nat) (cv:Eb→Eb→Int) (h:jJ tH 9 W0 w b o (P++(L++(y :: Q)))) (hN:(P++(L++(y :: Q))).length≤N) (BI:N≤1048576) (ha:Hid (P.length = a)) (hm:Hid (a+L.length = m)) (h2:2≤L.length) (W:Weak (kS cv)) (hL:Sorted (kS cv) L) (hc:ads cv W0 b) :
 Calls Tryz.prog 191 #[.slice (some ⟨b,o,none⟩) N c,.int .i64 a,.int .i64 m,.int .i64 ((m+1:Nat):Int),.func (.func 92) #[] #[]] w fun e w'=>e = .returned (.tuple #[])∧jJ tH 9 W0 w' b o (P++(fO (kS cv) L [y]++Q)):=by
 have hlen:m+1≤N:=by have e1:=ha.out;have e2:=hm.out;simp only [List.length_append,List.length_cons] at hN;omega
 have hle:a+2≤m:=by have e2:=hm.out;omega
 have HC:=I' hc;have HW:=I' W;have HL:=I' hL;have hne1:((m:Int) - a == 1) = false:=by simp;omega
 clear hc hN W hL;go_enter Tryz.func191,Tryz.ntmps191;go_wp2_with fail
 go_loopw [14,15] (fun i j wr=>∃u v i0 j0:Nat,u≤v∧v≤L.length∧i = .int .i64 (i0:Int)∧j = .int .i64 (j0:Int)∧Hid (a+u = i0)∧Hid (a+v = j0)∧Hid (∀x∈L.take u,kS cv y x = false)∧Hid (∀x∈L.drop v,kS cv y x = true)∧jJ tH 9 W0 wr b o (P++(L++(y :: Q)))) (fun i j _=>(intOf j - intOf i).toNat)
 case atStart =>have e2:=hm.out;exact ⟨0,L.length,a,m,O',O',rfl,rfl,I' rfl,hm,I' S',I' S',h⟩
 case round =>
  obtain ⟨u,v,i0,j0,huv,hv,rfl,rfl,HI,HJ,HY,HN,hS⟩:=hrel;by_cases hlt:u < v
  ·have hij:i0 < j0:=(by have:=HI.out;have:=HJ.out;omega);have hjb:j0≤m:=(by have:=HJ.out;have:=hm.out;omega);have hai:a≤i0:=(by have:=HI.out;omega);obtain ⟨t,ht⟩:∃t:Nat,(i0+j0) / 2 = t:=⟨_,rfl⟩;have hti:i0≤t:=O';have htj:t < j0:=O';obtain ⟨k,hk⟩:∃k,a+k = t:=⟨t - a,O'⟩;have hkL:k < L.length:=(by have:=hm.out;omega);have huk:u≤k:=(by have:=HI.out;omega);have hkv:k < v:=(by have:=HJ.out;omega);have hL1:L[k]? = some L[k]:=List.getElem?_eq_getElem hkL;obtain ⟨x,hx⟩:∃x,L[k] = x:=⟨_,rfl⟩;have hgx:(P++(L++(y :: Q)))[t]? = some x:=by
    rw [List.getElem?_append_right auu,show t - P.length = k by have:=ha.out;omega,List.getElem?_append_left hkL,hL1,hx]
   have MV:(P++(L++(y :: Q)))[m]? = some y:=by rw [List.getElem?_append_right auu,List.getElem?_append_right avG,show m - P.length - L.length = 0 by have:=ha.out;have:=hm.out;omega];rfl
   have qx0:wr.cell? ⟨b,o+t * 9,none⟩ = some (.string x.name):=hS.tab _ x hgx 0 _ rfl;have qx1:wr.cell? ⟨b,o+t * 9+1,none⟩ = some (.slice x.la x.ln x.lc):=hS.tab _ x hgx 1 _ rfl;have qx2:wr.cell? ⟨b,o+t * 9+2,none⟩ = some (.int .i64 x.cpu):=hS.tab _ x hgx 2 _ rfl;have qx3:wr.cell? ⟨b,o+t * 9+3,none⟩ = some (.int .i64 x.mem):=hS.tab _ x hgx 3 _ rfl;have qx4:wr.cell? ⟨b,o+t * 9+4,none⟩ = some (.int .i64 x.rank):=hS.tab _ x hgx 4 _ rfl;have qx5:wr.cell? ⟨b,o+t * 9+5,none⟩ = some (.slice x.na x.nn x.nc):=hS.tab _ x hgx 5 _ rfl;have qx6:wr.cell? ⟨b,o+t * 9+6,none⟩ = some (.slice x.ta x.tn x.tc):=hS.tab _ x hgx 6 _ rfl;have qx7:wr.cell? ⟨b,o+t * 9+7,none⟩ = some (.string x.on):=hS.tab _ x hgx 7 _ rfl;have qx8:wr.cell? ⟨b,o+t * 9+8,none⟩ = some (.int .i64 x.seq):=hS.tab _ x hgx 8 _ rfl;have qy0:wr.cell? ⟨b,o+m * 9,none⟩ = some (.string y.name):=hS.tab _ y MV 0 _ rfl;have qy1:wr.cell? ⟨b,o+m * 9+1,none⟩ = some (.slice y.la y.ln y.lc):=hS.tab _ y MV 1 _ rfl;have qy2:wr.cell? ⟨b,o+m * 9+2,none⟩ = some (.int .i64 y.cpu):=hS.tab _ y MV 2 _ rfl;have qy3:wr.cell? ⟨b,o+m * 9+3,none⟩ = some (.int .i64 y.mem):=hS.tab _ y MV 3 _ rfl;have qy4:wr.cell? ⟨b,o+m * 9+4,none⟩ = some (.int .i64 y.rank):=hS.tab _ y MV 4 _ rfl;have qy5:wr.cell? ⟨b,o+m * 9+5,none⟩ = some (.slice y.na y.nn y.nc):=hS.tab _ y MV 5 _ rfl;have qy6:wr.cell? ⟨b,o+m * 9+6,none⟩ = some (.slice y.ta y.tn y.tc):=hS.tab _ y MV 6 _ rfl;have qy7:wr.cell? ⟨b,o+m * 9+7,none⟩ = some (.string y.on):=hS.tab _ y MV 7 _ rfl;have qy8:wr.cell? ⟨b,o+m * 9+8,none⟩ = some (.int .i64 y.seq):=hS.tab _ y MV 8 _ rfl;have HU:=I' hS.upd;have hbl:b < wr.heap.size:=hS.plain.lt;have HS:=I' hS;have HK:=I' hk;have htI:((i0:Int)+j0) / 2 = t:=O';have HY2:=I' (fun h:kS cv y x = false=>acB HW.out HL.out hkL (by rw [hx];exact h));have Gn:=I' (fun h:kS cv y x = true=>Z9 HW.out HL.out hkL (by rw [hx];exact h));clear hS hL1 MV hgx ht hk hx;cases hcv:decide (cv y x < 0) with
   | false =>exact Zae5
   | true =>exact Zae6
  ·have aa4:v = u:=O';subst aa4;have hj0:j0 = i0:=(by have:=HI.out;have:=HJ.out;omega);subst hj0;have HM:=I' (WR HY.out HN.out);have hai:a≤j0:=(by have:=HI.out;omega);have hjb:j0≤m:=(by have:=HJ.out;have:=hm.out;omega);obtain ⟨wo,hwo⟩:∃wo,wo = wr:=⟨_,rfl⟩;subst hwo;clear HJ HY HN;go_wp2_with fail
   go_loopw [17] (fun k wr=>∃s k0:Nat,v≤s∧s≤L.length∧k = .int .i64 (k0:Int)∧Hid (a+s = k0)∧jJ tH 9 W0 wr b o (P++(L.take s++(y :: (L.drop s++Q))))) (fun k _=>(intOf k).toNat)
   case atStart=>exact ⟨L.length,m,hv,O',rfl,hm,by simpa using hS⟩
   case round =>
    obtain ⟨s,k1,hs1,hs,rfl,HK,hS2⟩:=hrel;by_cases hlt:v < s
    ·obtain ⟨s,rfl⟩:∃s',s = s'+1:=⟨s - 1,O'⟩;obtain ⟨k0,rfl⟩:∃k',k1 = k'+1:=⟨k1 - 1,by have:=HK.out;omega⟩;have hks:(j0:Int) < k0+1:=(by have:=HI.out;have:=HK.out;omega);have hkb:k0+1≤m:=(by have:=HK.out;have:=hm.out;omega);have hsL:s < L.length:=O';obtain ⟨x,hx⟩:∃x,L[s] = x:=⟨_,rfl⟩;have hdr:L.drop s = x :: L.drop (s+1):=(by rw [← hx];exact (List.getElem_cons_drop ..).symm);have htk:L.take (s+1) = L.take s++[x]:=(by rw [← hx];exact List.take_succ_eq_append_getElem hsL);rw [htk] at hS2;have hS3:jJ tH 9 W0 wr b o (P++(L.take s++(x :: y :: (L.drop (s+1)++Q)))):=by
      have e:P++((L.take s++[x])++(y :: (L.drop (s+1)++Q))) = P++(L.take s++(x :: y :: (L.drop (s+1)++Q))):=(by simp only [List.append_assoc,List.cons_append,List.nil_append]);rw [← e];exact hS2
     have hpk:P.length+(L.take s).length = k0:=(by rw [List.length_take];have:=HK.out;have:=ha.out;omega);have g1:=wY P (L.take s) (L.drop (s+1)++Q) x y hpk;have g2:=wZ P (L.take s) (L.drop (s+1)++Q) x y hpk;have qx0:wr.cell? ⟨b,o+k0 * 9,none⟩ = some (.string x.name):=hS3.tab _ x g1 0 _ rfl;have qx1:wr.cell? ⟨b,o+k0 * 9+1,none⟩ = some (.slice x.la x.ln x.lc):=hS3.tab _ x g1 1 _ rfl;have qx2:wr.cell? ⟨b,o+k0 * 9+2,none⟩ = some (.int .i64 x.cpu):=hS3.tab _ x g1 2 _ rfl;have qx3:wr.cell? ⟨b,o+k0 * 9+3,none⟩ = some (.int .i64 x.mem):=hS3.tab _ x g1 3 _ rfl;have qx4:wr.cell? ⟨b,o+k0 * 9+4,none⟩ = some (.int .i64 x.rank):=hS3.tab _ x g1 4 _ rfl;have qx5:wr.cell? ⟨b,o+k0 * 9+5,none⟩ = some (.slice x.na x.nn x.nc):=hS3.tab _ x g1 5 _ rfl;have qx6:wr.cell? ⟨b,o+k0 * 9+6,none⟩ = some (.slice x.ta x.tn x.tc):=hS3.tab _ x g1 6 _ rfl;have qx7:wr.cell? ⟨b,o+k0 * 9+7,none⟩ = some (.string x.on):=hS3.tab _ x g1 7 _ rfl;have qx8:wr.cell? ⟨b,o+k0 * 9+8,none⟩ = some (.int .i64 x.seq):=hS3.tab _ x g1 8 _ rfl;have qy0:wr.cell? ⟨b,o+(k0+1) * 9,none⟩ = some (.string y.name):=hS3.tab _ y g2 0 _ rfl;have qy1:wr.cell? ⟨b,o+(k0+1) * 9+1,none⟩ = some (.slice y.la y.ln y.lc):=hS3.tab _ y g2 1 _ rfl;have qy2:wr.cell? ⟨b,o+(k0+1) * 9+2,none⟩ = some (.int .i64 y.cpu):=hS3.tab _ y g2 2 _ rfl;have qy3:wr.cell? ⟨b,o+(k0+1) * 9+3,none⟩ = some (.int .i64 y.mem):=hS3.tab _ y g2 3 _ rfl;have qy4:wr.cell? ⟨b,o+(k0+1) * 9+4,none⟩ = some (.int .i64 y.rank):=hS3.tab _ y g2 4 _ rfl;have qy5:wr.cell? ⟨b,o+(k0+1) * 9+5,none⟩ = some (.slice y.na y.nn y.nc):=hS3.tab _ y g2 5 _ rfl;have qy6:wr.cell? ⟨b,o+(k0+1) * 9+6,none⟩ = some (.slice y.ta y.tn y.tc):=hS3.tab _ y g2 6 _ rfl;have qy7:wr.cell? ⟨b,o+(k0+1) * 9+7,none⟩ = some (.string y.on):=hS3.tab _ y g2 7 _ rfl;have qy8:wr.cell? ⟨b,o+(k0+1) * 9+8,none⟩ = some (.int .i64 y.seq):=hS3.tab _ y g2 8 _ rfl;have qf:=hS3.plain.frozen;have ql:=hS3.plain.lt;have h2:=hS3.swap_ (fun _=>rfl) g2 g1;rw [V7 P (L.take s) (L.drop (s+1)++Q) x y hpk] at h2;have H2:=I' h2;have HDR:=I' hdr;clear hS2 hS3 h2 htk hdr hpk g1 g2 hx;go_wp2_with fail
     go_region
     go_wp2;refine ⟨⟨s,k0,O',O',N',I' auL,?_⟩,by simp [intOf]⟩;have h3:=jJ.ext H2.out (aA (aj _));rw [HDR.out];exact h3
    ·have hsv:s = v:=O';subst hsv;have hkj:k1 = j0:=(by have:=HI.out;have:=HK.out;omega);subst hkj;exact Zadn
end
section
theorem aac (K:Nat):∀(W0 w:World) (b o c N:Nat) (P L R Q:List Eb) (a m bb:Nat) (cv:Eb→Eb→Int) (h:jJ tH 9 W0 w b o (P++(L++(R++Q)))) (hN:(P++(L++(R++Q))).length≤N) (BI:N≤1048576) (ha:Hid (P.length = a)) (hm:Hid (a+L.length = m)) (hb:Hid (m+R.length = bb)) (h1:0 < L.length) (h2:0 < R.length) (W:Weak (kS cv)) (hL:Sorted (kS cv) L) (hR:Sorted (kS cv) R) (hc:ads cv W0 b) (hK:L.length+R.length≤K),
 Calls Tryz.prog 191 #[.slice (some ⟨b,o,none⟩) N c,.int .i64 a,.int .i64 m,.int .i64 bb,.func (.func 92) #[] #[]] w fun e w'=>e = .returned (.tuple #[])∧jJ tH 9 W0 w' b o (P++(fO (kS cv) L R++Q)):=by
 induction K with
 | zero=>intro W0 w b o c N P L R Q a m bb cv h hN BI ha hm hb h1 h2 W hL hR hc hK;omega
 | succ K ih =>
   intro W0 w b o c N P L R Q a m bb cv h hN BI ha hm hb h1 h2 W hL hR hc hK;by_cases hL1:L.length = 1
   ·obtain ⟨x,rfl⟩:=List.length_eq_one_iff.1 hL1;have e:m = a+1:=(by simpa using hm.out.symm);subst e;exact ahs W0 w b o c N P R Q x a bb cv h hN BI ha hb W hR hc
   by_cases hR1:R.length = 1
   ·obtain ⟨y,rfl⟩:=List.length_eq_one_iff.1 hR1;have e:bb = m+1:=(by simpa using hb.out.symm);subst e;exact aeP W0 w b o c N P L Q y a m cv h hN BI ha hm O' W hL hc
   have hlq:(P++(L++(R++Q))).length = P.length+L.length+R.length+Q.length:=(by simp only [List.length_append];omega);have HN:=I' (show P.length+L.length+R.length+Q.length≤N by omega);have hlen:bb≤N:=(by have:=HN.out;have:=ha.out;have:=hm.out;have:=hb.out;omega);have hLL:2≤L.length:=O';have hRR:2≤R.length:=O';have ham:a+2≤m:=(by have:=hm.out;omega);have hmb:m+2≤bb:=(by have:=hb.out;omega);have HC:=I' hc;have HW:=I' W;have HSL:=I' hL;have HSR:=I' hR;have HKK:=I' hK;have HIH:=I' ih;have hne1:((m:Int) - a == 1) = false:=(by simp;omega);have hne2:((bb:Int) - m == 1) = false:=(by simp;omega);obtain ⟨mid,hmid⟩:∃mid:Nat,(a+bb) / 2 = mid:=⟨_,rfl⟩;have hmI:((a:Int)+bb) / 2 = mid:=O';obtain ⟨d,hd⟩:∃d,a+d = mid:=⟨mid - a,O'⟩;have HD:=I' (show a+d = mid∧(2 * d = L.length+R.length∨2 * d+1 = L.length+R.length) by have:=hm.out;have:=hb.out;omega);obtain ⟨lo,HLO⟩:∃lo:Nat,Hid ((mid < m→lo+R.length = d)∧(¬mid < m→lo = 0)):=by
    by_cases hgt:mid < m
    ·exact ⟨d - R.length,I' ⟨fun _=>by have:=HD.out;have:=hm.out;have:=hb.out;omega,fun h=>absurd hgt h⟩⟩
    ·exact ⟨0,I' ⟨fun h=>absurd h hgt,fun _=>rfl⟩⟩
   obtain ⟨hi,HHI⟩:∃hi:Nat,Hid ((mid < m→hi = d)∧(¬mid < m→hi = L.length)):=by
    by_cases hgt:mid < m
    ·exact ⟨d,I' ⟨fun _=>rfl,fun h=>absurd hgt h⟩⟩
    ·exact ⟨L.length,I' ⟨fun h=>absurd h hgt,fun _=>rfl⟩⟩
   have hmab:a≤mid∧mid≤bb:=O';obtain ⟨hma,hmbb⟩:=hmab;clear hc hN W hL hR hK ih hL1 hR1 hlq hmid hd;go_enter Tryz.func191,Tryz.ntmps191;by_cases hgt:mid < m
   ·have hlo:lo+R.length = d:=(by have:=HLO.out.1 hgt;omega);have hhi:hi = d:=HHI.out.1 hgt;have aoW:=I' (show lo = 0∨lo+R.length = d from .inr hlo);have aoX:=I' (show hi = L.length∨hi = d from .inr hhi);exact Zaaa
   ·have hlo:lo = 0:=HLO.out.2 O';have hhi:hi = L.length:=HHI.out.2 O';have aoW:=I' (show lo = 0∨lo+R.length = d from .inl hlo);have aoX:=I' (show hi = L.length∨hi = d from .inl hhi);exact Zaaa
end
section
theorem am4 (W0 w:World) (b o c N:Nat) (D:List Eb) (cv:Eb→Eb→Int) (h:jJ tH 9 W0 w b o (D)) (hN:D.length = N) (BI:N≤1048576) (W:Weak (kS cv)) (hc:ads cv W0 b) :
 Calls Tryz.prog 139 #[.slice (some ⟨b,o,none⟩) N c,.int .i64 N,.func (.func 92) #[] #[]] w fun e w'=>e = .returned (.tuple #[])∧jJ tH 9 W0 w' b o (sortB (kS cv) [] D):=by
 have HC:=I' hc;have HW:=I' W;have HN:=I' hN;clear hc hN W;go_enter Tryz.func139,Tryz.ntmps139;go_wp2_with fail
 go_loopw [7,8] (fun i j wr=>∃(a0 b0:Nat) (A:List Eb),i = .int .i64 (a0:Int)∧j = .int .i64 (b0:Int)∧b0 = a0+20∧a0≤N∧Hid (A.length = a0)∧Hid (runs (kS cv) 20 D = A++runs (kS cv) 20 (D.drop a0))∧jJ tH 9 W0 wr b o (A++D.drop a0)) (fun i _ _=>N - (intOf i).toNat)
 case atStart=>exact ⟨0,20,[],rfl,rfl,rfl,O',I' rfl,I' S',by simpa using h⟩
 case round =>
  obtain ⟨a0,b0,A,rfl,rfl,hb0,ha0,HA,HR,hS⟩:=hrel;by_cases hlt:b0≤N
  ·have HB:=I' hb0;have hab:a0 < b0:=O';clear hb0;go_wp2_with fail
   have hx:((D.drop a0).take 20).length = 20:=(by rw [List.length_take,List.length_drop];have:=HB.out;have:=HN.out;omega);have hdr:(D.drop a0).drop 20 = D.drop b0:=(by rw [List.drop_drop,HB.out]);have hst:=Ky (lt:=(kS cv)) (s:=20) O' (D.drop a0);rw [hdr] at hst;refine (Yx W0 _ b o c N A ((D.drop a0).take 20) (D.drop b0) a0 b0 cv (by rw [← hdr,List.take_append_drop];exact hS) (by rw [← hdr,List.take_append_drop,List.length_append,List.length_drop];have:=HA.out;have:=HN.out;omega) BI HA (I' (by rw [hx];exact HB.out.symm)) HW.out HC.out).mono ?_;rintro e w2 ⟨rfl,hS2⟩;have HX:=I' hx;have HST:=I' hst;clear hx hdr hst;go_wp2;refine ⟨⟨b0,b0+20,A++sortB (kS cv) [] ((D.drop a0).take 20),rfl,N',rfl,hlt,I' (by rw [List.length_append,rD,HX.out,HA.out,HB.out];simp),I' awE,by simpa only [List.append_assoc] using hS2⟩,by simp [intOf];have:=HB.out;omega⟩
  ·go_wp2_with fail
   have hx:(D.drop a0).length≤20:=(by rw [List.length_drop];have:=HN.out;omega);have hst:=zo (lt:=(kS cv)) hx;refine (Yx W0 _ b o c N A (D.drop a0) [] a0 N cv awF (by rw [List.append_nil,List.length_append,List.length_drop];have:=HA.out;have:=HN.out;omega) BI HA (I' auV) HW.out HC.out).mono ?_;rintro e w2 ⟨rfl,hS2⟩;have hS3:jJ tH 9 W0 w2 b o (runs (kS cv) 20 D):=(by rw [HR.out,hst];simpa only [List.append_nil] using hS2);clear hS2 hS hx hst HR HA hb0 hlt;go_wp2_with fail
   go_loopw [6] (fun z wr=>∃s:Nat,0 < s∧s≤2097152∧z = .int .i64 (s:Int)∧jJ tH 9 W0 wr b o (runs (kS cv) s D)) (fun z _=>N - (intOf z).toNat)
   case atStart=>exact ⟨20,O',O',rfl,hS3⟩
   case round =>
    obtain ⟨s,hs0,hs1,rfl,hS4⟩:=hrel;by_cases hsn:s < N
    ·obtain ⟨wo,hwo⟩:∃wo,wo = wr:=⟨_,rfl⟩;subst hwo;clear hS3;go_wp2_with fail
     go_loopw [7,8] (fun i j wr=>∃(a0 b0:Nat) (A:List Eb),i = .int .i64 (a0:Int)∧j = .int .i64 (b0:Int)∧b0 = a0+2 * s∧a0≤N∧Hid (A.length = a0)∧Hid (runs (kS cv) (2 * s) D = A++runs (kS cv) (2 * s) (D.drop a0))∧jJ tH 9 W0 wr b o (A++runs (kS cv) s (D.drop a0))) (fun i _ _=>N - (intOf i).toNat)
     case atStart=>exact ⟨0,2 * s,[],rfl,N',O',O',I' rfl,I' S',by simpa using hS4⟩
     case round =>
      obtain ⟨a0,b0,A,rfl,rfl,hb0,ha0,HA,HR,hS⟩:=hrel;by_cases hlt:b0≤N
      ·have HB:=I' hb0;have hab:a0+s < b0:=O';clear hb0;go_wp2_with fail
       obtain ⟨h1,h2⟩:=am0 HW.out hs0 (D.drop a0);have hdr:(D.drop a0).drop (2 * s) = D.drop b0:=(by rw [List.drop_drop,HB.out]);have hst:=Ky (lt:=(kS cv)) (s:=2 * s) O' (D.drop a0);rw [hdr] at h1 hst;have hl1:(sortB (kS cv) [] ((D.drop a0).take s)).length = s:=(by rw [rD,List.length_take,List.length_drop];have:=HB.out;have:=HN.out;simp;omega);have hl2:(sortB (kS cv) [] (((D.drop a0).drop s).take s)).length = s:=(by rw [rD,List.length_take,List.length_drop,List.length_drop];have:=HB.out;have:=HN.out;simp;omega);have hl3:(runs (kS cv) s (D.drop b0)).length = N - b0:=(by rw [am3 hs0 _ _ (Nat.le_refl _),List.length_drop,HN.out]);rw [h1] at hS;have hx:(sortB (kS cv) [] ((D.drop a0).take (2 * s))).length = 2 * s:=(by rw [rD,List.length_take,List.length_drop];have:=HB.out;have:=HN.out;simp;omega);rw [show ((a0:Int)+s) = ((a0+s:Nat):Int) by omega];refine (aac (s+s) W0 _ b o c N A _ _ _ a0 (a0+s) b0 cv hS (by simp only [List.length_append,hl1,hl2,hl3];have:=HA.out;have:=HB.out;omega) BI HA (I' (by rw [hl1])) (I' (by rw [hl2];have:=HB.out;omega)) O' O' HW.out (yc HW.out _ _ List.Pairwise.nil) (yc HW.out _ _ List.Pairwise.nil) HC.out (by rw [hl1,hl2];exact Nat.le_refl _)).mono ?_;rintro e w2 ⟨rfl,hS2⟩;rw [h2] at hS2;have HX:=I' hx;have HST:=I' hst;clear h1 h2 hdr hst hl1 hl2 hl3 hx hS;go_wp2;refine ⟨⟨b0,b0+2 * s,A++sortB (kS cv) [] ((D.drop a0).take (2 * s)),rfl,N',rfl,hlt,I' (by rw [List.length_append,HX.out,HA.out,HB.out]),I' awE,by simpa only [List.append_assoc] using hS2⟩,by simp [intOf];omega⟩
      ·by_cases hm:a0+s < N
       ·go_wp2_with fail
        obtain ⟨h1,h2⟩:=ajf HW.out hs0 (ys:=D.drop a0) auV auV;have hl1:(sortB (kS cv) [] ((D.drop a0).take s)).length = s:=(by rw [rD,List.length_take,List.length_drop];have:=HN.out;simp;omega);have hl2:(sortB (kS cv) [] ((D.drop a0).drop s)).length = N - a0 - s:=(by rw [rD,List.length_drop,List.length_drop];have:=HN.out;simp;omega);rw [h1] at hS;try rw [show ((a0:Int)+s) = ((a0+s:Nat):Int) by omega]
        refine (aac (s+s) W0 _ b o c N A _ _ [] a0 (a0+s) N cv awF (by simp only [List.length_append,hl1,hl2,List.length_nil];have:=HA.out;omega) BI HA (I' (by rw [hl1])) (I' (by rw [hl2];omega)) O' O' HW.out (yc HW.out _ _ List.Pairwise.nil) (yc HW.out _ _ List.Pairwise.nil) HC.out (by rw [hl1,hl2];omega)).mono ?_;rintro e w2 ⟨rfl,hS2⟩;rw [h2,List.append_nil,← HR.out] at hS2;clear h1 h2 hl1 hl2 hS;go_wp2;refine ⟨⟨2 * s,O',O',by first | go_num | (congr 1;omega),hS2⟩,by simp [intOf];omega⟩
       ·go_wp2;have e1:=zo (lt:=(kS cv)) (s:=s) (xs:=D.drop a0) auV;have e2:=zo (lt:=(kS cv)) (s:=2 * s) (xs:=D.drop a0) auV;rw [e1,← e2,← HR.out] at hS;refine ⟨⟨2 * s,O',O',by first | go_num | (congr 1;omega),hS⟩,by simp [intOf];omega⟩
    ·go_wp2;go_end0
     refine ⟨rfl,?_⟩;rw [← zo (lt:=(kS cv)) (s:=s) (by have:=HN.out;omega)];exact hS4
theorem aeR (W0 w:World) (b o c N:Nat) (D:List Eb) (cv:Eb→Eb→Int) (h:jJ tH 9 W0 w b o (D)) (hN:D.length = N) (BI:N≤1048576) (W:Weak (kS cv)) (hc:ads cv W0 b) :
 Calls Tryz.prog 91 #[.slice (some ⟨b,o,none⟩) N c,.func (.func 92) #[] #[]] w fun e w'=>e = .returned (.tuple #[])∧jJ tH 9 W0 w' b o (sortB (kS cv) [] D):=by
 have HN:=I' hN;clear hN;go_enter Tryz.func91,Tryz.ntmps91;go_wp2_with fail
 refine (am4 W0 _ b o c N D cv h HN.out BI W hc).mono ?_;rintro e w2 ⟨rfl,hS⟩;go_wp2;go_end0
 exact ⟨rfl,hS⟩
theorem ahu (w:World) (A:Option Addr) (c:Nat) (f:Value):Calls Tryz.prog 190 #[.slice A 0 c,.int .i64 0,.int .i64 0,f] w fun e w'=>e = .returned (.tuple #[])∧w' = w:=by
 go_enter Tryz.func190,Tryz.ntmps190;go_wp2_with fail
 go_loopw [8] (fun i wr=>i = .int .i64 1∧wr = w) (fun _ _=>0)
 case atStart=>exact ⟨S',rfl⟩
 case round =>
  obtain ⟨rfl,rfl⟩:=hrel;go_wp2;go_end0
  exact ⟨rfl,rfl⟩
theorem am5 (w:World) (A:Option Addr) (c:Nat) (f:Value):Calls Tryz.prog 139 #[.slice A 0 c,.int .i64 0,f] w fun e w'=>e = .returned (.tuple #[])∧w' = w:=by
 go_enter Tryz.func139,Tryz.ntmps139;go_wp2_with fail
 go_loopw [7,8] (fun i j wr=>i = .int .i64 0∧j = .int .i64 20∧wr = w) (fun _ _ _=>0)
 case atStart=>exact ⟨rfl,rfl,rfl⟩
 case round =>
  obtain ⟨rfl,rfl,hw⟩:=hrel;subst hw;go_wp2_with fail
  refine (ahu _ A c f).mono ?_;rintro e w2 ⟨rfl,hw2⟩;subst hw2;go_wp2_with fail
  go_loopw [6] (fun z wz=>z = .int .i64 20∧wz = w2) (fun _ _=>0)
  case atStart=>exact ⟨rfl,rfl⟩
  case round =>
   obtain ⟨rfl,hw⟩:=hrel;subst hw;go_wp2;go_end0
   exact ⟨rfl,rfl⟩
theorem aeS (w:World) (A:Option Addr) (c:Nat) (f:Value):Calls Tryz.prog 91 #[.slice A 0 c,f] w fun e w'=>e = .returned (.tuple #[])∧w' = w:=by
 go_enter Tryz.func91,Tryz.ntmps91;go_wp2_with fail
 refine (am5 _ A c f).mono ?_;rintro e w2 ⟨rfl,hw⟩;subst hw;go_wp2;go_end0
 exact ⟨rfl,rfl⟩
end
end Go.Proofs.YtkjeocdobidadaaGreat
