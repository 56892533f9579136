/- The library's insertion sort, walked at Placed. No condition. -/
import Derived.Test.YtogkjlcoadhpgaaGreatStabM
import Derived.Test.YtogkjlcoadhpgaaGreatRegion
import Derived.Test.YtogkjlcoadhpgaaGreatWaitP
namespace Go.Proofs.YtogkjlcoadhpgaaGreat
open Go.ChangeShapes Go.WideShapes Go.ChangeAt Go.RowKit
set_option linter.unusedVariables false
set_option linter.unusedSimpArgs false
section
def ads (cv:Eb→Eb→Int) (W0:World) (b:Nat):Prop:=∀(x y:Eb) (w:World),nN [b] W0 w →
 Calls Tryz.prog 55 #[.agg #[.string x.name,.slice x.la x.ln x.lc,.int .i64 x.cpu,.int .i64 x.mem,.int .i64 x.rank,.slice x.na x.nn x.nc,.slice x.ta x.tn x.tc,.string x.on,.int .i64 x.seq],.agg #[.string y.name,.slice y.la y.ln y.lc,.int .i64 y.cpu,.int .i64 y.mem,.int .i64 y.rank,.slice y.na y.nn y.nc,.slice y.ta y.tn y.tc,.string y.on,.int .i64 y.seq]] w fun e w'=>e = .returned (.int .i64 (cv x y))∧Below w.heap.size w w'
set_option maxRecDepth 100000 in
set_option maxHeartbeats 2000000 in
theorem Yx (W0 w:World) (b o c N:Nat) (P X Q:List Eb) (a bb:Nat) (cv:Eb→Eb→Int) (h:jJ tH 9 W0 w b o (P++(X++Q))) (hN:(P++(X++Q)).length≤N) (BI:N≤1048576) (ha:Hid (P.length = a)) (hm:Hid (a+X.length = bb)) (W:Weak (kS cv)) (hc:ads cv W0 b) :
 Calls Tryz.prog 140 #[.slice (some ⟨b,o,none⟩) N c,.int .i64 a,.int .i64 bb,.func (.func 55) #[] #[]] w fun e w'=>e = .returned (.tuple #[])∧jJ tH 9 W0 w' b o (P++(sortB (kS cv) [] X++Q)):=by
 have hlen:bb≤N:=by have e1:=ha.out;have e2:=hm.out;simp only [List.length_append] at hN;omega
 have hle:a≤bb:=by have e2:=hm.out;omega
 have HC:=Lib.hid hc
 have HW:=Lib.hid W
 clear hc hN W
 go_enter Tryz.func140,Tryz.ntmps140
 go_wp2_with fail
 by_cases hX:X = []
 ·exact Zacw
 have hX1:1≤X.length:=by cases X with | nil=>exact absurd rfl hX | cons x X=>simp
 clear hX
 go_loopw [8] (fun i wr=>∃k:Nat,1≤k∧k≤X.length∧i = .int .i64 ((a+k:Nat):Int)∧jJ tH 9 W0 wr b o (P++(sortB (kS cv) [] (X.take k)++(X.drop k++Q)))) (fun i _=>bb - (intOf i).toNat)
 case atStart =>
  exact Zadp
 case round =>
  obtain ⟨k,hk1,hk,rfl,hS⟩:=hrel
  by_cases hlt:k < X.length
  ·obtain ⟨wo,hwo⟩:∃wo,wo = wr:=⟨_,rfl⟩
   subst hwo
   have hlt2:a+k < bb:=by have e2:=hm.out;omega
   obtain ⟨y,hy⟩:∃y,X[k] = y:=⟨_,rfl⟩
   have hdr:X.drop k = y :: X.drop (k+1):=by rw [← hy];exact (List.getElem_cons_drop ..).symm
   have hnx:sortB (kS cv) [] (X.take (k+1)) = OM (kS cv) y (sortB (kS cv) [] (X.take k)):=by rw [List.take_succ_eq_append_getElem hlt,hy,V3]
   have hso:Sorted (kS cv) (sortB (kS cv) [] (X.take k)):=yc HW.out _ _ List.Pairwise.nil
   have hsl:(sortB (kS cv) [] (X.take k)).length = k:=by rw [rD,List.length_take];simp;omega
   rw [hdr] at hS
   have Jf:=Lib.hid hnx
   have LJ:=Lib.hid hso
   clear hdr hnx hso hy
   generalize hSS:sortB (kS cv) [] (X.take k) = SS at *
   generalize hRR:X.drop (k+1)++Q = RR at *
   have HSS:=Lib.hid hSS
   have HRR:=Lib.hid hRR
   have HSL:=Lib.hid hsl
   clear hSS hRR hsl
   go_wp2_with fail
   go_loopw [9] (fun j wr=>∃(s1 s2:List Eb) (jj:Nat),Hid (SS = s1++s2)∧j = .int .i64 (jj:Int)∧Hid (a+s1.length = jj)∧Hid (∀x∈s2,kS cv y x = true)∧jJ tH 9 W0 wr b o (P++(s1++(y :: (s2++RR))))) (fun j _=>(intOf j).toNat)
   case atStart =>
    refine ⟨SS,[],a+k,Lib.hid (by simp),rfl,Lib.hid (by rw [HSL.out]),Lib.hid (by simp),?_⟩
    simpa [HRR.out] using hS
   case round =>
    obtain ⟨s1,s2,jj,HE,rfl,HJ,HY,hS2⟩:=hrel
    have HU:=Lib.hid hS2.upd
    have hbl:b < wr.heap.size:=hS2.plain.lt
    have hjb:jj < bb:=by have e1:=HJ.out;have e2:=congrArg List.length HE.out;have e3:=HSL.out;rw [List.length_append] at e2;omega
    rcases List.eq_nil_or_concat s1 with rfl | ⟨s',x,rfl⟩
    ·exact Zabf
    ·obtain ⟨jk,hjk⟩:∃jk,jj = jk+1:=⟨jj - 1,by have:=HJ.out;simp at this;omega⟩
     subst hjk
     have hpj:P.length+s'.length = jk:=by have e1:=HJ.out;have e2:=ha.out;simp at e1;omega
     have hjl:a≤jk:=by have:=ha.out;omega
     have hS3:jJ tH 9 W0 wr b o (P++(s'++(x :: y :: (s2++RR)))):=by simpa only [List.concat_eq_append,List.append_assoc,List.cons_append,List.nil_append] using hS2
     have g1:=wY P s' (s2++RR) x y hpj
     have g2:=wZ P s' (s2++RR) x y hpj
     have qx0:wr.cell? ⟨b,o+jk * 9,none⟩ = some (.string x.name):=hS3.tab _ x g1 0 _ rfl
     have qx1:wr.cell? ⟨b,o+jk * 9+1,none⟩ = some (.slice x.la x.ln x.lc):=hS3.tab _ x g1 1 _ rfl
     have qx2:wr.cell? ⟨b,o+jk * 9+2,none⟩ = some (.int .i64 x.cpu):=hS3.tab _ x g1 2 _ rfl
     have qx3:wr.cell? ⟨b,o+jk * 9+3,none⟩ = some (.int .i64 x.mem):=hS3.tab _ x g1 3 _ rfl
     have qx4:wr.cell? ⟨b,o+jk * 9+4,none⟩ = some (.int .i64 x.rank):=hS3.tab _ x g1 4 _ rfl
     have qx5:wr.cell? ⟨b,o+jk * 9+5,none⟩ = some (.slice x.na x.nn x.nc):=hS3.tab _ x g1 5 _ rfl
     have qx6:wr.cell? ⟨b,o+jk * 9+6,none⟩ = some (.slice x.ta x.tn x.tc):=hS3.tab _ x g1 6 _ rfl
     have qx7:wr.cell? ⟨b,o+jk * 9+7,none⟩ = some (.string x.on):=hS3.tab _ x g1 7 _ rfl
     have qx8:wr.cell? ⟨b,o+jk * 9+8,none⟩ = some (.int .i64 x.seq):=hS3.tab _ x g1 8 _ rfl
     have qy0:wr.cell? ⟨b,o+(jk+1) * 9,none⟩ = some (.string y.name):=hS3.tab _ y g2 0 _ rfl
     have qy1:wr.cell? ⟨b,o+(jk+1) * 9+1,none⟩ = some (.slice y.la y.ln y.lc):=hS3.tab _ y g2 1 _ rfl
     have qy2:wr.cell? ⟨b,o+(jk+1) * 9+2,none⟩ = some (.int .i64 y.cpu):=hS3.tab _ y g2 2 _ rfl
     have qy3:wr.cell? ⟨b,o+(jk+1) * 9+3,none⟩ = some (.int .i64 y.mem):=hS3.tab _ y g2 3 _ rfl
     have qy4:wr.cell? ⟨b,o+(jk+1) * 9+4,none⟩ = some (.int .i64 y.rank):=hS3.tab _ y g2 4 _ rfl
     have qy5:wr.cell? ⟨b,o+(jk+1) * 9+5,none⟩ = some (.slice y.na y.nn y.nc):=hS3.tab _ y g2 5 _ rfl
     have qy6:wr.cell? ⟨b,o+(jk+1) * 9+6,none⟩ = some (.slice y.ta y.tn y.tc):=hS3.tab _ y g2 6 _ rfl
     have qy7:wr.cell? ⟨b,o+(jk+1) * 9+7,none⟩ = some (.string y.on):=hS3.tab _ y g2 7 _ rfl
     have qy8:wr.cell? ⟨b,o+(jk+1) * 9+8,none⟩ = some (.int .i64 y.seq):=hS3.tab _ y g2 8 _ rfl
     have qf:=hS3.plain.frozen
     have HP:=Lib.hid hpj
     have HS:=Lib.hid hS3
     clear hS2 hS3 g1 g2 hpj
     have hdj:decide ((a:Int) < (jk:Int)+1) = true:=by simp;omega
     have hwj:IntKind.i64.wrap (jk:Int) = jk:=IntWalk.i64_in _ (by omega)
     cases hcv:decide (cv y x < 0) with
     | true =>
       go_wp2_with fail
       refine aF wr (by kernel_rfl) (by kernel_rfl) (aj _) ?_
       repeat (first
        | (apply aG
           case hw=>rfl
           simp only [Act.put,pz])
        | (apply aH
           case hw=>rfl
           case h =>
            exact Zaaj
           simp only [Act.put,pz]))
       refine aN ?_
       intro wn hn
       replace hn:=hn.out
       go_wp2_with fail
       clear qx0 qx1 qx2 qx3 qx4 qx5 qx6 qx7 qx8 qy0 qy1 qy2 qy3 qy4 qy5 qy6 qy7 qy8 qf HU hbl
       have hSn:=HS.out.ext hn
       have qx0:wn.cell? ⟨b,o+jk * 9,none⟩ = some (.string x.name):=hSn.tab _ x (wY P s' (s2++RR) x y HP.out) 0 _ rfl
       have qx1:wn.cell? ⟨b,o+jk * 9+1,none⟩ = some (.slice x.la x.ln x.lc):=hSn.tab _ x (wY P s' (s2++RR) x y HP.out) 1 _ rfl
       have qx2:wn.cell? ⟨b,o+jk * 9+2,none⟩ = some (.int .i64 x.cpu):=hSn.tab _ x (wY P s' (s2++RR) x y HP.out) 2 _ rfl
       have qx3:wn.cell? ⟨b,o+jk * 9+3,none⟩ = some (.int .i64 x.mem):=hSn.tab _ x (wY P s' (s2++RR) x y HP.out) 3 _ rfl
       have qx4:wn.cell? ⟨b,o+jk * 9+4,none⟩ = some (.int .i64 x.rank):=hSn.tab _ x (wY P s' (s2++RR) x y HP.out) 4 _ rfl
       have qx5:wn.cell? ⟨b,o+jk * 9+5,none⟩ = some (.slice x.na x.nn x.nc):=hSn.tab _ x (wY P s' (s2++RR) x y HP.out) 5 _ rfl
       have qx6:wn.cell? ⟨b,o+jk * 9+6,none⟩ = some (.slice x.ta x.tn x.tc):=hSn.tab _ x (wY P s' (s2++RR) x y HP.out) 6 _ rfl
       have qx7:wn.cell? ⟨b,o+jk * 9+7,none⟩ = some (.string x.on):=hSn.tab _ x (wY P s' (s2++RR) x y HP.out) 7 _ rfl
       have qx8:wn.cell? ⟨b,o+jk * 9+8,none⟩ = some (.int .i64 x.seq):=hSn.tab _ x (wY P s' (s2++RR) x y HP.out) 8 _ rfl
       have qy0:wn.cell? ⟨b,o+(jk+1) * 9,none⟩ = some (.string y.name):=hSn.tab _ y (wZ P s' (s2++RR) x y HP.out) 0 _ rfl
       have qy1:wn.cell? ⟨b,o+(jk+1) * 9+1,none⟩ = some (.slice y.la y.ln y.lc):=hSn.tab _ y (wZ P s' (s2++RR) x y HP.out) 1 _ rfl
       have qy2:wn.cell? ⟨b,o+(jk+1) * 9+2,none⟩ = some (.int .i64 y.cpu):=hSn.tab _ y (wZ P s' (s2++RR) x y HP.out) 2 _ rfl
       have qy3:wn.cell? ⟨b,o+(jk+1) * 9+3,none⟩ = some (.int .i64 y.mem):=hSn.tab _ y (wZ P s' (s2++RR) x y HP.out) 3 _ rfl
       have qy4:wn.cell? ⟨b,o+(jk+1) * 9+4,none⟩ = some (.int .i64 y.rank):=hSn.tab _ y (wZ P s' (s2++RR) x y HP.out) 4 _ rfl
       have qy5:wn.cell? ⟨b,o+(jk+1) * 9+5,none⟩ = some (.slice y.na y.nn y.nc):=hSn.tab _ y (wZ P s' (s2++RR) x y HP.out) 5 _ rfl
       have qy6:wn.cell? ⟨b,o+(jk+1) * 9+6,none⟩ = some (.slice y.ta y.tn y.tc):=hSn.tab _ y (wZ P s' (s2++RR) x y HP.out) 6 _ rfl
       have qy7:wn.cell? ⟨b,o+(jk+1) * 9+7,none⟩ = some (.string y.on):=hSn.tab _ y (wZ P s' (s2++RR) x y HP.out) 7 _ rfl
       have qy8:wn.cell? ⟨b,o+(jk+1) * 9+8,none⟩ = some (.int .i64 y.seq):=hSn.tab _ y (wZ P s' (s2++RR) x y HP.out) 8 _ rfl
       have qf:=hSn.plain.frozen
       have ql:=hSn.plain.lt
       have HSn:=Lib.hid hSn
       have HCV:=Lib.hid hcv
       clear hSn hcv
       go_region
       go_wp2
       have h2:=HSn.out.swap_ (fun _=>rfl) (wZ P s' (s2++RR) x y HP.out) (wY P s' (s2++RR) x y HP.out)
       rw [V7 P s' (s2++RR) x y HP.out] at h2
       exact Zacx
     | false =>
       exact Zaey
  ·exact Zadu
end
end Go.Proofs.YtogkjlcoadhpgaaGreat
namespace Go.Proofs.YtogkjlcoadhpgaaGreat
open Go.ChangeShapes Go.WideShapes Go.ChangeAt Go.RowKit
set_option linter.unusedVariables false
set_option linter.unusedSimpArgs false
section
variable {β:Type} (nm:β→ByteArray)
set_option maxRecDepth 100000 in
set_option maxHeartbeats 8000000 in
theorem aad (K:Nat):∀(W0 w:World) (b o c N:Nat) (P L R Q:List β) (a m bb:Nat) (cv:β→β→Int) (q1 q2:Addr) (h:jJ (fun x=>[Value.string (nm x)]) 1 W0 w b o (P++(L++(R++Q)))) (hN:(P++(L++(R++Q))).length≤N) (BI:N≤1048576) (ha:Hid (P.length = a)) (hm:Hid (a+L.length = m)) (hb:Hid (m+R.length = bb)) (h1:0 < L.length) (h2:0 < R.length) (W:Weak (kS cv)) (hL:Sorted (kS cv) L) (hR:Sorted (kS cv) R) (hc:aaS nm cv q1 q2 W0 b) (hK:L.length+R.length≤K),
 Calls Tryz.prog 189 #[.slice (some ⟨b,o,none⟩) N c,.int .i64 a,.int .i64 m,.int .i64 bb,.func (.func 144) #[] #[.pointer (some q1),.pointer (some q2)]] w fun e w'=>e = .returned (.tuple #[])∧jJ (fun x=>[Value.string (nm x)]) 1 W0 w' b o (P++(fO (kS cv) L R++Q)):=by
 induction K with
 | zero=>intro W0 w b o c N P L R Q a m bb cv q1 q2 h hN BI ha hm hb h1 h2 W hL hR hc hK;omega
 | succ K ih =>
   intro W0 w b o c N P L R Q a m bb cv q1 q2 h hN BI ha hm hb h1 h2 W hL hR hc hK
   by_cases hL1:L.length = 1
   ·obtain ⟨x,rfl⟩:=List.length_eq_one_iff.1 hL1
    have e:m = a+1:=by simpa using hm.out.symm
    subst e
    exact aht nm W0 w b o c N P R Q x a bb cv q1 q2 h hN BI ha hb W hR hc
   by_cases hR1:R.length = 1
   ·obtain ⟨y,rfl⟩:=List.length_eq_one_iff.1 hR1
    have e:bb = m+1:=by simpa using hb.out.symm
    subst e
    exact aeQ nm W0 w b o c N P L Q y a m cv q1 q2 h hN BI ha hm (by omega) W hL hc
   have hlq:(P++(L++(R++Q))).length = P.length+L.length+R.length+Q.length:=by simp only [List.length_append];omega
   have HN:=Lib.hid (show P.length+L.length+R.length+Q.length≤N by omega)
   have hlen:bb≤N:=by have:=HN.out;have:=ha.out;have:=hm.out;have:=hb.out;omega
   have hLL:2≤L.length:=by omega
   have hRR:2≤R.length:=by omega
   have ham:a+2≤m:=by have:=hm.out;omega
   have hmb:m+2≤bb:=by have:=hb.out;omega
   have HC:=Lib.hid hc
   have HW:=Lib.hid W
   have HSL:=Lib.hid hL
   have HSR:=Lib.hid hR
   have HKK:=Lib.hid hK
   have HIH:=Lib.hid ih
   have hne1:((m:Int) - a == 1) = false:=by simp;omega
   have hne2:((bb:Int) - m == 1) = false:=by simp;omega
   obtain ⟨mid,hmid⟩:∃mid:Nat,(a+bb) / 2 = mid:=⟨_,rfl⟩
   have hmI:((a:Int)+bb) / 2 = mid:=by omega
   obtain ⟨d,hd⟩:∃d,a+d = mid:=⟨mid - a,by omega⟩
   have HD:=Lib.hid (show a+d = mid∧(2 * d = L.length+R.length∨2 * d+1 = L.length+R.length) by have:=hm.out;have:=hb.out;omega)
   obtain ⟨lo,HLO⟩:∃lo:Nat,Hid ((mid < m→lo+R.length = d)∧(¬mid < m→lo = 0)):=by
    exact Zade
   obtain ⟨hi,HHI⟩:∃hi:Nat,Hid ((mid < m→hi = d)∧(¬mid < m→hi = L.length)):=by
    exact Zadv
   have hmab:a≤mid∧mid≤bb:=by omega
   obtain ⟨hma,hmbb⟩:=hmab
   clear hc hN W hL hR hK ih hL1 hR1 hlq hmid hd
   go_enter Tryz.func189,Tryz.ntmps189
   by_cases hgt:mid < m
   ·have hlo:lo+R.length = d:=by have:=HLO.out.1 hgt;omega
    have hhi:hi = d:=HHI.out.1 hgt
    have aoW:=Lib.hid (show lo = 0∨lo+R.length = d from .inr hlo)
    have aoX:=Lib.hid (show hi = L.length∨hi = d from .inr hhi)
    exact Zaab
   ·have hlo:lo = 0:=HLO.out.2 (by omega)
    have hhi:hi = L.length:=HHI.out.2 (by omega)
    have aoW:=Lib.hid (show lo = 0∨lo+R.length = d from .inl hlo)
    have aoX:=Lib.hid (show hi = L.length∨hi = d from .inl hhi)
    exact Zaab
end
end Go.Proofs.YtogkjlcoadhpgaaGreat
namespace Go.Proofs.YtogkjlcoadhpgaaGreat
open Go.ChangeShapes Go.WideShapes Go.ChangeAt Go.RowKit
set_option linter.unusedVariables false
set_option linter.unusedSimpArgs false
section
variable {β:Type} (nm:β→ByteArray)
set_option maxRecDepth 100000 in
set_option maxHeartbeats 8000000 in
theorem am6 (W0 w:World) (b o c N:Nat) (D:List β) (cv:β→β→Int) (q1 q2:Addr) (h:jJ (fun x=>[Value.string (nm x)]) 1 W0 w b o (D)) (hN:D.length = N) (BI:N≤1048576) (W:Weak (kS cv)) (hc:aaS nm cv q1 q2 W0 b) :
 Calls Tryz.prog 168 #[.slice (some ⟨b,o,none⟩) N c,.int .i64 N,.func (.func 144) #[] #[.pointer (some q1),.pointer (some q2)]] w fun e w'=>e = .returned (.tuple #[])∧jJ (fun x=>[Value.string (nm x)]) 1 W0 w' b o (sortB (kS cv) [] D):=by
 have HC:=Lib.hid hc
 have HW:=Lib.hid W
 have HN:=Lib.hid hN
 clear hc hN W
 go_enter Tryz.func168,Tryz.ntmps168
 go_wp2_with fail
 go_loopw [7,8] (fun i j wr=>∃(a0 b0:Nat) (A:List β),i = .int .i64 (a0:Int)∧j = .int .i64 (b0:Int)∧b0 = a0+20∧a0≤N∧Hid (A.length = a0)∧Hid (runs (kS cv) 20 D = A++runs (kS cv) 20 (D.drop a0))∧jJ (fun x=>[Value.string (nm x)]) 1 W0 wr b o (A++D.drop a0)) (fun i _ _=>N - (intOf i).toNat)
 case atStart=>exact ⟨0,20,[],rfl,rfl,rfl,by omega,Lib.hid rfl,Lib.hid (by simp),by simpa using h⟩
 case round =>
  obtain ⟨a0,b0,A,rfl,rfl,hb0,ha0,HA,HR,hS⟩:=hrel
  by_cases hlt:b0≤N
  ·have HB:=Lib.hid hb0
   have hab:a0 < b0:=by omega
   clear hb0
   go_wp2_with fail
   have hx:((D.drop a0).take 20).length = 20:=by rw [List.length_take,List.length_drop];have:=HB.out;have:=HN.out;omega
   have hdr:(D.drop a0).drop 20 = D.drop b0:=by rw [List.drop_drop,HB.out]
   have hst:=Ky (lt:=(kS cv)) (s:=20) (by omega) (D.drop a0)
   rw [hdr] at hst
   refine (Yy nm W0 _ b o c N A ((D.drop a0).take 20) (D.drop b0) a0 b0 cv q1 q2 (by rw [← hdr,List.take_append_drop];exact hS) (by rw [← hdr,List.take_append_drop,List.length_append,List.length_drop];have:=HA.out;have:=HN.out;omega) BI HA (Lib.hid (by rw [hx];exact HB.out.symm)) HW.out HC.out).mono ?_
   exact Zacj
  ·go_wp2_with fail
   have hx:(D.drop a0).length≤20:=by rw [List.length_drop];have:=HN.out;omega
   have hst:=zo (lt:=(kS cv)) hx
   refine (Yy nm W0 _ b o c N A (D.drop a0) [] a0 N cv q1 q2 awF (by rw [List.append_nil,List.length_append,List.length_drop];have:=HA.out;have:=HN.out;omega) BI HA (Lib.hid auV) HW.out HC.out).mono ?_
   rintro e w2 ⟨rfl,hS2⟩
   have hS3:jJ (fun x=>[Value.string (nm x)]) 1 W0 w2 b o (runs (kS cv) 20 D):=by rw [HR.out,hst];simpa only [List.append_nil] using hS2
   clear hS2 hS hx hst HR HA hb0 hlt
   go_wp2_with fail
   go_loopw [6] (fun z wr=>∃s:Nat,0 < s∧s≤2097152∧z = .int .i64 (s:Int)∧jJ (fun x=>[Value.string (nm x)]) 1 W0 wr b o (runs (kS cv) s D)) (fun z _=>N - (intOf z).toNat)
   case atStart=>exact ⟨20,by omega,by omega,rfl,hS3⟩
   case round =>
    obtain ⟨s,hs0,hs1,rfl,hS4⟩:=hrel
    by_cases hsn:s < N
    ·obtain ⟨wo,hwo⟩:∃wo,wo = wr:=⟨_,rfl⟩
     subst hwo
     clear hS3
     go_wp2_with fail
     go_loopw [7,8] (fun i j wr=>∃(a0 b0:Nat) (A:List β),i = .int .i64 (a0:Int)∧j = .int .i64 (b0:Int)∧b0 = a0+2 * s∧a0≤N∧Hid (A.length = a0)∧Hid (runs (kS cv) (2 * s) D = A++runs (kS cv) (2 * s) (D.drop a0))∧jJ (fun x=>[Value.string (nm x)]) 1 W0 wr b o (A++runs (kS cv) s (D.drop a0))) (fun i _ _=>N - (intOf i).toNat)
     case atStart=>exact ⟨0,2 * s,[],rfl,by go_num,by omega,by omega,Lib.hid rfl,Lib.hid (by simp),by simpa using hS4⟩
     case round =>
      obtain ⟨a0,b0,A,rfl,rfl,hb0,ha0,HA,HR,hS⟩:=hrel
      by_cases hlt:b0≤N
      ·have HB:=Lib.hid hb0
       have hab:a0+s < b0:=by omega
       clear hb0
       go_wp2_with fail
       obtain ⟨h1,h2⟩:=am0 HW.out hs0 (D.drop a0)
       have hdr:(D.drop a0).drop (2 * s) = D.drop b0:=by rw [List.drop_drop,HB.out]
       have hst:=Ky (lt:=(kS cv)) (s:=2 * s) (by omega) (D.drop a0)
       rw [hdr] at h1 hst
       have hl1:(sortB (kS cv) [] ((D.drop a0).take s)).length = s:=by rw [rD,List.length_take,List.length_drop];have:=HB.out;have:=HN.out;simp;omega
       have hl2:(sortB (kS cv) [] (((D.drop a0).drop s).take s)).length = s:=by rw [rD,List.length_take,List.length_drop,List.length_drop];have:=HB.out;have:=HN.out;simp;omega
       have hl3:(runs (kS cv) s (D.drop b0)).length = N - b0:=by rw [am3 hs0 _ _ (Nat.le_refl _),List.length_drop,HN.out]
       rw [h1] at hS
       have hx:(sortB (kS cv) [] ((D.drop a0).take (2 * s))).length = 2 * s:=by rw [rD,List.length_take,List.length_drop];have:=HB.out;have:=HN.out;simp;omega
       rw [show ((a0:Int)+s) = ((a0+s:Nat):Int) by omega]
       refine (aad nm (s+s) W0 _ b o c N A _ _ _ a0 (a0+s) b0 cv q1 q2 hS (by simp only [List.length_append,hl1,hl2,hl3];have:=HA.out;have:=HB.out;omega) BI HA (Lib.hid (by rw [hl1])) (Lib.hid (by rw [hl2];have:=HB.out;omega)) (by omega) (by omega) HW.out (yc HW.out _ _ List.Pairwise.nil) (yc HW.out _ _ List.Pairwise.nil) HC.out (by rw [hl1,hl2];exact Nat.le_refl _)).mono ?_
       exact Zab9
      ·by_cases hm:a0+s < N
       ·go_wp2_with fail
        obtain ⟨h1,h2⟩:=ajf HW.out hs0 (ys:=D.drop a0) auV auV
        have hl1:(sortB (kS cv) [] ((D.drop a0).take s)).length = s:=by rw [rD,List.length_take,List.length_drop];have:=HN.out;simp;omega
        have hl2:(sortB (kS cv) [] ((D.drop a0).drop s)).length = N - a0 - s:=by rw [rD,List.length_drop,List.length_drop];have:=HN.out;simp;omega
        rw [h1] at hS
        try rw [show ((a0:Int)+s) = ((a0+s:Nat):Int) by omega]
        refine (aad nm (s+s) W0 _ b o c N A _ _ [] a0 (a0+s) N cv q1 q2 awF (by simp only [List.length_append,hl1,hl2,List.length_nil];have:=HA.out;omega) BI HA (Lib.hid (by rw [hl1])) (Lib.hid (by rw [hl2];omega)) (by omega) (by omega) HW.out (yc HW.out _ _ List.Pairwise.nil) (yc HW.out _ _ List.Pairwise.nil) HC.out (by rw [hl1,hl2];omega)).mono ?_
        exact Zac2
       ·exact Zacm
    ·exact Zad7
set_option maxRecDepth 100000 in
theorem aeJ (W0 w:World) (b o c N:Nat) (D:List β) (cv:β→β→Int) (q1 q2:Addr) (h:jJ (fun x=>[Value.string (nm x)]) 1 W0 w b o (D)) (hN:D.length = N) (BI:N≤1048576) (W:Weak (kS cv)) (hc:aaS nm cv q1 q2 W0 b) :
 Calls Tryz.prog 143 #[.slice (some ⟨b,o,none⟩) N c,.func (.func 144) #[] #[.pointer (some q1),.pointer (some q2)]] w fun e w'=>e = .returned (.tuple #[])∧jJ (fun x=>[Value.string (nm x)]) 1 W0 w' b o (sortB (kS cv) [] D):=by
 have HN:=Lib.hid hN
 clear hN
 go_enter Tryz.func143,Tryz.ntmps143
 go_wp2_with fail
 refine (am6 nm W0 _ b o c N D cv q1 q2 h HN.out BI W hc).mono ?_
 rintro e w2 ⟨rfl,hS⟩
 go_wp2
 go_end0
 exact ⟨rfl,hS⟩
set_option maxRecDepth 100000 in
theorem ahv (w:World) (A:Option Addr) (c:Nat) (f:Value):Calls Tryz.prog 188 #[.slice A 0 c,.int .i64 0,.int .i64 0,f] w fun e w'=>e = .returned (.tuple #[])∧w' = w:=by
 go_enter Tryz.func188,Tryz.ntmps188
 exact Zadk
set_option maxRecDepth 100000 in
theorem am7 (w:World) (A:Option Addr) (c:Nat) (f:Value):Calls Tryz.prog 168 #[.slice A 0 c,.int .i64 0,f] w fun e w'=>e = .returned (.tuple #[])∧w' = w:=by
 go_enter Tryz.func168,Tryz.ntmps168
 go_wp2_with fail
 go_loopw [7,8] (fun i j wr=>i = .int .i64 0∧j = .int .i64 20∧wr = w) (fun _ _ _=>0)
 case atStart=>exact ⟨rfl,rfl,rfl⟩
 case round =>
  obtain ⟨rfl,rfl,hw⟩:=hrel
  subst hw
  go_wp2_with fail
  refine (ahv _ A c f).mono ?_
  exact Zac1
set_option maxRecDepth 100000 in
theorem aeI (w:World) (A:Option Addr) (c:Nat) (f:Value):Calls Tryz.prog 143 #[.slice A 0 c,f] w fun e w'=>e = .returned (.tuple #[])∧w' = w:=by
 go_enter Tryz.func143,Tryz.ntmps143
 go_wp2_with fail
 refine (am7 _ A c f).mono ?_
 rintro e w2 ⟨rfl,hw⟩
 subst hw
 go_wp2
 go_end0
 exact ⟨rfl,rfl⟩
end
end Go.Proofs.YtogkjlcoadhpgaaGreat
