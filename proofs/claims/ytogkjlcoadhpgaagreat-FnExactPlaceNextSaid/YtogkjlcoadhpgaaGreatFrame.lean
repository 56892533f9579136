/- The frame of every law's proof: if the call returns true and leaves what was there as it was, the given post holds. No condition. -/
import Derived.Test.YtogkjlcoadhpgaaGreatRows
import Derived.WalkKit
import Derived.ProofKit
import Derived.OpenShut
import Derived.Lib.Hide
import Derived.BigQuiet
import Derived.Deep.QuietTactic
import Derived.WalkSpells
import Derived.Deep.DeepFit
import Derived.Deep.AppendLies
import Derived.OwnWalk
import Derived.Deep.Slices
import Derived.Handy
namespace Go.Proofs.YtogkjlcoadhpgaaGreat
open Go.ChangeShapes Go.WideShapes Go.ChangeAt Go.RowKit
theorem Zaaa {P:Prop} (h:P:=by
 have hlh:lo≤hi:=by have:=hm.out;have:=hb.out;have:=HD.out;omega
 have hhd:hi≤d:=by have:=hm.out;have:=HD.out;omega
 have hhl:hi≤L.length:=by have:=hm.out;have:=HD.out;omega
 have hld:d≤lo+R.length:=by have:=hm.out;have:=hb.out;have:=HD.out;omega
 have Ij:=Lib.hid hlo
 have Ik:=Lib.hid hhi
 clear hlo hhi
 go_wp2_with fail
 go_loopw [20,21] (fun i j wr=>∃u v i0 j0:Nat,lo≤u∧u≤v∧v≤hi∧i = .int .i64 (i0:Int)∧j = .int .i64 (j0:Int)∧Hid (a+u = i0)∧Hid (a+v = j0)∧Hid (u = lo∨∃x y,L[u - 1]? = some x∧R[d - u]? = some y∧kS cv y x = false)∧Hid (v = hi∨∃x y,L[v]? = some x∧R[d - 1 - v]? = some y∧kS cv y x = true)∧jJ tH 9 W0 wr b o (P++(L++(R++Q)))) (fun i j _=>(intOf j - intOf i).toNat)
 case atStart =>
  exact Zae3
 case round =>
  obtain ⟨u,v,i0,j0,hlu,huv,hv,rfl,rfl,HI,HJ,HP1,HP2,hS⟩:=hrel
  by_cases hlt:u < v
  ·have hij:i0 < j0:=by have:=HI.out;have:=HJ.out;omega
   have hjb:j0≤m:=by have:=HJ.out;have:=hm.out;omega
   have hai:a≤i0:=by have:=HI.out;omega
   obtain ⟨t,ht⟩:∃t:Nat,(i0+j0) / 2 = t:=⟨_,rfl⟩
   have hti:i0≤t:=by omega
   have htj:t < j0:=by omega
   obtain ⟨k,hk⟩:∃k,a+k = t:=⟨t - a,by omega⟩
   have huk:u≤k:=by have:=HI.out;omega
   have hkv:k < v:=by have:=HJ.out;omega
   have hkL:k < L.length:=by omega
   have hkd:k < d:=by omega
   have hkR:d - 1 - k < R.length:=by omega
   obtain ⟨q,hq⟩:∃q:Nat,mid+m - 1 - t = q:=⟨_,rfl⟩
   have hqm:m≤q:=by have:=HD.out;omega
   have hqb:q < bb:=by have:=HD.out;have:=hb.out;omega
   have hmd:mid≤bb:=by have:=HD.out;have:=hm.out;have:=hb.out;omega
   have hqq:q - m = d - 1 - k:=by have:=HD.out;omega
   have hL1:L[k]? = some L[k]:=List.getElem?_eq_getElem hkL
   have hR1:R[d - 1 - k]? = some R[d - 1 - k]:=List.getElem?_eq_getElem hkR
   obtain ⟨x,hx⟩:∃x,L[k] = x:=⟨_,rfl⟩
   obtain ⟨y,hy⟩:∃y,R[d - 1 - k] = y:=⟨_,rfl⟩
   rw [hx] at hL1
   rw [hy] at hR1
   have hgx:(P++(L++(R++Q)))[t]? = some x:=by
    rw [List.getElem?_append_right auu,show t - P.length = k by have:=ha.out;omega,List.getElem?_append_left hkL,hL1]
   have MV:(P++(L++(R++Q)))[q]? = some y:=by
    exact Zafe
   have qx0:wr.cell? ⟨b,o+t * 9,none⟩ = some (.string x.name):=hS.tab _ x hgx 0 _ rfl
   have qx1:wr.cell? ⟨b,o+t * 9+1,none⟩ = some (.slice x.la x.ln x.lc):=hS.tab _ x hgx 1 _ rfl
   have qx2:wr.cell? ⟨b,o+t * 9+2,none⟩ = some (.int .i64 x.cpu):=hS.tab _ x hgx 2 _ rfl
   have qx3:wr.cell? ⟨b,o+t * 9+3,none⟩ = some (.int .i64 x.mem):=hS.tab _ x hgx 3 _ rfl
   have qx4:wr.cell? ⟨b,o+t * 9+4,none⟩ = some (.int .i64 x.rank):=hS.tab _ x hgx 4 _ rfl
   have qx5:wr.cell? ⟨b,o+t * 9+5,none⟩ = some (.slice x.na x.nn x.nc):=hS.tab _ x hgx 5 _ rfl
   have qx6:wr.cell? ⟨b,o+t * 9+6,none⟩ = some (.slice x.ta x.tn x.tc):=hS.tab _ x hgx 6 _ rfl
   have qx7:wr.cell? ⟨b,o+t * 9+7,none⟩ = some (.string x.on):=hS.tab _ x hgx 7 _ rfl
   have qx8:wr.cell? ⟨b,o+t * 9+8,none⟩ = some (.int .i64 x.seq):=hS.tab _ x hgx 8 _ rfl
   have qy0:wr.cell? ⟨b,o+q * 9,none⟩ = some (.string y.name):=hS.tab _ y MV 0 _ rfl
   have qy1:wr.cell? ⟨b,o+q * 9+1,none⟩ = some (.slice y.la y.ln y.lc):=hS.tab _ y MV 1 _ rfl
   have qy2:wr.cell? ⟨b,o+q * 9+2,none⟩ = some (.int .i64 y.cpu):=hS.tab _ y MV 2 _ rfl
   have qy3:wr.cell? ⟨b,o+q * 9+3,none⟩ = some (.int .i64 y.mem):=hS.tab _ y MV 3 _ rfl
   have qy4:wr.cell? ⟨b,o+q * 9+4,none⟩ = some (.int .i64 y.rank):=hS.tab _ y MV 4 _ rfl
   have qy5:wr.cell? ⟨b,o+q * 9+5,none⟩ = some (.slice y.na y.nn y.nc):=hS.tab _ y MV 5 _ rfl
   have qy6:wr.cell? ⟨b,o+q * 9+6,none⟩ = some (.slice y.ta y.tn y.tc):=hS.tab _ y MV 6 _ rfl
   have qy7:wr.cell? ⟨b,o+q * 9+7,none⟩ = some (.string y.on):=hS.tab _ y MV 7 _ rfl
   have qy8:wr.cell? ⟨b,o+q * 9+8,none⟩ = some (.int .i64 y.seq):=hS.tab _ y MV 8 _ rfl
   exact Zaec
  ·have aa4:v = u:=by omega
   subst aa4
   have hj0:j0 = i0:=by have:=HI.out;have:=HJ.out;omega
   subst hj0
   have hvd:v≤d:=by omega
   have hdR:d - v≤R.length:=by omega
   obtain ⟨l1,l2,r1,r2,Ob,fJ,LJ,HM⟩:∃l1 l2 r1 r2,Hid (L = l1++l2∧R = r1++r2)∧Hid (l1.length = v∧l2.length+v = L.length∧r1.length+v = d∧r1.length+r2.length = R.length)∧Hid (Sorted (kS cv) l1∧Sorted (kS cv) l2∧Sorted (kS cv) r1∧Sorted (kS cv) r2)∧Hid (fO (kS cv) L R = fO (kS cv) l1 r1++fO (kS cv) l2 r2) :=
    ⟨L.take v,L.drop v,R.take (d - v),R.drop (d - v),Lib.hid ⟨(List.take_append_drop ..).symm,(List.take_append_drop ..).symm⟩,Lib.hid ⟨by rw [List.length_take];omega,by rw [List.length_drop];omega,by rw [List.length_take];omega,by rw [List.length_take,List.length_drop];omega⟩,
      Lib.hid ⟨List.Pairwise.sublist (List.take_sublist ..) HSL.out,List.Pairwise.sublist (List.drop_sublist ..) HSL.out,List.Pairwise.sublist (List.take_sublist ..) HSR.out,List.Pairwise.sublist (List.drop_sublist ..) HSR.out⟩,
      Lib.hid (ali HW.out HSL.out HSR.out aoW.out aoX.out hlu hv (by omega) (by omega) HP1.out HP2.out)⟩
   have hS1:jJ tH 9 W0 wr b o (P++(l1++(l2++(r1++(r2++Q))))):=by
    have:=hS
    rw [Ob.out.1,Ob.out.2] at this
    simpa only [List.append_assoc] using this
   obtain ⟨e0,he0⟩:∃e0:Nat,mid+m - j0 = e0:=⟨_,rfl⟩
   have HF:=Lib.hid (show a+v = j0∧j0≤m∧e0+j0 = mid+m∧e0≤bb∧P.length = a∧a+d = mid∧m≤e0 by
    have f1:=HI.out;have f2:=hm.out;have f3:=hb.out;have f4:=HD.out;have f5:=ha.out;omega)
   have hE0:(mid:Int)+m - j0 = e0:=by have:=HF.out;omega
   have hej:e0≤bb:=HF.out.2.2.2.1
   have hjm:j0≤m:=HF.out.2.1
   clear he0 HP1 HP2 hS
   rcases Nat.lt_or_ge v d with aoY | aoY
   ·rcases Nat.eq_zero_or_pos v with hv0 | hv0
    ·rcases Nat.eq_zero_or_pos r2.length with hr2 | hr2
     ·first
       | (exfalso;have e3:=Ij.out;have e4:=Ik.out;have e5:=HD.out;have f1:=HF.out;have f2:=hm.out;have f3:=hb.out;have f4:=fJ.out;omega)
       | (
        have g1:j0 < m:=by have f1:=HF.out;have f2:=hm.out;have f3:=hb.out;have f4:=fJ.out;omega
        have g2:m < e0:=by have f1:=HF.out;have f2:=hm.out;have f3:=hb.out;have f4:=fJ.out;omega
        have g3:j0≤a:=by have f1:=HF.out;have f2:=hm.out;have f3:=hb.out;have f4:=fJ.out;omega
        have g5:mid < e0:=by have f1:=HF.out;have f2:=hm.out;have f3:=hb.out;have f4:=fJ.out;omega
        have g6:bb≤e0:=by have f1:=HF.out;have f2:=hm.out;have f3:=hb.out;have f4:=fJ.out;omega
        go_wp2_with fail
        refine (Fg W0 _ b o c N (P++l1) l2 r1 (r2++Q) j0 m e0 _ auv auc BI (Lib.hid auw) (Lib.hid atU) (Lib.hid atU) atU atU).mono ?_
        rintro e w2 ⟨rfl,hS2⟩
        replace hS2:jJ tH 9 W0 w2 b o (P++(l1++(r1++(l2++(r2++Q))))):=by simpa only [List.append_assoc] using hS2
        go_wp2_with fail
        have l1e:l1 = []:=List.eq_nil_of_length_eq_zero atU
        have hS3:jJ tH 9 W0 w2 b o (P++(fO (kS cv) l1 r1++(l2++(r2++Q)))):=by rw [l1e] at hS2 ⊢;simpa only [ig,List.nil_append] using hS2
        have r2e:r2 = []:=List.eq_nil_of_length_eq_zero atU
        have hS4:jJ tH 9 W0 w2 b o (P++(fO (kS cv) l1 r1++(fO (kS cv) l2 r2++Q))):=by rw [r2e] at hS3 ⊢;simpa only [gZ,List.nil_append] using hS3
        go_end0
        refine ⟨rfl,?_⟩
        rw [HM.out]
        simpa only [List.append_assoc] using hS4)
     ·first
       | (exfalso;have e3:=Ij.out;have e4:=Ik.out;have e5:=HD.out;have f1:=HF.out;have f2:=hm.out;have f3:=hb.out;have f4:=fJ.out;omega)
       | (
        have g1:j0 < m:=by have f1:=HF.out;have f2:=hm.out;have f3:=hb.out;have f4:=fJ.out;omega
        have g2:m < e0:=by have f1:=HF.out;have f2:=hm.out;have f3:=hb.out;have f4:=fJ.out;omega
        have g3:j0≤a:=by have f1:=HF.out;have f2:=hm.out;have f3:=hb.out;have f4:=fJ.out;omega
        have g5:mid < e0:=by have f1:=HF.out;have f2:=hm.out;have f3:=hb.out;have f4:=fJ.out;omega
        have g6:e0 < bb:=by have f1:=HF.out;have f2:=hm.out;have f3:=hb.out;have f4:=fJ.out;omega
        go_wp2_with fail
        refine (Fg W0 _ b o c N (P++l1) l2 r1 (r2++Q) j0 m e0 _ auv auc BI (Lib.hid auw) (Lib.hid atU) (Lib.hid atU) atU atU).mono ?_
        rintro e w2 ⟨rfl,hS2⟩
        replace hS2:jJ tH 9 W0 w2 b o (P++(l1++(r1++(l2++(r2++Q))))):=by simpa only [List.append_assoc] using hS2
        go_wp2_with fail
        have l1e:l1 = []:=List.eq_nil_of_length_eq_zero atU
        have hS3:jJ tH 9 W0 w2 b o (P++(fO (kS cv) l1 r1++(l2++(r2++Q)))):=by rw [l1e] at hS2 ⊢;simpa only [ig,List.nil_append] using hS2
        refine (HIH.out W0 _ b o c N (P++fO (kS cv) l1 r1) l2 r2 Q mid e0 bb cv auM auc BI (Lib.hid auN) (Lib.hid atU) (Lib.hid atU) atU atU HW.out LJ.out.2.1 LJ.out.2.2.2 HC.out auk).mono ?_
        rintro e w4 ⟨rfl,hS4⟩
        go_wp2
        go_end0
        refine ⟨rfl,?_⟩
        rw [HM.out]
        simpa only [List.append_assoc] using hS4)
    ·rcases Nat.eq_zero_or_pos l2.length with hl2 | hl2
     ·first
       | (exfalso;have e3:=Ij.out;have e4:=Ik.out;have e5:=HD.out;have f1:=HF.out;have f2:=hm.out;have f3:=hb.out;have f4:=fJ.out;omega)
       | (
        have g1:m≤j0:=by have f1:=HF.out;have f2:=hm.out;have f3:=hb.out;have f4:=fJ.out;omega
        have g3:a < j0:=by have f1:=HF.out;have f2:=hm.out;have f3:=hb.out;have f4:=fJ.out;omega
        have g4:j0 < mid:=by have f1:=HF.out;have f2:=hm.out;have f3:=hb.out;have f4:=fJ.out;omega
        have g5:e0≤mid:=by have f1:=HF.out;have f2:=hm.out;have f3:=hb.out;have f4:=fJ.out;omega
        go_wp2_with fail
        have l2e:l2 = []:=List.eq_nil_of_length_eq_zero atU
        have hS2:jJ tH 9 W0 wr b o (P++(l1++(r1++(l2++(r2++Q))))):=by rw [l2e] at hS1 ⊢;simpa only [List.append_assoc,List.nil_append] using hS1
        refine (HIH.out W0 _ b o c N P l1 r1 (l2++(r2++Q)) a j0 mid cv hS2 auc BI ha (Lib.hid atU) (Lib.hid atU) atU atU HW.out LJ.out.1 LJ.out.2.2.1 HC.out auk).mono ?_
        rintro e w3 ⟨rfl,hS3⟩
        go_wp2_with fail
        have hS4:jJ tH 9 W0 w3 b o (P++(fO (kS cv) l1 r1++(fO (kS cv) l2 r2++Q))):=by rw [l2e] at hS3 ⊢;simpa only [ig,List.nil_append] using hS3
        go_end0
        refine ⟨rfl,?_⟩
        rw [HM.out]
        simpa only [List.append_assoc] using hS4)
     ·rcases Nat.eq_zero_or_pos r2.length with hr2 | hr2
      ·first
        | (exfalso;have e3:=Ij.out;have e4:=Ik.out;have e5:=HD.out;have f1:=HF.out;have f2:=hm.out;have f3:=hb.out;have f4:=fJ.out;omega)
        | (
         have g1:j0 < m:=by have f1:=HF.out;have f2:=hm.out;have f3:=hb.out;have f4:=fJ.out;omega
         have g2:m < e0:=by have f1:=HF.out;have f2:=hm.out;have f3:=hb.out;have f4:=fJ.out;omega
         have g3:a < j0:=by have f1:=HF.out;have f2:=hm.out;have f3:=hb.out;have f4:=fJ.out;omega
         have g4:j0 < mid:=by have f1:=HF.out;have f2:=hm.out;have f3:=hb.out;have f4:=fJ.out;omega
         have g5:mid < e0:=by have f1:=HF.out;have f2:=hm.out;have f3:=hb.out;have f4:=fJ.out;omega
         have g6:bb≤e0:=by have f1:=HF.out;have f2:=hm.out;have f3:=hb.out;have f4:=fJ.out;omega
         go_wp2_with fail
         refine (Fg W0 _ b o c N (P++l1) l2 r1 (r2++Q) j0 m e0 _ auv auc BI (Lib.hid auw) (Lib.hid atU) (Lib.hid atU) atU atU).mono ?_
         rintro e w2 ⟨rfl,hS2⟩
         replace hS2:jJ tH 9 W0 w2 b o (P++(l1++(r1++(l2++(r2++Q))))):=by simpa only [List.append_assoc] using hS2
         go_wp2_with fail
         refine (HIH.out W0 _ b o c N P l1 r1 (l2++(r2++Q)) a j0 mid cv hS2 auc BI ha (Lib.hid atU) (Lib.hid atU) atU atU HW.out LJ.out.1 LJ.out.2.2.1 HC.out auk).mono ?_
         rintro e w3 ⟨rfl,hS3⟩
         go_wp2_with fail
         have r2e:r2 = []:=List.eq_nil_of_length_eq_zero atU
         have hS4:jJ tH 9 W0 w3 b o (P++(fO (kS cv) l1 r1++(fO (kS cv) l2 r2++Q))):=by rw [r2e] at hS3 ⊢;simpa only [gZ,List.nil_append] using hS3
         go_end0
         refine ⟨rfl,?_⟩
         rw [HM.out]
         simpa only [List.append_assoc] using hS4)
      ·first
        | (exfalso;have e3:=Ij.out;have e4:=Ik.out;have e5:=HD.out;have f1:=HF.out;have f2:=hm.out;have f3:=hb.out;have f4:=fJ.out;omega)
        | (
         have g1:j0 < m:=by have f1:=HF.out;have f2:=hm.out;have f3:=hb.out;have f4:=fJ.out;omega
         have g2:m < e0:=by have f1:=HF.out;have f2:=hm.out;have f3:=hb.out;have f4:=fJ.out;omega
         have g3:a < j0:=by have f1:=HF.out;have f2:=hm.out;have f3:=hb.out;have f4:=fJ.out;omega
         have g4:j0 < mid:=by have f1:=HF.out;have f2:=hm.out;have f3:=hb.out;have f4:=fJ.out;omega
         have g5:mid < e0:=by have f1:=HF.out;have f2:=hm.out;have f3:=hb.out;have f4:=fJ.out;omega
         have g6:e0 < bb:=by have f1:=HF.out;have f2:=hm.out;have f3:=hb.out;have f4:=fJ.out;omega
         go_wp2_with fail
         refine (Fg W0 _ b o c N (P++l1) l2 r1 (r2++Q) j0 m e0 _ auv auc BI (Lib.hid auw) (Lib.hid atU) (Lib.hid atU) atU atU).mono ?_
         rintro e w2 ⟨rfl,hS2⟩
         replace hS2:jJ tH 9 W0 w2 b o (P++(l1++(r1++(l2++(r2++Q))))):=by simpa only [List.append_assoc] using hS2
         go_wp2_with fail
         refine (HIH.out W0 _ b o c N P l1 r1 (l2++(r2++Q)) a j0 mid cv hS2 auc BI ha (Lib.hid atU) (Lib.hid atU) atU atU HW.out LJ.out.1 LJ.out.2.2.1 HC.out auk).mono ?_
         rintro e w3 ⟨rfl,hS3⟩
         go_wp2_with fail
         refine (HIH.out W0 _ b o c N (P++fO (kS cv) l1 r1) l2 r2 Q mid e0 bb cv auM auc BI (Lib.hid auN) (Lib.hid atU) (Lib.hid atU) atU atU HW.out LJ.out.2.1 LJ.out.2.2.2 HC.out auk).mono ?_
         rintro e w4 ⟨rfl,hS4⟩
         go_wp2
         go_end0
         refine ⟨rfl,?_⟩
         rw [HM.out]
         simpa only [List.append_assoc] using hS4)
   ·rcases Nat.eq_zero_or_pos l2.length with hl2 | hl2
    ·first
      | (exfalso;have e3:=Ij.out;have e4:=Ik.out;have e5:=HD.out;have f1:=HF.out;have f2:=hm.out;have f3:=hb.out;have f4:=fJ.out;omega)
      | (
       have g1:m≤j0:=by have f1:=HF.out;have f2:=hm.out;have f3:=hb.out;have f4:=fJ.out;omega
       have g3:a < j0:=by have f1:=HF.out;have f2:=hm.out;have f3:=hb.out;have f4:=fJ.out;omega
       have g4:mid≤j0:=by have f1:=HF.out;have f2:=hm.out;have f3:=hb.out;have f4:=fJ.out;omega
       have g5:e0≤mid:=by have f1:=HF.out;have f2:=hm.out;have f3:=hb.out;have f4:=fJ.out;omega
       go_wp2_with fail
       have l2e:l2 = []:=List.eq_nil_of_length_eq_zero atU
       have hS2:jJ tH 9 W0 wr b o (P++(l1++(r1++(l2++(r2++Q))))):=by rw [l2e] at hS1 ⊢;simpa only [List.append_assoc,List.nil_append] using hS1
       have r1e:r1 = []:=List.eq_nil_of_length_eq_zero atU
       have hS3:jJ tH 9 W0 wr b o (P++(fO (kS cv) l1 r1++(l2++(r2++Q)))):=by rw [r1e] at hS2 ⊢;simpa only [gZ,List.nil_append] using hS2
       have hS4:jJ tH 9 W0 wr b o (P++(fO (kS cv) l1 r1++(fO (kS cv) l2 r2++Q))):=by rw [l2e] at hS3 ⊢;simpa only [ig,List.nil_append] using hS3
       go_end0
       refine ⟨rfl,?_⟩
       rw [HM.out]
       simpa only [List.append_assoc] using hS4)
    ·first
      | (exfalso;have e3:=Ij.out;have e4:=Ik.out;have e5:=HD.out;have f1:=HF.out;have f2:=hm.out;have f3:=hb.out;have f4:=fJ.out;omega)
      | (
       have g1:j0 < m:=by have f1:=HF.out;have f2:=hm.out;have f3:=hb.out;have f4:=fJ.out;omega
       have g2:e0≤m:=by have f1:=HF.out;have f2:=hm.out;have f3:=hb.out;have f4:=fJ.out;omega
       have g3:a < j0:=by have f1:=HF.out;have f2:=hm.out;have f3:=hb.out;have f4:=fJ.out;omega
       have g4:mid≤j0:=by have f1:=HF.out;have f2:=hm.out;have f3:=hb.out;have f4:=fJ.out;omega
       have g5:mid < e0:=by have f1:=HF.out;have f2:=hm.out;have f3:=hb.out;have f4:=fJ.out;omega
       have g6:e0 < bb:=by have f1:=HF.out;have f2:=hm.out;have f3:=hb.out;have f4:=fJ.out;omega
       go_wp2_with fail
       have r1e:r1 = []:=List.eq_nil_of_length_eq_zero atU
       have hS2:jJ tH 9 W0 wr b o (P++(l1++(r1++(l2++(r2++Q))))):=by rw [r1e] at hS1 ⊢;simpa only [List.append_assoc,List.nil_append] using hS1
       have hS3:jJ tH 9 W0 wr b o (P++(fO (kS cv) l1 r1++(l2++(r2++Q)))):=by rw [r1e] at hS2 ⊢;simpa only [gZ,List.nil_append] using hS2
       refine (HIH.out W0 _ b o c N (P++fO (kS cv) l1 r1) l2 r2 Q mid e0 bb cv auM auc BI (Lib.hid auN) (Lib.hid atU) (Lib.hid atU) atU atU HW.out LJ.out.2.1 LJ.out.2.2.2 HC.out auk).mono ?_
       rintro e w4 ⟨rfl,hS4⟩
       go_wp2
       go_end0
       refine ⟨rfl,?_⟩
       rw [HM.out]
       simpa only [List.append_assoc] using hS4)):P:=h
theorem Zaab {P:Prop} (h:P:=by
 have hlh:lo≤hi:=by have:=hm.out;have:=hb.out;have:=HD.out;omega
 have hhd:hi≤d:=by have:=hm.out;have:=HD.out;omega
 have hhl:hi≤L.length:=by have:=hm.out;have:=HD.out;omega
 have hld:d≤lo+R.length:=by have:=hm.out;have:=hb.out;have:=HD.out;omega
 have Ij:=Lib.hid hlo
 have Ik:=Lib.hid hhi
 clear hlo hhi
 go_wp2_with fail
 go_loopw [20,21] (fun i j wr=>∃u v i0 j0:Nat,lo≤u∧u≤v∧v≤hi∧i = .int .i64 (i0:Int)∧j = .int .i64 (j0:Int)∧Hid (a+u = i0)∧Hid (a+v = j0)∧Hid (u = lo∨∃x y,L[u - 1]? = some x∧R[d - u]? = some y∧kS cv y x = false)∧Hid (v = hi∨∃x y,L[v]? = some x∧R[d - 1 - v]? = some y∧kS cv y x = true)∧jJ (fun x=>[Value.string (nm x)]) 1 W0 wr b o (P++(L++(R++Q)))) (fun i j _=>(intOf j - intOf i).toNat)
 case atStart =>
  exact Zae3
 case round =>
  obtain ⟨u,v,i0,j0,hlu,huv,hv,rfl,rfl,HI,HJ,HP1,HP2,hS⟩:=hrel
  by_cases hlt:u < v
  ·have hij:i0 < j0:=by have:=HI.out;have:=HJ.out;omega
   have hjb:j0≤m:=by have:=HJ.out;have:=hm.out;omega
   have hai:a≤i0:=by have:=HI.out;omega
   obtain ⟨t,ht⟩:∃t:Nat,(i0+j0) / 2 = t:=⟨_,rfl⟩
   have hti:i0≤t:=by omega
   have htj:t < j0:=by omega
   obtain ⟨k,hk⟩:∃k,a+k = t:=⟨t - a,by omega⟩
   have huk:u≤k:=by have:=HI.out;omega
   have hkv:k < v:=by have:=HJ.out;omega
   have hkL:k < L.length:=by omega
   have hkd:k < d:=by omega
   have hkR:d - 1 - k < R.length:=by omega
   obtain ⟨q,hq⟩:∃q:Nat,mid+m - 1 - t = q:=⟨_,rfl⟩
   have hqm:m≤q:=by have:=HD.out;omega
   have hqb:q < bb:=by have:=HD.out;have:=hb.out;omega
   have hmd:mid≤bb:=by have:=HD.out;have:=hm.out;have:=hb.out;omega
   have hqq:q - m = d - 1 - k:=by have:=HD.out;omega
   have hL1:L[k]? = some L[k]:=List.getElem?_eq_getElem hkL
   have hR1:R[d - 1 - k]? = some R[d - 1 - k]:=List.getElem?_eq_getElem hkR
   obtain ⟨x,hx⟩:∃x,L[k] = x:=⟨_,rfl⟩
   obtain ⟨y,hy⟩:∃y,R[d - 1 - k] = y:=⟨_,rfl⟩
   rw [hx] at hL1
   rw [hy] at hR1
   have hgx:(P++(L++(R++Q)))[t]? = some x:=by
    rw [List.getElem?_append_right auu,show t - P.length = k by have:=ha.out;omega,List.getElem?_append_left hkL,hL1]
   have MV:(P++(L++(R++Q)))[q]? = some y:=by
    exact Zafe
   have qx:wr.cell? ⟨b,o+t,none⟩ = some (.string (nm x)):=by have:=hS.tab _ x hgx 0 _ rfl;simpa using this
   have qy:wr.cell? ⟨b,o+q,none⟩ = some (.string (nm y)):=by have:=hS.tab _ y MV 0 _ rfl;simpa using this
   exact Zaec
  ·have aa4:v = u:=by omega
   subst aa4
   have hj0:j0 = i0:=by have:=HI.out;have:=HJ.out;omega
   subst hj0
   have hvd:v≤d:=by omega
   have hdR:d - v≤R.length:=by omega
   obtain ⟨l1,l2,r1,r2,Ob,fJ,LJ,HM⟩:∃l1 l2 r1 r2,Hid (L = l1++l2∧R = r1++r2)∧Hid (l1.length = v∧l2.length+v = L.length∧r1.length+v = d∧r1.length+r2.length = R.length)∧Hid (Sorted (kS cv) l1∧Sorted (kS cv) l2∧Sorted (kS cv) r1∧Sorted (kS cv) r2)∧Hid (fO (kS cv) L R = fO (kS cv) l1 r1++fO (kS cv) l2 r2) :=
    ⟨L.take v,L.drop v,R.take (d - v),R.drop (d - v),Lib.hid ⟨(List.take_append_drop ..).symm,(List.take_append_drop ..).symm⟩,Lib.hid ⟨by rw [List.length_take];omega,by rw [List.length_drop];omega,by rw [List.length_take];omega,by rw [List.length_take,List.length_drop];omega⟩,
      Lib.hid ⟨List.Pairwise.sublist (List.take_sublist ..) HSL.out,List.Pairwise.sublist (List.drop_sublist ..) HSL.out,List.Pairwise.sublist (List.take_sublist ..) HSR.out,List.Pairwise.sublist (List.drop_sublist ..) HSR.out⟩,
      Lib.hid (ali HW.out HSL.out HSR.out aoW.out aoX.out hlu hv (by omega) (by omega) HP1.out HP2.out)⟩
   have hS1:jJ (fun x=>[Value.string (nm x)]) 1 W0 wr b o (P++(l1++(l2++(r1++(r2++Q))))):=by
    have:=hS
    rw [Ob.out.1,Ob.out.2] at this
    simpa only [List.append_assoc] using this
   obtain ⟨e0,he0⟩:∃e0:Nat,mid+m - j0 = e0:=⟨_,rfl⟩
   have HF:=Lib.hid (show a+v = j0∧j0≤m∧e0+j0 = mid+m∧e0≤bb∧P.length = a∧a+d = mid∧m≤e0 by
    have f1:=HI.out;have f2:=hm.out;have f3:=hb.out;have f4:=HD.out;have f5:=ha.out;omega)
   have hE0:(mid:Int)+m - j0 = e0:=by have:=HF.out;omega
   have hej:e0≤bb:=HF.out.2.2.2.1
   have hjm:j0≤m:=HF.out.2.1
   clear he0 HP1 HP2 hS
   rcases Nat.lt_or_ge v d with aoY | aoY
   ·rcases Nat.eq_zero_or_pos v with hv0 | hv0
    ·rcases Nat.eq_zero_or_pos r2.length with hr2 | hr2
     ·first
       | (exfalso;have e3:=Ij.out;have e4:=Ik.out;have e5:=HD.out;have f1:=HF.out;have f2:=hm.out;have f3:=hb.out;have f4:=fJ.out;omega)
       | (
        have g1:j0 < m:=by have f1:=HF.out;have f2:=hm.out;have f3:=hb.out;have f4:=fJ.out;omega
        have g2:m < e0:=by have f1:=HF.out;have f2:=hm.out;have f3:=hb.out;have f4:=fJ.out;omega
        have g3:j0≤a:=by have f1:=HF.out;have f2:=hm.out;have f3:=hb.out;have f4:=fJ.out;omega
        have g5:mid < e0:=by have f1:=HF.out;have f2:=hm.out;have f3:=hb.out;have f4:=fJ.out;omega
        have g6:bb≤e0:=by have f1:=HF.out;have f2:=hm.out;have f3:=hb.out;have f4:=fJ.out;omega
        go_wp2_with fail
        refine (Ii nm W0 _ b o c N (P++l1) l2 r1 (r2++Q) j0 m e0 _ auv auc BI (Lib.hid auw) (Lib.hid atU) (Lib.hid atU) atU atU).mono ?_
        rintro e w2 ⟨rfl,hS2⟩
        replace hS2:jJ (fun x=>[Value.string (nm x)]) 1 W0 w2 b o (P++(l1++(r1++(l2++(r2++Q))))):=by simpa only [List.append_assoc] using hS2
        go_wp2_with fail
        have l1e:l1 = []:=List.eq_nil_of_length_eq_zero atU
        have hS3:jJ (fun x=>[Value.string (nm x)]) 1 W0 w2 b o (P++(fO (kS cv) l1 r1++(l2++(r2++Q)))):=by rw [l1e] at hS2 ⊢;simpa only [ig,List.nil_append] using hS2
        have r2e:r2 = []:=List.eq_nil_of_length_eq_zero atU
        have hS4:jJ (fun x=>[Value.string (nm x)]) 1 W0 w2 b o (P++(fO (kS cv) l1 r1++(fO (kS cv) l2 r2++Q))):=by rw [r2e] at hS3 ⊢;simpa only [gZ,List.nil_append] using hS3
        go_end0
        refine ⟨rfl,?_⟩
        rw [HM.out]
        simpa only [List.append_assoc] using hS4)
     ·first
       | (exfalso;have e3:=Ij.out;have e4:=Ik.out;have e5:=HD.out;have f1:=HF.out;have f2:=hm.out;have f3:=hb.out;have f4:=fJ.out;omega)
       | (
        have g1:j0 < m:=by have f1:=HF.out;have f2:=hm.out;have f3:=hb.out;have f4:=fJ.out;omega
        have g2:m < e0:=by have f1:=HF.out;have f2:=hm.out;have f3:=hb.out;have f4:=fJ.out;omega
        have g3:j0≤a:=by have f1:=HF.out;have f2:=hm.out;have f3:=hb.out;have f4:=fJ.out;omega
        have g5:mid < e0:=by have f1:=HF.out;have f2:=hm.out;have f3:=hb.out;have f4:=fJ.out;omega
        have g6:e0 < bb:=by have f1:=HF.out;have f2:=hm.out;have f3:=hb.out;have f4:=fJ.out;omega
        go_wp2_with fail
        refine (Ii nm W0 _ b o c N (P++l1) l2 r1 (r2++Q) j0 m e0 _ auv auc BI (Lib.hid auw) (Lib.hid atU) (Lib.hid atU) atU atU).mono ?_
        rintro e w2 ⟨rfl,hS2⟩
        replace hS2:jJ (fun x=>[Value.string (nm x)]) 1 W0 w2 b o (P++(l1++(r1++(l2++(r2++Q))))):=by simpa only [List.append_assoc] using hS2
        go_wp2_with fail
        have l1e:l1 = []:=List.eq_nil_of_length_eq_zero atU
        have hS3:jJ (fun x=>[Value.string (nm x)]) 1 W0 w2 b o (P++(fO (kS cv) l1 r1++(l2++(r2++Q)))):=by rw [l1e] at hS2 ⊢;simpa only [ig,List.nil_append] using hS2
        refine (HIH.out W0 _ b o c N (P++fO (kS cv) l1 r1) l2 r2 Q mid e0 bb cv q1 q2 auM auc BI (Lib.hid auN) (Lib.hid atU) (Lib.hid atU) atU atU HW.out LJ.out.2.1 LJ.out.2.2.2 HC.out auk).mono ?_
        rintro e w4 ⟨rfl,hS4⟩
        go_wp2
        go_end0
        refine ⟨rfl,?_⟩
        rw [HM.out]
        simpa only [List.append_assoc] using hS4)
    ·rcases Nat.eq_zero_or_pos l2.length with hl2 | hl2
     ·first
       | (exfalso;have e3:=Ij.out;have e4:=Ik.out;have e5:=HD.out;have f1:=HF.out;have f2:=hm.out;have f3:=hb.out;have f4:=fJ.out;omega)
       | (
        have g1:m≤j0:=by have f1:=HF.out;have f2:=hm.out;have f3:=hb.out;have f4:=fJ.out;omega
        have g3:a < j0:=by have f1:=HF.out;have f2:=hm.out;have f3:=hb.out;have f4:=fJ.out;omega
        have g4:j0 < mid:=by have f1:=HF.out;have f2:=hm.out;have f3:=hb.out;have f4:=fJ.out;omega
        have g5:e0≤mid:=by have f1:=HF.out;have f2:=hm.out;have f3:=hb.out;have f4:=fJ.out;omega
        go_wp2_with fail
        have l2e:l2 = []:=List.eq_nil_of_length_eq_zero atU
        have hS2:jJ (fun x=>[Value.string (nm x)]) 1 W0 wr b o (P++(l1++(r1++(l2++(r2++Q))))):=by rw [l2e] at hS1 ⊢;simpa only [List.append_assoc,List.nil_append] using hS1
        refine (HIH.out W0 _ b o c N P l1 r1 (l2++(r2++Q)) a j0 mid cv q1 q2 hS2 auc BI ha (Lib.hid atU) (Lib.hid atU) atU atU HW.out LJ.out.1 LJ.out.2.2.1 HC.out auk).mono ?_
        rintro e w3 ⟨rfl,hS3⟩
        go_wp2_with fail
        have hS4:jJ (fun x=>[Value.string (nm x)]) 1 W0 w3 b o (P++(fO (kS cv) l1 r1++(fO (kS cv) l2 r2++Q))):=by rw [l2e] at hS3 ⊢;simpa only [ig,List.nil_append] using hS3
        go_end0
        refine ⟨rfl,?_⟩
        rw [HM.out]
        simpa only [List.append_assoc] using hS4)
     ·rcases Nat.eq_zero_or_pos r2.length with hr2 | hr2
      ·first
        | (exfalso;have e3:=Ij.out;have e4:=Ik.out;have e5:=HD.out;have f1:=HF.out;have f2:=hm.out;have f3:=hb.out;have f4:=fJ.out;omega)
        | (
         have g1:j0 < m:=by have f1:=HF.out;have f2:=hm.out;have f3:=hb.out;have f4:=fJ.out;omega
         have g2:m < e0:=by have f1:=HF.out;have f2:=hm.out;have f3:=hb.out;have f4:=fJ.out;omega
         have g3:a < j0:=by have f1:=HF.out;have f2:=hm.out;have f3:=hb.out;have f4:=fJ.out;omega
         have g4:j0 < mid:=by have f1:=HF.out;have f2:=hm.out;have f3:=hb.out;have f4:=fJ.out;omega
         have g5:mid < e0:=by have f1:=HF.out;have f2:=hm.out;have f3:=hb.out;have f4:=fJ.out;omega
         have g6:bb≤e0:=by have f1:=HF.out;have f2:=hm.out;have f3:=hb.out;have f4:=fJ.out;omega
         go_wp2_with fail
         refine (Ii nm W0 _ b o c N (P++l1) l2 r1 (r2++Q) j0 m e0 _ auv auc BI (Lib.hid auw) (Lib.hid atU) (Lib.hid atU) atU atU).mono ?_
         rintro e w2 ⟨rfl,hS2⟩
         replace hS2:jJ (fun x=>[Value.string (nm x)]) 1 W0 w2 b o (P++(l1++(r1++(l2++(r2++Q))))):=by simpa only [List.append_assoc] using hS2
         go_wp2_with fail
         refine (HIH.out W0 _ b o c N P l1 r1 (l2++(r2++Q)) a j0 mid cv q1 q2 hS2 auc BI ha (Lib.hid atU) (Lib.hid atU) atU atU HW.out LJ.out.1 LJ.out.2.2.1 HC.out auk).mono ?_
         rintro e w3 ⟨rfl,hS3⟩
         go_wp2_with fail
         have r2e:r2 = []:=List.eq_nil_of_length_eq_zero atU
         have hS4:jJ (fun x=>[Value.string (nm x)]) 1 W0 w3 b o (P++(fO (kS cv) l1 r1++(fO (kS cv) l2 r2++Q))):=by rw [r2e] at hS3 ⊢;simpa only [gZ,List.nil_append] using hS3
         go_end0
         refine ⟨rfl,?_⟩
         rw [HM.out]
         simpa only [List.append_assoc] using hS4)
      ·first
        | (exfalso;have e3:=Ij.out;have e4:=Ik.out;have e5:=HD.out;have f1:=HF.out;have f2:=hm.out;have f3:=hb.out;have f4:=fJ.out;omega)
        | (
         have g1:j0 < m:=by have f1:=HF.out;have f2:=hm.out;have f3:=hb.out;have f4:=fJ.out;omega
         have g2:m < e0:=by have f1:=HF.out;have f2:=hm.out;have f3:=hb.out;have f4:=fJ.out;omega
         have g3:a < j0:=by have f1:=HF.out;have f2:=hm.out;have f3:=hb.out;have f4:=fJ.out;omega
         have g4:j0 < mid:=by have f1:=HF.out;have f2:=hm.out;have f3:=hb.out;have f4:=fJ.out;omega
         have g5:mid < e0:=by have f1:=HF.out;have f2:=hm.out;have f3:=hb.out;have f4:=fJ.out;omega
         have g6:e0 < bb:=by have f1:=HF.out;have f2:=hm.out;have f3:=hb.out;have f4:=fJ.out;omega
         go_wp2_with fail
         refine (Ii nm W0 _ b o c N (P++l1) l2 r1 (r2++Q) j0 m e0 _ auv auc BI (Lib.hid auw) (Lib.hid atU) (Lib.hid atU) atU atU).mono ?_
         rintro e w2 ⟨rfl,hS2⟩
         replace hS2:jJ (fun x=>[Value.string (nm x)]) 1 W0 w2 b o (P++(l1++(r1++(l2++(r2++Q))))):=by simpa only [List.append_assoc] using hS2
         go_wp2_with fail
         refine (HIH.out W0 _ b o c N P l1 r1 (l2++(r2++Q)) a j0 mid cv q1 q2 hS2 auc BI ha (Lib.hid atU) (Lib.hid atU) atU atU HW.out LJ.out.1 LJ.out.2.2.1 HC.out auk).mono ?_
         rintro e w3 ⟨rfl,hS3⟩
         go_wp2_with fail
         refine (HIH.out W0 _ b o c N (P++fO (kS cv) l1 r1) l2 r2 Q mid e0 bb cv q1 q2 auM auc BI (Lib.hid auN) (Lib.hid atU) (Lib.hid atU) atU atU HW.out LJ.out.2.1 LJ.out.2.2.2 HC.out auk).mono ?_
         rintro e w4 ⟨rfl,hS4⟩
         go_wp2
         go_end0
         refine ⟨rfl,?_⟩
         rw [HM.out]
         simpa only [List.append_assoc] using hS4)
   ·rcases Nat.eq_zero_or_pos l2.length with hl2 | hl2
    ·first
      | (exfalso;have e3:=Ij.out;have e4:=Ik.out;have e5:=HD.out;have f1:=HF.out;have f2:=hm.out;have f3:=hb.out;have f4:=fJ.out;omega)
      | (
       have g1:m≤j0:=by have f1:=HF.out;have f2:=hm.out;have f3:=hb.out;have f4:=fJ.out;omega
       have g3:a < j0:=by have f1:=HF.out;have f2:=hm.out;have f3:=hb.out;have f4:=fJ.out;omega
       have g4:mid≤j0:=by have f1:=HF.out;have f2:=hm.out;have f3:=hb.out;have f4:=fJ.out;omega
       have g5:e0≤mid:=by have f1:=HF.out;have f2:=hm.out;have f3:=hb.out;have f4:=fJ.out;omega
       go_wp2_with fail
       have l2e:l2 = []:=List.eq_nil_of_length_eq_zero atU
       have hS2:jJ (fun x=>[Value.string (nm x)]) 1 W0 wr b o (P++(l1++(r1++(l2++(r2++Q))))):=by rw [l2e] at hS1 ⊢;simpa only [List.append_assoc,List.nil_append] using hS1
       have r1e:r1 = []:=List.eq_nil_of_length_eq_zero atU
       have hS3:jJ (fun x=>[Value.string (nm x)]) 1 W0 wr b o (P++(fO (kS cv) l1 r1++(l2++(r2++Q)))):=by rw [r1e] at hS2 ⊢;simpa only [gZ,List.nil_append] using hS2
       have hS4:jJ (fun x=>[Value.string (nm x)]) 1 W0 wr b o (P++(fO (kS cv) l1 r1++(fO (kS cv) l2 r2++Q))):=by rw [l2e] at hS3 ⊢;simpa only [ig,List.nil_append] using hS3
       go_end0
       refine ⟨rfl,?_⟩
       rw [HM.out]
       simpa only [List.append_assoc] using hS4)
    ·first
      | (exfalso;have e3:=Ij.out;have e4:=Ik.out;have e5:=HD.out;have f1:=HF.out;have f2:=hm.out;have f3:=hb.out;have f4:=fJ.out;omega)
      | (
       have g1:j0 < m:=by have f1:=HF.out;have f2:=hm.out;have f3:=hb.out;have f4:=fJ.out;omega
       have g2:e0≤m:=by have f1:=HF.out;have f2:=hm.out;have f3:=hb.out;have f4:=fJ.out;omega
       have g3:a < j0:=by have f1:=HF.out;have f2:=hm.out;have f3:=hb.out;have f4:=fJ.out;omega
       have g4:mid≤j0:=by have f1:=HF.out;have f2:=hm.out;have f3:=hb.out;have f4:=fJ.out;omega
       have g5:mid < e0:=by have f1:=HF.out;have f2:=hm.out;have f3:=hb.out;have f4:=fJ.out;omega
       have g6:e0 < bb:=by have f1:=HF.out;have f2:=hm.out;have f3:=hb.out;have f4:=fJ.out;omega
       go_wp2_with fail
       have r1e:r1 = []:=List.eq_nil_of_length_eq_zero atU
       have hS2:jJ (fun x=>[Value.string (nm x)]) 1 W0 wr b o (P++(l1++(r1++(l2++(r2++Q))))):=by rw [r1e] at hS1 ⊢;simpa only [List.append_assoc,List.nil_append] using hS1
       have hS3:jJ (fun x=>[Value.string (nm x)]) 1 W0 wr b o (P++(fO (kS cv) l1 r1++(l2++(r2++Q)))):=by rw [r1e] at hS2 ⊢;simpa only [gZ,List.nil_append] using hS2
       refine (HIH.out W0 _ b o c N (P++fO (kS cv) l1 r1) l2 r2 Q mid e0 bb cv q1 q2 auM auc BI (Lib.hid auN) (Lib.hid atU) (Lib.hid atU) atU atU HW.out LJ.out.2.1 LJ.out.2.2.2 HC.out auk).mono ?_
       rintro e w4 ⟨rfl,hS4⟩
       go_wp2
       go_end0
       refine ⟨rfl,?_⟩
       rw [HM.out]
       simpa only [List.append_assoc] using hS4)):P:=h
theorem Zaac {P:Prop} (h:P:=by
 intro HK
 have hbx:Below wn.heap.size wn wn.drew:=aA (aj _)
 refine aX 1 _ (by rfl) (by kernel_rfl) (fun _ _ d _ _ h=>by cases d <;> exact h) hbx (Or.inl ⟨rfl,fun wq hq=>by
  have hcq:=(aB hq).1
  go_simp
  try rfl⟩) ?_
 try simp only [Act.put,pz]
 refine aX 2 _ (by rfl) (by kernel_rfl) (fun _ _ d _ _ h=>by cases d <;> exact h) hbx (Or.inl ⟨rfl,fun wq hq=>by
  have hcq:=(aB hq).1
  go_simp
  try rfl⟩) ?_
 try simp only [Act.put,pz]
 refine aX 3 _ (by rfl) (by kernel_rfl) (fun _ _ d _ _ h=>by cases d <;> exact h) hbx (Or.inl ⟨rfl,fun wq hq=>by
  have hcq:=(aB hq).1
  go_simp
  try rfl⟩) ?_
 try simp only [Act.put,pz]
 refine aX 5 _ (by rfl) (by kernel_rfl) (fun _ _ d _ _ h=>by cases d <;> exact h) hbx (Or.inl ⟨rfl,fun wq hq=>by
  have hcq:=(aB hq).1
  go_simp
  try rfl⟩) ?_
 try simp only [Act.put,pz]
 refine aX 6 _ (by rfl) (by kernel_rfl) (fun _ _ d _ _ h=>by cases d <;> exact h) hbx (Or.inl ⟨rfl,fun wq hq=>by
  have hcq:=(aB hq).1
  go_simp
  try rfl⟩) ?_
 try simp only [Act.put,pz]
 refine aX 7 _ (by rfl) (by kernel_rfl) (fun _ _ d _ _ h=>by cases d <;> exact h) hbx (Or.inl ⟨rfl,fun wq hq=>by
  have hcq:=(aB hq).1
  go_simp
  try rfl⟩) ?_
 try simp only [Act.put,pz]
 refine aX 8 _ (by rfl) (by kernel_rfl) (fun _ _ d _ _ h=>by cases d <;> exact h) hbx (Or.inl ⟨rfl,fun wq hq=>by
  have hcq:=(aB hq).1
  go_simp
  try rfl⟩) ?_
 try simp only [Act.put,pz]
 refine D7 0 9 (by rfl) (by rfl) (by kernel_rfl) (by rfl) (by rfl) (fun K hK=>?_) (fun K hK=>?_)
 ·go_simp
  refine hK _ _ (ak hbx (.cells #[] 9)) ?_
  try simp only [Act.put,pz]
  clear hK K
  have Qz:=ak hbx (.cells #[] 9)
  have hrA:=D9 wn.drew 9 1 wn.heap.size rfl
  refine D7 4 9 (by rfl) (by rfl) (by kernel_rfl) (by rfl) (by rfl) (fun K hK=>?_) (fun K hK=>?_)
  ·refine qQ qw _ _ (by rfl) (wn.drew.alloc (.cells #[] 9)) wn.heap.size _ 0 [] hrA (by rfl) ⟨g,0,none⟩ jj cap ((s1.map Value.string)) (by rfl) auP (fun q u hu=>(Qz.cell (p:=(⟨g,0,none⟩:Addr).add q) auX).trans (HNC.out q u hu)) (fun u hu=>by obtain ⟨z0,_,rfl⟩:=List.mem_map.1 hu;rfl) (by omega) (by omega) auI ?_
   intro v5 w5 hown5 hg5 aaQ
   have hb5:Below wn.heap.size wn w5:=Below.grown (Qz) hg5 auI (fun q hq=>(hrA.lt q hq).1)
   refine hK _ _ hb5 ?_
   try simp only [Act.put,pz]
   clear hK K
   refine bP 9 (by rfl) (by kernel_rfl) (by rfl) (fun K hK=>?_)
   go_simp
   refine hK _ _ (ak hb5 (.cells #[.string y] 9)) ?_
   try simp only [Act.put,pz]
   clear hK K
   have hbB:=ak hb5 (.cells #[.string y] 9)
   refine bP 10 (by rfl) (by kernel_rfl) (by rfl) (fun K hK=>?_)
   refine qQ qw _ _ (by rfl) (w5.alloc (.cells #[.string y] 9)) wn.heap.size v5 _ _ (mG hown5 (ak (aj _) _)) (by rfl) ⟨w5.heap.size,0,none⟩ 1 1 [.string y] (by rfl) (by rfl) (DI w5 9 [.string y] w5.heap.size rfl) (fun u hu=>by rw [List.mem_singleton.1 hu];rfl) (by omega) (by omega) auJ ?_
   intro v7 w7 nK Ua ab7
   rw [show 0+jj = jj by omega,List.nil_append] at nK
   obtain ⟨g9,p9,hv7,hgb,hgp,hgl⟩:=wW nK (by omega)
   subst hv7
   have hb7:Below wn.heap.size wn w7:=Below.grown (hbB) Ua auJ (fun q hq=>(hown5.lt q hq).1)
   exact Zaen
  ·go_simp
   refine hK _ _ (ak Qz (.cells #[.string y] 9)) ?_
   try simp only [Act.put,pz]
   clear hK K
   have hbB:=ak Qz (.cells #[.string y] 9)
   replace hrA:=mG hrA (ak (aj _) (.cells #[.string y] 9))
   refine bP 4 (by rfl) (by kernel_rfl) (by rfl) (fun K hK=>?_)
   refine qQ qw _ _ (by rfl) ((wn.drew.alloc (.cells #[] 9)).alloc (.cells #[.string y] 9)) wn.heap.size _ 0 [] hrA (by rfl) ⟨g,0,none⟩ jj cap ((s1.map Value.string)) (by rfl) auP (fun q u hu=>(hbB.cell (p:=(⟨g,0,none⟩:Addr).add q) auX).trans (HNC.out q u hu)) (fun u hu=>by obtain ⟨z0,_,rfl⟩:=List.mem_map.1 hu;rfl) (by omega) (by omega) auJ ?_
   intro v5 w5 hown5 hg5 aaQ
   have hb5:Below wn.heap.size wn w5:=Below.grown (hbB) hg5 auJ (fun q hq=>(hrA.lt q hq).1)
   refine hK _ _ hb5 ?_
   try simp only [Act.put,pz]
   clear hK K
   refine bP 10 (by rfl) (by kernel_rfl) (by rfl) (fun K hK=>?_)
   refine qQ qw _ _ (by rfl) w5 wn.heap.size v5 _ _ hown5 (by rfl) ⟨wn.heap.size+1,0,none⟩ 1 1 [.string y] (by rfl) (by rfl) (fun q u hu=>(World.cell?_of_block awP).trans ((DI (wn.drew.alloc (.cells #[] 9)) 9 [.string y] (wn.heap.size+1) (by simp)) q u hu)) (fun u hu=>by rw [List.mem_singleton.1 hu];rfl) (by omega) (by omega) auK ?_
   exact Zafm
 ·go_simp
  refine hK _ _ (ak hbx (.cells #[.string y] 9)) ?_
  try simp only [Act.put,pz]
  clear hK K
  have hbB:=ak hbx (.cells #[.string y] 9)
  refine bP 0 (by rfl) (by kernel_rfl) (by rfl) (fun K hK=>?_)
  go_simp
  refine hK _ _ (ak hbB (.cells #[] 9)) ?_
  try simp only [Act.put,pz]
  clear hK K
  have Qz:=ak hbB (.cells #[] 9)
  have hrA:=vP (D9 (wn.drew.alloc (.cells #[.string y] 9)) 9 1 (wn.heap.size+1) (by simp)) (B':=wn.heap.size) (by omega)
  refine bP 4 (by rfl) (by kernel_rfl) (by rfl) (fun K hK=>?_)
  refine qQ qw _ _ (by rfl) ((wn.drew.alloc (.cells #[.string y] 9)).alloc (.cells #[] 9)) wn.heap.size _ 0 [] hrA (by rfl) ⟨g,0,none⟩ jj cap ((s1.map Value.string)) (by rfl) auP (fun q u hu=>(Qz.cell (p:=(⟨g,0,none⟩:Addr).add q) auX).trans (HNC.out q u hu)) (fun u hu=>by obtain ⟨z0,_,rfl⟩:=List.mem_map.1 hu;rfl) (by omega) (by omega) auI ?_
  intro v5 w5 hown5 hg5 aaQ
  have hb5:Below wn.heap.size wn w5:=Below.grown (Qz) hg5 auI (fun q hq=>(hrA.lt q hq).1)
  refine hK _ _ hb5 ?_
  try simp only [Act.put,pz]
  clear hK K
  refine bP 10 (by rfl) (by kernel_rfl) (by rfl) (fun K hK=>?_)
  refine qQ qw _ _ (by rfl) w5 wn.heap.size v5 _ _ hown5 (by rfl) ⟨wn.heap.size,0,none⟩ 1 1 [.string y] (by rfl) (by rfl) (fun q u hu=>(World.cell?_of_block awQ).trans ((DI wn.drew 9 [.string y] wn.heap.size rfl) q u hu)) (fun u hu=>by rw [List.mem_singleton.1 hu];rfl) (by omega) (by omega) auK ?_
  exact Zafm):P:=h
theorem Zaad {P:Prop} (h:P:=by
 try simp only [Bool.and_false,Bool.and_true,Bool.false_and,Bool.and_self] at hp
 have HN:=Lib.hid (gq hall.out hp)
 clear hp
 go_wp2_with fail
 skip
 refine aF _ (by kernel_rfl) (by kernel_rfl) (aj _) ?_
 repeat (first
  | (apply aG
     case hw=>rfl
     simp only [Act.put,pz])
  | (apply aH
     case hw=>rfl
     case h =>
      exact Zaeo
     simp only [Act.put,pz]))
 refine aN ?_
 intro wn hn
 replace hn:=hn.out
 obtain ⟨hcn,hfn⟩:=ay hn
 have hzn:w.heap.size < wn.heap.size:=sq hn.size
 have hyn:b' < wn.heap.size:=sq hn.size
 try (have hxn:wr.heap.size < wn.heap.size:=sq hn.size)
 have hWn:Below wr.heap.size wr wn:=atS
 have hs8:wn.cell? ⟨wr.heap.size,8,none⟩ = some (.int .i64 x.au[j+1].seq):=by rw [hcn _ _ (by simp),cell_of_row _ _ _ _ _ _ (heap_alloc_new wr _)];rfl
 have anN:(j+1:Nat) < 12:=by omega
 obtain ⟨wo,hwo⟩:∃wo,wo = wr:=⟨_,rfl⟩
 subst hwo
 go_wp2_with fail
 go_loopw [5] (fun i2 wi=>∃q:Nat,q≤j+1∧i2 = .int .i64 q∧Hid (∀u∈x.au.take q,(u.seq == x.au[j+1].seq) = false)∧Below wn.heap.size wn wi) (fun i2 _=>j+1 - (intOf i2).toNat)
 case atStart=>exact ⟨0,Nat.zero_le _,rfl,by show ∀_,_;simp,aj _⟩
 case round =>
  obtain ⟨q,hq,rfl,HQ,hbi⟩:=hrel
  have Fp:Below wo.heap.size wo wr:=ah hWn hbi
  have hBi:Below w.heap.size w wr:=ah hBr Fp
  have ci0:=(ay Fp).1 _ 0 tX |>.trans c0
  have ci1:=(ay Fp).1 _ 1 tX |>.trans c1
  have ci2:=(ay Fp).1 _ 2 tX |>.trans c2
  have ci3:=(ay Fp).1 _ 3 tX |>.trans c3
  have ci4:=(ay Fp).1 _ 4 tX |>.trans c4
  have ci5:=(ay Fp).1 _ 5 tX |>.trans c5
  replace hs8:=((ay hbi).1 _ _ (by omega)).trans hs8
  have hzi:w.heap.size < wr.heap.size:=by have:=Fp.size;omega
  have hxi:wo.heap.size < wr.heap.size:=by have:=hbi.size;omega
  by_cases hqk:q < j+1
  ·obtain ⟨b6,o6,ck6,Fk6,e,hbF6,LU,hr6,aqC,hc6⟩:=Sl.get (α:=Placed) (c:=bW) dM (show q < x.au.length by omega)
   have afi:=hr6
   obtain ⟨Ho,Hq,Xm,JK,JL,aan,AL,AO,Oz,anO,anP,acM,Xn,afj,afk,acN,aao,OA,hon6,aqD⟩:=kE afi
   subst anO
   obtain ⟨rfl,rfl⟩:b6 = b'∧o6 = o':=by simpa using e.symm
   clear e
   have m0:w.cell? ⟨b6,o6+q * 9,none⟩ = some (.string x.au[q].aS.name):=by exact hc6 0 _ rfl
   have m1:w.cell? ⟨b6,o6+q * 9+1,none⟩ = some (.slice Ho x.au[q].aS.labels.length Hq):=by rw [Nat.add_assoc];exact hc6 1 _ rfl
   have m2:w.cell? ⟨b6,o6+q * 9+2,none⟩ = some (.int .i64 x.au[q].aS.cpu):=by rw [Nat.add_assoc];exact hc6 2 _ rfl
   have m3:w.cell? ⟨b6,o6+q * 9+3,none⟩ = some (.int .i64 x.au[q].aS.mem):=by rw [Nat.add_assoc];exact hc6 3 _ rfl
   have m4:w.cell? ⟨b6,o6+q * 9+4,none⟩ = some (.int .i64 x.au[q].aS.rank):=by rw [Nat.add_assoc];exact hc6 4 _ rfl
   have m5:w.cell? ⟨b6,o6+q * 9+5,none⟩ = some (.slice JK x.au[q].aS.needs.length JL):=by rw [Nat.add_assoc];exact hc6 5 _ rfl
   have m6:w.cell? ⟨b6,o6+q * 9+6,none⟩ = some (.slice AL x.au[q].aS.tolerances.length AO):=by rw [Nat.add_assoc];exact hc6 6 _ rfl
   have m7:w.cell? ⟨b6,o6+q * 9+7,none⟩ = some (.string x.au[q].on):=by rw [Nat.add_assoc];exact hc6 7 _ rfl
   have m8:w.cell? ⟨b6,o6+q * 9+8,none⟩ = some (.int .i64 x.au[q].seq):=by rw [Nat.add_assoc];exact hc6 8 _ rfl
   clear hc6 afi anP
   replace m8:=((ay hBi).1 _ _ LU).trans m8
   have hyi:b6 < wr.heap.size:=by have:=hBi.size;omega
   have hqi:(q:Int) < ((j+1:Nat):Int):=by omega
   have hql:q < x.au.length:=by omega
   cases hse:(x.au[q].seq == x.au[j+1].seq) with
   | true =>
     have hsn:seenIn (x.au.take (j+1)) x.au[j+1].seq = true:=by
      unfold seenIn
      rw [List.any_eq_true]
      exact ⟨x.au[q],by rw [List.mem_take_iff_getElem];exact ⟨q,by omega,rfl⟩,hse⟩
     have HF:=Lib.hid (DR hlt av2)
     go_wp2_with fail
     refine aF _ (by kernel_rfl) (by kernel_rfl) (aj _) ?_
     repeat (first
      | (apply aG
         case hw=>rfl
         simp only [Act.put,pz])
      | (apply aH
         case hw=>rfl
         case h =>
          exact Zaeu
         simp only [Act.put,pz]))
     refine aN ?_
     intro wz hz
     replace hz:=hz.out
     exact Zaez
   | false =>
     have HQ2:=Lib.hid (yQ (p:=fun u:Placed=>u.seq == x.au[j+1].seq) hql HQ.out hse)
     go_wp2_with fail
     refine aF _ (by kernel_rfl) (by kernel_rfl) (aj _) ?_
     repeat (first
      | (apply aG
         case hw=>rfl
         simp only [Act.put,pz])
      | (apply aH
         case hw=>rfl
         case h =>
          exact Zaeu
         simp only [Act.put,pz]))
     refine aN ?_
     intro wz hz
     replace hz:=hz.out
     go_wp2
     exact ⟨⟨q+1,by omega,by go_num,HQ2.out,atS⟩,by simp [intOf];omega⟩
  ·obtain rfl:q = j+1:=by omega
   have hsn:seenIn (x.au.take (j+1)) x.au[j+1].seq = false:=by
    unfold seenIn
    rw [List.any_eq_false]
    intro u hu
    have:=HQ.out u hu
    simp [this]
   have Gn:=Lib.hid (gq hfresh.out (show DN x.au (j+1) = true by rw [sG hlt,hsn];rfl))
   clear hsn
   go_wp2
   exact ⟨⟨j+1+1,by omega,by go_num,HN.out,Gn.out,ah hbl Fp⟩,by simp [intOf];omega⟩):P:=h
theorem Zaae {P:Prop} (h:P:=by
 have HS1:=Lib.hid hS1
 have HS2:=Lib.hid hS2
 have H1:=Lib.hid he1
 have H2:=Lib.hid he2
 clear hS1 hS2 he1 he2
 go_enter Tryz.func156,Tryz.ntmps156
 go_wp2_with fail
 refine (gQ x _ _ nm _ (aJ h atS) hlen).mono ?_
 rw [HI.out]
 rintro e w2 ⟨rfl,hb2⟩
 obtain ⟨hc2,hf2⟩:=ay hb2
 have hz2:w.heap.size < w2.heap.size:=(sq hb2.size)
 have hy2:w.heap.size+1 < w2.heap.size:=(sq hb2.size)
 have hB2:Below w.heap.size w w2:=atS
 go_wp2_with fail
 refine (jm x _ _ nm _ (aJ h atS) vk).mono ?_
 rw [HU.out]
 rintro e w3 ⟨rfl,hb3⟩
 obtain ⟨hc3,hf3⟩:=ay hb3
 have hz3:w.heap.size < w3.heap.size:=(sq hb3.size)
 have hy3:w.heap.size+1 < w3.heap.size:=(sq hb3.size)
 have hB3:Below w.heap.size w w3:=ah hB2 hb3
 replace q0:=((ay hB3).1 bh _ hbs).trans q0
 replace q1:=((ay hB3).1 bh _ hbs).trans q1
 replace q2:=((ay hB3).1 bh _ hbs).trans q2
 replace q3:=((ay hB3).1 bh _ hbs).trans q3
 replace q4:=((ay hB3).1 bh _ hbs).trans q4
 replace q5:=((ay hB3).1 bh _ hbs).trans q5
 have jd:bh < w3.heap.size:=by have:=hB3.size;omega
 go_wp2_with fail
 refine (oQ a p.cpu _ ha kQ).mono ?_
 rw [H1.out]
 rintro e w4 ⟨rfl,hb4⟩
 obtain ⟨hc4,hf4⟩:=ay hb4
 have Wy:w.heap.size < w4.heap.size:=(sq hb4.size)
 have hy4:w.heap.size+1 < w4.heap.size:=(sq hb4.size)
 go_wp2_with fail
 refine (oQ b p.mem _ hb lg).mono ?_
 rw [H2.out]
 rintro e w5 ⟨rfl,hb5⟩
 obtain ⟨hc5,hf5⟩:=ay hb5
 have Es:w.heap.size < w5.heap.size:=(sq hb5.size)
 have IV:w.heap.size+1 < w5.heap.size:=(sq hb5.size)
 have Dc:Below w3.heap.size w3 w5:=ah hb4 hb5
 replace q0:=((ay Dc).1 bh _ jd).trans q0
 replace q1:=((ay Dc).1 bh _ jd).trans q1
 replace q2:=((ay Dc).1 bh _ jd).trans q2
 replace q3:=((ay Dc).1 bh _ jd).trans q3
 replace q4:=((ay Dc).1 bh _ jd).trans q4
 replace q5:=((ay Dc).1 bh _ jd).trans q5
 have afO:bh < w5.heap.size:=by have:=Dc.size;omega
 go_wp2_with fail
 refine aF w5 (by kernel_rfl) (by kernel_rfl) (aj _) ?_
 repeat (first
  | (apply aG
     case hw=>rfl
     simp only [Act.put,pz])
  | (apply aH
     case hw=>rfl
     case h =>
      intro wq hq
      have hcq:=(aB hq).1
      have lJ:=(aB hq).2
      go_simp
      first
       | exact ⟨hq,rfl⟩
       | exact ⟨aQ hq _,rfl⟩
       | ((refine (IB _ _ _ aug aug).mono ?_;(first | rw [HS1.out] | rw [HS2.out]);rintro e wz ⟨rfl,nV⟩;exact ⟨rfl,aI hq nV⟩))
       | (simp only [↓IntWalk.iteOmega];exact ⟨hq,rfl⟩)
     simp only [Act.put,pz]))
 refine aN ?_
 intro wn hn
 replace hn:=hn.out
 go_wp2
 go_ret
 exact ⟨by rw [HF.out];first | rfl | (simp;exact HW2.out),ah hB3 (ah Dc hn)⟩):P:=h
theorem Zaaf {P:Prop} (h:P:=by
 try simp only [Bool.and_false,Bool.and_true,Bool.false_and,Bool.and_self] at hp
 have HF:=Lib.hid (dW hlt hp)
 clear hp
 go_wp2_with (go_at_call 48;refine (iQ x _ _ x.hosts[j+1].name _ (aJ h atS) Ji.out).mono ?_;rw [HU.out];rintro e w5 ⟨rfl,hb5⟩;obtain ⟨hc5,hf5⟩:=ay hb5;have Es:w.heap.size < w5.heap.size:=(sq hb5.size);have IV:b' < w5.heap.size:=(sq hb5.size);(try have hx5:wr.heap.size < w5.heap.size:=(sq hb5.size)))
 clear q0 q1 q2 q3 q4 q5
 refine aF _ (by kernel_rfl) (by kernel_rfl) (aj _) ?_
 repeat (first
  | (apply aG
     case hw=>rfl
     simp only [Act.put,pz])
  | (apply aH
     case hw=>rfl
     case h =>
      exact Zaet
     simp only [Act.put,pz]))
 exact Zaer):P:=h
theorem Zaag {P:Prop} (h:P:=by
 go_wp2_with fail
 clear q0 q1 q2 q3 q4 q5 q6 q7 q8
 refine aF _ (by kernel_rfl) (by kernel_rfl) (aj _) ?_
 repeat (first
  | (apply aG
     case hw=>rfl
     simp only [Act.put,pz])
  | (apply aH
     case hw=>rfl
     case h =>
      exact Zael
     simp only [Act.put,pz]))
 exact Zaer):P:=h
theorem Zaah {P:Prop} (h:P:=by
 have HF:=Lib.hid (dW hlt hp)
 clear hp
 go_wp2_with (go_at_call 48;refine (iQ x _ _ x.hosts[0].name _ (aJ h atS) Ji.out).mono ?_;rw [HU.out];rintro e w5 ⟨rfl,hb5⟩;obtain ⟨hc5,hf5⟩:=ay hb5;have Es:w.heap.size < w5.heap.size:=(sq hb5.size);have IV:b < w5.heap.size:=(sq hb5.size);(try have hx5:wr.heap.size < w5.heap.size:=(sq hb5.size)))
 clear q0 q1 q2 q3 q4 q5
 refine aF _ (by kernel_rfl) (by kernel_rfl) (aj _) ?_
 repeat (first
  | (apply aG
     case hw=>rfl
     simp only [Act.put,pz])
  | (apply aH
     case hw=>rfl
     case h =>
      exact Zaev
     simp only [Act.put,pz]))
 exact Zaes):P:=h
theorem Zaai {P:Prop} (h:P:=by
 exact Zaer):P:=h
theorem Zaaj {P:Prop} (h:P:=by
 exact Zafj):P:=h
theorem Zaak {P:Prop} (h:P:=by
 try simp only [Bool.and_false,Bool.and_true,Bool.false_and,Bool.and_self] at hp
 have HF:=Lib.hid (dW hlt hp)
 clear hp
 go_wp2_with fail
 refine aF _ (by kernel_rfl) (by kernel_rfl) (aj _) ?_
 repeat (first
  | (apply aG
     case hw=>rfl
     simp only [Act.put,pz])
  | (apply aH
     case hw=>rfl
     case h =>
      exact Zae0
     simp only [Act.put,pz]))
 refine aN ?_
 intro wn hn
 replace hn:=hn.out
 obtain ⟨hcn,hfn⟩:=ay hn
 have hzn:w.heap.size < wn.heap.size:=sq hn.size
 have hyn:b' < wn.heap.size:=sq hn.size
 try (have hxn:wr.heap.size < wn.heap.size:=sq hn.size)
 go_wp2_with (go_at_call 40;refine (jm x _ _ x.hosts[j+1].name _ (aJ h atS) Ji.out).mono ?_;rw [HU.out];rintro e w5 ⟨rfl,hb5⟩;obtain ⟨hc5,hf5⟩:=ay hb5;have Es:w.heap.size < w5.heap.size:=(sq hb5.size);have IV:b' < w5.heap.size:=(sq hb5.size);(try have hx5:wr.heap.size < w5.heap.size:=(sq hb5.size)))
 go_ret
 exact ⟨by rw [HF.out];rfl,atS⟩):P:=h
theorem Zaal {P:Prop} (h:P:=by
 have HF:=Lib.hid (dW hlt hp)
 clear hp
 go_wp2_with fail
 refine aF _ (by kernel_rfl) (by kernel_rfl) (aj _) ?_
 repeat (first
  | (apply aG
     case hw=>rfl
     simp only [Act.put,pz])
  | (apply aH
     case hw=>rfl
     case h =>
      exact Zae1
     simp only [Act.put,pz]))
 refine aN ?_
 intro wn hn
 replace hn:=hn.out
 obtain ⟨hcn,hfn⟩:=ay hn
 have hzn:w.heap.size < wn.heap.size:=sq hn.size
 have hyn:b < wn.heap.size:=sq hn.size
 try (have hxn:wr.heap.size < wn.heap.size:=sq hn.size)
 go_wp2_with (go_at_call 40;refine (jm x _ _ x.hosts[0].name _ (aJ h atS) Ji.out).mono ?_;rw [HU.out];rintro e w5 ⟨rfl,hb5⟩;obtain ⟨hc5,hf5⟩:=ay hb5;have Es:w.heap.size < w5.heap.size:=(sq hb5.size);have IV:b < w5.heap.size:=(sq hb5.size);(try have hx5:wr.heap.size < w5.heap.size:=(sq hb5.size)))
 go_ret
 exact ⟨by rw [HF.out];rfl,atS⟩):P:=h
theorem Zaam {P:Prop} (h:P:=by
 go_wp2_with fail
 clear q0 q1 q2 q3 q4 q5 q6 q7 q8
 refine aF _ (by kernel_rfl) (by kernel_rfl) (aj _) ?_
 repeat (first
  | (apply aG
     case hw=>rfl
     simp only [Act.put,pz])
  | (apply aH
     case hw=>rfl
     case h =>
      exact Zaem
     simp only [Act.put,pz]))
 exact Zaes):P:=h
theorem Zaan {P:Prop} (h:P:=by
 go_wp2_with fail
 refine (gK x _ _ nm _ (aJ h atS) hlen).mono ?_
 rw [HI.out]
 rintro e w2 ⟨rfl,hb2⟩
 obtain ⟨hc2,hf2⟩:=ay hb2
 have hz2:w.heap.size < w2.heap.size:=(sq hb2.size)
 have hy2:w.heap.size+1 < w2.heap.size:=(sq hb2.size)
 have hB2:Below w.heap.size w w2:=atS
 go_wp2_with fail
 refine (iQ x _ _ nm _ (aJ h atS) vk).mono ?_
 exact Zafn):P:=h
theorem Zaao {P:Prop} (h:P:=by
 go_wp2_with fail
 refine (gQ x _ _ nm _ (aJ h atS) hlen).mono ?_
 rw [HI.out]
 rintro e w2 ⟨rfl,hb2⟩
 obtain ⟨hc2,hf2⟩:=ay hb2
 have hz2:w.heap.size < w2.heap.size:=(sq hb2.size)
 have hy2:w.heap.size+1 < w2.heap.size:=(sq hb2.size)
 have hB2:Below w.heap.size w w2:=atS
 go_wp2_with fail
 refine (jm x _ _ nm _ (aJ h atS) vk).mono ?_
 exact Zafn):P:=h
theorem Zaap {P:Prop} (h:P:=by
 have HS:=Lib.hid hS
 clear hS
 have H1:=Lib.hid he1
 clear he1
 have H2:=Lib.hid he2
 clear he2
 go_wp2_with fail
 refine (aa1.out _ atS).mono ?_
 rw [HS.out]
 rintro e w4 ⟨rfl,hb4⟩
 obtain ⟨hc4,hf4⟩:=ay hb4;have Wy:w.heap.size < w4.heap.size:=(sq hb4.size);have hy4:w.heap.size+1 < w4.heap.size:=(sq hb4.size);have hx4:w3.heap.size < w4.heap.size:=(sq hb4.size)
 go_wp2_with fail
 refine (HUN.out _ atS).mono ?_
 rintro e w5 ⟨rfl,hb5⟩
 obtain ⟨hc5,hf5⟩:=ay hb5;have Es:w.heap.size < w5.heap.size:=(sq hb5.size);have IV:w.heap.size+1 < w5.heap.size:=(sq hb5.size);have hx5:w3.heap.size < w5.heap.size:=(sq hb5.size)
 go_wp2_with fail
 refine (oQ a p.cpu _ ha kQ).mono ?_
 rw [H1.out]
 rintro e w6 ⟨rfl,hb6⟩
 obtain ⟨hc6,Xe⟩:=ay hb6;have hz6:w.heap.size < w6.heap.size:=(sq hb6.size);have hy6:w.heap.size+1 < w6.heap.size:=(sq hb6.size);have hx6:w3.heap.size < w6.heap.size:=(sq hb6.size)
 go_wp2_with fail
 refine (oQ b p.mem _ hb lg).mono ?_
 exact Zae7):P:=h
theorem Zaaq {P:Prop} (h:P:=by
 exact Zael):P:=h
theorem Zaar {P:Prop} (h:P:=by
 exact Zaes):P:=h
theorem Zaas {P:Prop} (h:P:=by
 rw [HF.out]
 first
  | refine ⟨[.slice dG x.hosts.length bV,.slice dS x.au.length dJ,.int .i64 x.next,.int .i64 x.weights.pack,.int .i64 x.weights.spread,.int .i64 x.weights.soft],G1,rfl,?_,?_⟩
  | refine ⟨[.slice dG x.hosts.length bV,.slice dS x.au.length dJ,.int .i64 x.next,.int .i64 x.weights.pack,.int .i64 x.weights.spread,.int .i64 x.weights.soft],rfl,⟨G1,?_⟩,?_⟩
 ·exact Zafc
 ·have hB:=HB.out
  exact (by repeat (first | with_reducible exact hB | with_reducible refine aC ?_ atX _))):P:=h
theorem Zaat {P:Prop} (h:P:=by
 have HN:=Lib.hid (gq hall.out hp)
 clear hp
 go_wp2_with fail
 skip
 refine aF _ (by kernel_rfl) (by kernel_rfl) (aj _) ?_
 repeat (first
  | (apply aG
     case hw=>rfl
     simp only [Act.put,pz])
  | (apply aH
     case hw=>rfl
     case h =>
      exact Zaep
     simp only [Act.put,pz]))
 refine aN ?_
 intro wn hn
 replace hn:=hn.out
 obtain ⟨hcn,hfn⟩:=ay hn
 have hzn:w.heap.size < wn.heap.size:=sq hn.size
 have hyn:b < wn.heap.size:=sq hn.size
 try (have hxn:wr.heap.size < wn.heap.size:=sq hn.size)
 have hWn:Below wr.heap.size wr wn:=atS
 have hs8:wn.cell? ⟨wr.heap.size,8,none⟩ = some (.int .i64 x.au[0].seq):=by rw [hcn _ _ (by simp),cell_of_row _ _ _ _ _ _ (heap_alloc_new wr _)];rfl
 have anN:(0:Nat) < 12:=by omega
 obtain ⟨wo,hwo⟩:∃wo,wo = wr:=⟨_,rfl⟩
 subst hwo
 go_wp2_with fail
 go_loopw [5] (fun i2 wi=>∃q:Nat,q≤0∧i2 = .int .i64 q∧Hid (∀u∈x.au.take q,(u.seq == x.au[0].seq) = false)∧Below wn.heap.size wn wi) (fun i2 _=>0 - (intOf i2).toNat)
 case atStart=>exact ⟨0,Nat.zero_le _,rfl,by show ∀_,_;simp,aj _⟩
 case round =>
  obtain ⟨q,hq,rfl,HQ,hbi⟩:=hrel
  have Fp:Below wo.heap.size wo wr:=ah hWn hbi
  have hBi:Below w.heap.size w wr:=ah hBr Fp
  have ci0:=(ay Fp).1 _ 0 tX |>.trans c0
  have ci1:=(ay Fp).1 _ 1 tX |>.trans c1
  have ci2:=(ay Fp).1 _ 2 tX |>.trans c2
  have ci3:=(ay Fp).1 _ 3 tX |>.trans c3
  have ci4:=(ay Fp).1 _ 4 tX |>.trans c4
  have ci5:=(ay Fp).1 _ 5 tX |>.trans c5
  replace hs8:=((ay hbi).1 _ _ (by omega)).trans hs8
  have hzi:w.heap.size < wr.heap.size:=by have:=Fp.size;omega
  have hxi:wo.heap.size < wr.heap.size:=by have:=hbi.size;omega
  by_cases hqk:q < 0
  ·exact absurd hqk (by omega)
  ·obtain rfl:q = 0:=by omega
   have hsn:seenIn (x.au.take (0)) x.au[0].seq = false:=by
    unfold seenIn
    rw [List.any_eq_false]
    intro u hu
    have:=HQ.out u hu
    simp [this]
   have Gn:=Lib.hid (gq hfresh.out (show DN x.au (0) = true by rw [sG hlt,hsn];rfl))
   clear hsn
   go_wp2
   exact ⟨⟨0+1,by omega,by go_num,HN.out,Gn.out,ah hbl Fp⟩,by simp [intOf];omega⟩):P:=h
theorem Zaau {P:Prop} (h:P:=by
 exact Zaez):P:=h
theorem Zaav {P:Prop} (h:P:=by
 rw [HK.out]
 rintro e w2 ⟨rfl,hb2⟩
 obtain ⟨hc2,hf2⟩:=ay hb2
 have hz2:w.heap.size < w2.heap.size:=by have:=hb2.size;simp at this;omega
 have hq1:w2.cell? ⟨w.heap.size,1,none⟩ = some (.int .i64 x.op):=by rw [hc2 _ _ (by simp),cell_of_row _ _ _ _ _ _ (heap_alloc_new w _)];rfl
 have hq2:w2.cell? ⟨w.heap.size,2,none⟩ = some (.slice jy x.values.length ji):=by rw [hc2 _ _ (by simp),cell_of_row _ _ _ _ _ _ (heap_alloc_new w _)];rfl
 have hB2:Below w.heap.size w w2:=atS
 clear hc2 hf2
 go_wp2
 go_ret
 exact ⟨by rw [HF.out];first | rfl | simp_all,hB2⟩):P:=h
theorem Zaaw {P:Prop} (h:P:=by
 exact Zaem):P:=h
theorem Zaax {P:Prop} (h:P:=by
 exact Zaeo):P:=h
theorem Zaay {P:Prop} (h:P:=by
 have HS:=Lib.hid hS
 clear hS
 have H1:=Lib.hid hf1
 have H2:=Lib.hid hf2
 clear hf1 hf2
 go_wp2_with fail
 refine (aa1.out _ atS).mono ?_
 rw [HS.out]
 rintro e w4 ⟨rfl,hb4⟩
 obtain ⟨hc4,hf4⟩:=ay hb4;have Wy:w.heap.size < w4.heap.size:=(sq hb4.size);have hy4:w.heap.size+1 < w4.heap.size:=(sq hb4.size);have hx4:w3.heap.size < w4.heap.size:=(sq hb4.size)
 go_wp2_with fail
 refine (HUN.out _ atS).mono ?_
 rintro e w5 ⟨rfl,hb5⟩
 obtain ⟨hc5,hf5⟩:=ay hb5;have Es:w.heap.size < w5.heap.size:=(sq hb5.size);have IV:w.heap.size+1 < w5.heap.size:=(sq hb5.size);have hx5:w3.heap.size < w5.heap.size:=(sq hb5.size)
 go_wp2_with fail
 refine (LZ a p.cpu x.hosts[k].cpu _ ha kQ).mono ?_
 rw [H1.out]
 rintro e w6 ⟨rfl,hb6⟩
 obtain ⟨hc6,Xe⟩:=ay hb6;have hz6:w.heap.size < w6.heap.size:=(sq hb6.size);have hy6:w.heap.size+1 < w6.heap.size:=(sq hb6.size);have hx6:w3.heap.size < w6.heap.size:=(sq hb6.size)
 go_wp2_with fail
 refine (LZ b p.mem x.hosts[k].mem _ hb lg).mono ?_
 exact Zae7):P:=h
theorem Zaaz {P:Prop} (h:P:=by
 exact Zae0):P:=h
theorem Zaa0 {P:Prop} (h:P:=by
 exact Zaep):P:=h
theorem Zaa1 {P:Prop} (h:P:=by
 exact Zaeu):P:=h
theorem Zaa2 {P:Prop} (h:P:=by
 exact Zae1):P:=h
theorem Zaa3 {P:Prop} (h:P:=by
 refine aN ?_
 intro wn hn
 replace hn:=hn.out
 go_wp2
 ·rename_i hne
  go_ret
  refine ⟨?_,ah hbl hn⟩
  rw [nP (k+1) auA HL.out]
  rfl
 ·rename_i hne
  exact ⟨⟨k+1,by omega,by go_num,by show _ = _;rw [iC hlt hlt',Heq.out];simpa [eqStr,Am] using hne,ah hbl hn⟩,by simp [intOf];omega⟩):P:=h
theorem Zaa4 {P:Prop} (h:P:=by
 intro wq hq
 have hcq:=(aB hq).1
 have lJ:=(aB hq).2
 go_simp
 first
  | exact ⟨hq,rfl⟩
  | exact ⟨aQ hq _,rfl⟩
  | (refine (lW (kk) _ (by omega) (by omega)).mono ?_;rintro e w2 ⟨rfl,hb2⟩;exact ⟨rfl,aI hq hb2⟩)
  | (simp only [↓IntWalk.iteOmega];exact ⟨hq,rfl⟩)):P:=h
theorem Zaa5 {P:Prop} (h:P:=by
 exact Zafc):P:=h
theorem Zaa6 {P:Prop} (h:P:=by
 rw [HF.out]
 first
  | refine ⟨[.slice Pe x.hosts.length Pg,.slice Vo x.au.length Vp,.int .i64 x.next,.int .i64 x.weights.pack,.int .i64 x.weights.spread,.int .i64 x.weights.soft],G9,rfl,?_,?_⟩
  | refine ⟨[.slice Pe x.hosts.length Pg,.slice Vo x.au.length Vp,.int .i64 x.next,.int .i64 x.weights.pack,.int .i64 x.weights.spread,.int .i64 x.weights.soft],rfl,⟨G9,?_⟩,?_⟩
 ·try dsimp only
  refine Own.mono (B:=w.heap.size+1+1) ?_ (by omega)
  have hO:=HO9.out
  exact Zae9
 ·have hB:=QX.out
  exact Zae2):P:=h
theorem Zaa7 {P:Prop} (h:P:=by
 refine aN ?_
 intro wn hn
 replace hn:=hn.out
 obtain ⟨hcn,hfn⟩:=ay hn
 have hzn:w.heap.size < wn.heap.size:=sq hn.size
 have hyn:b' < wn.heap.size:=sq hn.size
 try (have hxn:wr.heap.size < wn.heap.size:=sq hn.size)
 have zq:=((hown.alloc (.cells #[.string x.au[j+1].aS.name,.slice fC x.au[j+1].aS.labels.length fD,.int .i64 x.au[j+1].aS.cpu,.int .i64 x.au[j+1].aS.mem,.int .i64 x.au[j+1].aS.rank,.slice gB x.au[j+1].aS.needs.length gG,.slice bT x.au[j+1].aS.tolerances.length bU,.string x.au[j+1].on,.int .i64 x.au[j+1].seq] 78)).kept (grown_of hn) (by simp))
 go_wp2_with (at_mapUpdate
              refine wpList_mapUpdate_own _ (by rfl) _ _ _ 93 (by rfl) 3 4 Oy Tryz.underlying93 _ wp.heap.size _ _ (by rfl) zq at6 _ _ _ (by rfl) (by rfl) (Maps.keyOf_int_mk Tryz.underlying3 (WalkArith.wf_i64 Ue)) _ [] (plainElem_bool Tryz.underlying4 true) ?_
              intro w5 hown5 JJ)
 exact ⟨⟨j+1+1,by omega,by go_num,HN.out,Gn.out,au2,(Below.grown (ah (ak U3 _) hn) JJ au3 (fun k hk=>by cases hk;exact Nat.le_refl _))⟩,by simp [intOf];omega⟩):P:=h
theorem Zaa8 {P:Prop} (h:P:=by
 rw [HF.out]
 first
  | refine ⟨[.slice dG x.hosts.length bV,.slice dS x.au.length dJ,.int .i64 x.next,.int .i64 x.weights.pack,.int .i64 x.weights.spread,.int .i64 x.weights.soft],G1,rfl,?_,?_⟩
  | refine ⟨[.slice dG x.hosts.length bV,.slice dS x.au.length dJ,.int .i64 x.next,.int .i64 x.weights.pack,.int .i64 x.weights.spread,.int .i64 x.weights.soft],rfl,⟨G1,?_⟩,?_⟩
 ·try dsimp only
  refine Own.mono (B:=w.heap.size+1+1) ?_ (by omega)
  have hO:=HO1.out
  exact Zae9
 ·have hB:=HB1.out
  exact Zae2):P:=h
theorem Zaa9 {P:Prop} (h:P:=by
 refine aN ?_
 intro wn hn
 replace hn:=hn.out
 obtain ⟨hcn,hfn⟩:=ay hn
 have hzn:w.heap.size < wn.heap.size:=sq hn.size
 have hyn:b < wn.heap.size:=sq hn.size
 try (have hxn:wr.heap.size < wn.heap.size:=sq hn.size)
 have zq:=((hown.alloc (.cells #[.string x.au[0].aS.name,.slice fC x.au[0].aS.labels.length fD,.int .i64 x.au[0].aS.cpu,.int .i64 x.au[0].aS.mem,.int .i64 x.au[0].aS.rank,.slice gB x.au[0].aS.needs.length gG,.slice bT x.au[0].aS.tolerances.length bU,.string x.au[0].on,.int .i64 x.au[0].seq] 78)).kept (grown_of hn) (by simp))
 go_wp2_with (at_mapUpdate
              refine wpList_mapUpdate_own _ (by rfl) _ _ _ 93 (by rfl) 3 4 Oy Tryz.underlying93 _ wp.heap.size _ _ (by rfl) zq at6 _ _ _ (by rfl) (by rfl) (Maps.keyOf_int_mk Tryz.underlying3 (WalkArith.wf_i64 Ue)) _ [] (plainElem_bool Tryz.underlying4 true) ?_
              intro w5 hown5 JJ)
 exact ⟨⟨0+1,by omega,by go_num,HN.out,Gn.out,au2,(Below.grown (ah (ak U3 _) hn) JJ au3 (fun k hk=>by cases hk;exact Nat.le_refl _))⟩,by simp [intOf];omega⟩):P:=h
theorem Zaba {P:Prop} (h:P:=by
 go_enter Tryz.func14,Tryz.ntmps14
 go_wp2_with fail
 rw [HW0.out]
 go_wp2_with (first
  | (go_at_call 35;refine (kH x.next 1 1000000000 _).mono ?_;rw [Jf.out];rintro e w1 ⟨rfl,hw1⟩;simp only [← hw1];clear hw1 w1)
  | (go_at_call 36;refine (pW x.weights.pack x.weights.spread x.weights.soft _).mono ?_;rw [Du.out];rintro e w2 ⟨rfl,hb2⟩;obtain ⟨hc2,hf2⟩:=ay hb2;have hz2:w.heap.size < w2.heap.size:=(sq hb2.size)))
 go_ret
 exact ⟨by rw [HF.out];rfl,atS⟩):P:=h
theorem Zabb {P:Prop} (h:P:=by
 go_enter Tryz.func20,Tryz.ntmps20
 go_wp2_with fail
 rw [HW0.out]
 go_wp2_with (first
  | (go_at_call 46;refine (jc x.next 1 1000000000 _).mono ?_;rw [Jf.out];rintro e w1 ⟨rfl,hw1⟩;simp only [← hw1];clear hw1 w1)
  | (go_at_call 47;refine (pU x.weights.pack x.weights.spread x.weights.soft _).mono ?_;rw [Du.out];rintro e w2 ⟨rfl,hb2⟩;obtain ⟨hc2,hf2⟩:=ay hb2;have hz2:w.heap.size < w2.heap.size:=(sq hb2.size)))
 go_ret
 exact ⟨by rw [HF.out];rfl,atS⟩):P:=h
theorem Zabc {P:Prop} (h:P:=by
 intro wq hq
 have hcq:=(aB hq).1
 have lJ:=(aB hq).2
 go_simp
 first
  | exact ⟨hq,rfl⟩
  | exact ⟨aQ hq _,rfl⟩
  | (first | (refine (NOK.out _ aut).mono ?_;rintro e w2 ⟨rfl,hb2⟩;exact ⟨rfl,aI hq hb2⟩) | (refine (CMP.out _ aut).mono ?_;rintro e w2 ⟨rfl,hb2⟩;exact ⟨rfl,aI hq hb2⟩))
  | (simp only [↓IntWalk.iteOmega];exact ⟨hq,rfl⟩)):P:=h
theorem Zabd {P:Prop} (h:P:=by
 intro wq hq
 have hcq:=(aB hq).1
 have lJ:=(aB hq).2
 go_simp
 first
  | exact ⟨hq,rfl⟩
  | (refine (Kq x p _ _ _ _ z _ (aJ HHX.out (ah HBR.out hq)) (aJ HHP.out (ah HBR.out hq)) HW.out Uc.out).mono ?_;rintro e wz ⟨rfl,hbz⟩;rw [HMZ.out];exact ⟨rfl,aI hq hbz⟩)
  | (simp only [↓IntWalk.iteOmega];exact ⟨hq,rfl⟩)):P:=h
theorem Zabe {P:Prop} (h:P:=by
 have HF:=Lib.hid (show oH nm x p = 3 by rw [HAT.out,if_neg (by simp [hS]),if_neg hu,if_pos hf1])
 have HS:=Lib.hid hS
 clear hS
 have H1:=Lib.hid he1
 clear he1
 go_wp2_with fail
 refine (aa1.out _ atS).mono ?_
 rw [HS.out]
 rintro e w4 ⟨rfl,hb4⟩
 obtain ⟨hc4,hf4⟩:=ay hb4;have Wy:w.heap.size < w4.heap.size:=(sq hb4.size);have hy4:w.heap.size+1 < w4.heap.size:=(sq hb4.size);have hx4:w3.heap.size < w4.heap.size:=(sq hb4.size)
 go_wp2_with fail
 refine (HUN.out _ atS).mono ?_
 rintro e w5 ⟨rfl,hb5⟩
 obtain ⟨hc5,hf5⟩:=ay hb5;have Es:w.heap.size < w5.heap.size:=(sq hb5.size);have IV:w.heap.size+1 < w5.heap.size:=(sq hb5.size);have hx5:w3.heap.size < w5.heap.size:=(sq hb5.size)
 go_wp2_with fail
 refine (oQ a p.cpu _ ha kQ).mono ?_
 rw [H1.out]
 rintro e w6 ⟨rfl,hb6⟩
 obtain ⟨hc6,Xe⟩:=ay hb6;have hz6:w.heap.size < w6.heap.size:=(sq hb6.size);have hy6:w.heap.size+1 < w6.heap.size:=(sq hb6.size);have hx6:w3.heap.size < w6.heap.size:=(sq hb6.size)
 go_wp2
 go_ret
 exact ⟨by rw [HF.out];first | rfl | simp,atS⟩):P:=h
theorem Zabf {P:Prop} (h:P:=by
 have hja:jj = a:=by simpa using HJ.out.symm
 subst hja
 have HN:=Lib.hid (show OM (kS cv) y SS = y :: s2 by
  have e1:SS = s2:=HE.out
  rw [e1]
  exact alh HW.out (y:=y) (s1:=[]) (s2:=s2) (by rw [List.nil_append,← e1];exact LJ.out) HY.out (.inl rfl))
 have HS:=Lib.hid hS2
 clear hS2
 go_wp2_with fail
 refine aF wr (by kernel_rfl) (by kernel_rfl) (aj _) ?_
 repeat (first
  | (apply aG
     case hw=>rfl
     simp only [Act.put,pz])
  | (apply aH
     case hw=>rfl
     case h =>
      intro wq hq
      have hcq:=(aB hq).1
      have lJ:=(aB hq).2
      go_simp
      first
       | exact ⟨hq,rfl⟩
       | (refine (HC.out y y _ (HU.out.trans (nN.lq _ hq))).mono ?_;rintro e w2 ⟨rfl,hb2⟩;exact ⟨rfl,aI hq hb2⟩)
       | (simp only [↓IntWalk.iteOmega];exact ⟨hq,rfl⟩)
     simp only [Act.put,pz]))
 refine aN ?_
 intro wn hn
 replace hn:=hn.out
 go_wp2
 refine ⟨⟨k+1,by omega,by omega,by go_num,?_⟩,by simp [intOf];omega⟩
 rw [Jf.out,HN.out,HRR.out]
 exact (HS.out).ext hn):P:=h
theorem Zabg {P:Prop} (h:P:=by
 have hkl:k = xs.length:=by omega
 have HK:=Lib.hid hkl
 clear hkl
 go_wp2
 go_ret
 have h1:=Heq.out
 rw [HK.out,List.take_length,HL.out,List.take_length] at h1
 exact ⟨by rw [h1];rfl,hbl⟩):P:=h
theorem Zabh {P:Prop} (h:P:=by
 go_wp2
 go_ret
 exact ⟨by rw [HF.out];first | rfl | simp,atS⟩):P:=h
theorem Zabi {P:Prop} (h:P:=by
 obtain ⟨k,hk,rfl,HN,hbl⟩:=hrel
 by_cases hlt:k < xs.length
 ·obtain ⟨b,o,ck,Fk,rfl,o9,hbs,hr,hsub,hc⟩:=(Sl.ext (w':=wr) (A:=A) (c:=c) h hbl).get hlt
  obtain ⟨hck,su,hkey,kP⟩:=vO hr
  subst hck
  have q0:wr.cell? ⟨b,o+k * 2,none⟩ = some (.string xs[k].key):=by exact hc 0 _ rfl
  have q1:wr.cell? ⟨b,o+k * 2+1,none⟩ = some (.string xs[k].value):=by rw [Nat.add_assoc];exact hc 1 _ rfl
  clear hc
  cases hp:JO key xs[k] with
  | true =>
    have HF:=Lib.hid (adM hlt HN.out hp)
    unfold JO at hp
    go_wp2
    go_returns
    exact ⟨by rw [HF.out];rfl,atS⟩
  | false =>
    have Gn:=Lib.hid (yQ hlt HN.out hp)
    unfold JO at hp
    go_wp2
    exact ⟨⟨k+1,by omega,by go_num,Gn.out,atS⟩,by simp [intOf];omega⟩
 ·have hkl:k = xs.length:=by omega
  subst hkl
  have hn:=HN.out
  rw [List.take_length] at hn
  have HF:=Lib.hid (agB hn)
  clear hn
  go_wp2
  go_returns
  exact ⟨by rw [HF.out];rfl,atS⟩):P:=h
theorem Zabj {P:Prop} (h:P:=by
 have hkl:k = x.hosts.length:=by omega
 subst hkl
 rw [List.take_length] at hown hcs
 have hBr:Below w.heap.size w wr:=ah hB0 hbl
 obtain ⟨Al,cl,Gl,rfl,hsl⟩:=Own.oJ hown ((aY.keep hcs (fun b hb=>by cases hb) hBr.size)) (fun _ _ hb=>by cases hb)
 have hol:=LY x p x.hosts
 clear hown hcs
 have hK:=(ay hbl).1
 replace c0:=(hK _ _ hz0).trans c0
 replace c1:=(hK _ _ hz0).trans c1
 replace c2:=(hK _ _ hz0).trans c2
 replace c3:=(hK _ _ hz0).trans c3
 replace c4:=(hK _ _ hz0).trans c4
 replace c5:=(hK _ _ hz0).trans c5
 replace d0:=(hK _ _ hz1).trans d0
 replace d1:=(hK _ _ hz1).trans d1
 replace d2:=(hK _ _ hz1).trans d2
 replace d3:=(hK _ _ hz1).trans d3
 replace d4:=(hK _ _ hz1).trans d4
 replace d5:=(hK _ _ hz1).trans d5
 replace d6:=(hK _ _ hz1).trans d6
 clear hK
 go_wp2
 go_ret
 exact ⟨Al,cl,Gl,rfl,hsl.mono (by omega),hBr⟩):P:=h
theorem Zabk {P:Prop} (h:P:=by
 have hl7:yR.length = 7:=Dat.len kG
 have h2:List.take 7 (yR++don) = yR:=by rw [List.take_append_of_le_length (by omega),List.take_of_length_le (by omega)]
 have h3:=congrArg (List.take 7) hdc
 rw [h2] at h3
 rw [← h3] at kG
 exact kG):P:=h
theorem Zabl {P:Prop} (h:P:=by
 have hkl:k = xs.length:=by omega
 subst hkl
 go_wp2
 go_ret
 rw [List.take_length] at hO
 exact ⟨_,_,_,rfl,Own.Ep hf hO (Nat.le_refl _) at6,hbl⟩):P:=h
theorem Zabm {P:Prop} (h:P:=by
 exact Zae9):P:=h
theorem Zabn {P:Prop} (h:P:=by
 refine ⟨⟨k+1,g8,p8,by omega,by go_num,rfl,?_,?_⟩,by simp [intOf];omega⟩
 ·rw [Jf.out,HI.out]
  have:=vP Le (B':=w1.heap.size) HBN.out.size
  simpa only [List.map_append,List.map_cons,List.map_nil,List.append_assoc,List.cons_append,List.nil_append] using this
 ·exact Below.grown (ah HBN.out hb7) hg8 awR (fun q hq=>by have:=(nK.lt q hq).1;have:=HBN.out.size;omega)):P:=h
theorem Zabo {P:Prop} (h:P:=by
 have fx:=EW.ob.fz 0
 have lx:=EW.ob.lt
 refine hK _ _ x0 ?_
 try simp only [Act.put,pz]
 clear hK K
 replace x0:=x0.1
 refine yG ?_
 go_wp2
 obtain ⟨Fb,Jl⟩:=aY.afm (v':=.slice A7 (k+1) c7) aek.out acP.out HNE.out ajv.out (by omega) (fun g hg=>by have:=Y6.out g hg;omega) (fun y hy=>by have:=HLF.out y hy;omega) DV Uf
 rw [← List.take_succ_eq_append_getElem hlt] at Fb
 have r13:=EJ (c:=w.heap.size+1+1) (i:=0) (u:=.slice A7 (k+1) c7) ug (fun g hg=>by have:=(ug.lt g hg).1;omega)
 refine ⟨⟨k+1,_,_,.slice A7 (k+1) c7,by omega,Lib.hid (fun h0=>by omega),by go_num,r13,Fb.setCell (p:=⟨w.heap.size+1+1,0,none⟩) aun _,Jl,EW.put 0 (.slice A7 (k+1) c7),by have:=DV.size;simp only [World.setCell,Array.size_modify] at *;omega⟩,by simp [intOf];omega⟩):P:=h
theorem Zabp {P:Prop} (h:P:=by
 obtain ⟨A',c',G,ds,e0,_,_,_,h0⟩:=h
 simp only [List.cons.injEq,Value.slice.injEq,and_true,true_and] at e0
 rcases h0 with h0 | ⟨b,o,hA,_⟩
 ·exact h0.1
 ·rw [← e0.1] at hA;cases hA):P:=h
theorem Zabq {P:Prop} (h:P:=by
 have hkl:i = xs.length:=by omega
 subst hkl
 go_wp2
 go_ret
 rw [Kt] at hO
 simp only [List.take_length]
 exact ⟨rfl,hO,hu⟩):P:=h
theorem Zabr {P:Prop} (h:P:=by
 rw [HK.out]
 rintro e w2 ⟨rfl,hb2⟩
 obtain ⟨hc2,hf2⟩:=ay hb2
 have hz2:w.heap.size < w2.heap.size:=by have:=hb2.size;simp at this;omega
 have hq1:w2.cell? ⟨w.heap.size,1,none⟩ = some (.int .i64 x.op):=by rw [hc2 _ _ (by simp),cell_of_row _ _ _ _ _ _ (heap_alloc_new w _)];rfl
 have hq2:w2.cell? ⟨w.heap.size,2,none⟩ = some (.slice jy x.values.length ji):=by rw [hc2 _ _ (by simp),cell_of_row _ _ _ _ _ _ (heap_alloc_new w _)];rfl
 have hB2:Below w.heap.size w w2:=atS
 clear hc2 hf2
 have h0i:((x.values.length:Int) == 0) = true:=by simp [H0.out]
 go_wp2
 go_ret
 exact ⟨by rw [HF.out];first | rfl | simp_all,hB2⟩):P:=h
theorem Zabs {P:Prop} (h:P:=by
 obtain ⟨Fb,Jl⟩:=aY.afm (v':=.slice A7 (k+1) c7) aek.out acP.out HNE.out ajv.out (by omega) (fun g hg=>by have:=Y6.out g hg;omega) (fun y hy=>by have:=HLF.out y hy;omega) DV Uf
 rw [← List.take_succ_eq_append_getElem hlt] at Fb
 have r13:=EJ (c:=w.heap.size+1+1) (i:=1) (u:=.slice A7 (k+1) c7) ug (fun g hg=>by have:=(ug.lt g hg).1;omega)
 refine ⟨⟨k+1,_,_,.slice A7 (k+1) c7,by omega,Lib.hid (fun h0=>by omega),by go_num,r13,Fb.setCell (p:=⟨w.heap.size+1+1,1,none⟩) aun _,Jl,alX.setCell (p:=⟨w.heap.size+1+1,1,none⟩) aun _,EW.put 1 (.slice A7 (k+1) c7),by have:=DV.size;simp only [World.setCell,Array.size_modify] at *;omega⟩,by simp [intOf];omega⟩):P:=h
theorem Zabt {P:Prop} (h:P:=by
 have hkl:i = xs.length:=by omega
 subst hkl
 go_wp2
 go_ret
 simp only [List.take_length]
 exact ⟨rfl,hbl⟩):P:=h
theorem Zabu {P:Prop} (h:P:=by
 refine aN ?_
 intro wn hn
 replace hn:=hn.out
 go_wp2
 refine ⟨⟨k+1,v,t+1,j0,by omega,hv,by go_num,rfl,Lib.hid auL,HJ,Lib.hid (HY2.out hcv),HN,HS.out.ext hn⟩,by simp [intOf];omega⟩):P:=h
theorem Zabv {P:Prop} (h:P:=by
 refine aN ?_
 intro wn hn
 replace hn:=hn.out
 go_wp2
 have BI:OM (kS cv) y SS = (s'++[x])++y :: s2:=by
  have e1:SS = (s'++[x])++s2:=by rw [HE.out];simp
  rw [e1]
  exact alh HW.out (by rw [← e1];exact LJ.out) HY.out (.inr ⟨s',x,rfl,hcv⟩)
 refine ⟨⟨k+1,by omega,by omega,by go_num,?_⟩,by simp [intOf];omega⟩
 rw [Jf.out,BI,HRR.out]
 have h2:=HS.out.ext hn
 simpa only [List.append_assoc,List.cons_append,List.nil_append] using h2):P:=h
theorem Zabw {P:Prop} (h:P:=by
 refine aN ?_
 intro wn hn
 replace hn:=hn.out
 go_wp2
 refine ⟨⟨u,k,i0,t,by omega,by omega,rfl,rfl,HI,HK,HY,Lib.hid (Gn.out hcv),HS.out.ext hn⟩,by simp [intOf];omega⟩):P:=h
theorem Zabx {P:Prop} (h:P:=by
 go_wp2
 all_goals
  go_ret
  exact ⟨by first | rfl | simp_all,atS⟩):P:=h
theorem Zaby {P:Prop} (h:P:=by
 have hlt:(0:Nat) < (y :: ys).length:=by simp
 obtain ⟨b,o,ck,Fk,hA,hbG,hbs,hrdk,_,hcells⟩:=Sl.get hO.rd hlt
 subst hA
 obtain ⟨hck,su,hsz⟩:=hrdk
 subst hck
 have hyc:w1.cell? ⟨b,o,none⟩ = some (.string y):=by have:=hcells 0 _ rfl;simpa using this
 have hne:(((y :: ys).length:Int) == 0) = false:=by simp;omega
 clear hcells hO hsz
 obtain ⟨n,hn⟩:∃n,(y :: ys).length = n:=⟨_,rfl⟩
 rw [hn] at hlt hne ⊢
 clear hn
 go_wp2
 go_ret2
 exact ⟨by rw [HL.out.1,HL.out.2];rfl,hBB⟩):P:=h
theorem Zabz {P:Prop} (h:P:=by
 intro wq hq
 have hcq:=(aB hq).1
 have lJ:=(aB hq).2
 go_simp
 first
  | exact ⟨hq,rfl⟩
  | exact ⟨aQ hq _,rfl⟩
  | (refine (N9 x p _ _ _ _ x.hosts[k].name _ (aJ h auT) (aJ h' auT) HW.out Uc.out).mono ?_;rw [HPR.out];rintro e w2 ⟨rfl,hb2⟩;exact ⟨rfl,aI hq hb2⟩)
  | (simp only [↓IntWalk.iteOmega];exact ⟨hq,rfl⟩)):P:=h
theorem Zab0 {P:Prop} (h:P:=by
 intro wq hq
 have hcq:=(aB hq).1
 have lJ:=(aB hq).2
 go_simp
 first
  | exact ⟨hq,rfl⟩
  | exact ⟨aQ hq _,rfl⟩
  | (refine (Oa x p _ _ _ _ x.hosts[k].name _ (aJ h auT) (aJ h' auT) HW.out Uc.out).mono ?_;rw [HPR.out];rintro e w2 ⟨rfl,hb2⟩;exact ⟨rfl,aI hq hb2⟩)
  | (simp only [↓IntWalk.iteOmega];exact ⟨hq,rfl⟩)):P:=h
theorem Zab1 {P:Prop} (h:P:=by
 intro wq hq
 have hcq:=(aB hq).1
 have lJ:=(aB hq).2
 go_simp
 first
  | exact ⟨hq,rfl⟩
  | exact ⟨aQ hq _,rfl⟩
  | (first | (refine (HUT.out _ (ah hB2 hq)).mono ?_;rintro e w3 ⟨rfl,hb3⟩;exact ⟨rfl,aI hq hb3⟩) | (refine (acy _ _ (by omega) (by omega)).mono ?_;rw [HM.out];rintro e w3 ⟨rfl,rfl⟩;exact ⟨rfl,hq⟩))
  | (simp only [↓IntWalk.iteOmega];exact ⟨hq,rfl⟩)):P:=h
theorem Zab2 {P:Prop} (h:P:=by
 have H2:=Lib.hid h2
 have HTK:=Lib.hid htk
 clear hS2 hS3 h2 htk hdr hpk g1 g2 hy
 go_wp2_with fail
 go_region
 go_wp2
 refine ⟨⟨s+1,k0+1,by omega,by go_num,Lib.hid auL,?_⟩,by simp [intOf];omega⟩
 have h3:=jJ.ext H2.out (aA (aj _))
 rw [HTK.out,show P++((R.take s++[y])++(x :: (R.drop (s+1)++Q))) = P++(R.take s++(y :: x :: (R.drop (s+1)++Q))) by simp only [List.append_assoc,List.cons_append,List.nil_append]]
 exact h3):P:=h
theorem Zab3 {P:Prop} (h:P:=by
 obtain ⟨hcn,hfn⟩:=ay hn
 first
  | have hzn:wr.heap.size < wn.heap.size:=(sq hn.size)
  | have hzn:wr.heap.size≤wn.heap.size:=(sq hn.size)
 have hbn:Below w0.heap.size w0 wn:=by first | exact ah hbl hn | exact ah (ak hbl _) hn
 first | have zq:=mG hown hn | have zq:=mG (hown.alloc _) hn
 go_wp2
 exact ⟨⟨k+1,_,by omega,by go_num,(by rw [abE hlt HP.out];exact zq),(by rw [abE hlt HP.out];exact hcs),hbn⟩,by simp [intOf];omega⟩):P:=h
theorem Zab4 {P:Prop} (h:P:=by
 go_wp2
 refine bodyPost_ret (results_none rfl _ _ _) rfl ?_
 refine ⟨rfl,?_⟩
 rw [HM.out]
 simpa only [List.append_assoc,List.cons_append] using hS2):P:=h
theorem Zab5 {P:Prop} (h:P:=by
 refine ⟨0,[],[],Nat.zero_le _,rfl,?_,⟨rfl,rfl⟩,?_,ak (ak (aj _) _) _⟩
 ·have:=World.ownsRow_made (base:=w.heap.size+1) (e:=76) (size:=7) (w.alloc (.cells #[.slice bG x.hosts.length bD,.slice dn x.au.length bW,.int .i64 x.next,.int .i64 x.weights.pack,.int .i64 x.weights.spread,.int .i64 x.weights.soft] 33)) #[] 0 (by simp) at6 rfl
  simpa [F7] using this
 ·exact Zafb):P:=h
theorem Zab6 {P:Prop} (h:P:=by
 intro j u hu
 rw [Addr.add]
 have hc:=cell_of_row (w.alloc (.cells cs.toArray e)) w.heap.size j cs.toArray e (0,0) (heap_alloc_new w _)
 split
 ·rename_i hj;subst hj;rw [hc];simpa using hu
 ·simp only [Nat.zero_add];rw [hc];simpa using hu):P:=h
theorem Zab7 {P:Prop} (h:P:=by
 have HF:=Lib.hid (agS hlt hb)
 clear hb
 rcases hr with hr | ⟨hr,hr2⟩ | ⟨hr,hr2⟩ | ⟨hr,hr2⟩ | ⟨hr,hr2⟩ | hr
 all_goals
  have hne:((s[k].toNat:Int) != 45) = true:=(by simp;omega)
  have hne2:((s[k].toNat:Int) == 45) = false:=(by simp;omega)
  go_wp2
  all_goals first
   | (go_ret;exact ⟨by rw [HF.out];rfl,atS⟩)
   | (exfalso;rename_i hx;simp at hx;omega)):P:=h
theorem Zab8 {P:Prop} (h:P:=by
 exact ⟨⟨k+1,by omega,by go_num,by omega,by congr 1;omega,ah hbl hb2⟩,by simp [intOf];omega⟩):P:=h
theorem Zab9 {P:Prop} (h:P:=by
 rintro e w2 ⟨rfl,hS2⟩
 rw [h2] at hS2
 have HX:=Lib.hid hx
 have HST:=Lib.hid hst
 clear h1 h2 hdr hst hl1 hl2 hl3 hx hS
 go_wp2
 refine ⟨⟨b0,b0+2 * s,A++sortB (kS cv) [] ((D.drop a0).take (2 * s)),rfl,by go_num,rfl,hlt,Lib.hid (by rw [List.length_append,HX.out,HA.out,HB.out]),Lib.hid awE,by simpa only [List.append_assoc] using hS2⟩,by simp [intOf];omega⟩):P:=h
theorem Zaca {P:Prop} (h:P:=by
 intro wq hq
 have hcq:=(aB hq).1
 have lJ:=(aB hq).2
 go_simp
 first
  | exact ⟨hq,rfl⟩
  | (refine (ajp y r _).mono ?_;rw [HL.out];rintro e wz ⟨rfl,hbz⟩;exact ⟨rfl,aI hq hbz⟩)
  | (simp only [↓IntWalk.iteOmega];exact ⟨hq,rfl⟩)):P:=h
theorem Zacb {P:Prop} (h:P:=by
 go_wp2
 go_ret
 exact ⟨none,0,[],[],rfl,World.ownsRow_nil w _ _ _,⟨rfl,rfl⟩,(fun b hb=>by cases hb),aj _⟩):P:=h
theorem Zacc {P:Prop} (h:P:=by
 refine aN ?_
 intro wn hn
 replace hn:=hn.out
 go_wp2
 refine ⟨⟨s1++[z],s2,jj+1,Lib.hid avz,by go_num,Lib.hid awS,Lib.hid (fun z' hz=>?_),ah hbr hn⟩,by simp [intOf];omega⟩
 rcases List.mem_append.1 hz with hz | hz
 ·exact HN.out z' hz
 ·rw [List.mem_singleton.1 hz];exact HL.out):P:=h
theorem Zacd {P:Prop} (h:P:=by
 have hP:=hO3.push (B':=wr.heap.size) (x:=xs[k]) hO2 hf.lt hO.lt
 rw [← List.take_succ_eq_append_getElem hlt] at hP
 (try simp only [List.append_assoc,List.cons_append,List.nil_append] at hF)
 exact ⟨⟨k+1,_,_,by omega,by go_num,hF,by show _ = _;(simp [hd.out]) <;> omega,hP,aC (aC (aC (ah hbl hb2) (Nat.le_refl _) _) (Nat.le_refl _) _) (Nat.le_refl _) _⟩,by simp [intOf];omega⟩):P:=h
theorem Zace {P:Prop} (h:P:=by
 intro wq hq
 have hcq:=(aB hq).1
 have lJ:=(aB hq).2
 go_simp
 first
  | exact ⟨hq,rfl⟩
  | exact ⟨aQ hq _,rfl⟩
  | (refine (lW (kk+1) _ (by omega) (by omega)).mono ?_;rintro e w2 ⟨rfl,hb2⟩;exact ⟨rfl,aI hq hb2⟩)
  | (simp only [↓IntWalk.iteOmega];exact ⟨hq,rfl⟩)):P:=h
theorem Zacf {P:Prop} (h:P:=by
 refine Or.inl ⟨rfl,fun wq hq=>?_⟩
 have hcq:=(aB hq).1
 go_simp
 try rfl):P:=h
theorem Zacg {P:Prop} (h:P:=by
 intro wq hq
 have hcq:=(aB hq).1
 have lJ:=(aB hq).2
 go_simp
 first
  | exact ⟨hq,rfl⟩
  | exact ⟨aQ hq _,rfl⟩
  | (refine (HUT.out _ (ah hB2 hq)).mono ?_;rintro e w3 ⟨rfl,hb3⟩;exact ⟨rfl,aI hq hb3⟩)
  | (simp only [↓IntWalk.iteOmega];exact ⟨hq,rfl⟩)):P:=h
theorem Zach {P:Prop} (h:P:=by
 go_wp2
 exact ⟨⟨k+1,by omega,by go_num,Gn.out,atS⟩,by simp [intOf];omega⟩):P:=h
theorem Zaci {P:Prop} (h:P:=by
 intro wq hq
 have hcq:=(aB hq).1
 have lJ:=(aB hq).2
 go_simp
 first
  | exact ⟨hq,rfl⟩
  | exact ⟨aQ hq _,rfl⟩
  | (refine (KBH.out _ (ah hB hq.out)).mono ?_;rintro e w8 ⟨rfl,hb8⟩;exact ⟨rfl,aI hq hb8⟩)
  | (simp only [↓IntWalk.iteOmega];exact ⟨hq,rfl⟩)):P:=h
theorem Zacj {P:Prop} (h:P:=by
 rintro e w2 ⟨rfl,hS2⟩
 have HX:=Lib.hid hx
 have HST:=Lib.hid hst
 clear hx hdr hst
 go_wp2
 refine ⟨⟨b0,b0+20,A++sortB (kS cv) [] ((D.drop a0).take 20),rfl,by go_num,rfl,hlt,Lib.hid (by rw [List.length_append,rD,HX.out,HA.out,HB.out];simp),Lib.hid awE,by simpa only [List.append_assoc] using hS2⟩,by simp [intOf];have:=HB.out;omega⟩):P:=h
theorem Zack {P:Prop} (h:P:=by
 refine ⟨Ah,ch,Ap,cp,Gh,Gp,_,rfl,Own.rd (B:=w.heap.size+1+1+1) ?_,Own.rd (B:=w.heap.size+1+1+1) ?_⟩
 ·exact (by repeat (first | with_reducible exact HRH.out | with_reducible refine Own.setCell ?_ atX _))
 ·exact (by repeat (first | with_reducible exact HRP.out.mono hB34 | with_reducible refine Own.setCell ?_ atX _))):P:=h
theorem Zacl {P:Prop} (h:P:=by
 have H2:=Lib.hid h2
 have HDR:=Lib.hid hdr
 clear hS2 hS3 h2 htk hdr hpk g1 g2 hx
 go_wp2_with fail
 go_region
 go_wp2
 refine ⟨⟨s,k0,by omega,by omega,by go_num,Lib.hid auL,?_⟩,by simp [intOf]⟩
 have h3:=jJ.ext H2.out (aA (aj _))
 rw [HDR.out]
 exact h3):P:=h
theorem Zacm {P:Prop} (h:P:=by
 go_wp2
 have e1:=zo (lt:=(kS cv)) (s:=s) (xs:=D.drop a0) auV
 have e2:=zo (lt:=(kS cv)) (s:=2 * s) (xs:=D.drop a0) auV
 rw [e1,← e2,← HR.out] at hS
 refine ⟨⟨2 * s,by omega,by omega,by first | go_num | (congr 1;omega),hS⟩,by simp [intOf];omega⟩):P:=h
theorem Zacn {P:Prop} (h:P:=by
 intro wq hq
 have hcq:=(aB hq).1
 have lJ:=(aB hq).2
 go_simp
 first
  | exact ⟨hq,rfl⟩
  | fail
  | (simp only [↓IntWalk.iteOmega];exact ⟨hq,rfl⟩)):P:=h
theorem Zaco {P:Prop} (h:P:=by
 refine ⟨0,Nat.zero_le _,rfl,?_,?_,?_,ak (ak (aj _) _) _⟩
 ·exact (World.ownsRow_made w #[] 0 (Nat.le_refl _) at6 rfl).alloc _
 ·have:=World.ownsRow_made (base:=w.heap.size) (e:=3) (size:=1) (w.alloc (.cells #[] 3)) #[] 0 (by simp) at6 rfl
  simpa [iv] using this
 ·right;simp [Value.ownBlock]):P:=h
theorem Zacp {P:Prop} (h:P:=by
 rcases List.mem_append.1 hz with hz | hz
 ·exact HIS.out z (by rw [HE.out];exact List.mem_append_left _ hz)
 ·rcases List.mem_cons.1 hz with rfl | hz
  ·exact hlt
  ·exact HIS.out z (by rw [HE.out];exact List.mem_append_right _ hz)):P:=h
theorem Zacq {P:Prop} (h:P:=by
 rintro e w2 ⟨rfl,hS2⟩
 clear hpa hle
 go_wp2
 refine ⟨⟨A++V,U2,U1,B,by first | rfl | (congr 1;omega),by rw [hU1],by omega,by omega,Lib.hid awD,Lib.hid (by have:=HPA.out;simp only [List.length_append] at *;omega),by simpa [List.append_assoc] using hS2⟩,by simp only [intOf];omega⟩):P:=h
theorem Zacr {P:Prop} (h:P:=by
 have e:GX a b = none:=by unfold GX;rw [if_pos (by omega)]
 rw [e]
 go_enter Tryz.func161,Tryz.ntmps161
 go_wp2
 go_returns
 exact ⟨rfl,aj _⟩):P:=h
theorem Zacs {P:Prop} (h:P:=by
 have e:GX a b = none:=by unfold GX;rw [if_pos (by omega)]
 rw [e]
 go_enter Tryz.func154,Tryz.ntmps154
 go_wp2
 go_returns
 exact ⟨rfl,aj _⟩):P:=h
theorem Zact {P:Prop} (h:P:=by
 split
 ·rename_i hw
  rw [if_pos hw] at h
  exact .inl (Oper.wp_mono next h)
 ·rename_i hw
  rw [if_neg hw] at h
  exact next _ _ h):P:=h
theorem Zacu {P:Prop} (h:P:=by
 rw [Bool.eq_iff_iff,decide_eq_true_eq,Wx,ByteArray.toList_eq,ByteArray.toList_eq]):P:=h
theorem Zacv {P:Prop} (h:P:=by
 have hb2:Below w0.heap.size w0 w2:=lS (B:=w0.heap.size) zq hg2 hbn (by have:=hbn.size;omega)
 exact ⟨⟨k+1,_,by omega,by go_num,(by rw [YM hlt HP.out,List.length_append];exact hown2),(by rw [YM hlt HP.out];exact hcs.strw (rV zM)),hb2⟩,by simp [intOf];omega⟩):P:=h
theorem Zacw {P:Prop} (h:P:=by
 subst hX
 have hab:a = bb:=by simpa using hm.out
 subst hab
 go_loopw [8] (fun i wr=>i = .int .i64 ((a+1:Nat):Int)∧wr = w) (fun _ _=>0)
 case atStart=>exact ⟨by go_num,rfl⟩
 case round =>
  obtain ⟨rfl,rfl⟩:=hrel
  go_wp2
  go_end0
  exact ⟨rfl,h⟩):P:=h
theorem Zacx {P:Prop} (h:P:=by
 refine ⟨⟨s',x :: s2,jk,Lib.hid avz,rfl,Lib.hid (by rw [← HP.out,ha.out]),Lib.hid ?_,jJ.ext h2 (aA (aj _))⟩,by simp [intOf]⟩
 intro z hz
 rcases List.mem_cons.1 hz with rfl | hz
 ·exact HCV.out
 ·exact HY.out z hz):P:=h
theorem Zacy {P:Prop} (h:P:=by
 go_wp2
 all_goals
  go_ret
  refine ⟨?_,rfl⟩
  refine congrArg (fun b=>Ending.returned (Value.bool b)) ?_
  show (_:Bool) = _
  unfold GL
  rw [Bool.eq_iff_iff]
  simp only [Bool.or_eq_true,Bool.and_eq_true,decide_eq_true_eq,Bool.false_eq_true,true_iff,false_iff]
  omega):P:=h
theorem Zacz {P:Prop} (h:P:=by
 rintro e w2 ⟨rfl,hS2⟩
 clear hpa hle
 go_wp2
 refine ⟨⟨A,V2,V1,U++B,by rw [hV2],by first | rfl | (congr 1;omega),by omega,by omega,Lib.hid awD,Lib.hid (by have:=HPA.out;omega),by simpa [List.append_assoc] using hS2⟩,by simp only [intOf];omega⟩):P:=h
theorem Zac0 {P:Prop} (h:P:=by
 rw [J5,← ByteArray.toList_eq,← ByteArray.toList_eq] at e
 simp [e] at h):P:=h
theorem Zac1 {P:Prop} (h:P:=by
 rintro e w2 ⟨rfl,hw2⟩
 subst hw2
 go_wp2_with fail
 go_loopw [6] (fun z wz=>z = .int .i64 20∧wz = w2) (fun _ _=>0)
 case atStart=>exact ⟨rfl,rfl⟩
 case round =>
  obtain ⟨rfl,hw⟩:=hrel
  subst hw
  go_wp2
  go_end0
  exact ⟨rfl,rfl⟩):P:=h
theorem Zac2 {P:Prop} (h:P:=by
 rintro e w2 ⟨rfl,hS2⟩
 rw [h2,List.append_nil,← HR.out] at hS2
 clear h1 h2 hl1 hl2 hS
 go_wp2
 refine ⟨⟨2 * s,by omega,by omega,by first | go_num | (congr 1;omega),hS2⟩,by simp [intOf];omega⟩):P:=h
theorem Zac3 {P:Prop} (h:P:=by
 have hj:=(List.getElem?_eq_some_iff.1 hu).1
 rw [← ht,List.getElem?_take] at hu
 split at hu
 ·simpa using hu
 ·cases hu):P:=h
theorem Zac4 {P:Prop} (h:P:=by
 rintro e w2 ⟨rfl,hS2⟩
 clear hpa hle heq
 go_wp2
 go_end0
 refine ⟨rfl,?_⟩
 have e9:p++(v++(u++q)) = (p++A)++(V++([]++(U++(B++q)))):=by rw [← List.append_assoc v u q,hE.out];simp [List.append_assoc]
 rw [e9]
 exact hS2):P:=h
theorem Zac5 {P:Prop} (h:P:=by
 go_wp2
 go_ret
 exact ⟨by rw [HL.out];rfl,aj _⟩):P:=h
theorem Zac6 {P:Prop} (h:P:=by
 rw [ahV.out]
 have:=vP Le (B':=w.heap.size+1) (by have:=HBO.out.size;have:=HBW.out.size;omega)
 simpa only [List.map_append,List.map_cons,List.map_nil,List.append_assoc,List.cons_append,List.nil_append] using this):P:=h
theorem Zac7 {P:Prop} (h:P:=by
 have h1:=H.out.lt b (hsub b hb)
 simp [Value.ownBlock] at e
 omega):P:=h
theorem Zac8 {P:Prop} (h:P:=by
 go_wp2
 go_ret
 exact ⟨by rw [HF.out];first | rfl | simp_all,hbl⟩):P:=h
theorem Zac9 {P:Prop} (h:P:=by
 have h5:=HWL.out
 exact ⟨mQ (by omega),hbl⟩):P:=h
theorem Zada {P:Prop} (h:P:=by
 have hkl:k = n:=by omega
 subst hkl
 rw [← hu.out,List.take_of_length_le awC,List.drop_length,List.take_length,List.drop_of_length_le awC,List.nil_append,List.nil_append] at hS
 go_wp2
 go_end0
 exact ⟨rfl,hS⟩):P:=h
theorem Zadb {P:Prop} (h:P:=by
 go_wp2
 go_ret
 exact ⟨mQ HF.out.symm,aj _⟩):P:=h
theorem Zadc {P:Prop} (h:P:=by
 have h1:=hall e he hb
 have h0:=(mem_ready.1 hr).1
 rw [heq] at h1
 rcases Nat.lt_or_ge i listed.size with h' | h'
 ·simp [h'] at h0 h1;rw [h0] at h1;cases h1
 ·simp [Array.getElem?_eq_none h'] at h1):P:=h
theorem Zadd {P:Prop} (h:P:=by
 have hkl:k = xs.length:=by omega
 subst hkl
 have hf:GZ xs 0 = some s:=by rw [HS.out,List.drop_length];rfl
 have HF:=Lib.hid hf
 clear hf
 go_wp2
 go_returns
 exact ⟨by rw [HF.out];rfl,hbl⟩):P:=h
theorem Zade {P:Prop} (h:P:=by
 by_cases hgt:mid < m
 ·exact ⟨d - R.length,Lib.hid ⟨fun _=>by have:=HD.out;have:=hm.out;have:=hb.out;omega,fun h=>absurd hgt h⟩⟩
 ·exact ⟨0,Lib.hid ⟨fun h=>absurd h hgt,fun _=>rfl⟩⟩):P:=h
theorem Zadf {P:Prop} (h:P:=by
 go_wp2
 go_ret
 exact ⟨by rw [hs.out];rfl,aj _⟩):P:=h
theorem Zadg {P:Prop} (h:P:=by
 rw [Jf.out,← HMAP.out,HE.out,List.map_append,List.map_append,List.map_cons,HKK.out]
 exact (PY _ _ (fun z hz=>by obtain ⟨z0,hz0,rfl⟩:=List.mem_map.1 hz;exact HN.out z0 hz0) asT.out).symm):P:=h
theorem Zadh {P:Prop} (h:P:=by
 unfold Lib.compareInt
 rw [Bool.eq_iff_iff,decide_eq_true_eq,decide_eq_true_eq]
 repeat' split
 all_goals omega):P:=h
theorem Zadi {P:Prop} (h:P:=by
 have hkl:k = xs.length:=by omega
 subst hkl
 have hn:=Hn.out
 rw [List.take_length] at hn
 have HI:=Lib.hid (F5 hn)
 clear hn
 go_wp2
 go_ret
 exact ⟨by rw [HI.out];rfl,hbl⟩):P:=h
theorem Zadj {P:Prop} (h:P:=by
 have e:P++((L.take s++[x])++(y :: (L.drop (s+1)++Q))) = P++(L.take s++(x :: y :: (L.drop (s+1)++Q))):=by simp only [List.append_assoc,List.cons_append,List.nil_append]
 rw [← e];exact hS2):P:=h
theorem Zadk {P:Prop} (h:P:=by
 go_wp2_with fail
 go_loopw [8] (fun i wr=>i = .int .i64 1∧wr = w) (fun _ _=>0)
 case atStart=>exact ⟨by simp,rfl⟩
 case round =>
  obtain ⟨rfl,rfl⟩:=hrel
  go_wp2
  go_end0
  exact ⟨rfl,rfl⟩):P:=h
theorem Zadl {P:Prop} (h:P:=by
 refine ⟨0,[],Nat.zero_le _,rfl,?_,aY.nil _ _,ak (aj _) _⟩
 rw [← HS0.out]
 have:=World.ownsRow_made (base:=w0.heap.size) (e:=9) (size:=1) w0 #[] 0 (by simp) at6 rfl
 simpa [Ar] using this):P:=h
theorem Zadm {P:Prop} (h:P:=by
 simp only [Bool.not_eq_true] at hp
 simp only [hp,Bool.false_or,if_neg (show ¬false = true by simp)]
 rw [Bool.eq_iff_iff,decide_eq_true_eq,decide_eq_true_eq]
 split <;> omega):P:=h
theorem Zadn {P:Prop} (h:P:=by
 exact (by repeat (first | with_reducible exact hO0 | with_reducible refine Own.setCell ?_ auD _ | with_reducible refine Own.ext ?_ (by assumption) | with_reducible refine Own.alloc ?_ _))):P:=h
theorem Zado {P:Prop} (h:P:=by
 go_wp2
 go_ret
 exact ⟨by rw [HN.out];rfl,rfl⟩):P:=h
theorem Zadp {P:Prop} (h:P:=by
 refine ⟨1,by omega,hX1,by go_num,?_⟩
 have e:sortB (kS cv) [] (X.take 1)++(X.drop 1++Q) = X++Q:=by
  cases X with
  | nil=>simp at hX1
  | cons x X=>rfl
 rw [e];exact h):P:=h
theorem Zadq {P:Prop} (h:P:=by
 have:=MO.out;have:=HLQ.out;simp only [List.length_append] at *;omega):P:=h
theorem Zadr {P:Prop} (h:P:=by
 exact ⟨mQ (Dn (by omega)).symm,ah hbl hb2⟩):P:=h
theorem Zads {P:Prop} (h:P:=by
 subst hN
 exact Sl.Va W [a,b] t (by intro x hx;simp only [List.mem_cons,List.not_mem_nil,or_false] at hx;rcases hx with rfl | rfl <;> assumption) (by unfold maxLen;simp)):P:=h
theorem Zadt {P:Prop} (h:P:=by
 have e1:=ha.out;have e2:=HM.out;have e3:=HB.out
 exact ⟨[],u,v,[],by simp;omega,by simp;omega,hu0,hv0,Lib.hid (by simp),Lib.hid (by simp;omega),by simpa using h⟩):P:=h
theorem Zadu {P:Prop} (h:P:=by
 have hkl:k = X.length:=by omega
 subst hkl
 rw [hm.out,List.take_length,List.drop_length,List.nil_append] at *
 go_wp2
 go_end0
 exact ⟨rfl,hS⟩):P:=h
theorem Zadv {P:Prop} (h:P:=by
 by_cases hgt:mid < m
 ·exact ⟨d,Lib.hid ⟨fun _=>rfl,fun h=>absurd hgt h⟩⟩
 ·exact ⟨L.length,Lib.hid ⟨fun h=>absurd h hgt,fun _=>rfl⟩⟩):P:=h
theorem Zadw {P:Prop} (h:P:=by
 rcases Nat.lt_or_ge j k with h9 | h9
 ·exact HB0.out j hj h9
 ·have:j = k:=by omega
  subst this
  unfold okN;rw [HR.out];simp [HZ.out]):P:=h
theorem Zadx {P:Prop} (h:P:=by
 have h2:=eq_of_beq h.2
 cases a;cases b
 simp only at h0 h1 h2
 subst h0 h1 h2
 rfl):P:=h
theorem Zady {P:Prop} (h:P:=by
 have hn:=Hn.out
 rw [hkl,List.take_length] at hn
 have HI:=Lib.hid (F5 hn)
 clear hn hkl
 go_wp2
 go_ret
 exact ⟨by rw [HI.out];rfl,atS⟩):P:=h
theorem Zadz {P:Prop} (h:P:=by
 go_wp2
 go_ret
 exact ⟨by rw [HG.out];first | rfl | simp_all,hbl⟩):P:=h
theorem Zad0 {P:Prop} (h:P:=by
 go_enter Tryz.func146,Tryz.ntmps146
 go_wp2
 go_ret
 exact ⟨rfl,rfl⟩):P:=h
theorem Zad1 {P:Prop} (h:P:=by
 refine aN ?_
 intro wn hn
 replace hn:=hn.out
 go_wp2
 go_ret
 exact ⟨by rw [HF.out,HM.out] <;> first | rfl | (simp;omega),ah hB2 hn⟩):P:=h
theorem Zad2 {P:Prop} (h:P:=by
 have h1:=rM (f:=Host.wt) hk
 have h2:Host.wt x.hosts[k] = x.hosts[k].name.size+kL Label.wt x.hosts[k].labels+kL iU.wt x.hosts[k].aT:=rfl
 omega):P:=h
theorem Zad3 {P:Prop} (h:P:=by
 rw [List.getElem?_append_right auu,show t - P.length = k+1 by have:=ha.out;omega,List.getElem?_cons_succ,List.getElem?_append_left hkR,hR1,hy]):P:=h
theorem Zad4 {P:Prop} (h:P:=by
 refine ⟨⟨k+1,by omega,by go_num,by rw [ae7 _ _ _ hlt];exact hu3,by rw [ae7 _ _ _ hlt];exact hv3,hap3.symm,hb3⟩,by simp [intOf];omega⟩):P:=h
theorem Zad5 {P:Prop} (h:P:=by
 rw [List.getElem?_append_right auu,List.getElem?_append_right avG,show m - P.length - L.length = 0 by have:=ha.out;have:=hm.out;omega];rfl):P:=h
theorem Zad6 {P:Prop} (h:P:=by
 rintro e w2 ⟨rfl,hw⟩
 rw [hw]
 clear hw w2
 go_wp2
 go_ret
 exact ⟨by rw [HF.out];rfl,aj _⟩):P:=h
theorem Zad7 {P:Prop} (h:P:=by
 go_wp2
 go_end0
 refine ⟨rfl,?_⟩
 rw [← zo (lt:=(kS cv)) (s:=s) (by have:=HN.out;omega)]
 exact hS4):P:=h
theorem Zad8 {P:Prop} (h:P:=by
 rw [xK] at h
 rcases MK h with h | h
 ·exact .inl h
 ·rw [List.mem_singleton.1 h];exact .inr (List.mem_cons_self ..)):P:=h
theorem Zad9 {P:Prop} (h:P:=by
 rw [h,if_neg (by omega),hs,Int.toNat_natCast,List.getElem?_eq_getElem hk]):P:=h
theorem Zaea {P:Prop} (h:P:=by
 rw [HS1.out]
 rintro e wn ⟨rfl,hn⟩
 go_wp2
 go_ret
 exact ⟨by rw [HF.out];first | rfl | simp,ah hB3 hn⟩):P:=h
theorem Zaeb {P:Prop} (h:P:=by
 clear hp
 have HI:=Lib.hid (Fj hlt Hn.out HP.out)
 go_wp2
 go_ret
 exact ⟨by rw [HI.out];rfl,atS⟩):P:=h
theorem Zaec {P:Prop} (h:P:=by
 have HU:=Lib.hid hS.upd
 have hbl:b < wr.heap.size:=hS.plain.lt
 have HS:=Lib.hid hS
 have HK:=Lib.hid hk
 have htI:((i0:Int)+j0) / 2 = t:=by omega
 have hwq:IntKind.i64.wrap ((mid:Int)+m - 1 - t) = (q:Int):=by rw [IntWalk.i64_in _ (by omega)];omega
 have HXY:=Lib.hid (And.intro hL1 hR1)
 clear hS hL1 hR1 MV hgx ht hk hx hy hq hqq
 cases hcv:decide (cv y x < 0) with
 | false =>
   go_wp2_with fail
   refine aF wr (by kernel_rfl) (by kernel_rfl) (aj _) ?_
   repeat (first
    | (apply aG
       case hw=>rfl
       simp only [Act.put,pz])
    | (apply aH
       case hw=>rfl
       case h =>
        exact Zafj
       simp only [Act.put,pz]))
   refine aN ?_
   intro wn hn
   replace hn:=hn.out
   go_wp2
   refine ⟨⟨k+1,v,t+1,j0,by omega,by omega,hv,by go_num,rfl,Lib.hid auL,HJ,Lib.hid (.inr ⟨x,y,by rw [Nat.add_sub_cancel];exact HXY.out.1,by rw [show d - (k+1) = d - 1 - k by omega];exact HXY.out.2,hcv⟩),HP2,HS.out.ext hn⟩,by simp [intOf];omega⟩
 | true =>
   go_wp2_with fail
   refine aF wr (by kernel_rfl) (by kernel_rfl) (aj _) ?_
   repeat (first
    | (apply aG
       case hw=>rfl
       simp only [Act.put,pz])
    | (apply aH
       case hw=>rfl
       case h =>
        exact Zafj
       simp only [Act.put,pz]))
   refine aN ?_
   intro wn hn
   replace hn:=hn.out
   go_wp2
   refine ⟨⟨u,k,i0,t,hlu,by omega,by omega,rfl,rfl,HI,HK,HP1,Lib.hid (.inr ⟨x,y,HXY.out.1,HXY.out.2,hcv⟩),HS.out.ext hn⟩,by simp [intOf];omega⟩):P:=h
theorem Zaed {P:Prop} (h:P:=by
 go_wp2_with fail
 skip
 refine aF _ (by kernel_rfl) (by kernel_rfl) (aj _) ?_
 repeat (first
  | (apply aG
     case hw=>rfl
     simp only [Act.put,pz])
  | (apply aH
     case hw=>rfl
     case h =>
      exact Zaax
     simp only [Act.put,pz]))
 exact Zaai):P:=h
theorem Zaee {P:Prop} (h:P:=by
 try simp only [Bool.and_false,Bool.and_true,Bool.false_and,Bool.and_self] at hp
 have HN:=Lib.hid (gq hall.out hp)
 have Gn:=Lib.hid (gq hfresh.out hfr)
 clear hp
 go_wp2_with fail
 clear q0 q1 q2 q3 q4 q5 q6 q7 q8
 refine aF _ (by kernel_rfl) (by kernel_rfl) (aj _) ?_
 repeat (first
  | (apply aG
     case hw=>rfl
     simp only [Act.put,pz])
  | (apply aH
     case hw=>rfl
     case h =>
      exact Zaaq
     simp only [Act.put,pz]))
 exact Zaa7):P:=h
theorem Zaef {P:Prop} (h:P:=by
 have HU:=Lib.hid hS.upd
 have hbl:b < wr.heap.size:=hS.plain.lt
 have HS:=Lib.hid hS
 have HK:=Lib.hid hk
 have htI:((i0:Int)+j0) / 2 = t:=by omega
 have HY2:=Lib.hid (fun h:kS cv y x = true=>acA HW.out HR.out hkR (by rw [hy];exact h))
 have Gn:=Lib.hid (fun h:kS cv y x = false=>ad7 HW.out HR.out hkR (by rw [hy];exact h))
 clear hS hR1 MV hgx ht hk hy
 cases hcv:decide (cv y x < 0) with
 | true =>
   exact Zafk
 | false =>
   exact Zafl):P:=h
theorem Zaeg {P:Prop} (h:P:=by
 have HU:=Lib.hid hS.upd
 have hbl:b < wr.heap.size:=hS.plain.lt
 have HS:=Lib.hid hS
 have HK:=Lib.hid hk
 have htI:((i0:Int)+j0) / 2 = t:=by omega
 have HY2:=Lib.hid (fun h:kS cv y x = false=>acB HW.out HL.out hkL (by rw [hx];exact h))
 have Gn:=Lib.hid (fun h:kS cv y x = true=>Z9 HW.out HL.out hkL (by rw [hx];exact h))
 clear hS hL1 MV hgx ht hk hx
 cases hcv:decide (cv y x < 0) with
 | false =>
   exact Zafk
 | true =>
   exact Zafl):P:=h
theorem Zaeh {P:Prop} (h:P:=by
 go_wp2_with fail
 skip
 refine aF _ (by kernel_rfl) (by kernel_rfl) (aj _) ?_
 repeat (first
  | (apply aG
     case hw=>rfl
     simp only [Act.put,pz])
  | (apply aH
     case hw=>rfl
     case h =>
      exact Zaa0
     simp only [Act.put,pz]))
 exact Zaar):P:=h
theorem Zaei {P:Prop} (h:P:=by
 have HN:=Lib.hid (gq hall.out hp)
 have Gn:=Lib.hid (gq hfresh.out hfr)
 clear hp
 go_wp2_with fail
 clear q0 q1 q2 q3 q4 q5 q6 q7 q8
 refine aF _ (by kernel_rfl) (by kernel_rfl) (aj _) ?_
 repeat (first
  | (apply aG
     case hw=>rfl
     simp only [Act.put,pz])
  | (apply aH
     case hw=>rfl
     case h =>
      exact Zaaw
     simp only [Act.put,pz]))
 exact Zaa9):P:=h
theorem Zaej {P:Prop} (h:P:=by
 try simp only [Bool.and_false,Bool.and_true,Bool.false_and,Bool.and_self] at hp
 have HF:=Lib.hid (dW hlt hp)
 clear hp
 go_wp2_with fail
 refine aF _ (by kernel_rfl) (by kernel_rfl) (aj _) ?_
 repeat (first
  | (apply aG
     case hw=>rfl
     simp only [Act.put,pz])
  | (apply aH
     case hw=>rfl
     case h =>
      exact Zaaz
     simp only [Act.put,pz]))
 exact Zaai):P:=h
theorem Zaek {P:Prop} (h:P:=by
 have HF:=Lib.hid (show oH nm x p = 2 by rw [HAT.out,if_neg (by simp [hS]),if_pos hu])
 have HS:=Lib.hid hS
 clear hS
 go_wp2_with fail
 refine (aa1.out _ atS).mono ?_
 rw [HS.out]
 rintro e w4 ⟨rfl,hb4⟩
 obtain ⟨hc4,hf4⟩:=ay hb4;have Wy:w.heap.size < w4.heap.size:=(sq hb4.size);have hy4:w.heap.size+1 < w4.heap.size:=(sq hb4.size);have hx4:w3.heap.size < w4.heap.size:=(sq hb4.size)
 go_wp2_with fail
 refine (HUN.out _ atS).mono ?_
 rintro e w5 ⟨rfl,hb5⟩
 obtain ⟨hc5,hf5⟩:=ay hb5;have Es:w.heap.size < w5.heap.size:=(sq hb5.size);have IV:w.heap.size+1 < w5.heap.size:=(sq hb5.size);have hx5:w3.heap.size < w5.heap.size:=(sq hb5.size)
 exact Zabh):P:=h
theorem Zael {P:Prop} (h:P:=by
 intro wq hq
 have hcq:=(aB hq).1
 have lJ:=(aB hq).2
 have hlk:=HLK.out wq hq
 go_simp
 first
  | exact ⟨hq,rfl⟩
  | exact ⟨aQ hq _,rfl⟩
  | (first | (refine (wH x.au[j+1].aS _ _ _ (aJ ku atW) hwk).mono ?_;rw [H1.out];rintro e w2 ⟨rfl,hb2⟩;exact ⟨rfl,aI hq hb2⟩) | (refine (jc x.au[j+1].seq 1 (x.next - 1) _).mono ?_;rw [LQ.out];rintro e w2 ⟨rfl,rfl⟩;exact ⟨rfl,hq⟩) | (refine (gK x _ _ x.au[j+1].on _ (aJ h atW) NV.out).mono ?_;rw [Hg.out];rintro e w2 ⟨rfl,hb2⟩;exact ⟨rfl,aI hq hb2⟩))
  | (simp only [↓IntWalk.iteOmega];exact ⟨hq,rfl⟩)):P:=h
theorem Zaem {P:Prop} (h:P:=by
 intro wq hq
 have hcq:=(aB hq).1
 have lJ:=(aB hq).2
 have hlk:=HLK.out wq hq
 go_simp
 first
  | exact ⟨hq,rfl⟩
  | exact ⟨aQ hq _,rfl⟩
  | (first | (refine (wH x.au[0].aS _ _ _ (aJ ku atW) hwk).mono ?_;rw [H1.out];rintro e w2 ⟨rfl,hb2⟩;exact ⟨rfl,aI hq hb2⟩) | (refine (jc x.au[0].seq 1 (x.next - 1) _).mono ?_;rw [LQ.out];rintro e w2 ⟨rfl,rfl⟩;exact ⟨rfl,hq⟩) | (refine (gK x _ _ x.au[0].on _ (aJ h atW) NV.out).mono ?_;rw [Hg.out];rintro e w2 ⟨rfl,hb2⟩;exact ⟨rfl,aI hq hb2⟩))
  | (simp only [↓IntWalk.iteOmega];exact ⟨hq,rfl⟩)):P:=h
theorem Zaen {P:Prop} (h:P:=by
 refine hK _ _ hb7 ?_
 try simp only [Act.put,pz]
 clear hK K
 refine bP 11 (by rfl) (by kernel_rfl) (by rfl) (fun K hK=>?_)
 go_simp
 refine hK _ _ hb7 ?_
 try simp only [Act.put,pz]
 clear hK K
 refine nR (by kernel_rfl) ?_
 exact HK _ _ ⟨g9,p9,_,_,_,_,_,_,_,_,_,_,aum,hb7,nK⟩):P:=h
theorem Zaeo {P:Prop} (h:P:=by
 intro wq hq
 have hcq:=(aB hq).1
 have lJ:=(aB hq).2
 go_simp
 first
  | exact ⟨hq,rfl⟩
  | exact ⟨aQ hq _,rfl⟩
  | (first | (refine (yT x.au[j+1].aS _ _ _ (aJ ku atW) hwk).mono ?_;rw [H1.out];rintro e w2 ⟨rfl,hb2⟩;exact ⟨rfl,aI hq hb2⟩) | (refine (kH x.au[j+1].seq 1 (x.next - 1) _).mono ?_;rw [LQ.out];rintro e w2 ⟨rfl,rfl⟩;exact ⟨rfl,hq⟩) | (refine (gQ x _ _ x.au[j+1].on _ (aJ h atW) NV.out).mono ?_;rw [Hg.out];rintro e w2 ⟨rfl,hb2⟩;exact ⟨rfl,aI hq hb2⟩))
  | (simp only [↓IntWalk.iteOmega];exact ⟨hq,rfl⟩)):P:=h
theorem Zaep {P:Prop} (h:P:=by
 intro wq hq
 have hcq:=(aB hq).1
 have lJ:=(aB hq).2
 go_simp
 first
  | exact ⟨hq,rfl⟩
  | exact ⟨aQ hq _,rfl⟩
  | (first | (refine (yT x.au[0].aS _ _ _ (aJ ku atW) hwk).mono ?_;rw [H1.out];rintro e w2 ⟨rfl,hb2⟩;exact ⟨rfl,aI hq hb2⟩) | (refine (kH x.au[0].seq 1 (x.next - 1) _).mono ?_;rw [LQ.out];rintro e w2 ⟨rfl,rfl⟩;exact ⟨rfl,hq⟩) | (refine (gQ x _ _ x.au[0].on _ (aJ h atW) NV.out).mono ?_;rw [Hg.out];rintro e w2 ⟨rfl,hb2⟩;exact ⟨rfl,aI hq hb2⟩))
  | (simp only [↓IntWalk.iteOmega];exact ⟨hq,rfl⟩)):P:=h
theorem Zaeq {P:Prop} (h:P:=by
 rw [HF.out]
 first
  | refine ⟨[.slice dG x.hosts.length bV,.slice (some ⟨b2,o2,none⟩) x.au.length dJ,.int .i64 x.next,.int .i64 x.weights.pack,.int .i64 x.weights.spread,.int .i64 x.weights.soft],Gh++Gp,rfl,?_,?_⟩
  | refine ⟨[.slice dG x.hosts.length bV,.slice (some ⟨b2,o2,none⟩) x.au.length dJ,.int .i64 x.next,.int .i64 x.weights.pack,.int .i64 x.weights.spread,.int .i64 x.weights.soft],rfl,⟨Gh++Gp,?_⟩,?_⟩
 ·exact Zaa5
 ·have hB:=HB.out
  exact (by repeat (first | with_reducible exact hB | with_reducible refine aC ?_ atX _))):P:=h
theorem Zaer {P:Prop} (h:P:=by
 refine aN ?_
 intro wn hn
 replace hn:=hn.out
 obtain ⟨hcn,hfn⟩:=ay hn
 have hzn:w.heap.size < wn.heap.size:=sq hn.size
 have hyn:b' < wn.heap.size:=sq hn.size
 try (have hxn:wr.heap.size < wn.heap.size:=sq hn.size)
 go_wp2
 go_ret
 exact ⟨by rw [HF.out];rfl,atS⟩):P:=h
theorem Zaes {P:Prop} (h:P:=by
 refine aN ?_
 intro wn hn
 replace hn:=hn.out
 obtain ⟨hcn,hfn⟩:=ay hn
 have hzn:w.heap.size < wn.heap.size:=sq hn.size
 have hyn:b < wn.heap.size:=sq hn.size
 try (have hxn:wr.heap.size < wn.heap.size:=sq hn.size)
 go_wp2
 go_ret
 exact ⟨by rw [HF.out];rfl,atS⟩):P:=h
theorem Zaet {P:Prop} (h:P:=by
 intro wq hq
 have hcq:=(aB hq).1
 have lJ:=(aB hq).2
 go_simp
 first
  | exact ⟨hq,rfl⟩
  | exact ⟨aQ hq _,rfl⟩
  | (refine (tY x.hosts[j+1] _ _ _ (aJ hr3 atW) hwk).mono ?_;rw [H1.out];rintro e w6 ⟨rfl,hb6⟩;exact ⟨rfl,aI hq hb6⟩)
  | (simp only [↓IntWalk.iteOmega];exact ⟨hq,rfl⟩)):P:=h
theorem Zaeu {P:Prop} (h:P:=by
 intro wq hq
 have hcq:=(aB hq).1
 have lJ:=(aB hq).2
 go_simp
 first
  | exact ⟨hq,rfl⟩
  | exact ⟨aQ hq _,rfl⟩
  | (fail)
  | (simp only [↓IntWalk.iteOmega];exact ⟨hq,rfl⟩)):P:=h
theorem Zaev {P:Prop} (h:P:=by
 intro wq hq
 have hcq:=(aB hq).1
 have lJ:=(aB hq).2
 go_simp
 first
  | exact ⟨hq,rfl⟩
  | exact ⟨aQ hq _,rfl⟩
  | (refine (tY x.hosts[0] _ _ _ (aJ hr3 atW) hwk).mono ?_;rw [H1.out];rintro e w6 ⟨rfl,hb6⟩;exact ⟨rfl,aI hq hb6⟩)
  | (simp only [↓IntWalk.iteOmega];exact ⟨hq,rfl⟩)):P:=h
theorem Zaew {P:Prop} (h:P:=by
 go_wp2_with fail
 refine aF wr (by kernel_rfl) (by kernel_rfl) (aj _) ?_
 repeat (first
  | (apply aG
     case hw=>rfl
     simp only [Act.put,pz])
  | (apply aH
     case hw=>rfl
     case h =>
      exact Zabd
     simp only [Act.put,pz]))
 exact Zacc):P:=h
theorem Zaex {P:Prop} (h:P:=by
 have HF:=Lib.hid (show oH nm x p = 1 by rw [HAT.out,if_pos hS])
 have HS:=Lib.hid hS
 clear hS
 go_wp2_with fail
 refine (aa1.out _ atS).mono ?_
 rw [HS.out]
 rintro e w4 ⟨rfl,hb4⟩
 obtain ⟨hc4,hf4⟩:=ay hb4;have Wy:w.heap.size < w4.heap.size:=(sq hb4.size);have hy4:w.heap.size+1 < w4.heap.size:=(sq hb4.size);have hx4:w3.heap.size < w4.heap.size:=(sq hb4.size)
 exact Zabh):P:=h
theorem Zaey {P:Prop} (h:P:=by
 go_wp2_with fail
 refine aF wr (by kernel_rfl) (by kernel_rfl) (aj _) ?_
 repeat (first
  | (apply aG
     case hw=>rfl
     simp only [Act.put,pz])
  | (apply aH
     case hw=>rfl
     case h =>
      exact Zaaj
     simp only [Act.put,pz]))
 exact Zabv):P:=h
theorem Zaez {P:Prop} (h:P:=by
 go_wp2
 go_ret
 exact ⟨by rw [HF.out];rfl,atS⟩):P:=h
theorem Zae0 {P:Prop} (h:P:=by
 intro wq hq
 have hcq:=(aB hq).1
 have lJ:=(aB hq).2
 go_simp
 first
  | exact ⟨hq,rfl⟩
  | exact ⟨aQ hq _,rfl⟩
  | (refine (tZ x.hosts[j+1] _ _ _ (aJ hr3 atW) hwk).mono ?_;rw [H1.out];rintro e w6 ⟨rfl,hb6⟩;exact ⟨rfl,aI hq hb6⟩)
  | (simp only [↓IntWalk.iteOmega];exact ⟨hq,rfl⟩)):P:=h
theorem Zae1 {P:Prop} (h:P:=by
 intro wq hq
 have hcq:=(aB hq).1
 have lJ:=(aB hq).2
 go_simp
 first
  | exact ⟨hq,rfl⟩
  | exact ⟨aQ hq _,rfl⟩
  | (refine (tZ x.hosts[0] _ _ _ (aJ hr3 atW) hwk).mono ?_;rw [H1.out];rintro e w6 ⟨rfl,hb6⟩;exact ⟨rfl,aI hq hb6⟩)
  | (simp only [↓IntWalk.iteOmega];exact ⟨hq,rfl⟩)):P:=h
theorem Zae2 {P:Prop} (h:P:=by
 exact (by repeat (first | with_reducible exact hB | with_reducible refine aC ?_ atX _ | with_reducible refine ak ?_ _))):P:=h
theorem Zae3 {P:Prop} (h:P:=by
 have e1:=Ij.out;have e2:=Ik.out;have e3:=HD.out;have e4:=hm.out;have e5:=hb.out
 exact ⟨lo,hi,a+lo,a+hi,by omega,by omega,by omega,by first | (congr 1;omega) | (congr 1;push_cast;omega),by first | (congr 1;omega) | (congr 1;push_cast;omega),Lib.hid rfl,Lib.hid rfl,Lib.hid (.inl rfl),Lib.hid (.inl rfl),h⟩):P:=h
theorem Zae4 {P:Prop} (h:P:=by
 go_enter Tryz.func134,Tryz.ntmps134
 go_wp2_with fail
 refine (rX x.key _ hks).mono ?_
 exact Zaav):P:=h
theorem Zae5 {P:Prop} (h:P:=by
 go_enter Tryz.func114,Tryz.ntmps114
 go_wp2_with fail
 refine (qK x.key _ hks).mono ?_
 exact Zaav):P:=h
theorem Zae6 {P:Prop} (h:P:=by
 go_wp2_with fail
 refine (J9 a b _ ha hb).mono ?_
 rw [HA.out]
 rintro e w2 ⟨rfl,hb2⟩
 exact Zaau):P:=h
theorem Zae7 {P:Prop} (h:P:=by
 rw [H2.out]
 rintro e w7 ⟨rfl,hb7⟩
 obtain ⟨hc7,hf7⟩:=ay hb7;have hz7:w.heap.size < w7.heap.size:=(sq hb7.size);have hy7:w.heap.size+1 < w7.heap.size:=(sq hb7.size);have hx7:w3.heap.size < w7.heap.size:=(sq hb7.size)
 go_wp2
 go_ret
 exact ⟨by rw [HF.out];first | rfl | simp,atS⟩):P:=h
theorem Zae8 {P:Prop} (h:P:=by
 cases he2:GX b p.mem with
 | none =>
   rw [show qG b p.mem = 9223372036854775807 by unfold qG;rw [he2];rfl] at hS2 hm2
   exact Zaae
 | some s2 =>
   rw [show qG b p.mem = s2 by unfold qG;rw [he2];rfl] at hS2 hm2
   exact Zaae):P:=h
theorem Zae9 {P:Prop} (h:P:=by
 exact (by repeat (first | with_reducible exact hO | with_reducible refine Own.setCell ?_ atX _ | with_reducible refine Own.alloc ?_ _))):P:=h
theorem Zafa {P:Prop} (h:P:=by
 try simp only [Bool.and_false,Bool.and_true,Bool.false_and,Bool.and_self] at hp
 have HF:=Lib.hid (jP hlt hp)
 clear hp
 exact Zaag):P:=h
theorem Zafb {P:Prop} (h:P:=by
 rw [World.cell?_of_block (heap_alloc_old _ _ (by simp)),cell_of_row _ _ _ _ _ _ (heap_alloc_new w _)];rfl):P:=h
theorem Zafc {P:Prop} (h:P:=by
 try dsimp only
 refine Own.mono (B:=w.heap.size+1+1) ?_ (by omega)
 have hO:=HO.out
 exact (by repeat (first | with_reducible exact hO | with_reducible refine Own.setCell ?_ atX _))):P:=h
theorem Zafd {P:Prop} (h:P:=by
 have hp2:(s.toList == xs[k].toList) = false:=by rw [BEq.comm];exact hp
 have Gn:=Lib.hid (yQ (p:=fun v:ByteArray=>v.toList == s.toList) hlt HN.out hp)
 exact Zach):P:=h
theorem Zafe {P:Prop} (h:P:=by
 rw [List.getElem?_append_right auu,List.getElem?_append_right avG,show q - P.length - L.length = d - 1 - k by have:=ha.out;have:=hm.out;omega,List.getElem?_append_left hkR,hR1]):P:=h
theorem Zaff {P:Prop} (h:P:=by
 have hkl:k = xs.length:=by omega
 subst hkl
 have hn:=HN.out
 rw [List.take_length] at hn
 have HF:=Lib.hid (acv hn)
 clear hn
 exact Zaau):P:=h
theorem Zafg {P:Prop} (h:P:=by
 have HF:=Lib.hid (show oH nm x p = 4 by rw [HAT.out,if_neg (by simp [hS]),if_neg hu,if_neg (by simp [hf1]),if_pos hf2])
 exact Zaap):P:=h
theorem Zafh {P:Prop} (h:P:=by
 have hsv:s = v:=by omega
 subst hsv
 have hkj:k1 = j0:=by have:=HI.out;have:=HK.out;omega
 subst hkj
 exact Zab4):P:=h
theorem Zafi {P:Prop} (h:P:=by
 have hsv:s = v:=by omega
 subst hsv
 have hks:(j0:Int) - 1≤k0:=by have:=HI.out;have:=HK.out;omega
 exact Zab4):P:=h
theorem Zafj {P:Prop} (h:P:=by
 intro wq hq
 have hcq:=(aB hq).1
 have lJ:=(aB hq).2
 go_simp
 first
  | exact ⟨hq,rfl⟩
  | (refine (HC.out y x _ (HU.out.trans (nN.lq _ hq))).mono ?_;rintro e w2 ⟨rfl,hb2⟩;exact ⟨rfl,aI hq hb2⟩)
  | (simp only [↓IntWalk.iteOmega];exact ⟨hq,rfl⟩)):P:=h
theorem Zafk {P:Prop} (h:P:=by
 go_wp2_with fail
 refine aF wr (by kernel_rfl) (by kernel_rfl) (aj _) ?_
 repeat (first
  | (apply aG
     case hw=>rfl
     simp only [Act.put,pz])
  | (apply aH
     case hw=>rfl
     case h =>
      exact Zaaj
     simp only [Act.put,pz]))
 exact Zabu):P:=h
theorem Zafl {P:Prop} (h:P:=by
 go_wp2_with fail
 refine aF wr (by kernel_rfl) (by kernel_rfl) (aj _) ?_
 repeat (first
  | (apply aG
     case hw=>rfl
     simp only [Act.put,pz])
  | (apply aH
     case hw=>rfl
     case h =>
      exact Zaaj
     simp only [Act.put,pz]))
 exact Zabw):P:=h
theorem Zafm {P:Prop} (h:P:=by
 intro v7 w7 nK Ua ab7
 rw [show 0+jj = jj by omega,List.nil_append] at nK
 obtain ⟨g9,p9,hv7,hgb,hgp,hgl⟩:=wW nK (by omega)
 subst hv7
 have hb7:Below wn.heap.size wn w7:=Below.grown (hb5) Ua auK (fun q hq=>(hown5.lt q hq).1)
 exact Zaen):P:=h
theorem Zafn {P:Prop} (h:P:=by
 rw [HU.out]
 rintro e w3 ⟨rfl,hb3⟩
 obtain ⟨hc3,hf3⟩:=ay hb3
 have hz3:w.heap.size < w3.heap.size:=(sq hb3.size)
 have hy3:w.heap.size+1 < w3.heap.size:=(sq hb3.size)
 have hB3:Below w.heap.size w w3:=ah hB2 hb3
 exact Zaez):P:=h
theorem Zafo {P:Prop} (h:P:=by
 try simp only [Bool.and_false,Bool.and_true,Bool.false_and,Bool.and_self] at hp
 have HF:=Lib.hid (jP hlt hp)
 clear hp
 exact Zaed):P:=h
theorem sq {a b:Nat} (hs:a≤b) {P:Prop} (h:a≤b→P:=by intro this;(try simp at this);omega):P:=h hs
theorem pz:(∀{α:Type} (a:List α) (i:Nat) (v:α),a.toArray.setIfInBounds i v = (a.set i v).toArray)∧(∀{α:Type} (x y:α) (l:List α),(x :: l).set 0 y = y :: l)∧(∀{α:Type} (x y:α) (l:List α) (n:Nat),(x :: l).set (n+1) y = x :: l.set n y):=⟨fun _ _ _=>List.setIfInBounds_toArray ..,fun _ _ _=>rfl,fun _ _ _ _=>rfl⟩
theorem atS {P:Prop} (h:P:=by repeat (first | with_reducible exact aj _ | with_reducible assumption | with_reducible refine ak ?_ _ | with_reducible refine ah ?_ (by assumption))) : P := h
theorem atT {P:Prop} (h:P:=by repeat (first | with_reducible exact aj _ | with_reducible assumption | with_reducible refine ak ?_ _ | with_reducible refine aA ?_ | with_reducible refine ah ?_ (by assumption))) : P := h
theorem atU {P:Prop} (h:P:=by have f1:=HF.out;have f2:=hm.out;have f3:=hb.out;have f4:=fJ.out;omega) : P := h
theorem atV {P:Prop} (h:P:=by first | exact hq | exact hq.out) : P := h
theorem atW {P:Prop} (h:P:=by repeat (first | with_reducible exact hq | with_reducible exact hq.out | with_reducible exact aj _ | with_reducible assumption | with_reducible refine ak ?_ _ | with_reducible refine ah ?_ atV | with_reducible refine ah ?_ (by assumption))) : P := h
theorem atX {P:Prop} (h:P:=by dsimp only;omega) : P := h
theorem atY {P:Prop} (h:P:=by first | exact Nat.le_refl _ | (simp;done) | omega | (simp;omega)) : P := h
theorem atZ {P:Prop} (h:P:=by decide +kernel) : P := h
theorem at6 {P:Prop} (h:P:=by unfold maxLen;omega) : P := h
theorem at7 {P:Prop} (h:P:=by simp [hd.out]) : P := h
theorem aua {P:Prop} (h:P:=by simp [World.setCell]) : P := h
theorem aub {P:Prop} (h:P:=by simp [Value.oneCell']) : P := h
theorem auc {P:Prop} (h:P:=by have e1:=HN.out;have e2:=fJ.out;simp only [List.length_append,fU];omega) : P := h
theorem aud {P:Prop} (h:P:=by first | exact hbx | exact aj _) : P := h
theorem aue {P:Prop} (h:P:=by first | rfl | (simp;rfl)) : P := h
theorem auf {P:Prop} (h:P:=by unfold Func.isWrapper;first | (rw [if_pos atZ];kernel_rfl) | (rw [if_neg atZ];exact ⟨rfl,rfl⟩)) : P := h
theorem aug {P:Prop} (h:P:=by first | assumption | (unfold I64;omega)) : P := h
theorem auj {P:Prop} (h:P:=by first | exact aj _ | assumption) : P := h
theorem auk {P:Prop} (h:P:=by have e3:=HKK.out;have e4:=HD.out;have f1:=HF.out;have f2:=hm.out;have f3:=hb.out;have f4:=fJ.out;omega) : P := h
theorem aum {P:Prop} (h:P:=by simp only [Act.put,pz];rfl) : P := h
theorem aun {P:Prop} (h:P:=by show w.heap.size+1+1 < _;omega) : P := h
theorem auq {P:Prop} (h:P:=by intro e;have:=hr _ e.symm;omega) : P := h
theorem aur {P:Prop} (h:P:=by have:=HR1.out;omega) : P := h
theorem aut {P:Prop} (h:P:=by first | exact hq | exact ah (ak (aj _) _) hq) : P := h
theorem auu {P:Prop} (h:P:=by have:=ha.out;omega) : P := h
theorem auv {P:Prop} (h:P:=by simpa only [List.append_assoc] using hS1) : P := h
theorem auw {P:Prop} (h:P:=by rw [List.length_append];have f1:=HF.out;have f2:=hm.out;have f3:=hb.out;have f4:=fJ.out;omega) : P := h
theorem auz {P:Prop} (h:P:=by have:=hd.out;omega) : P := h
theorem auA {P:Prop} (h:P:=by rw [iC hlt hlt',Heq.out];simpa [eqStr,Am] using hne) : P := h
theorem auC {P:Prop} (h:P:=by repeat (first | with_reducible exact aj _ | with_reducible assumption | with_reducible refine ak ?_ _ | with_reducible refine aC ?_ atY _ | with_reducible refine ah ?_ (by assumption))) : P := h
theorem auD {P:Prop} (h:P:=by first | omega | (show _ < _;omega) | (simp;done) | (simp;omega)) : P := h
theorem auF {P:Prop} (h:P:=by simp [madeCells]) : P := h
theorem auG {P:Prop} (h:P:=by unfold I64;omega) : P := h
theorem auI {P:Prop} (h:P:=by have:=(Qz).size;omega) : P := h
theorem auJ {P:Prop} (h:P:=by have:=(hbB).size;omega) : P := h
theorem auK {P:Prop} (h:P:=by have:=(hb5).size;omega) : P := h
theorem auL {P:Prop} (h:P:=by have:=HK.out;omega) : P := h
theorem auM {P:Prop} (h:P:=by simpa only [List.append_assoc] using hS3) : P := h
theorem auN {P:Prop} (h:P:=by rw [List.length_append,fU];have f1:=HF.out;have f2:=hm.out;have f3:=hb.out;have f4:=fJ.out;omega) : P := h
theorem auO {P:Prop} (h:P:=by first | (simp;done) | omega | (simp;omega)) : P := h
theorem auP {P:Prop} (h:P:=by rw [List.length_map,HJ.out,Nat.mul_one]) : P := h
theorem auQ {P:Prop} (h:P:=by first | exact Nat.le_refl _ | (dsimp only;omega)) : P := h
theorem auR {P:Prop} (h:P:=by dsimp only;have:=HS.out.lt;omega) : P := h
theorem auS {P:Prop} (h:P:=by repeat (first | with_reducible exact hBr | with_reducible exact aj _ | with_reducible assumption | with_reducible refine ak ?_ _ | with_reducible refine ah ?_ (by assumption))) : P := h
theorem auT {P:Prop} (h:P:=by first | exact ah hBr hq | exact ah (ak hBr _) hq | exact ah hBr hq.out | exact ah (ak hBr _) hq.out) : P := h
theorem auV {P:Prop} (h:P:=by rw [List.length_drop];have:=HN.out;omega) : P := h
theorem auW {P:Prop} (h:P:=by obtain ⟨d0,hs⟩:=fF hA;rw [hs];rfl) : P := h
theorem auX {P:Prop} (h:P:=by rw [Addr.add_lit];exact hgn) : P := h
theorem au2 {P:Prop} (h:P:=by rw [List.take_succ_eq_append_getElem hlt,J3];exact hown5) : P := h
theorem au3 {P:Prop} (h:P:=by have e1:=U3.size;have e2:=hn.size;(try simp at e2);omega) : P := h
theorem au4 {P:Prop} (h:P:=by dsimp only;first | omega | (have:=S2'.lt;omega)) : P := h
theorem au5 {P:Prop} (h:P:=by repeat (first | with_reducible exact HS.out.below | with_reducible refine aC ?_ auQ _)) : P := h
theorem au7 {P:Prop} (h:P:=by rw [lN];omega) : P := h
theorem au9 {P:Prop} (h:P:=by rw [Oi hi];exact hlt) : P := h
theorem ava {P:Prop} (h:P:=by show _ = o+i * 3+0;omega) : P := h
theorem avb {P:Prop} (h:P:=by show _ = o+i * 3+1;omega) : P := h
theorem ave {P:Prop} (h:P:=by first | exact hq | exact hq.out | exact ah (ak (aj _) _) hq) : P := h
theorem avf {P:Prop} (h:P:=by simp [Value.ownBlock]) : P := h
theorem avg {P:Prop} (h:P:=by have:=hF y hy;dsimp only;omega) : P := h
theorem avh {P:Prop} (h:P:=by show _ = o+i * 9+0;omega) : P := h
theorem avi {P:Prop} (h:P:=by show _ = o+i * 9+2;omega) : P := h
theorem avj {P:Prop} (h:P:=by show _ = o+i * 9+3;omega) : P := h
theorem avk {P:Prop} (h:P:=by show _ = o+i * 9+4;omega) : P := h
theorem avl {P:Prop} (h:P:=by show _ = o+i * 9+7;omega) : P := h
theorem avm {P:Prop} (h:P:=by show _ = o+i * 9+8;omega) : P := h
theorem avn {P:Prop} (h:P:=by show _ = o+i * 3+2;omega) : P := h
theorem avp {P:Prop} (h:P:=by simpa using h) : P := h
theorem avq {P:Prop} (h:P:=by first | exact Nat.le_refl _ | (simp [World.setCell];done) | (simp [World.setCell];omega)) : P := h
theorem avr {P:Prop} (h:P:=by dsimp only;first | omega | (have:=S3'.lt;omega)) : P := h
theorem avs {P:Prop} (h:P:=by have:=h.below.size;omega) : P := h
theorem avu {P:Prop} (h:P:=by unfold Cls;with_reducible exact (ak hbx0 _)) : P := h
theorem avv {P:Prop} (h:P:=by simpa using hi) : P := h
theorem avw {P:Prop} (h:P:=by show _ = o+i * 9+1;omega) : P := h
theorem avx {P:Prop} (h:P:=by show _ = o+i * 9+5;omega) : P := h
theorem avy {P:Prop} (h:P:=by show _ = o+i * 9+6;omega) : P := h
theorem avz {P:Prop} (h:P:=by rw [HE.out];simp) : P := h
theorem avF {P:Prop} (h:P:=by have:=HS.out;simpa [List.append_assoc] using this) : P := h
theorem avG {P:Prop} (h:P:=by have:=ha.out;have:=hm.out;omega) : P := h
theorem avI {P:Prop} (h:P:=by rw [List.length_take];omega) : P := h
theorem avJ {P:Prop} (h:P:=by have:=hbl.size;(try simp);omega) : P := h
theorem avK {P:Prop} (h:P:=by have:=hbl.size;simp;omega) : P := h
theorem avM {P:Prop} (h:P:=by show _ = o+i * 6+0;omega) : P := h
theorem avN {P:Prop} (h:P:=by show _ = o+i * 6+2;omega) : P := h
theorem avO {P:Prop} (h:P:=by show _ = o+i * 6+3;omega) : P := h
theorem avP {P:Prop} (h:P:=by show _ = o+i * 6+4;omega) : P := h
theorem avQ {P:Prop} (h:P:=by rw [List.length_map,HJ.out];omega) : P := h
theorem avR {P:Prop} (h:P:=by have:=hb7.size;omega) : P := h
theorem avU {P:Prop} (h:P:=by have:=hg.size;simpa using this) : P := h
theorem avV {P:Prop} (h:P:=by unfold onP;rw [hs1,hs2]) : P := h
theorem avX {P:Prop} (h:P:=by unfold Em;rw [hnx];simp) : P := h
theorem avY {P:Prop} (h:P:=by unfold Em;rw [hwt];simp) : P := h
theorem avZ {P:Prop} (h:P:=by unfold Em;simp [hh2]) : P := h
theorem av1 {P:Prop} (h:P:=by unfold Em;simp [hh1]) : P := h
theorem av2 {P:Prop} (h:P:=by rw [sG hlt,hsn];rfl) : P := h
theorem av3 {P:Prop} (h:P:=by dsimp only;first | omega | (have:=S1'.lt;omega)) : P := h
theorem av4 {P:Prop} (h:P:=by repeat (first | with_reducible exact HO1.out | with_reducible refine Own.setCell ?_ auR _)) : P := h
theorem av5 {P:Prop} (h:P:=by repeat (first | with_reducible exact RZ.out | with_reducible refine Own.setCell ?_ auR _)) : P := h
theorem av6 {P:Prop} (h:P:=by repeat (first | with_reducible exact HO.out | with_reducible refine Own.setCell ?_ atX _)) : P := h
theorem av8 {P:Prop} (h:P:=by rw [HT.out,HM.out];exact HNM.out) : P := h
theorem av9 {P:Prop} (h:P:=by rw [HT.out,HM.out];have:=HNM.out;omega) : P := h
theorem awh {P:Prop} (h:P:=by unfold KF;rw [hr1]) : P := h
theorem awj {P:Prop} (h:P:=by show _ = o+i * 1+0;omega) : P := h
theorem awk {P:Prop} (h:P:=by show _ = o+i * 6+1;omega) : P := h
theorem awl {P:Prop} (h:P:=by show _ = o+i * 6+5;omega) : P := h
theorem awm {P:Prop} (h:P:=by show _ = o+i * 2+0;omega) : P := h
theorem awn {P:Prop} (h:P:=by show _ = o+i * 2+1;omega) : P := h
theorem awo {P:Prop} (h:P:=by show _ = o+i * 4+0;omega) : P := h
theorem awp {P:Prop} (h:P:=by show _ = o+i * 4+1;omega) : P := h
theorem awq {P:Prop} (h:P:=by show _ = o+i * 4+2;omega) : P := h
theorem awr {P:Prop} (h:P:=by show _ = o+i * 4+3;omega) : P := h
theorem awy {P:Prop} (h:P:=by rw [h] at hr;cases hr) : P := h
theorem awz {P:Prop} (h:P:=by rw [List.length_drop];omega) : P := h
theorem awC {P:Prop} (h:P:=by rw [hu.out,hv.out];exact Nat.le_refl _) : P := h
theorem awD {P:Prop} (h:P:=by have:=hE.out;simpa [List.append_assoc] using this) : P := h
theorem awE {P:Prop} (h:P:=by rw [HR.out,HST.out,List.append_assoc]) : P := h
theorem awF {P:Prop} (h:P:=by rw [List.append_nil];exact hS) : P := h
theorem awG {P:Prop} (h:P:=by rw [cell_of_row _ _ _ _ _ _ (heap_alloc_new wr _)];rfl) : P := h
theorem awH {P:Prop} (h:P:=by rw [List.length_map];exact hl) : P := h
theorem awI {P:Prop} (h:P:=by repeat (first | with_reducible exact jX | with_reducible refine Own.setCell ?_ auD _ | with_reducible refine Own.ext ?_ (by assumption) | with_reducible refine Own.alloc ?_ _)) : P := h
theorem awK {P:Prop} (h:P:=by rw [YC hlt HP.out];exact hcs) : P := h
theorem awL {P:Prop} (h:P:=by have:=hb5.size;simp;omega) : P := h
theorem awM {P:Prop} (h:P:=by intro e;have:=hr _ e.symm;have:=hF y hy;omega) : P := h
theorem awN {P:Prop} (h:P:=by have:=hbl.size;have:=hbn.size;(try simp);omega) : P := h
theorem awO {P:Prop} (h:P:=by first | exact hbor | (dsimp only;omega)) : P := h
theorem awP {P:Prop} (h:P:=by rw [Addr.add_lit];exact hg5.block (wn.heap.size+1) (by simp) avf) : P := h
theorem awQ {P:Prop} (h:P:=by rw [Addr.add_lit];exact (hg5.block wn.heap.size (by simp;omega) avf).trans (heap_alloc_old _ _ (by simp))) : P := h
theorem awR {P:Prop} (h:P:=by have:=HBN.out.size;have:=hb7.size;omega) : P := h
theorem awS {P:Prop} (h:P:=by rw [List.length_append,HJ.out];rfl) : P := h
theorem awT {P:Prop} (h:P:=by rw [List.length_map,HKL.out,Nat.mul_one]) : P := h
theorem awY {P:Prop} (h:P:=by repeat (first | with_reducible exact fH | with_reducible refine Own.setCell ?_ auD _ | with_reducible refine Own.ext ?_ (by assumption) | with_reducible refine Own.alloc ?_ _)) : P := h
theorem awZ {P:Prop} (h:P:=by have:=HW.out;unfold nI.wt at this;omega) : P := h
theorem ay {W w1:World} (hb:Below W.heap.size W w1):(∀b o,b < W.heap.size→w1.cell? ⟨b,o,none⟩ = W.cell? ⟨b,o,none⟩)∧(∀b o,b < W.heap.size→w1.frozen? ⟨b,o,none⟩ = W.frozen? ⟨b,o,none⟩) :=
 ⟨fun b o h=>hb.cell (p:=⟨b,o,none⟩) h,fun b o h=>hb.frozen (p:=⟨b,o,none⟩) h⟩
theorem aj (w:World):Below w.heap.size w w:=Below.refl _ _
theorem ah {w w1 w2:World} (h:Below w.heap.size w w1) (k:Below w1.heap.size w1 w2):Below w.heap.size w w2:=h.trans (k.mono h.size)
theorem ak {w w1:World} (h:Below w.heap.size w w1) (o:Obj):Below w.heap.size w (w1.alloc o):=h.alloc h.size o
theorem aA {w w1:World} (h:Below w.heap.size w w1):Below w.heap.size w w1.drew:=h.drew
theorem aC {w w1:World} (h:Below w.heap.size w w1) {p:Addr} (hp:w.heap.size≤p.block) (u:Value):Below w.heap.size w (w1.setCell p u):=h.setCell hp u
section
variable {H:Type} {enc:TypeId × Value→H} {P:Program}
theorem Zi {W W':World} (hl:laidOutB P = true) (hb:Below W.heap.size W W'):∀(ts:List TypeId) (vs:List Value) (ds:List (DataW H)) (ps:List MemPlace) (sp:Nat→Bool),
 (∀t∈ts,P.readableRec t = true∧t < P.types.size)→(∀x∈ps,x.block < W.heap.size)→(∀x∈ps,sp x.block = true) →
 DataW.TrodAll enc P W 0 (fun _=>true) true ts vs ds ps→DataW.TrodAll enc P W' 0 sp true ts vs ds ps
 | [],[],[],ps,sp,_,_,_,h=>h
 | t :: ts,v :: vs,d :: ds,ps,sp,ht,hlt,hsp,h=>by
   obtain ⟨p,q,h1,h2,rfl⟩:=h
   refine ⟨p,q,?_,Zi hl hb ts vs ds q sp (fun t' h'=>ht t' (List.mem_cons_of_mem _ h')) (fun x hx=>hlt x (List.mem_append_right _ hx)) (fun x hx=>hsp x (List.mem_append_right _ hx)) h2,rfl⟩
   obtain ⟨hr,hs⟩:=ht t (List.mem_cons_self ..)
   exact WideElems.Trod_stays hl hr hs h1 (fun x hx=>hb.same (hlt x (List.mem_append_left _ hx))) (fun x hx=>hsp x (List.mem_append_left _ hx))
 | [],_ :: _,_,_,_,_,_,_,h=>by simp [DataW.TrodAll] at h
 | [],[],_ :: _,_,_,_,_,_,h=>by simp [DataW.TrodAll] at h
 | _ :: _,[],_,_,_,_,_,_,h=>by simp [DataW.TrodAll] at h
 | _ :: _,_ :: _,[],_,_,_,_,_,h=>by simp [DataW.TrodAll] at h
theorem nO {f:Func} {s:ChangeSpec} {apart fresh handsOn:Bool} {W W':World} {args:Array Value} {ds gs:List (DataW H)} {before:List MemPlace} {tb:TypeId}
 (hl:laidOutB P = true) (hr:∀t∈f.params.toList,P.readableRec t = true∧t < P.types.size) (htb:f.resultTypes = #[tb]) (hub:P.underlying tb = some .bool)
 (hvars:s.vars = []) (hfn:s.fn H ds = { results:=[.lit (.bool true)],args:=ds,vars:=[] })
 (hW:DataW.Whole enc P f.params.toList s.vars apart W args.toList ds gs before) (hb:Below W.heap.size W W') :
 s.post enc P f apart fresh handsOn false W args (.bool true) W':=by
 have hlt:∀p∈before,p.block < W.heap.size:=fun p hp=>hW.lt p hp
 have hW0:=hW
 obtain ⟨p,q,hA,hV,rfl,hz,hn⟩:=hW0
 rw [hvars] at hV
 obtain ⟨rfl,rfl⟩:=trodVars_none hV
 simp only [List.append_nil] at *
 have hres:∀(b:Nat) (sp:Nat→Bool) (hd:Bool),DataW.TrodAll enc P W' b sp hd f.resultTypes.toList ((Value.bool true).resultList f.resultTypes.size) (s.fn H (ds++[])).results []:=by
  intro b sp hd
  rw [htb,List.append_nil,hfn]
  exact trodAll_cons_mk (shut_bool hub _) trodAll_mk0
 have hargs:∀sp:Nat→Bool,(∀x∈p,sp x.block = true)→DataW.TrodAll enc P W' 0 sp true f.params.toList args.toList (s.fn H (ds++[])).args p:=by
  intro sp hsp
  rw [List.append_nil,hfn]
  exact Zi hl hb _ _ _ _ _ hr hlt hsp hA
 have hvs:∀sp:Nat→Bool,DataW.TrodVars enc P W' sp s.vars (s.fn H (ds++[])).vars []:=by
  intro sp
  rw [List.append_nil,hfn,hvars]
  rfl
 have hold:∀x∈p,(fun b=>decide (b < W.heap.size)) x.block = true:=fun x hx=>by simpa using hlt x hx
 refine ⟨ds,[],p,[],p,[],hW,hres _ _ _,hargs _ hold,hvs _,World.keptBut_mono (fun x hx=>⟨hx,by simpa using hx⟩) (hb.frame (·∈p)),fun hag=>by cases hag⟩
end
end Go.Proofs.YtogkjlcoadhpgaaGreat
