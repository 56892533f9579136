/- The frame of every law's proof: if the call returns true and leaves what was there as it was, the given post holds. No condition. -/
import Derived.Test.YtnedlmlpeplnfaaGreatRows
import Derived.WalkKit
import Derived.ProofKit
import Derived.OpenShut
import Derived.Lib.Hide
import Derived.BigQuiet
import Derived.Deep.QuietTactic
import Derived.WalkSpells
import Derived.Deep.DeepFit
import Derived.Deep.AppendLies
import Derived.OwnWalk
import Derived.Deep.Slices
import Derived.Handy
namespace Go.Proofs.YtnedlmlpeplnfaaGreat
open Go.ChangeShapes Go.WideShapes Go.ChangeAt Go.RowKit
theorem I' {P:Prop} (h:P):Hid P:=Lib.hid h
theorem O' {P:Prop} (h:P:=by omega):P:=h
theorem J' {P:Prop} (h:P:=by rfl):P:=h
theorem U' {P:Prop} (h:P:=by kernel_rfl):P:=h
theorem S' {P:Prop} (h:P:=by simp):P:=h
theorem N' {P:Prop} (h:P:=by go_num):P:=h
theorem Y' {P:Prop} (h:P:=by assumption):P:=h
theorem Zaaa {P:Prop} (h:P:=by
 have hlh:lo≤hi:=by have:=hm.out;have:=hb.out;have:=HD.out;omega
 have hhd:hi≤d:=by have:=hm.out;have:=HD.out;omega
 have hhl:hi≤L.length:=by have:=hm.out;have:=HD.out;omega
 have hld:d≤lo+R.length:=by have:=hm.out;have:=hb.out;have:=HD.out;omega
 have Ij:=I' hlo;have Ik:=I' hhi;clear hlo hhi;go_wp2_with fail
 go_loopw [20,21] (fun i j wr=>∃u v i0 j0:Nat,lo≤u∧u≤v∧v≤hi∧i = .int .i64 (i0:Int)∧j = .int .i64 (j0:Int)∧Hid (a+u = i0)∧Hid (a+v = j0)∧Hid (u = lo∨∃x y,L[u - 1]? = some x∧R[d - u]? = some y∧kS cv y x = false)∧Hid (v = hi∨∃x y,L[v]? = some x∧R[d - 1 - v]? = some y∧kS cv y x = true)∧jJ lrow 2 W0 wr b o (P++(L++(R++Q)))) (fun i j _=>(intOf j - intOf i).toNat)
 case atStart =>have e1:=Ij.out;have e2:=Ik.out;have e3:=HD.out;have e4:=hm.out;have e5:=hb.out;exact ⟨lo,hi,a+lo,a+hi,O',O',O',by first | (congr 1;omega) | (congr 1;push_cast;omega),by first | (congr 1;omega) | (congr 1;push_cast;omega),I' rfl,I' rfl,I' (.inl rfl),I' (.inl rfl),h⟩
 case round =>
  obtain ⟨u,v,i0,j0,hlu,huv,hv,rfl,rfl,HI,HJ,HP1,HP2,hS⟩:=hrel;by_cases hlt:u < v
  ·have hij:i0 < j0:=(by have:=HI.out;have:=HJ.out;omega);have hjb:j0≤m:=(by have:=HJ.out;have:=hm.out;omega);have hai:a≤i0:=(by have:=HI.out;omega);obtain ⟨t,ht⟩:∃t:Nat,(i0+j0) / 2 = t:=⟨_,rfl⟩;have hti:i0≤t:=O';have htj:t < j0:=O';obtain ⟨k,hk⟩:∃k,a+k = t:=⟨t - a,O'⟩;have huk:u≤k:=(by have:=HI.out;omega);have hkv:k < v:=(by have:=HJ.out;omega);have hkL:k < L.length:=O';have hkd:k < d:=O';have hkR:d - 1 - k < R.length:=O';obtain ⟨q,hq⟩:∃q:Nat,mid+m - 1 - t = q:=⟨_,rfl⟩;have hqm:m≤q:=(by have:=HD.out;omega);have hqb:q < bb:=(by have:=HD.out;have:=hb.out;omega);have hmd:mid≤bb:=(by have:=HD.out;have:=hm.out;have:=hb.out;omega);have hqq:q - m = d - 1 - k:=(by have:=HD.out;omega);have hL1:L[k]? = some L[k]:=List.getElem?_eq_getElem hkL;have hR1:R[d - 1 - k]? = some R[d - 1 - k]:=List.getElem?_eq_getElem hkR;obtain ⟨x,hx⟩:∃x,L[k] = x:=⟨_,rfl⟩;obtain ⟨y,hy⟩:∃y,R[d - 1 - k] = y:=⟨_,rfl⟩;rw [hx] at hL1;rw [hy] at hR1;have hgx:(P++(L++(R++Q)))[t]? = some x:=by
    rw [List.getElem?_append_right auu,show t - P.length = k by have:=ha.out;omega,List.getElem?_append_left hkL,hL1]
   have MV:(P++(L++(R++Q)))[q]? = some y:=by rw [List.getElem?_append_right auu,List.getElem?_append_right avG,show q - P.length - L.length = d - 1 - k by have:=ha.out;have:=hm.out;omega,List.getElem?_append_left hkR,hR1]
   have qx0:wr.cell? ⟨b,o+t * 2,none⟩ = some (.string x.key):=hS.tab _ x hgx 0 _ rfl;have qx1:wr.cell? ⟨b,o+t * 2+1,none⟩ = some (.string x.value):=hS.tab _ x hgx 1 _ rfl;have qy0:wr.cell? ⟨b,o+q * 2,none⟩ = some (.string y.key):=hS.tab _ y MV 0 _ rfl;have qy1:wr.cell? ⟨b,o+q * 2+1,none⟩ = some (.string y.value):=hS.tab _ y MV 1 _ rfl;have HU:=I' hS.upd;have hbl:b < wr.heap.size:=hS.plain.lt;have HS:=I' hS;have HK:=I' hk;have htI:((i0:Int)+j0) / 2 = t:=O';have hwq:IntKind.i64.wrap ((mid:Int)+m - 1 - t) = (q:Int):=(by rw [IntWalk.i64_in _ O'];omega);have HXY:=I' (And.intro hL1 hR1);clear hS hL1 hR1 MV hgx ht hk hx hy hq hqq;cases hcv:decide (cv y x < 0) with
   | false =>
     go_wp2_with fail
     refine aF wr U' U' (aj _) ?_
     repeat (first
      | (apply aG
         case hw=>rfl
         simp only [Act.put,pz])
      | (apply aH
         case hw=>rfl
         case h =>exact Zac1
         simp only [Act.put,pz]))
     refine aN ?_;intro wn hn;replace hn:=hn.out;go_wp2;refine ⟨⟨k+1,v,t+1,j0,O',O',hv,N',rfl,I' auL,HJ,I' (.inr ⟨x,y,by rw [Nat.add_sub_cancel];exact HXY.out.1,by rw [show d - (k+1) = d - 1 - k by omega];exact HXY.out.2,hcv⟩),HP2,HS.out.ext hn⟩,by simp [intOf];omega⟩
   | true =>
     go_wp2_with fail
     refine aF wr U' U' (aj _) ?_
     repeat (first
      | (apply aG
         case hw=>rfl
         simp only [Act.put,pz])
      | (apply aH
         case hw=>rfl
         case h =>exact Zac1
         simp only [Act.put,pz]))
     refine aN ?_;intro wn hn;replace hn:=hn.out;go_wp2;refine ⟨⟨u,k,i0,t,hlu,O',O',rfl,rfl,HI,HK,HP1,I' (.inr ⟨x,y,HXY.out.1,HXY.out.2,hcv⟩),HS.out.ext hn⟩,by simp [intOf];omega⟩
  ·have aa4:v = u:=O';subst aa4;have hj0:j0 = i0:=(by have:=HI.out;have:=HJ.out;omega);subst hj0;have hvd:v≤d:=O';have hdR:d - v≤R.length:=O'
   obtain ⟨l1,l2,r1,r2,Ob,fJ,LJ,HM⟩:∃l1 l2 r1 r2,Hid (L = l1++l2∧R = r1++r2)∧Hid (l1.length = v∧l2.length+v = L.length∧r1.length+v = d∧r1.length+r2.length = R.length)∧Hid (Sorted (kS cv) l1∧Sorted (kS cv) l2∧Sorted (kS cv) r1∧Sorted (kS cv) r2)∧Hid (fO (kS cv) L R = fO (kS cv) l1 r1++fO (kS cv) l2 r2) :=
    ⟨L.take v,L.drop v,R.take (d - v),R.drop (d - v),I' ⟨(List.take_append_drop ..).symm,(List.take_append_drop ..).symm⟩,I' ⟨by rw [List.length_take];omega,by rw [List.length_drop];omega,by rw [List.length_take];omega,by rw [List.length_take,List.length_drop];omega⟩,
      I' ⟨List.Pairwise.sublist (List.take_sublist ..) HSL.out,List.Pairwise.sublist (List.drop_sublist ..) HSL.out,List.Pairwise.sublist (List.take_sublist ..) HSR.out,List.Pairwise.sublist (List.drop_sublist ..) HSR.out⟩,
      I' (ali HW.out HSL.out HSR.out aoW.out aoX.out hlu hv O' O' HP1.out HP2.out)⟩
   have hS1:jJ lrow 2 W0 wr b o (P++(l1++(l2++(r1++(r2++Q))))):=by have:=hS;rw [Ob.out.1,Ob.out.2] at this;simpa only [List.append_assoc] using this
   obtain ⟨e0,he0⟩:∃e0:Nat,mid+m - j0 = e0:=⟨_,rfl⟩;have HF:=I' (show a+v = j0∧j0≤m∧e0+j0 = mid+m∧e0≤bb∧P.length = a∧a+d = mid∧m≤e0 by have f1:=HI.out;have f2:=hm.out;have f3:=hb.out;have f4:=HD.out;have f5:=ha.out;omega);have hE0:(mid:Int)+m - j0 = e0:=(by have:=HF.out;omega);have hej:e0≤bb:=HF.out.2.2.2.1;have hjm:j0≤m:=HF.out.2.1;clear he0 HP1 HP2 hS;rcases Nat.lt_or_ge v d with aoY | aoY
   ·rcases Nat.eq_zero_or_pos v with hv0 | hv0
    ·rcases Nat.eq_zero_or_pos r2.length with hr2 | hr2
     ·first
       | (exfalso;have e3:=Ij.out;have e4:=Ik.out;have e5:=HD.out;have f1:=HF.out;have f2:=hm.out;have f3:=hb.out;have f4:=fJ.out;omega)
       | (
        have g1:j0 < m:=(by have f1:=HF.out;have f2:=hm.out;have f3:=hb.out;have f4:=fJ.out;omega);have g2:m < e0:=(by have f1:=HF.out;have f2:=hm.out;have f3:=hb.out;have f4:=fJ.out;omega);have g3:j0≤a:=(by have f1:=HF.out;have f2:=hm.out;have f3:=hb.out;have f4:=fJ.out;omega);have g5:mid < e0:=(by have f1:=HF.out;have f2:=hm.out;have f3:=hb.out;have f4:=fJ.out;omega);have g6:bb≤e0:=(by have f1:=HF.out;have f2:=hm.out;have f3:=hb.out;have f4:=fJ.out;omega);go_wp2_with fail
        refine (rotateL_any W0 _ b o c N (P++l1) l2 r1 (r2++Q) j0 m e0 _ auv auc BI (I' auw) (I' atU) (I' atU) atU atU).mono ?_;rintro e w2 ⟨rfl,hS2⟩;replace hS2:jJ lrow 2 W0 w2 b o (P++(l1++(r1++(l2++(r2++Q))))):=(by simpa only [List.append_assoc] using hS2);go_wp2_with fail
        have l1e:l1 = []:=List.eq_nil_of_length_eq_zero atU;have hS3:jJ lrow 2 W0 w2 b o (P++(fO (kS cv) l1 r1++(l2++(r2++Q)))):=(by rw [l1e] at hS2 ⊢;simpa only [ig,List.nil_append] using hS2);have r2e:r2 = []:=List.eq_nil_of_length_eq_zero atU;have hS4:jJ lrow 2 W0 w2 b o (P++(fO (kS cv) l1 r1++(fO (kS cv) l2 r2++Q))):=(by rw [r2e] at hS3 ⊢;simpa only [gZ,List.nil_append] using hS3);go_end0
        refine ⟨rfl,?_⟩;rw [HM.out]
        simpa only [List.append_assoc] using hS4)
     ·first
       | (exfalso;have e3:=Ij.out;have e4:=Ik.out;have e5:=HD.out;have f1:=HF.out;have f2:=hm.out;have f3:=hb.out;have f4:=fJ.out;omega)
       | (
        have g1:j0 < m:=(by have f1:=HF.out;have f2:=hm.out;have f3:=hb.out;have f4:=fJ.out;omega);have g2:m < e0:=(by have f1:=HF.out;have f2:=hm.out;have f3:=hb.out;have f4:=fJ.out;omega);have g3:j0≤a:=(by have f1:=HF.out;have f2:=hm.out;have f3:=hb.out;have f4:=fJ.out;omega);have g5:mid < e0:=(by have f1:=HF.out;have f2:=hm.out;have f3:=hb.out;have f4:=fJ.out;omega);have g6:e0 < bb:=(by have f1:=HF.out;have f2:=hm.out;have f3:=hb.out;have f4:=fJ.out;omega);go_wp2_with fail
        refine (rotateL_any W0 _ b o c N (P++l1) l2 r1 (r2++Q) j0 m e0 _ auv auc BI (I' auw) (I' atU) (I' atU) atU atU).mono ?_;rintro e w2 ⟨rfl,hS2⟩;replace hS2:jJ lrow 2 W0 w2 b o (P++(l1++(r1++(l2++(r2++Q))))):=(by simpa only [List.append_assoc] using hS2);go_wp2_with fail
        have l1e:l1 = []:=List.eq_nil_of_length_eq_zero atU;have hS3:jJ lrow 2 W0 w2 b o (P++(fO (kS cv) l1 r1++(l2++(r2++Q)))):=(by rw [l1e] at hS2 ⊢;simpa only [ig,List.nil_append] using hS2);refine (HIH.out W0 _ b o c N (P++fO (kS cv) l1 r1) l2 r2 Q mid e0 bb cv auM auc BI (I' auN) (I' atU) (I' atU) atU atU HW.out LJ.out.2.1 LJ.out.2.2.2 HC.out auk).mono ?_;rintro e w4 ⟨rfl,hS4⟩;go_wp2;go_end0
        refine ⟨rfl,?_⟩;rw [HM.out]
        simpa only [List.append_assoc] using hS4)
    ·rcases Nat.eq_zero_or_pos l2.length with hl2 | hl2
     ·first
       | (exfalso;have e3:=Ij.out;have e4:=Ik.out;have e5:=HD.out;have f1:=HF.out;have f2:=hm.out;have f3:=hb.out;have f4:=fJ.out;omega)
       | (
        have g1:m≤j0:=(by have f1:=HF.out;have f2:=hm.out;have f3:=hb.out;have f4:=fJ.out;omega);have g3:a < j0:=(by have f1:=HF.out;have f2:=hm.out;have f3:=hb.out;have f4:=fJ.out;omega);have g4:j0 < mid:=(by have f1:=HF.out;have f2:=hm.out;have f3:=hb.out;have f4:=fJ.out;omega);have g5:e0≤mid:=(by have f1:=HF.out;have f2:=hm.out;have f3:=hb.out;have f4:=fJ.out;omega);go_wp2_with fail
        have l2e:l2 = []:=List.eq_nil_of_length_eq_zero atU;have hS2:jJ lrow 2 W0 wr b o (P++(l1++(r1++(l2++(r2++Q))))):=(by rw [l2e] at hS1 ⊢;simpa only [List.append_assoc,List.nil_append] using hS1);refine (HIH.out W0 _ b o c N P l1 r1 (l2++(r2++Q)) a j0 mid cv hS2 auc BI ha (I' atU) (I' atU) atU atU HW.out LJ.out.1 LJ.out.2.2.1 HC.out auk).mono ?_;rintro e w3 ⟨rfl,hS3⟩;go_wp2_with fail
        have hS4:jJ lrow 2 W0 w3 b o (P++(fO (kS cv) l1 r1++(fO (kS cv) l2 r2++Q))):=(by rw [l2e] at hS3 ⊢;simpa only [ig,List.nil_append] using hS3);go_end0
        refine ⟨rfl,?_⟩;rw [HM.out]
        simpa only [List.append_assoc] using hS4)
     ·rcases Nat.eq_zero_or_pos r2.length with hr2 | hr2
      ·first
        | (exfalso;have e3:=Ij.out;have e4:=Ik.out;have e5:=HD.out;have f1:=HF.out;have f2:=hm.out;have f3:=hb.out;have f4:=fJ.out;omega)
        | (
         have g1:j0 < m:=(by have f1:=HF.out;have f2:=hm.out;have f3:=hb.out;have f4:=fJ.out;omega);have g2:m < e0:=(by have f1:=HF.out;have f2:=hm.out;have f3:=hb.out;have f4:=fJ.out;omega);have g3:a < j0:=(by have f1:=HF.out;have f2:=hm.out;have f3:=hb.out;have f4:=fJ.out;omega);have g4:j0 < mid:=(by have f1:=HF.out;have f2:=hm.out;have f3:=hb.out;have f4:=fJ.out;omega);have g5:mid < e0:=(by have f1:=HF.out;have f2:=hm.out;have f3:=hb.out;have f4:=fJ.out;omega);have g6:bb≤e0:=(by have f1:=HF.out;have f2:=hm.out;have f3:=hb.out;have f4:=fJ.out;omega);go_wp2_with fail
         refine (rotateL_any W0 _ b o c N (P++l1) l2 r1 (r2++Q) j0 m e0 _ auv auc BI (I' auw) (I' atU) (I' atU) atU atU).mono ?_;rintro e w2 ⟨rfl,hS2⟩;replace hS2:jJ lrow 2 W0 w2 b o (P++(l1++(r1++(l2++(r2++Q))))):=(by simpa only [List.append_assoc] using hS2);go_wp2_with fail
         refine (HIH.out W0 _ b o c N P l1 r1 (l2++(r2++Q)) a j0 mid cv hS2 auc BI ha (I' atU) (I' atU) atU atU HW.out LJ.out.1 LJ.out.2.2.1 HC.out auk).mono ?_;rintro e w3 ⟨rfl,hS3⟩;go_wp2_with fail
         have r2e:r2 = []:=List.eq_nil_of_length_eq_zero atU;have hS4:jJ lrow 2 W0 w3 b o (P++(fO (kS cv) l1 r1++(fO (kS cv) l2 r2++Q))):=(by rw [r2e] at hS3 ⊢;simpa only [gZ,List.nil_append] using hS3);go_end0
         refine ⟨rfl,?_⟩;rw [HM.out]
         simpa only [List.append_assoc] using hS4)
      ·first
        | (exfalso;have e3:=Ij.out;have e4:=Ik.out;have e5:=HD.out;have f1:=HF.out;have f2:=hm.out;have f3:=hb.out;have f4:=fJ.out;omega)
        | (
         have g1:j0 < m:=(by have f1:=HF.out;have f2:=hm.out;have f3:=hb.out;have f4:=fJ.out;omega);have g2:m < e0:=(by have f1:=HF.out;have f2:=hm.out;have f3:=hb.out;have f4:=fJ.out;omega);have g3:a < j0:=(by have f1:=HF.out;have f2:=hm.out;have f3:=hb.out;have f4:=fJ.out;omega);have g4:j0 < mid:=(by have f1:=HF.out;have f2:=hm.out;have f3:=hb.out;have f4:=fJ.out;omega);have g5:mid < e0:=(by have f1:=HF.out;have f2:=hm.out;have f3:=hb.out;have f4:=fJ.out;omega);have g6:e0 < bb:=(by have f1:=HF.out;have f2:=hm.out;have f3:=hb.out;have f4:=fJ.out;omega);go_wp2_with fail
         refine (rotateL_any W0 _ b o c N (P++l1) l2 r1 (r2++Q) j0 m e0 _ auv auc BI (I' auw) (I' atU) (I' atU) atU atU).mono ?_;rintro e w2 ⟨rfl,hS2⟩;replace hS2:jJ lrow 2 W0 w2 b o (P++(l1++(r1++(l2++(r2++Q))))):=(by simpa only [List.append_assoc] using hS2);go_wp2_with fail
         refine (HIH.out W0 _ b o c N P l1 r1 (l2++(r2++Q)) a j0 mid cv hS2 auc BI ha (I' atU) (I' atU) atU atU HW.out LJ.out.1 LJ.out.2.2.1 HC.out auk).mono ?_;rintro e w3 ⟨rfl,hS3⟩;go_wp2_with fail
         refine (HIH.out W0 _ b o c N (P++fO (kS cv) l1 r1) l2 r2 Q mid e0 bb cv auM auc BI (I' auN) (I' atU) (I' atU) atU atU HW.out LJ.out.2.1 LJ.out.2.2.2 HC.out auk).mono ?_;rintro e w4 ⟨rfl,hS4⟩;go_wp2;go_end0
         refine ⟨rfl,?_⟩;rw [HM.out]
         simpa only [List.append_assoc] using hS4)
   ·rcases Nat.eq_zero_or_pos l2.length with hl2 | hl2
    ·first
      | (exfalso;have e3:=Ij.out;have e4:=Ik.out;have e5:=HD.out;have f1:=HF.out;have f2:=hm.out;have f3:=hb.out;have f4:=fJ.out;omega)
      | (
       have g1:m≤j0:=(by have f1:=HF.out;have f2:=hm.out;have f3:=hb.out;have f4:=fJ.out;omega);have g3:a < j0:=(by have f1:=HF.out;have f2:=hm.out;have f3:=hb.out;have f4:=fJ.out;omega);have g4:mid≤j0:=(by have f1:=HF.out;have f2:=hm.out;have f3:=hb.out;have f4:=fJ.out;omega);have g5:e0≤mid:=(by have f1:=HF.out;have f2:=hm.out;have f3:=hb.out;have f4:=fJ.out;omega);go_wp2_with fail
       have l2e:l2 = []:=List.eq_nil_of_length_eq_zero atU;have hS2:jJ lrow 2 W0 wr b o (P++(l1++(r1++(l2++(r2++Q))))):=(by rw [l2e] at hS1 ⊢;simpa only [List.append_assoc,List.nil_append] using hS1);have r1e:r1 = []:=List.eq_nil_of_length_eq_zero atU;have hS3:jJ lrow 2 W0 wr b o (P++(fO (kS cv) l1 r1++(l2++(r2++Q)))):=(by rw [r1e] at hS2 ⊢;simpa only [gZ,List.nil_append] using hS2);have hS4:jJ lrow 2 W0 wr b o (P++(fO (kS cv) l1 r1++(fO (kS cv) l2 r2++Q))):=(by rw [l2e] at hS3 ⊢;simpa only [ig,List.nil_append] using hS3);go_end0
       refine ⟨rfl,?_⟩;rw [HM.out]
       simpa only [List.append_assoc] using hS4)
    ·first
      | (exfalso;have e3:=Ij.out;have e4:=Ik.out;have e5:=HD.out;have f1:=HF.out;have f2:=hm.out;have f3:=hb.out;have f4:=fJ.out;omega)
      | (
       have g1:j0 < m:=(by have f1:=HF.out;have f2:=hm.out;have f3:=hb.out;have f4:=fJ.out;omega);have g2:e0≤m:=(by have f1:=HF.out;have f2:=hm.out;have f3:=hb.out;have f4:=fJ.out;omega);have g3:a < j0:=(by have f1:=HF.out;have f2:=hm.out;have f3:=hb.out;have f4:=fJ.out;omega);have g4:mid≤j0:=(by have f1:=HF.out;have f2:=hm.out;have f3:=hb.out;have f4:=fJ.out;omega);have g5:mid < e0:=(by have f1:=HF.out;have f2:=hm.out;have f3:=hb.out;have f4:=fJ.out;omega);have g6:e0 < bb:=(by have f1:=HF.out;have f2:=hm.out;have f3:=hb.out;have f4:=fJ.out;omega);go_wp2_with fail
       have r1e:r1 = []:=List.eq_nil_of_length_eq_zero atU;have hS2:jJ lrow 2 W0 wr b o (P++(l1++(r1++(l2++(r2++Q))))):=(by rw [r1e] at hS1 ⊢;simpa only [List.append_assoc,List.nil_append] using hS1);have hS3:jJ lrow 2 W0 wr b o (P++(fO (kS cv) l1 r1++(l2++(r2++Q)))):=(by rw [r1e] at hS2 ⊢;simpa only [gZ,List.nil_append] using hS2);refine (HIH.out W0 _ b o c N (P++fO (kS cv) l1 r1) l2 r2 Q mid e0 bb cv auM auc BI (I' auN) (I' atU) (I' atU) atU atU HW.out LJ.out.2.1 LJ.out.2.2.2 HC.out auk).mono ?_;rintro e w4 ⟨rfl,hS4⟩;go_wp2;go_end0
       refine ⟨rfl,?_⟩;rw [HM.out]
       simpa only [List.append_assoc] using hS4)):P:=h
theorem Zaab {P:Prop} (h:P:=by
 intro HK;have hbx:Below wn.heap.size wn wn.drew:=aA (aj _)
 refine aX 1 _ J' U' (fun _ _ d _ _ h=>by cases d <;> exact h) hbx (Or.inl ⟨rfl,fun wq hq=>by
  have hcq:=(aB hq).1;go_simp
  try rfl⟩) ?_
 try simp only [Act.put,pz]
 refine aX 2 _ J' U' (fun _ _ d _ _ h=>by cases d <;> exact h) hbx (Or.inl ⟨rfl,fun wq hq=>by
  have hcq:=(aB hq).1;go_simp
  try rfl⟩) ?_
 try simp only [Act.put,pz]
 refine aX 3 _ J' U' (fun _ _ d _ _ h=>by cases d <;> exact h) hbx (Or.inl ⟨rfl,fun wq hq=>by
  have hcq:=(aB hq).1;go_simp
  try rfl⟩) ?_
 try simp only [Act.put,pz]
 refine aX 5 _ J' U' (fun _ _ d _ _ h=>by cases d <;> exact h) hbx (Or.inl ⟨rfl,fun wq hq=>by
  have hcq:=(aB hq).1;go_simp
  try rfl⟩) ?_
 try simp only [Act.put,pz]
 refine aX 6 _ J' U' (fun _ _ d _ _ h=>by cases d <;> exact h) hbx (Or.inl ⟨rfl,fun wq hq=>by
  have hcq:=(aB hq).1;go_simp
  try rfl⟩) ?_
 try simp only [Act.put,pz]
 refine aX 7 _ J' U' (fun _ _ d _ _ h=>by cases d <;> exact h) hbx (Or.inl ⟨rfl,fun wq hq=>by
  have hcq:=(aB hq).1;go_simp
  try rfl⟩) ?_
 try simp only [Act.put,pz]
 refine aX 8 _ J' U' (fun _ _ d _ _ h=>by cases d <;> exact h) hbx (Or.inl ⟨rfl,fun wq hq=>by
  have hcq:=(aB hq).1;go_simp
  try rfl⟩) ?_
 try simp only [Act.put,pz]
 refine D7 0 9 J' J' U' J' J' (fun K hK=>?_) (fun K hK=>?_)
 ·go_simp;refine hK _ _ (ak hbx (.cells #[] 89)) ?_;try simp only [Act.put,pz]
  clear hK K;have Qz:=ak hbx (.cells #[] 89);have hrA:=D9 wn.drew 89 4 wn.heap.size rfl;refine D7 4 9 J' J' U' J' J' (fun K hK=>?_) (fun K hK=>?_)
  ·refine qQ elSTolerance _ _ J' (wn.drew.alloc (.cells #[] 89)) wn.heap.size _ 0 [] hrA J' ⟨g,0,none⟩ jj cap ((s1.flatMap vrow)) J' (by rw [rowsLen (row:=vrow) (S:=4) (fun _=>rfl),HJ.out]) (fun q u hu=>(Qz.cell (p:=(⟨g,0,none⟩:Addr).add q) auX).trans (HNC.out q u hu)) (rowsOne vrow_one s1) O' O' auI ?_;intro v5 w5 hown5 hg5 aaQ;have hb5:Below wn.heap.size wn w5:=Below.grown (Qz) hg5 auI (fun q hq=>(hrA.lt q hq).1);refine hK _ _ hb5 ?_;try simp only [Act.put,pz]
   clear hK K;refine bP 9 J' U' J' (fun K hK=>?_);go_simp;refine hK _ _ (ak hb5 (.cells #[.string y.key,.bool y.equal,.string y.value,.int .i64 y.effect] 89)) ?_;try simp only [Act.put,pz]
   clear hK K;have hbB:=ak hb5 (.cells #[.string y.key,.bool y.equal,.string y.value,.int .i64 y.effect] 89);refine bP 10 J' U' J' (fun K hK=>?_);refine qQ elSTolerance _ _ J' (w5.alloc (.cells #[.string y.key,.bool y.equal,.string y.value,.int .i64 y.effect] 89)) wn.heap.size v5 _ _ (mG hown5 (ak (aj _) _)) J' ⟨w5.heap.size,0,none⟩ 1 1 [.string y.key,.bool y.equal,.string y.value,.int .i64 y.effect] J' J' (DI w5 89 [.string y.key,.bool y.equal,.string y.value,.int .i64 y.effect] w5.heap.size rfl) (vrow_one y) O' O' auJ ?_;exact Zadk
  ·go_simp;refine hK _ _ (ak Qz (.cells #[.string y.key,.bool y.equal,.string y.value,.int .i64 y.effect] 89)) ?_;try simp only [Act.put,pz]
   clear hK K;have hbB:=ak Qz (.cells #[.string y.key,.bool y.equal,.string y.value,.int .i64 y.effect] 89);replace hrA:=mG hrA (ak (aj _) (.cells #[.string y.key,.bool y.equal,.string y.value,.int .i64 y.effect] 89));refine bP 4 J' U' J' (fun K hK=>?_);refine qQ elSTolerance _ _ J' ((wn.drew.alloc (.cells #[] 89)).alloc (.cells #[.string y.key,.bool y.equal,.string y.value,.int .i64 y.effect] 89)) wn.heap.size _ 0 [] hrA J' ⟨g,0,none⟩ jj cap ((s1.flatMap vrow)) J' (by rw [rowsLen (row:=vrow) (S:=4) (fun _=>rfl),HJ.out]) (fun q u hu=>(hbB.cell (p:=(⟨g,0,none⟩:Addr).add q) auX).trans (HNC.out q u hu)) (rowsOne vrow_one s1) O' O' auJ ?_;intro v5 w5 hown5 hg5 aaQ;have hb5:Below wn.heap.size wn w5:=Below.grown (hbB) hg5 auJ (fun q hq=>(hrA.lt q hq).1);refine hK _ _ hb5 ?_;try simp only [Act.put,pz]
   clear hK K;refine bP 10 J' U' J' (fun K hK=>?_);refine qQ elSTolerance _ _ J' w5 wn.heap.size v5 _ _ hown5 J' ⟨wn.heap.size+1,0,none⟩ 1 1 [.string y.key,.bool y.equal,.string y.value,.int .i64 y.effect] J' J' (fun q u hu=>(World.cell?_of_block awP).trans ((DI (wn.drew.alloc (.cells #[] 89)) 89 [.string y.key,.bool y.equal,.string y.value,.int .i64 y.effect] (wn.heap.size+1) S') q u hu)) (vrow_one y) O' O' auK ?_;exact Zacz
 ·go_simp;refine hK _ _ (ak hbx (.cells #[.string y.key,.bool y.equal,.string y.value,.int .i64 y.effect] 89)) ?_;try simp only [Act.put,pz]
  clear hK K;have hbB:=ak hbx (.cells #[.string y.key,.bool y.equal,.string y.value,.int .i64 y.effect] 89);refine bP 0 J' U' J' (fun K hK=>?_);go_simp;refine hK _ _ (ak hbB (.cells #[] 89)) ?_;try simp only [Act.put,pz]
  clear hK K;have Qz:=ak hbB (.cells #[] 89);have hrA:=vP (D9 (wn.drew.alloc (.cells #[.string y.key,.bool y.equal,.string y.value,.int .i64 y.effect] 89)) 89 4 (wn.heap.size+1) S') (B':=wn.heap.size) O';refine bP 4 J' U' J' (fun K hK=>?_);refine qQ elSTolerance _ _ J' ((wn.drew.alloc (.cells #[.string y.key,.bool y.equal,.string y.value,.int .i64 y.effect] 89)).alloc (.cells #[] 89)) wn.heap.size _ 0 [] hrA J' ⟨g,0,none⟩ jj cap ((s1.flatMap vrow)) J' (by rw [rowsLen (row:=vrow) (S:=4) (fun _=>rfl),HJ.out]) (fun q u hu=>(Qz.cell (p:=(⟨g,0,none⟩:Addr).add q) auX).trans (HNC.out q u hu)) (rowsOne vrow_one s1) O' O' auI ?_;intro v5 w5 hown5 hg5 aaQ;have hb5:Below wn.heap.size wn w5:=Below.grown (Qz) hg5 auI (fun q hq=>(hrA.lt q hq).1);refine hK _ _ hb5 ?_;try simp only [Act.put,pz]
  clear hK K;refine bP 10 J' U' J' (fun K hK=>?_);refine qQ elSTolerance _ _ J' w5 wn.heap.size v5 _ _ hown5 J' ⟨wn.heap.size,0,none⟩ 1 1 [.string y.key,.bool y.equal,.string y.value,.int .i64 y.effect] J' J' (fun q u hu=>(World.cell?_of_block awQ).trans ((DI wn.drew 89 [.string y.key,.bool y.equal,.string y.value,.int .i64 y.effect] wn.heap.size rfl) q u hu)) (vrow_one y) O' O' auK ?_
  exact Zacz):P:=h
theorem Zaac {P:Prop} (h:P:=by
 intro HK;have hbx:Below wn.heap.size wn wn.drew:=aA (aj _)
 refine aX 1 _ J' U' (fun _ _ d _ _ h=>by cases d <;> exact h) hbx (Or.inl ⟨rfl,fun wq hq=>by
  have hcq:=(aB hq).1;go_simp
  try rfl⟩) ?_
 try simp only [Act.put,pz]
 refine aX 2 _ J' U' (fun _ _ d _ _ h=>by cases d <;> exact h) hbx (Or.inl ⟨rfl,fun wq hq=>by
  have hcq:=(aB hq).1;go_simp
  try rfl⟩) ?_
 try simp only [Act.put,pz]
 refine aX 3 _ J' U' (fun _ _ d _ _ h=>by cases d <;> exact h) hbx (Or.inl ⟨rfl,fun wq hq=>by
  have hcq:=(aB hq).1;go_simp
  try rfl⟩) ?_
 try simp only [Act.put,pz]
 refine aX 5 _ J' U' (fun _ _ d _ _ h=>by cases d <;> exact h) hbx (Or.inl ⟨rfl,fun wq hq=>by
  have hcq:=(aB hq).1;go_simp
  try rfl⟩) ?_
 try simp only [Act.put,pz]
 refine aX 6 _ J' U' (fun _ _ d _ _ h=>by cases d <;> exact h) hbx (Or.inl ⟨rfl,fun wq hq=>by
  have hcq:=(aB hq).1;go_simp
  try rfl⟩) ?_
 try simp only [Act.put,pz]
 refine aX 7 _ J' U' (fun _ _ d _ _ h=>by cases d <;> exact h) hbx (Or.inl ⟨rfl,fun wq hq=>by
  have hcq:=(aB hq).1;go_simp
  try rfl⟩) ?_
 try simp only [Act.put,pz]
 refine aX 8 _ J' U' (fun _ _ d _ _ h=>by cases d <;> exact h) hbx (Or.inl ⟨rfl,fun wq hq=>by
  have hcq:=(aB hq).1;go_simp
  try rfl⟩) ?_
 try simp only [Act.put,pz]
 refine D7 0 9 J' J' U' J' J' (fun K hK=>?_) (fun K hK=>?_)
 ·go_simp;refine hK _ _ (ak hbx (.cells #[] 85)) ?_;try simp only [Act.put,pz]
  clear hK K;have Qz:=ak hbx (.cells #[] 85);have hrA:=D9 wn.drew 85 3 wn.heap.size rfl;refine D7 4 9 J' J' U' J' J' (fun K hK=>?_) (fun K hK=>?_)
  ·refine qQ elSTaint _ _ J' (wn.drew.alloc (.cells #[] 85)) wn.heap.size _ 0 [] hrA J' ⟨g,0,none⟩ jj cap ((s1.flatMap trow)) J' (by rw [rowsLen (row:=trow) (S:=3) (fun _=>rfl),HJ.out]) (fun q u hu=>(Qz.cell (p:=(⟨g,0,none⟩:Addr).add q) auX).trans (HNC.out q u hu)) (rowsOne trow_one s1) O' O' auI ?_;intro v5 w5 hown5 hg5 aaQ;have hb5:Below wn.heap.size wn w5:=Below.grown (Qz) hg5 auI (fun q hq=>(hrA.lt q hq).1);refine hK _ _ hb5 ?_;try simp only [Act.put,pz]
   clear hK K;refine bP 9 J' U' J' (fun K hK=>?_);go_simp;refine hK _ _ (ak hb5 (.cells #[.string y.key,.string y.value,.int .i64 y.effect] 85)) ?_;try simp only [Act.put,pz]
   clear hK K;have hbB:=ak hb5 (.cells #[.string y.key,.string y.value,.int .i64 y.effect] 85);refine bP 10 J' U' J' (fun K hK=>?_);refine qQ elSTaint _ _ J' (w5.alloc (.cells #[.string y.key,.string y.value,.int .i64 y.effect] 85)) wn.heap.size v5 _ _ (mG hown5 (ak (aj _) _)) J' ⟨w5.heap.size,0,none⟩ 1 1 [.string y.key,.string y.value,.int .i64 y.effect] J' J' (DI w5 85 [.string y.key,.string y.value,.int .i64 y.effect] w5.heap.size rfl) (trow_one y) O' O' auJ ?_;exact Zadk
  ·go_simp;refine hK _ _ (ak Qz (.cells #[.string y.key,.string y.value,.int .i64 y.effect] 85)) ?_;try simp only [Act.put,pz]
   clear hK K;have hbB:=ak Qz (.cells #[.string y.key,.string y.value,.int .i64 y.effect] 85);replace hrA:=mG hrA (ak (aj _) (.cells #[.string y.key,.string y.value,.int .i64 y.effect] 85));refine bP 4 J' U' J' (fun K hK=>?_);refine qQ elSTaint _ _ J' ((wn.drew.alloc (.cells #[] 85)).alloc (.cells #[.string y.key,.string y.value,.int .i64 y.effect] 85)) wn.heap.size _ 0 [] hrA J' ⟨g,0,none⟩ jj cap ((s1.flatMap trow)) J' (by rw [rowsLen (row:=trow) (S:=3) (fun _=>rfl),HJ.out]) (fun q u hu=>(hbB.cell (p:=(⟨g,0,none⟩:Addr).add q) auX).trans (HNC.out q u hu)) (rowsOne trow_one s1) O' O' auJ ?_;intro v5 w5 hown5 hg5 aaQ;have hb5:Below wn.heap.size wn w5:=Below.grown (hbB) hg5 auJ (fun q hq=>(hrA.lt q hq).1);refine hK _ _ hb5 ?_;try simp only [Act.put,pz]
   clear hK K;refine bP 10 J' U' J' (fun K hK=>?_);refine qQ elSTaint _ _ J' w5 wn.heap.size v5 _ _ hown5 J' ⟨wn.heap.size+1,0,none⟩ 1 1 [.string y.key,.string y.value,.int .i64 y.effect] J' J' (fun q u hu=>(World.cell?_of_block awP).trans ((DI (wn.drew.alloc (.cells #[] 85)) 85 [.string y.key,.string y.value,.int .i64 y.effect] (wn.heap.size+1) S') q u hu)) (trow_one y) O' O' auK ?_;exact Zacz
 ·go_simp;refine hK _ _ (ak hbx (.cells #[.string y.key,.string y.value,.int .i64 y.effect] 85)) ?_;try simp only [Act.put,pz]
  clear hK K;have hbB:=ak hbx (.cells #[.string y.key,.string y.value,.int .i64 y.effect] 85);refine bP 0 J' U' J' (fun K hK=>?_);go_simp;refine hK _ _ (ak hbB (.cells #[] 85)) ?_;try simp only [Act.put,pz]
  clear hK K;have Qz:=ak hbB (.cells #[] 85);have hrA:=vP (D9 (wn.drew.alloc (.cells #[.string y.key,.string y.value,.int .i64 y.effect] 85)) 85 3 (wn.heap.size+1) S') (B':=wn.heap.size) O';refine bP 4 J' U' J' (fun K hK=>?_);refine qQ elSTaint _ _ J' ((wn.drew.alloc (.cells #[.string y.key,.string y.value,.int .i64 y.effect] 85)).alloc (.cells #[] 85)) wn.heap.size _ 0 [] hrA J' ⟨g,0,none⟩ jj cap ((s1.flatMap trow)) J' (by rw [rowsLen (row:=trow) (S:=3) (fun _=>rfl),HJ.out]) (fun q u hu=>(Qz.cell (p:=(⟨g,0,none⟩:Addr).add q) auX).trans (HNC.out q u hu)) (rowsOne trow_one s1) O' O' auI ?_;intro v5 w5 hown5 hg5 aaQ;have hb5:Below wn.heap.size wn w5:=Below.grown (Qz) hg5 auI (fun q hq=>(hrA.lt q hq).1);refine hK _ _ hb5 ?_;try simp only [Act.put,pz]
  clear hK K;refine bP 10 J' U' J' (fun K hK=>?_);refine qQ elSTaint _ _ J' w5 wn.heap.size v5 _ _ hown5 J' ⟨wn.heap.size,0,none⟩ 1 1 [.string y.key,.string y.value,.int .i64 y.effect] J' J' (fun q u hu=>(World.cell?_of_block awQ).trans ((DI wn.drew 85 [.string y.key,.string y.value,.int .i64 y.effect] wn.heap.size rfl) q u hu)) (trow_one y) O' O' auK ?_
  exact Zacz):P:=h
theorem Zaad {P:Prop} (h:P:=by
 exact Zacz):P:=h
theorem Zaae {P:Prop} (h:P:=by
 intro HK;have hbx:Below wn.heap.size wn wn.drew:=aA (aj _)
 refine aX 1 _ J' U' (fun _ _ d _ _ h=>by cases d <;> exact h) hbx (Or.inl ⟨rfl,fun wq hq=>by
  have hcq:=(aB hq).1;go_simp
  try rfl⟩) ?_
 try simp only [Act.put,pz]
 refine aX 2 _ J' U' (fun _ _ d _ _ h=>by cases d <;> exact h) hbx (Or.inl ⟨rfl,fun wq hq=>by
  have hcq:=(aB hq).1;go_simp
  try rfl⟩) ?_
 try simp only [Act.put,pz]
 refine aX 3 _ J' U' (fun _ _ d _ _ h=>by cases d <;> exact h) hbx (Or.inl ⟨rfl,fun wq hq=>by
  have hcq:=(aB hq).1;go_simp
  try rfl⟩) ?_
 try simp only [Act.put,pz]
 refine aX 5 _ J' U' (fun _ _ d _ _ h=>by cases d <;> exact h) hbx (Or.inl ⟨rfl,fun wq hq=>by
  have hcq:=(aB hq).1;go_simp
  try rfl⟩) ?_
 try simp only [Act.put,pz]
 refine D7 0 6 J' J' U' J' J' (fun K hK=>?_) (fun K hK=>?_)
 ·go_simp;refine hK _ _ (ak hbx (.cells #[] 111)) ?_;try simp only [Act.put,pz]
  clear hK K;have Qz:=ak hbx (.cells #[] 111);have hrA:=D9 wn.drew 111 3 wn.heap.size rfl;refine D7 4 6 J' J' U' J' J' (fun K hK=>?_) (fun K hK=>?_)
  ·refine qQ elSNeed _ _ J' (wn.drew.alloc (.cells #[] 111)) wn.heap.size _ 0 [] hrA J' ⟨g,0,none⟩ jj cap ((ds.take (jj * 3))) J' (by rw [List.length_take,HDL.out];omega) (fun q u hu=>(Qz.cell (p:=(⟨g,0,none⟩:Addr).add q) auX).trans (HNC.out q u hu)) (fun u hu=>HONE.out u (List.mem_of_mem_take hu)) O' O' auI ?_;intro v5 w5 hown5 hg5 aaQ;have hb5:Below wn.heap.size wn w5:=Below.grown (Qz) hg5 auI (fun q hq=>(hrA.lt q hq).1);refine hK _ _ hb5 ?_;try simp only [Act.put,pz]
   clear hK K;refine bP 6 J' U' J' (fun K hK=>?_);go_simp;refine hK _ _ (ak hb5 (.cells #[.string y.key,.int .i64 y.op,.slice Ay y.values.length cy] 111)) ?_;try simp only [Act.put,pz]
   clear hK K;have hbB:=ak hb5 (.cells #[.string y.key,.int .i64 y.op,.slice Ay y.values.length cy] 111);refine bP 7 J' U' J' (fun K hK=>?_);refine qQ elSNeed _ _ J' (w5.alloc (.cells #[.string y.key,.int .i64 y.op,.slice Ay y.values.length cy] 111)) wn.heap.size v5 _ _ (mG hown5 (ak (aj _) _)) J' ⟨w5.heap.size,0,none⟩ 1 1 [.string y.key,.int .i64 y.op,.slice Ay y.values.length cy] J' J' (DI w5 111 [.string y.key,.int .i64 y.op,.slice Ay y.values.length cy] w5.heap.size rfl) HN1.out O' O' auJ ?_;intro v7 w7 nK Ua ab7;rw [show 0+jj = jj by omega,List.nil_append] at nK;obtain ⟨g9,p9,hv7,hgb,hgp,hgl⟩:=wW nK O';subst hv7;have hb7:Below wn.heap.size wn w7:=Below.grown (hbB) Ua auJ (fun q hq=>(hown5.lt q hq).1);exact Zac2
  ·go_simp;refine hK _ _ (ak Qz (.cells #[.string y.key,.int .i64 y.op,.slice Ay y.values.length cy] 111)) ?_;try simp only [Act.put,pz]
   clear hK K;have hbB:=ak Qz (.cells #[.string y.key,.int .i64 y.op,.slice Ay y.values.length cy] 111);replace hrA:=mG hrA (ak (aj _) (.cells #[.string y.key,.int .i64 y.op,.slice Ay y.values.length cy] 111));refine bP 4 J' U' J' (fun K hK=>?_);refine qQ elSNeed _ _ J' ((wn.drew.alloc (.cells #[] 111)).alloc (.cells #[.string y.key,.int .i64 y.op,.slice Ay y.values.length cy] 111)) wn.heap.size _ 0 [] hrA J' ⟨g,0,none⟩ jj cap ((ds.take (jj * 3))) J' (by rw [List.length_take,HDL.out];omega) (fun q u hu=>(hbB.cell (p:=(⟨g,0,none⟩:Addr).add q) auX).trans (HNC.out q u hu)) (fun u hu=>HONE.out u (List.mem_of_mem_take hu)) O' O' auJ ?_;intro v5 w5 hown5 hg5 aaQ;have hb5:Below wn.heap.size wn w5:=Below.grown (hbB) hg5 auJ (fun q hq=>(hrA.lt q hq).1);refine hK _ _ hb5 ?_;try simp only [Act.put,pz]
   clear hK K;refine bP 7 J' U' J' (fun K hK=>?_);refine qQ elSNeed _ _ J' w5 wn.heap.size v5 _ _ hown5 J' ⟨wn.heap.size+1,0,none⟩ 1 1 [.string y.key,.int .i64 y.op,.slice Ay y.values.length cy] J' J' (fun q u hu=>(World.cell?_of_block awP).trans ((DI (wn.drew.alloc (.cells #[] 111)) 111 [.string y.key,.int .i64 y.op,.slice Ay y.values.length cy] (wn.heap.size+1) S') q u hu)) HN1.out O' O' auK ?_;exact Zadm
 ·go_simp;refine hK _ _ (ak hbx (.cells #[.string y.key,.int .i64 y.op,.slice Ay y.values.length cy] 111)) ?_;try simp only [Act.put,pz]
  clear hK K;have hbB:=ak hbx (.cells #[.string y.key,.int .i64 y.op,.slice Ay y.values.length cy] 111);refine bP 0 J' U' J' (fun K hK=>?_);go_simp;refine hK _ _ (ak hbB (.cells #[] 111)) ?_;try simp only [Act.put,pz]
  clear hK K;have Qz:=ak hbB (.cells #[] 111);have hrA:=vP (D9 (wn.drew.alloc (.cells #[.string y.key,.int .i64 y.op,.slice Ay y.values.length cy] 111)) 111 3 (wn.heap.size+1) S') (B':=wn.heap.size) O';refine bP 4 J' U' J' (fun K hK=>?_);refine qQ elSNeed _ _ J' ((wn.drew.alloc (.cells #[.string y.key,.int .i64 y.op,.slice Ay y.values.length cy] 111)).alloc (.cells #[] 111)) wn.heap.size _ 0 [] hrA J' ⟨g,0,none⟩ jj cap ((ds.take (jj * 3))) J' (by rw [List.length_take,HDL.out];omega) (fun q u hu=>(Qz.cell (p:=(⟨g,0,none⟩:Addr).add q) auX).trans (HNC.out q u hu)) (fun u hu=>HONE.out u (List.mem_of_mem_take hu)) O' O' auI ?_;intro v5 w5 hown5 hg5 aaQ;have hb5:Below wn.heap.size wn w5:=Below.grown (Qz) hg5 auI (fun q hq=>(hrA.lt q hq).1);refine hK _ _ hb5 ?_;try simp only [Act.put,pz]
  clear hK K;refine bP 7 J' U' J' (fun K hK=>?_);refine qQ elSNeed _ _ J' w5 wn.heap.size v5 _ _ hown5 J' ⟨wn.heap.size,0,none⟩ 1 1 [.string y.key,.int .i64 y.op,.slice Ay y.values.length cy] J' J' (fun q u hu=>(World.cell?_of_block awQ).trans ((DI wn.drew 111 [.string y.key,.int .i64 y.op,.slice Ay y.values.length cy] wn.heap.size rfl) q u hu)) HN1.out O' O' auK ?_
  exact Zadm):P:=h
theorem Zaaf {P:Prop} (h:P:=by
 exact Zac0):P:=h
theorem Zaag {P:Prop} (h:P:=by
 intro wq hq;have hcq:=(aB hq).1;have lJ:=(aB hq).2;go_simp
 first
  | exact ⟨hq,rfl⟩
  | exact ⟨aQ hq _,rfl⟩
  | (fail)
  | (simp only [↓IntWalk.iteOmega];exact ⟨hq,rfl⟩)):P:=h
theorem Zaah {P:Prop} (h:P:=by
 rw [HK.out];rintro e w2 ⟨rfl,hb2⟩;obtain ⟨hc2,hf2⟩:=ay hb2;have hz2:w.heap.size < w2.heap.size:=by have:=hb2.size;simp at this;omega
 have hq1:w2.cell? ⟨w.heap.size,1,none⟩ = some (.int .i64 x.op):=by rw [hc2 _ _ S',cell_of_row _ _ _ _ _ _ (heap_alloc_new w _)];rfl
 have hq2:w2.cell? ⟨w.heap.size,2,none⟩ = some (.slice jy x.values.length ji):=by rw [hc2 _ _ S',cell_of_row _ _ _ _ _ _ (heap_alloc_new w _)];rfl
 have hB2:Below w.heap.size w w2:=atS;clear hc2 hf2;go_wp2;go_ret
 exact ⟨by rw [HF.out];first | rfl | simp_all,hB2⟩):P:=h
theorem Zaai {P:Prop} (h:P:=by
 have rr:=HS.out.box.lt;go_wp2_with fail
 refine (anU x _ _ v3 (rd_extN HX.out HS.out.below) hl1 hl2 hl3 hv).mono ?_;rintro e w8 ⟨ds8,G8,rfl,sV,hb8⟩;have T8:=HS.out.ext hb8;have SY:=sV;obtain ⟨Alabels9,clabels9,Flabels9,Aneeds9,cneeds9,Fneeds9,Atolerances9,ctolerances9,Ftolerances9,hck9,hF9,hname9,hlabels9,hcpu9,hmem9,hrank9,hneeds9,htolerances9⟩:=dL sV.rd;subst hck9;clear hF9 sV;have r0:=T8.rb.cell (i:=0) (u:=.string ⟨#[]⟩) rfl;have r1:=T8.rb.cell (i:=1) (u:=.slice none 0 0) rfl;have r2:=T8.rb.cell (i:=2) (u:=.int .i64 0) rfl;have r3:=T8.rb.cell (i:=3) (u:=.int .i64 0) rfl;have r4:=T8.rb.cell (i:=4) (u:=.int .i64 0) rfl;have r5:=T8.rb.cell (i:=5) (u:=.slice none 0 0) rfl;have r6:=T8.rb.cell (i:=6) (u:=.slice none 0 0) rfl;have rf:=T8.rb.fz;have rl:=T8.rb.lt;have HO9:=I' SY;have HT8:=I' T8;have hzw:w.heap.size+1 < v3.heap.size:=HS.out.rb.lt;clear SY T8 hb8;go_wp2_with fail
 try dsimp only
 iterate 60 (first | go_step | skip)
 refine bodyPost_ret (v:=.tuple #[.agg #[.string x.name,.slice Alabels9 x.labels.length clabels9,.int .i64 x.cpu,.int .i64 x.mem,.int .i64 x.rank,.slice Aneeds9 x.needs.length cneeds9,.slice Atolerances9 x.tolerances.length ctolerances9],.bool false]) (by simp [results,Tryz.results15,go_sem, *]) rfl ⟨[.string x.name,.slice Alabels9 x.labels.length clabels9,.int .i64 x.cpu,.int .i64 x.mem,.int .i64 x.rank,.slice Aneeds9 x.needs.length cneeds9,.slice Atolerances9 x.tolerances.length ctolerances9],G8,by rw [HRN.out];try rfl,?_,?_⟩
 ·rw [HRN.out];refine Own.mono (B:=v3.heap.size) ?_ O';exact Zac4
 ·exact Zac5):P:=h
theorem Zaaj {P:Prop} (h:P:=by
 have rr:=HS.out.box.lt;go_wp2_with fail
 refine (alS x _ _ v3 (rd_extN HX.out HS.out.below) hl1 hl2 hl3 hv).mono ?_;rintro e w8 ⟨ds8,G8,rfl,sV,hb8⟩;have T8:=HS.out.ext hb8;have SY:=sV;obtain ⟨Alabels9,clabels9,Flabels9,Aneeds9,cneeds9,Fneeds9,Atolerances9,ctolerances9,Ftolerances9,hck9,hF9,hname9,hlabels9,hcpu9,hmem9,hrank9,hneeds9,htolerances9⟩:=dL sV.rd;subst hck9;clear hF9 sV;have r0:=T8.rb.cell (i:=0) (u:=.string ⟨#[]⟩) rfl;have r1:=T8.rb.cell (i:=1) (u:=.slice none 0 0) rfl;have r2:=T8.rb.cell (i:=2) (u:=.int .i64 0) rfl;have r3:=T8.rb.cell (i:=3) (u:=.int .i64 0) rfl;have r4:=T8.rb.cell (i:=4) (u:=.int .i64 0) rfl;have r5:=T8.rb.cell (i:=5) (u:=.slice none 0 0) rfl;have r6:=T8.rb.cell (i:=6) (u:=.slice none 0 0) rfl;have rf:=T8.rb.fz;have rl:=T8.rb.lt;have HO9:=I' SY;have HT8:=I' T8;have hzw:w.heap.size+1 < v3.heap.size:=HS.out.rb.lt;clear SY T8 hb8;go_wp2_with fail
 try dsimp only
 iterate 60 (first | go_step | skip)
 refine bodyPost_ret (v:=.tuple #[.agg #[.string x.name,.slice Alabels9 x.labels.length clabels9,.int .i64 x.cpu,.int .i64 x.mem,.int .i64 x.rank,.slice Aneeds9 x.needs.length cneeds9,.slice Atolerances9 x.tolerances.length ctolerances9],.bool false]) (by simp [results,Tryz.results21,go_sem, *]) rfl ⟨[.string x.name,.slice Alabels9 x.labels.length clabels9,.int .i64 x.cpu,.int .i64 x.mem,.int .i64 x.rank,.slice Aneeds9 x.needs.length cneeds9,.slice Atolerances9 x.tolerances.length ctolerances9],G8,by rw [HRN.out];try rfl,?_,?_⟩
 ·rw [HRN.out];refine Own.mono (B:=v3.heap.size) ?_ O';exact Zac4
 ·exact Zac5):P:=h
theorem Zaak {P:Prop} (h:P:=by
 exact Zac1):P:=h
theorem Zaal {P:Prop} (h:P:=by
 go_wp2_with (first | (go_at_call 48;refine (pI a.labels b.labels _ _ _ _ _ _ _ (jr.ext atS) (dA.ext atS)).mono ?_;rw [LH.out];rintro e w1 ⟨rfl,hb1⟩;obtain ⟨hc1,hf1⟩:=ay hb1;have zO:w.heap.size < w1.heap.size:=(sq hb1.size);have CO:w.heap.size+1 < w1.heap.size:=(sq hb1.size)))
 go_ret
 exact ⟨by rw [HF.out];rfl,atS⟩):P:=h
theorem Zaam {P:Prop} (h:P:=by
 have rr:=HS.out.box.lt;go_wp2_with fail
 refine (alT x _ _ v2 (rd_extN HX.out HS.out.below) hl1 hl2).mono ?_;rintro e w8 ⟨ds8,G8,rfl,sV,hb8⟩;have T8:=HS.out.ext hb8;have SY:=sV;obtain ⟨Alabels9,clabels9,Flabels9,Ataints9,ctaints9,Ftaints9,hck9,hF9,hname9,hlabels9,hcpu9,hmem9,hslots9,htaints9⟩:=iy sV.rd;subst hck9;clear hF9 sV;have r0:=T8.rb.cell (i:=0) (u:=.string ⟨#[]⟩) rfl;have r1:=T8.rb.cell (i:=1) (u:=.slice none 0 0) rfl;have r2:=T8.rb.cell (i:=2) (u:=.int .i64 0) rfl;have r3:=T8.rb.cell (i:=3) (u:=.int .i64 0) rfl;have r4:=T8.rb.cell (i:=4) (u:=.int .i64 0) rfl;have r5:=T8.rb.cell (i:=5) (u:=.slice none 0 0) rfl;have rf:=T8.rb.fz;have rl:=T8.rb.lt;have HO9:=I' SY;have HT8:=I' T8;have hzw:w.heap.size+1 < v2.heap.size:=HS.out.rb.lt;clear SY T8 hb8;go_wp2_with fail
 try dsimp only
 iterate 60 (first | go_step | skip)
 refine bodyPost_ret (v:=.tuple #[.agg #[.string x.name,.slice Alabels9 x.labels.length clabels9,.int .i64 x.cpu,.int .i64 x.mem,.int .i64 x.slots,.slice Ataints9 x.aT.length ctaints9],.bool false]) (by simp [results,Tryz.results17,go_sem, *]) rfl ⟨[.string x.name,.slice Alabels9 x.labels.length clabels9,.int .i64 x.cpu,.int .i64 x.mem,.int .i64 x.slots,.slice Ataints9 x.aT.length ctaints9],G8,by rw [HRN.out];try rfl,?_,?_⟩
 ·rw [HRN.out];refine Own.mono (B:=v2.heap.size) ?_ O';exact Zac4
 ·exact Zac5):P:=h
theorem Zaan {P:Prop} (h:P:=by
 have rr:=HS.out.box.lt;go_wp2_with fail
 refine (ajs x _ _ v2 (rd_extN HX.out HS.out.below) hl1 hl2).mono ?_;rintro e w8 ⟨ds8,G8,rfl,sV,hb8⟩;have T8:=HS.out.ext hb8;have SY:=sV;obtain ⟨Alabels9,clabels9,Flabels9,Ataints9,ctaints9,Ftaints9,hck9,hF9,hname9,hlabels9,hcpu9,hmem9,hslots9,htaints9⟩:=iy sV.rd;subst hck9;clear hF9 sV;have r0:=T8.rb.cell (i:=0) (u:=.string ⟨#[]⟩) rfl;have r1:=T8.rb.cell (i:=1) (u:=.slice none 0 0) rfl;have r2:=T8.rb.cell (i:=2) (u:=.int .i64 0) rfl;have r3:=T8.rb.cell (i:=3) (u:=.int .i64 0) rfl;have r4:=T8.rb.cell (i:=4) (u:=.int .i64 0) rfl;have r5:=T8.rb.cell (i:=5) (u:=.slice none 0 0) rfl;have rf:=T8.rb.fz;have rl:=T8.rb.lt;have HO9:=I' SY;have HT8:=I' T8;have hzw:w.heap.size+1 < v2.heap.size:=HS.out.rb.lt;clear SY T8 hb8;go_wp2_with fail
 try dsimp only
 iterate 60 (first | go_step | skip)
 refine bodyPost_ret (v:=.tuple #[.agg #[.string x.name,.slice Alabels9 x.labels.length clabels9,.int .i64 x.cpu,.int .i64 x.mem,.int .i64 x.slots,.slice Ataints9 x.aT.length ctaints9],.bool false]) (by simp [results,Tryz.results23,go_sem, *]) rfl ⟨[.string x.name,.slice Alabels9 x.labels.length clabels9,.int .i64 x.cpu,.int .i64 x.mem,.int .i64 x.slots,.slice Ataints9 x.aT.length ctaints9],G8,by rw [HRN.out];try rfl,?_,?_⟩
 ·rw [HRN.out];refine Own.mono (B:=v2.heap.size) ?_ O';exact Zac4
 ·exact Zac5):P:=h
theorem Zaao {P:Prop} (h:P:=by
 have n0:(a.name.toList != b.name.toList) = false:=by rw [bne,e0];rfl
 have LH:=I' e1;clear e1;have n2:(a.cpu != b.cpu) = false:=by rw [bne,e2];rfl
 have n3:(a.mem != b.mem) = false:=by rw [bne,e3];rfl
 have n4:(a.rank != b.rank) = false:=by rw [bne,e4];rfl
 have HE5:=I' e5;clear e5;have HE6:=I' e6;clear e6;go_enter Tryz.func22,Tryz.ntmps22;go_wp2_with (first | (go_at_call 48;refine (pI a.labels b.labels _ _ _ _ _ _ _ (jr.ext atS) (dA.ext atS)).mono ?_;rw [LH.out];rintro e w1 ⟨rfl,hb1⟩;obtain ⟨hc1,hf1⟩:=ay hb1;have zO:w.heap.size < w1.heap.size:=(sq hb1.size);have CO:w.heap.size+1 < w1.heap.size:=(sq hb1.size)) | (go_at_call 54;refine (QD a.needs b.needs _ _ _ _ _ _ _ (Bv.ext atS) (iO.ext atS) HVA.out HVB.out).mono ?_;rw [HE5.out];rintro e w5 ⟨rfl,hb5⟩;obtain ⟨hc5,hf5⟩:=ay hb5;have Sm:w.heap.size < w5.heap.size:=(sq hb5.size);have WW:w.heap.size+1 < w5.heap.size:=(sq hb5.size)) | (go_at_call 55;refine (QE a.tolerances b.tolerances _ _ _ _ _ _ _ (qc.ext atS) (bK.ext atS)).mono ?_;rw [HE6.out];rintro e w6 ⟨rfl,hb6⟩;obtain ⟨hc6,Xe⟩:=ay hb6;have al2:w.heap.size < w6.heap.size:=(sq hb6.size);have hz61:w.heap.size+1 < w6.heap.size:=(sq hb6.size)))
 go_ret
 exact ⟨by rw [HF.out];rfl,atS⟩):P:=h
theorem Zaap {P:Prop} (h:P:=by
 have hkl:k = xs.length:=by omega
 have HK:=I' hkl;clear hkl;go_wp2;go_ret
 have h1:=Heq.out;rw [HK.out,List.take_length,HL.out,List.take_length] at h1
 exact ⟨by rw [h1];rfl,hbl⟩):P:=h
theorem Zaaq {P:Prop} (h:P:=by
 intro wq hq;have hcq:=(aB hq).1;have lJ:=(aB hq).2;go_simp
 first
  | exact ⟨hq,rfl⟩
  | exact ⟨aQ hq _,rfl⟩
  | (first | (refine (NOK.out _ aut).mono ?_;rintro e w2 ⟨rfl,hb2⟩;exact ⟨rfl,aI hq hb2⟩) | (refine (CMP.out _ aut).mono ?_;rintro e w2 ⟨rfl,hb2⟩;exact ⟨rfl,aI hq hb2⟩))
  | (simp only [↓IntWalk.iteOmega];exact ⟨hq,rfl⟩)):P:=h
theorem Zaar {P:Prop} (h:P:=by
 have hkp:∀y,y < wn.heap.size→w8.heap[y]? = wn.heap[y]?:=fun y hy=>(hg8.block y O' (fun e=>by have:=(nK.lt y e.symm).1;omega)).trans (hb7.block y hy);have hz8:=hg8.size;obtain ⟨FI,hOI,hFI⟩:=HOCn.out.ins HOYn.out HDJ.out jj (by have:=HSL.out;omega);have hlt8:∀y∈FI,y < wn.heap.size:=fun y hy=>by
  rcases hFI y hy with h9 | h9
  ·exact HOCn.out.lt y h9
  ·exact HOYn.out.lt y h9
 refine ⟨⟨k+1,N+1,g8,p8,_,FI,O',O',N',rfl,I' ?_,I' ?_,I' (vP Le (B':=w.heap.size) HBW.out.size),I' ?_,I' ?_,?_⟩,by simp [intOf];omega⟩
 ·rw [Jf.out,HI.out,insAt_len,HSL.out]
 ·intro j hj hjk2;exact Zadj
 ·rw [Jf.out,HI.out];exact hOI.keep (fun y hy=>hkp y (hlt8 y hy)) O'
 ·exact fun hm=>by have:=hlt8 g8 hm;omega
 ·exact Below.grown (HBW.out.trans (hb7.mono HBW.out.size)) hg8 (by have:=HBW.out.size;omega) (fun q hq=>by have:=(nK.lt q hq).1;have:=HBW.out.size;omega)):P:=h
theorem Zaas {P:Prop} (h:P:=by
 refine aN ?_;intro wn hn;replace hn:=hn.out;go_wp2
 ·rename_i hne;go_ret
  refine ⟨?_,ah hbl hn⟩;rw [nP (k+1) auA HL.out];rfl
 ·rename_i hne
  exact ⟨⟨k+1,O',N',by show _ = _;rw [iC hlt hlt',Heq.out];simpa [eqStr,Am] using hne,ah hbl hn⟩,by simp [intOf];omega⟩):P:=h
theorem Zaat {P:Prop} (h:P:=by
 intro wq hq;have hcq:=(aB hq).1;have lJ:=(aB hq).2;go_simp
 first
  | exact ⟨hq,rfl⟩
  | exact ⟨aQ hq _,rfl⟩
  | ((refine (HARM.out wq hq).mono ?_;rw [HV.out];rintro e wz ⟨rfl,hbz⟩;exact ⟨rfl,aI hq hbz⟩))
  | (simp only [↓IntWalk.iteOmega];exact ⟨hq,rfl⟩)):P:=h
theorem Zaau {P:Prop} (h:P:=by
 have n0:(a.name.toList != b.name.toList) = false:=by rw [bne,e0];rfl
 have LH:=I' e1;clear e1;have n2:(a.cpu != b.cpu) = false:=by rw [bne,e2];rfl
 have n3:(a.mem != b.mem) = false:=by rw [bne,e3];rfl
 have n4:(a.slots != b.slots) = false:=by rw [bne,e4];rfl
 have HE5:=I' e5;clear e5;go_enter Tryz.func20,Tryz.ntmps20;go_wp2_with (first | (go_at_call 48;refine (pI a.labels b.labels _ _ _ _ _ _ _ (jr.ext atS) (dA.ext atS)).mono ?_;rw [LH.out];rintro e w1 ⟨rfl,hb1⟩;obtain ⟨hc1,hf1⟩:=ay hb1;have zO:w.heap.size < w1.heap.size:=(sq hb1.size);have CO:w.heap.size+1 < w1.heap.size:=(sq hb1.size)) | (go_at_call 49;refine (Yr a.aT b.aT _ _ _ _ _ _ _ (yO.ext atS) (Bd.ext atS)).mono ?_;rw [HE5.out];rintro e w5 ⟨rfl,hb5⟩;obtain ⟨hc5,hf5⟩:=ay hb5;have Sm:w.heap.size < w5.heap.size:=(sq hb5.size);have WW:w.heap.size+1 < w5.heap.size:=(sq hb5.size)))
 go_ret
 exact ⟨by rw [HF.out];rfl,atS⟩):P:=h
theorem Zaav {P:Prop} (h:P:=by
 exact Zac4):P:=h
theorem Zaaw {P:Prop} (h:P:=by
 exact Zac5):P:=h
theorem Zaax {P:Prop} (h:P:=by
 intro wq hq;have hcq:=(aB hq).1;have lJ:=(aB hq).2;go_simp
 first
  | exact ⟨hq,rfl⟩
  | exact ⟨aQ hq _,rfl⟩
  | (refine (lW (kk) _ O' O').mono ?_;rintro e w2 ⟨rfl,hb2⟩;exact ⟨rfl,aI hq hb2⟩)
  | (simp only [↓IntWalk.iteOmega];exact ⟨hq,rfl⟩)):P:=h
theorem Zaay {P:Prop} (h:P:=by
 refine aN ?_;intro wn hn;replace hn:=hn.out;go_wp2;refine ⟨⟨s1++[z],s2,jj+1,I' avz,N',I' awS,I' (fun z' hz=>?_),ah hbr hn⟩,by simp [intOf];omega⟩;rcases List.mem_append.1 hz with hz | hz
 ·exact HN.out z' hz
 ·rw [List.mem_singleton.1 hz];exact HL.out):P:=h
theorem Zaaz {P:Prop} (h:P:=by
 simp only [Value.slice.injEq,true_and] at hv3;obtain ⟨hA3,hc3⟩:=hv3;subst hA3 hc3;have HO3:=I' hO3;clear hO3;go_wp2_with fail
 refine HOK.out.mono ?_;rw [HRR.out];rintro e w4 ⟨rfl,hb4⟩;have HB4:=I' hb4;clear hb4;go_wp2;go_ret2
 exact ⟨A2,c2,G3,by rw [HR.out];try rfl,by rw [HR.out];exact (HO3.out.ext HBL.out).ext HB4.out,HBB.out.trans (HB4.out.mono HBB.out.size)⟩):P:=h
theorem Zaa0 {P:Prop} (h:P:=by
 exact (by repeat (first | with_reducible exact hO | with_reducible refine Own.setCell ?_ atX _))):P:=h
theorem Zaa1 {P:Prop} (h:P:=by
 go_wp2;go_ret
 exact ⟨by rw [HF.out];try rfl,aui⟩):P:=h
theorem Zaa2 {P:Prop} (h:P:=by
 rw [HRR.out];rintro e w4 ⟨rfl,hb4⟩;have HB4:=I' hb4;clear hb4;go_wp2;go_ret2
 exact ⟨some ⟨g,0,none⟩,cap,G4,by rw [HR.out,HSL.out];try rfl,by rw [HR.out];exact HO4.out.ext HB4.out,HBB.out.trans (HB4.out.mono HBB.out.size)⟩):P:=h
theorem Zaa3 {P:Prop} (h:P:=by
 obtain ⟨A',c',G,ds,e0,_,_,_,h0⟩:=h;simp only [List.cons.injEq,Value.slice.injEq,and_true,true_and] at e0;rcases h0 with h0 | ⟨b,o,hA,_⟩
 ·exact h0.1
 ·rw [← e0.1] at hA;cases hA):P:=h
theorem Zaa4 {P:Prop} (h:P:=by
 exact (by repeat (first | with_reducible exact hB | with_reducible refine aC ?_ atX _))):P:=h
theorem Zaa5 {P:Prop} (h:P:=by
 rw [HK.out];rintro e w2 ⟨rfl,hb2⟩;obtain ⟨hc2,hf2⟩:=ay hb2;have hz2:w.heap.size < w2.heap.size:=by have:=hb2.size;simp at this;omega
 have hq1:w2.cell? ⟨w.heap.size,1,none⟩ = some (.int .i64 x.op):=by rw [hc2 _ _ S',cell_of_row _ _ _ _ _ _ (heap_alloc_new w _)];rfl
 have hq2:w2.cell? ⟨w.heap.size,2,none⟩ = some (.slice jy x.values.length ji):=by rw [hc2 _ _ S',cell_of_row _ _ _ _ _ _ (heap_alloc_new w _)];rfl
 have hB2:Below w.heap.size w w2:=atS;clear hc2 hf2;have h0i:((x.values.length:Int) == 0) = true:=by simp [H0.out]
 go_wp2;go_ret
 exact ⟨by rw [HF.out];first | rfl | simp_all,hB2⟩):P:=h
theorem Zaa6 {P:Prop} (h:P:=by
 rintro e w5 ⟨A5,c5,F5,rfl,fH,hb5⟩;go_wp2;go_ret2
 exact ⟨A5,c5,F5,by rw [HR.out];try rfl,by rw [HR.out];exact fH.mono HB4.out.size,ah HB4.out hb5⟩):P:=h
theorem Zaa7 {P:Prop} (h:P:=by
 exact Below.grown (ah HBN.out hb7) hg8 awR (fun q hq=>by have:=(nK.lt q hq).1;have:=HBN.out.size;omega)):P:=h
theorem Zaa8 {P:Prop} (h:P:=by
 refine aN ?_;intro wn hn;replace hn:=hn.out;go_wp2
 ·rename_i hne;go_ret
  refine ⟨?_,ah hbl hn⟩;rw [nP (k+1) avD HL.out];rfl
 ·rename_i hne
  exact ⟨⟨k+1,O',N',by show _ = _;rw [iC hlt hlt',Heq.out];simpa using hne,ah hbl hn⟩,by simp [intOf];omega⟩):P:=h
theorem Zaa9 {P:Prop} (h:P:=by
 go_wp2;go_ret
 exact ⟨by rw [HF.out];rfl,atS⟩):P:=h
theorem Zaba {P:Prop} (h:P:=by
 have hkl:k = xs.length:=by omega
 subst hkl;go_wp2;go_ret
 rw [List.take_length] at hO
 exact ⟨_,_,_,rfl,Own.Ep hf hO (Nat.le_refl _) at6,hbl⟩):P:=h
theorem Zabb {P:Prop} (h:P:=by
 intro wq hq;have hcq:=(aB hq).1;have lJ:=(aB hq).2;go_simp
 first
  | exact ⟨hq,rfl⟩
  | exact ⟨aQ hq _,rfl⟩
  | ((refine (TN y z _ _ _ _ wq (aJ HRY.out (ah HBR.out hq)) (aJ HRZ.out (ah HBR.out hq)) HVY.out HVZ.out).mono ?_;rw [HL.out];rintro e wz ⟨rfl,hbz⟩;exact ⟨rfl,aI hq hbz⟩))
  | (simp only [↓IntWalk.iteOmega];exact ⟨hq,rfl⟩)):P:=h
theorem Zabc {P:Prop} (h:P:=by
 intro wq hq;have hcq:=(aB hq).1;have lJ:=(aB hq).2;go_simp
 first
  | exact ⟨hq,rfl⟩
  | exact ⟨aQ hq _,rfl⟩
  | ((refine (aiC z y _ _ _ _ wq (rdTolerance_flat HRD.out HZM.out wq) (rdTolerance_flat HRD.out HYM.out wq)).mono ?_;rw [HL.out];rintro e wz ⟨rfl,hbz⟩;exact ⟨rfl,aI hq hbz⟩))
  | (simp only [↓IntWalk.iteOmega];exact ⟨hq,rfl⟩)):P:=h
theorem Zabd {P:Prop} (h:P:=by
 intro wq hq;have hcq:=(aB hq).1;have lJ:=(aB hq).2;go_simp
 first
  | exact ⟨hq,rfl⟩
  | exact ⟨aQ hq _,rfl⟩
  | ((refine (TN z y _ _ _ _ wq (aJ HRZ.out (ah HBR.out hq)) (aJ HRY.out (ah HBR.out hq)) HVZ.out HVY.out).mono ?_;rw [HL.out];rintro e wz ⟨rfl,hbz⟩;exact ⟨rfl,aI hq hbz⟩))
  | (simp only [↓IntWalk.iteOmega];exact ⟨hq,rfl⟩)):P:=h
theorem Zabe {P:Prop} (h:P:=by
 intro wq hq;have hcq:=(aB hq).1;have lJ:=(aB hq).2;go_simp
 first
  | exact ⟨hq,rfl⟩
  | exact ⟨aQ hq _,rfl⟩
  | ((refine (anf z y _ _ _ _ wq (rdTaint_flat HRD.out HZM.out wq) (rdTaint_flat HRD.out HYM.out wq)).mono ?_;rw [HL.out];rintro e wz ⟨rfl,hbz⟩;exact ⟨rfl,aI hq hbz⟩))
  | (simp only [↓IntWalk.iteOmega];exact ⟨hq,rfl⟩)):P:=h
theorem Zabf {P:Prop} (h:P:=by
 go_wp2
 all_goals
  go_ret
  exact ⟨by first | rfl | simp_all,atS⟩):P:=h
theorem Zabg {P:Prop} (h:P:=by
 rw [HRY.out,HN.out];refine Own.mono (B:=w.heap.size+1+1+1) ?_ O'
 exact (by repeat (first | with_reducible exact HOWN7.out | with_reducible refine Own.setCell ?_ atX _))):P:=h
theorem Zabh {P:Prop} (h:P:=by
 have hkl:i = xs.length:=by omega
 subst hkl;go_wp2;go_ret
 rw [Kt] at hO;simp only [List.take_length]
 exact ⟨rfl,hO,hu⟩):P:=h
theorem Zabi {P:Prop} (h:P:=by
 intro wq hq;have hcq:=(aB hq).1;have lJ:=(aB hq).2;go_simp
 first
  | exact ⟨hq,rfl⟩
  | exact ⟨aQ hq _,rfl⟩
  | (refine outcome_ofK (v:=.bool (!(oP p.x q.x))) ?_ hq;unfold oP;repeat' split;all_goals simp [*])
  | (simp only [↓IntWalk.iteOmega];exact ⟨hq,rfl⟩)):P:=h
theorem Zabj {P:Prop} (h:P:=by
 intro wq hq;have hcq:=(aB hq).1;have lJ:=(aB hq).2;go_simp
 first
  | exact ⟨hq,rfl⟩
  | exact ⟨aQ hq _,rfl⟩
  | (refine outcome_ofK (v:=.bool (!(Aq p.x q.x))) ?_ hq;unfold Aq;repeat' split;all_goals simp [*])
  | (simp only [↓IntWalk.iteOmega];exact ⟨hq,rfl⟩)):P:=h
theorem Zabk {P:Prop} (h:P:=by
 intro wq hq;have hcq:=(aB hq).1;have lJ:=(aB hq).2;go_simp
 first
  | exact ⟨hq,rfl⟩
  | exact ⟨aQ hq _,rfl⟩
  | (refine outcome_ofK (v:=.bool (oP z y)) ?_ hq;unfold oP;repeat' split;all_goals simp [*])
  | (simp only [↓IntWalk.iteOmega];exact ⟨hq,rfl⟩)):P:=h
theorem Zabl {P:Prop} (h:P:=by
 intro wq hq;have hcq:=(aB hq).1;have lJ:=(aB hq).2;go_simp
 first
  | exact ⟨hq,rfl⟩
  | exact ⟨aQ hq _,rfl⟩
  | (refine outcome_ofK (v:=.bool (Aq z y)) ?_ hq;unfold Aq;repeat' split;all_goals simp [*])
  | (simp only [↓IntWalk.iteOmega];exact ⟨hq,rfl⟩)):P:=h
theorem Zabm {P:Prop} (h:P:=by
 rw [Jf.out,HI.out,List.length_append,List.length_cons,HJ.out];have:=HL2.out;omega):P:=h
theorem Zabn {P:Prop} (h:P:=by
 refine Or.inl ⟨rfl,fun wq hq=>?_⟩;obtain ⟨y0,y1,y2,y3,y4,y5,y6,y7,y8,y9,y10,y11,y12,y13⟩:=hq;go_simp
 try rfl):P:=h
theorem Zabo {P:Prop} (h:P:=by
 simp only [Value.slice.injEq,true_and] at hv3;obtain ⟨hA3,hc3⟩:=hv3;subst hA3 hc3;have HO:=I' hO3;clear hO3 hown hrc hrc2;go_wp2;go_ret2
 exact ⟨A2,c2,G3,by rw [HR.out];try rfl,by rw [HR.out];exact HO.out,hb2⟩):P:=h
theorem Zabp {P:Prop} (h:P:=by
 intro wq hq;have hcq:=(aB hq).1;have lJ:=(aB hq).2;go_simp
 first
  | exact ⟨hq,rfl⟩
  | exact ⟨aQ hq _,rfl⟩
  | (refine outcome_ofK (v:=.bool ((oP p.x q.x))) ?_ hq;unfold oP;repeat' split;all_goals simp [*])
  | (simp only [↓IntWalk.iteOmega];exact ⟨hq,rfl⟩)):P:=h
theorem Zabq {P:Prop} (h:P:=by
 intro wq hq;have hcq:=(aB hq).1;have lJ:=(aB hq).2;go_simp
 first
  | exact ⟨hq,rfl⟩
  | exact ⟨aQ hq _,rfl⟩
  | (refine outcome_ofK (v:=.bool ((Aq p.x q.x))) ?_ hq;unfold Aq;repeat' split;all_goals simp [*])
  | (simp only [↓IntWalk.iteOmega];exact ⟨hq,rfl⟩)):P:=h
theorem Zabr {P:Prop} (h:P:=by
 have HF:=I' (agS hlt hb);clear hb;rcases hr with hr | ⟨hr,hr2⟩ | ⟨hr,hr2⟩ | ⟨hr,hr2⟩ | ⟨hr,hr2⟩ | hr
 all_goals
  have hne:((s[k].toNat:Int) != 45) = true:=(by simp;omega);have hne2:((s[k].toNat:Int) == 45) = false:=(by simp;omega);go_wp2
  all_goals first
   | (go_ret;exact ⟨by rw [HF.out];rfl,atS⟩)
   | (exfalso;rename_i hx;simp at hx;omega)):P:=h
theorem Zabs {P:Prop} (h:P:=by
 have hkl:i = xs.length:=by omega
 subst hkl;go_wp2;go_ret
 simp only [List.take_length]
 exact ⟨rfl,hbl⟩):P:=h
theorem Zabt {P:Prop} (h:P:=by
 go_wp2;go_ret
 exact ⟨none,0,[],[],rfl,World.ownsRow_nil w _ _ _,⟨rfl,rfl⟩,(fun b hb=>by cases hb),aj _⟩):P:=h
theorem Zabu {P:Prop} (h:P:=by
 go_wp2
 exact ⟨⟨k+1,N,g,cap,O',O',N',rfl,I' (by rw [Jf.out,HI.out];exact HSL.out),by rw [Jf.out,HI.out];exact mG HROW.out (ah hbr hn),ah HBO.out (ah hbr hn)⟩,by simp [intOf];omega⟩):P:=h
theorem Zabv {P:Prop} (h:P:=by
 have hP:=hO3.push (B':=wr.heap.size) (x:=xs[k]) hO2 hf.lt hO.lt;rw [← List.take_succ_eq_append_getElem hlt] at hP
 (try simp only [List.append_assoc,List.cons_append,List.nil_append] at hF)
 exact ⟨⟨k+1,_,_,O',N',hF,by show _ = _;(simp [hd.out]) <;> omega,hP,aC (aC (aC (ah hbl hb2) (Nat.le_refl _) _) (Nat.le_refl _) _) (Nat.le_refl _) _⟩,by simp [intOf];omega⟩):P:=h
theorem Zabw {P:Prop} (h:P:=by
 intro wq hq;have hcq:=(aB hq).1;have lJ:=(aB hq).2;go_simp
 first
  | exact ⟨hq,rfl⟩
  | exact ⟨aQ hq _,rfl⟩
  | (refine (lW (kk+1) _ O' O').mono ?_;rintro e w2 ⟨rfl,hb2⟩;exact ⟨rfl,aI hq hb2⟩)
  | (simp only [↓IntWalk.iteOmega];exact ⟨hq,rfl⟩)):P:=h
theorem Zabx {P:Prop} (h:P:=by
 rintro e w1 ⟨A1,c1,F1,rfl,jX,hb1⟩;go_wp2;go_ret2
 exact ⟨A1,c1,F1,by rw [HR.out];try rfl,by rw [HR.out];exact jX,hb1⟩):P:=h
theorem Zaby {P:Prop} (h:P:=by
 have HRR:=I' hr;clear hr;go_wp2_with fail
 refine HOK.out.mono ?_;rw [HRR.out];rintro e w4 ⟨rfl,hb4⟩;have HB4:=I' hb4;clear hb4;go_wp2;go_ret2
 exact ⟨A1,c1,F3,by rw [HR.out];try rfl,by rw [HR.out];exact HO3.out.ext HB4.out,HB3.out.trans (HB4.out.mono HB3.out.size)⟩):P:=h
theorem Zabz {P:Prop} (h:P:=by
 go_wp2;go_ret
 exact ⟨by rw [HL.out];rfl,aj _⟩):P:=h
theorem Zab0 {P:Prop} (h:P:=by
 refine ⟨k+1,O',O',Nat.le_refl _,N',hS.ext hn,I' (fun j hj=>?_)⟩;by_cases e:j = k
 ·subst e;rw [HK.out,HV.out];rfl
 ·exact HA.out j O'):P:=h
theorem Zab1 {P:Prop} (h:P:=by
 rw [e]
 exact ⟨g :: D.flatMap El.F,by rw [List.length_map],ht.own R rfl hcap1 hcap2,ht.upd.below (fun b hb=>by rw [List.mem_singleton.1 hb];exact hbg) hB⟩):P:=h
theorem Zab2 {P:Prop} (h:P:=by
 split
 ·rename_i hw;rw [if_pos hw] at h;exact .inl (Oper.wp_mono next h)
 ·rename_i hw;rw [if_neg hw] at h
  exact next _ _ h):P:=h
theorem Zab3 {P:Prop} (h:P:=by
 rw [Bool.eq_iff_iff,decide_eq_true_eq,Wx,ByteArray.toList_eq,ByteArray.toList_eq]):P:=h
theorem Zab4 {P:Prop} (h:P:=by
 have:k = D.length:=by omega
 subst this;have HS:=I' hS;clear hS;go_wp2;go_ret
 exact HF.out wr HS.out HA.out):P:=h
theorem Zab5 {P:Prop} (h:P:=by
 go_wp2
 all_goals
  go_ret
  refine ⟨?_,rfl⟩;refine congrArg (fun b=>Ending.returned (Value.bool b)) ?_;show (_:Bool) = _;unfold GL;rw [Bool.eq_iff_iff];simp only [Bool.or_eq_true,Bool.and_eq_true,decide_eq_true_eq,Bool.false_eq_true,true_iff,false_iff]
  omega):P:=h
theorem Zab6 {P:Prop} (h:P:=by
 exact (by repeat (first | with_reducible exact HS7.out.below | with_reducible refine aC ?_ atX _))):P:=h
theorem Zab7 {P:Prop} (h:P:=by
 rw [J5,← ByteArray.toList_eq,← ByteArray.toList_eq] at e
 simp [e] at h):P:=h
theorem Zab8 {P:Prop} (h:P:=by
 try dsimp only
 refine Own.mono (B:=w.heap.size+1+1) ?_ O';have hO:=HOz.out
 exact (by repeat (first | with_reducible exact hO | with_reducible refine Own.setCell ?_ atX _ | with_reducible refine ownNeM ?_ HGo.out | with_reducible refine Own.alloc ?_ _))):P:=h
theorem Zab9 {P:Prop} (h:P:=by
 have hj:=(List.getElem?_eq_some_iff.1 hu).1;rw [← ht,List.getElem?_take] at hu;split at hu
 ·simpa using hu
 ·cases hu):P:=h
theorem Zaca {P:Prop} (h:P:=by
 have h1:=H.out.lt b (hsub b hb);simp [Value.ownBlock] at e
 omega):P:=h
theorem Zacb {P:Prop} (h:P:=by
 go_wp2;go_ret
 exact ⟨by rw [HF.out];first | rfl | simp_all,hbl⟩):P:=h
theorem Zacc {P:Prop} (h:P:=by
 refine Or.inl ⟨rfl,fun wq hq=>?_⟩;have hcq:=(aB hq).1;go_simp
 try rfl):P:=h
theorem Zacd {P:Prop} (h:P:=by
 have h1:=hall e he hb;have h0:=(mem_ready.1 hr).1;rw [heq] at h1;rcases Nat.lt_or_ge i listed.size with h' | h'
 ·simp [h'] at h0 h1;rw [h0] at h1;cases h1
 ·simp [Array.getElem?_eq_none h'] at h1):P:=h
theorem Zace {P:Prop} (h:P:=by
 rw [Jf.out,HI.out];have:=vP Le (B':=w2.heap.size) HBN.out.size
 simpa only [List.flatMap_append,List.flatMap_cons,List.append_assoc,List.cons_append,List.nil_append,vrow] using this):P:=h
theorem Zacf {P:Prop} (h:P:=by
 rw [Jf.out,HI.out];have:=vP Le (B':=w2.heap.size) HBN.out.size
 simpa only [List.flatMap_append,List.flatMap_cons,List.append_assoc,List.cons_append,List.nil_append,trow] using this):P:=h
theorem Zacg {P:Prop} (h:P:=by
 exact ⟨⟨k+1,O',N',O',by congr 1;omega,ah hbl hb2⟩,by simp [intOf];omega⟩):P:=h
theorem Zach {P:Prop} (h:P:=by
 rw [Jf.out,HI.out];have:=vP Le (B':=w2.heap.size) HBN.out.size
 simpa only [List.flatMap_append,List.flatMap_cons,List.append_assoc,List.cons_append,List.nil_append,lrow] using this):P:=h
theorem Zaci {P:Prop} (h:P:=by
 rw [Jf.out,HI.out];have:=vP Le (B':=w.heap.size) HBN.out.size
 simpa only [List.map_append,List.map_cons,List.map_nil,List.append_assoc,List.cons_append,List.nil_append] using this):P:=h
theorem Zacj {P:Prop} (h:P:=by
 unfold Lib.compareInt;rw [Bool.eq_iff_iff,decide_eq_true_eq,decide_eq_true_eq];repeat' split
 all_goals omega):P:=h
theorem Zack {P:Prop} (h:P:=by
 refine aN ?_;intro wn hn;replace hn:=hn.out;go_wp2
 refine ⟨⟨k+1,v,t+1,j0,O',hv,N',rfl,I' auL,HJ,I' (HY2.out hcv),HN,HS.out.ext hn⟩,by simp [intOf];omega⟩):P:=h
theorem Zacl {P:Prop} (h:P:=by
 refine aN ?_;intro wn hn;replace hn:=hn.out;go_wp2
 refine ⟨⟨u,k,i0,t,O',O',rfl,rfl,HI,HK,HY,I' (Gn.out hcv),HS.out.ext hn⟩,by simp [intOf];omega⟩):P:=h
theorem Zacm {P:Prop} (h:P:=by
 go_wp2;go_ret
 exact ⟨by rw [HN.out];rfl,rfl⟩):P:=h
theorem Zacn {P:Prop} (h:P:=by
 go_wp2;refine bodyPost_ret (results_none rfl _ _ _) rfl ?_;refine ⟨rfl,?_⟩;rw [HM.out]
 simpa only [List.append_assoc,List.cons_append] using hS2):P:=h
theorem Zaco {P:Prop} (h:P:=by
 exact ⟨⟨g,0,none⟩,by simp [hc],rfl,fun q u hu=>by simp at hu⟩):P:=h
theorem Zacp {P:Prop} (h:P:=by
 go_wp2;go_ret
 exact ⟨by rw [HG.out];first | rfl | simp_all,hbl⟩):P:=h
theorem Zacq {P:Prop} (h:P:=by
 go_enter Tryz.func182,Tryz.ntmps182;go_wp2;go_ret
 exact ⟨rfl,rfl⟩):P:=h
theorem Zacr {P:Prop} (h:P:=by
 go_wp2;go_ret
 exact ⟨mQ HF.out.symm,aj _⟩):P:=h
theorem Zacs {P:Prop} (h:P:=by
 simp at h;subst h;rw [List.flatMap_cons,Nat.zero_mul,Nat.zero_add,List.getElem?_append_left (List.getElem?_eq_some_iff.1 hj).1]
 exact hj):P:=h
theorem Zact {P:Prop} (h:P:=by
 go_wp2;go_ret
 exact HF.out w (.start R) (fun j hj=>keepAt_one _ _ j O')):P:=h
theorem Zacu {P:Prop} (h:P:=by
 have hB:=HBz.out
 exact (by repeat (first | with_reducible exact hB | with_reducible refine aC ?_ atX _ | with_reducible refine ak ?_ _))):P:=h
theorem Zacv {P:Prop} (h:P:=by
 rintro e w2 ⟨rfl,hw⟩;rw [hw];clear hw w2;go_wp2;go_ret
 exact ⟨by rw [HF.out];rfl,aj _⟩):P:=h
theorem Zacw {P:Prop} (h:P:=by
 have h1:=hsm x hx;have h2:Need.wt x = x.key.size+kL ByteArray.size x.values:=rfl;have h3:=gJ ByteArray.size x.values
 omega):P:=h
theorem Zacx {P:Prop} (h:P:=by
 intro HK;have hbx:Below wn.heap.size wn wn.drew:=aA (aj _)
 refine aX 1 _ J' U' (fun _ _ d _ _ h=>by cases d <;> exact h) hbx (Or.inl ⟨rfl,fun wq hq=>by
  have hcq:=(aB hq).1;go_simp
  try rfl⟩) ?_
 try simp only [Act.put,pz]
 refine aX 2 _ J' U' (fun _ _ d _ _ h=>by cases d <;> exact h) hbx (Or.inl ⟨rfl,fun wq hq=>by
  have hcq:=(aB hq).1;go_simp
  try rfl⟩) ?_
 try simp only [Act.put,pz]
 refine aX 3 _ J' U' (fun _ _ d _ _ h=>by cases d <;> exact h) hbx (Or.inl ⟨rfl,fun wq hq=>by
  have hcq:=(aB hq).1;go_simp
  try rfl⟩) ?_
 try simp only [Act.put,pz]
 refine aX 5 _ J' U' (fun _ _ d _ _ h=>by cases d <;> exact h) hbx (Or.inl ⟨rfl,fun wq hq=>by
  have hcq:=(aB hq).1;go_simp
  try rfl⟩) ?_
 try simp only [Act.put,pz]
 refine aX 6 _ J' U' (fun _ _ d _ _ h=>by cases d <;> exact h) hbx (Or.inl ⟨rfl,fun wq hq=>by
  have hcq:=(aB hq).1;go_simp
  try rfl⟩) ?_
 try simp only [Act.put,pz]
 refine aX 7 _ J' U' (fun _ _ d _ _ h=>by cases d <;> exact h) hbx (Or.inl ⟨rfl,fun wq hq=>by
  have hcq:=(aB hq).1;go_simp
  try rfl⟩) ?_
 try simp only [Act.put,pz]
 refine aX 8 _ J' U' (fun _ _ d _ _ h=>by cases d <;> exact h) hbx (Or.inl ⟨rfl,fun wq hq=>by
  have hcq:=(aB hq).1;go_simp
  try rfl⟩) ?_
 try simp only [Act.put,pz]
 refine D7 0 9 J' J' U' J' J' (fun K hK=>?_) (fun K hK=>?_)
 ·go_simp;refine hK _ _ (ak hbx (.cells #[] 92)) ?_;try simp only [Act.put,pz]
  clear hK K;have Qz:=ak hbx (.cells #[] 92);have hrA:=D9 wn.drew 92 2 wn.heap.size rfl;refine D7 4 9 J' J' U' J' J' (fun K hK=>?_) (fun K hK=>?_)
  ·refine qQ elSLabel _ _ J' (wn.drew.alloc (.cells #[] 92)) wn.heap.size _ 0 [] hrA J' ⟨g,0,none⟩ jj cap ((s1.flatMap lrow)) J' (by rw [rowsLen (row:=lrow) (S:=2) (fun _=>rfl),HJ.out]) (fun q u hu=>(Qz.cell (p:=(⟨g,0,none⟩:Addr).add q) auX).trans (HNC.out q u hu)) (rowsOne lrow_one s1) O' O' auI ?_;intro v5 w5 hown5 hg5 aaQ;have hb5:Below wn.heap.size wn w5:=Below.grown (Qz) hg5 auI (fun q hq=>(hrA.lt q hq).1);refine hK _ _ hb5 ?_;try simp only [Act.put,pz]
   clear hK K;refine bP 9 J' U' J' (fun K hK=>?_);go_simp;refine hK _ _ (ak hb5 (.cells #[.string y.key,.string y.value] 92)) ?_;try simp only [Act.put,pz]
   clear hK K;have hbB:=ak hb5 (.cells #[.string y.key,.string y.value] 92);refine bP 10 J' U' J' (fun K hK=>?_);refine qQ elSLabel _ _ J' (w5.alloc (.cells #[.string y.key,.string y.value] 92)) wn.heap.size v5 _ _ (mG hown5 (ak (aj _) _)) J' ⟨w5.heap.size,0,none⟩ 1 1 [.string y.key,.string y.value] J' J' (DI w5 92 [.string y.key,.string y.value] w5.heap.size rfl) (lrow_one y) O' O' auJ ?_;exact Zadl
  ·go_simp;refine hK _ _ (ak Qz (.cells #[.string y.key,.string y.value] 92)) ?_;try simp only [Act.put,pz]
   clear hK K;have hbB:=ak Qz (.cells #[.string y.key,.string y.value] 92);replace hrA:=mG hrA (ak (aj _) (.cells #[.string y.key,.string y.value] 92));refine bP 4 J' U' J' (fun K hK=>?_);refine qQ elSLabel _ _ J' ((wn.drew.alloc (.cells #[] 92)).alloc (.cells #[.string y.key,.string y.value] 92)) wn.heap.size _ 0 [] hrA J' ⟨g,0,none⟩ jj cap ((s1.flatMap lrow)) J' (by rw [rowsLen (row:=lrow) (S:=2) (fun _=>rfl),HJ.out]) (fun q u hu=>(hbB.cell (p:=(⟨g,0,none⟩:Addr).add q) auX).trans (HNC.out q u hu)) (rowsOne lrow_one s1) O' O' auJ ?_;intro v5 w5 hown5 hg5 aaQ;have hb5:Below wn.heap.size wn w5:=Below.grown (hbB) hg5 auJ (fun q hq=>(hrA.lt q hq).1);refine hK _ _ hb5 ?_;try simp only [Act.put,pz]
   clear hK K;refine bP 10 J' U' J' (fun K hK=>?_);refine qQ elSLabel _ _ J' w5 wn.heap.size v5 _ _ hown5 J' ⟨wn.heap.size+1,0,none⟩ 1 1 [.string y.key,.string y.value] J' J' (fun q u hu=>(World.cell?_of_block awP).trans ((DI (wn.drew.alloc (.cells #[] 92)) 92 [.string y.key,.string y.value] (wn.heap.size+1) S') q u hu)) (lrow_one y) O' O' auK ?_;exact Zaad
 ·go_simp;refine hK _ _ (ak hbx (.cells #[.string y.key,.string y.value] 92)) ?_;try simp only [Act.put,pz]
  clear hK K;have hbB:=ak hbx (.cells #[.string y.key,.string y.value] 92);refine bP 0 J' U' J' (fun K hK=>?_);go_simp;refine hK _ _ (ak hbB (.cells #[] 92)) ?_;try simp only [Act.put,pz]
  clear hK K;have Qz:=ak hbB (.cells #[] 92);have hrA:=vP (D9 (wn.drew.alloc (.cells #[.string y.key,.string y.value] 92)) 92 2 (wn.heap.size+1) S') (B':=wn.heap.size) O';refine bP 4 J' U' J' (fun K hK=>?_);refine qQ elSLabel _ _ J' ((wn.drew.alloc (.cells #[.string y.key,.string y.value] 92)).alloc (.cells #[] 92)) wn.heap.size _ 0 [] hrA J' ⟨g,0,none⟩ jj cap ((s1.flatMap lrow)) J' (by rw [rowsLen (row:=lrow) (S:=2) (fun _=>rfl),HJ.out]) (fun q u hu=>(Qz.cell (p:=(⟨g,0,none⟩:Addr).add q) auX).trans (HNC.out q u hu)) (rowsOne lrow_one s1) O' O' auI ?_;intro v5 w5 hown5 hg5 aaQ;have hb5:Below wn.heap.size wn w5:=Below.grown (Qz) hg5 auI (fun q hq=>(hrA.lt q hq).1);refine hK _ _ hb5 ?_;try simp only [Act.put,pz]
  clear hK K;refine bP 10 J' U' J' (fun K hK=>?_);refine qQ elSLabel _ _ J' w5 wn.heap.size v5 _ _ hown5 J' ⟨wn.heap.size,0,none⟩ 1 1 [.string y.key,.string y.value] J' J' (fun q u hu=>(World.cell?_of_block awQ).trans ((DI wn.drew 92 [.string y.key,.string y.value] wn.heap.size rfl) q u hu)) (lrow_one y) O' O' auK ?_
  exact Zaad):P:=h
theorem Zacy {P:Prop} (h:P:=by
 intro HK;have hbx:Below wn.heap.size wn wn.drew:=aA (aj _)
 refine aX 1 _ J' U' (fun _ _ d _ _ h=>by cases d <;> exact h) hbx (Or.inl ⟨rfl,fun wq hq=>by
  have hcq:=(aB hq).1;go_simp
  try rfl⟩) ?_
 try simp only [Act.put,pz]
 refine aX 2 _ J' U' (fun _ _ d _ _ h=>by cases d <;> exact h) hbx (Or.inl ⟨rfl,fun wq hq=>by
  have hcq:=(aB hq).1;go_simp
  try rfl⟩) ?_
 try simp only [Act.put,pz]
 refine aX 3 _ J' U' (fun _ _ d _ _ h=>by cases d <;> exact h) hbx (Or.inl ⟨rfl,fun wq hq=>by
  have hcq:=(aB hq).1;go_simp
  try rfl⟩) ?_
 try simp only [Act.put,pz]
 refine aX 5 _ J' U' (fun _ _ d _ _ h=>by cases d <;> exact h) hbx (Or.inl ⟨rfl,fun wq hq=>by
  have hcq:=(aB hq).1;go_simp
  try rfl⟩) ?_
 try simp only [Act.put,pz]
 refine aX 6 _ J' U' (fun _ _ d _ _ h=>by cases d <;> exact h) hbx (Or.inl ⟨rfl,fun wq hq=>by
  have hcq:=(aB hq).1;go_simp
  try rfl⟩) ?_
 try simp only [Act.put,pz]
 refine aX 7 _ J' U' (fun _ _ d _ _ h=>by cases d <;> exact h) hbx (Or.inl ⟨rfl,fun wq hq=>by
  have hcq:=(aB hq).1;go_simp
  try rfl⟩) ?_
 try simp only [Act.put,pz]
 refine aX 8 _ J' U' (fun _ _ d _ _ h=>by cases d <;> exact h) hbx (Or.inl ⟨rfl,fun wq hq=>by
  have hcq:=(aB hq).1;go_simp
  try rfl⟩) ?_
 try simp only [Act.put,pz]
 refine D7 0 9 J' J' U' J' J' (fun K hK=>?_) (fun K hK=>?_)
 ·go_simp;refine hK _ _ (ak hbx (.cells #[] 9)) ?_;try simp only [Act.put,pz]
  clear hK K;have Qz:=ak hbx (.cells #[] 9);have hrA:=D9 wn.drew 9 1 wn.heap.size rfl;refine D7 4 9 J' J' U' J' J' (fun K hK=>?_) (fun K hK=>?_)
  ·refine qQ qw _ _ J' (wn.drew.alloc (.cells #[] 9)) wn.heap.size _ 0 [] hrA J' ⟨g,0,none⟩ jj cap (((s1).map Value.string)) J' auP (fun q u hu=>(Qz.cell (p:=(⟨g,0,none⟩:Addr).add q) auX).trans (HNC.out q u hu)) (fun u hu=>by obtain ⟨z0,_,rfl⟩:=List.mem_map.1 hu;rfl) O' O' auI ?_;intro v5 w5 hown5 hg5 aaQ;have hb5:Below wn.heap.size wn w5:=Below.grown (Qz) hg5 auI (fun q hq=>(hrA.lt q hq).1);refine hK _ _ hb5 ?_;try simp only [Act.put,pz]
   clear hK K;refine bP 9 J' U' J' (fun K hK=>?_);go_simp;refine hK _ _ (ak hb5 (.cells #[.string y] 9)) ?_;try simp only [Act.put,pz]
   clear hK K;have hbB:=ak hb5 (.cells #[.string y] 9);refine bP 10 J' U' J' (fun K hK=>?_);refine qQ qw _ _ J' (w5.alloc (.cells #[.string y] 9)) wn.heap.size v5 _ _ (mG hown5 (ak (aj _) _)) J' ⟨w5.heap.size,0,none⟩ 1 1 [.string y] J' J' (DI w5 9 [.string y] w5.heap.size rfl) (fun u hu=>by rw [List.mem_singleton.1 hu];rfl) O' O' auJ ?_;exact Zadl
  ·go_simp;refine hK _ _ (ak Qz (.cells #[.string y] 9)) ?_;try simp only [Act.put,pz]
   clear hK K;have hbB:=ak Qz (.cells #[.string y] 9);replace hrA:=mG hrA (ak (aj _) (.cells #[.string y] 9));refine bP 4 J' U' J' (fun K hK=>?_);refine qQ qw _ _ J' ((wn.drew.alloc (.cells #[] 9)).alloc (.cells #[.string y] 9)) wn.heap.size _ 0 [] hrA J' ⟨g,0,none⟩ jj cap (((s1).map Value.string)) J' auP (fun q u hu=>(hbB.cell (p:=(⟨g,0,none⟩:Addr).add q) auX).trans (HNC.out q u hu)) (fun u hu=>by obtain ⟨z0,_,rfl⟩:=List.mem_map.1 hu;rfl) O' O' auJ ?_;intro v5 w5 hown5 hg5 aaQ;have hb5:Below wn.heap.size wn w5:=Below.grown (hbB) hg5 auJ (fun q hq=>(hrA.lt q hq).1);refine hK _ _ hb5 ?_;try simp only [Act.put,pz]
   clear hK K;refine bP 10 J' U' J' (fun K hK=>?_);refine qQ qw _ _ J' w5 wn.heap.size v5 _ _ hown5 J' ⟨wn.heap.size+1,0,none⟩ 1 1 [.string y] J' J' (fun q u hu=>(World.cell?_of_block awP).trans ((DI (wn.drew.alloc (.cells #[] 9)) 9 [.string y] (wn.heap.size+1) S') q u hu)) (fun u hu=>by rw [List.mem_singleton.1 hu];rfl) O' O' auK ?_;exact Zaad
 ·go_simp;refine hK _ _ (ak hbx (.cells #[.string y] 9)) ?_;try simp only [Act.put,pz]
  clear hK K;have hbB:=ak hbx (.cells #[.string y] 9);refine bP 0 J' U' J' (fun K hK=>?_);go_simp;refine hK _ _ (ak hbB (.cells #[] 9)) ?_;try simp only [Act.put,pz]
  clear hK K;have Qz:=ak hbB (.cells #[] 9);have hrA:=vP (D9 (wn.drew.alloc (.cells #[.string y] 9)) 9 1 (wn.heap.size+1) S') (B':=wn.heap.size) O';refine bP 4 J' U' J' (fun K hK=>?_);refine qQ qw _ _ J' ((wn.drew.alloc (.cells #[.string y] 9)).alloc (.cells #[] 9)) wn.heap.size _ 0 [] hrA J' ⟨g,0,none⟩ jj cap (((s1).map Value.string)) J' auP (fun q u hu=>(Qz.cell (p:=(⟨g,0,none⟩:Addr).add q) auX).trans (HNC.out q u hu)) (fun u hu=>by obtain ⟨z0,_,rfl⟩:=List.mem_map.1 hu;rfl) O' O' auI ?_;intro v5 w5 hown5 hg5 aaQ;have hb5:Below wn.heap.size wn w5:=Below.grown (Qz) hg5 auI (fun q hq=>(hrA.lt q hq).1);refine hK _ _ hb5 ?_;try simp only [Act.put,pz]
  clear hK K;refine bP 10 J' U' J' (fun K hK=>?_);refine qQ qw _ _ J' w5 wn.heap.size v5 _ _ hown5 J' ⟨wn.heap.size,0,none⟩ 1 1 [.string y] J' J' (fun q u hu=>(World.cell?_of_block awQ).trans ((DI wn.drew 9 [.string y] wn.heap.size rfl) q u hu)) (fun u hu=>by rw [List.mem_singleton.1 hu];rfl) O' O' auK ?_
  exact Zaad):P:=h
theorem Zacz {P:Prop} (h:P:=by
 intro v7 w7 nK Ua ab7;rw [show 0+jj = jj by omega,List.nil_append] at nK;obtain ⟨g9,p9,hv7,hgb,hgp,hgl⟩:=wW nK O';subst hv7;have hb7:Below wn.heap.size wn w7:=Below.grown (hb5) Ua auK (fun q hq=>(hown5.lt q hq).1)
 exact Zadn):P:=h
theorem Zac0 {P:Prop} (h:P:=by
 exact Zadn):P:=h
theorem Zac1 {P:Prop} (h:P:=by
 intro wq hq;have hcq:=(aB hq).1;have lJ:=(aB hq).2;go_simp
 first
  | exact ⟨hq,rfl⟩
  | (refine (HC.out y x _ (HU.out.trans (nN.lq _ hq))).mono ?_;rintro e w2 ⟨rfl,hb2⟩;exact ⟨rfl,aI hq hb2⟩)
  | (simp only [↓IntWalk.iteOmega];exact ⟨hq,rfl⟩)):P:=h
theorem Zac2 {P:Prop} (h:P:=by
 refine hK _ _ hb7 ?_;try simp only [Act.put,pz]
 clear hK K;refine bP 8 J' U' J' (fun K hK=>?_);go_simp;refine hK _ _ hb7 ?_;try simp only [Act.put,pz]
 clear hK K;refine nR U' ?_
 exact HK _ _ ⟨g9,p9,_,_,_,_,_,_,_,aum,hb7,nK⟩):P:=h
theorem Zac3 {P:Prop} (h:P:=by
 go_wp2_with fail
 refine aF wr U' U' (aj _) ?_
 repeat (first
  | (apply aG
     case hw=>rfl
     simp only [Act.put,pz])
  | (apply aH
     case hw=>rfl
     case h =>exact Zaag
     simp only [Act.put,pz]))
 exact Zaay):P:=h
theorem Zac4 {P:Prop} (h:P:=by
 exact (by repeat (first | with_reducible exact HO9.out | with_reducible refine Own.setCell ?_ atX _))):P:=h
theorem Zac5 {P:Prop} (h:P:=by
 exact (by repeat (first | with_reducible exact HT8.out.below | with_reducible refine aC ?_ atX _))):P:=h
theorem Zac6 {P:Prop} (h:P:=by
 try dsimp only
 refine Own.mono (B:=w.heap.size+1+1) ?_ O';have hO:=HO9.out
 exact Zaa0):P:=h
theorem Zac7 {P:Prop} (h:P:=by
 go_enter Tryz.func147,Tryz.ntmps147;go_wp2_with fail
 refine (rX x.key _ hks).mono ?_
 exact Zaah):P:=h
theorem Zac8 {P:Prop} (h:P:=by
 go_enter Tryz.func131,Tryz.ntmps131;go_wp2_with fail
 refine (qK x.key _ hks).mono ?_
 exact Zaah):P:=h
theorem Zac9 {P:Prop} (h:P:=by
 go_wp2_with fail
 refine aF wr U' U' (aj _) ?_
 repeat (first
  | (apply aG
     case hw=>rfl
     simp only [Act.put,pz])
  | (apply aH
     case hw=>rfl
     case h =>exact Zaak
     simp only [Act.put,pz]))
 exact Zack):P:=h
theorem Zada {P:Prop} (h:P:=by
 go_wp2_with fail
 refine aF wr U' U' (aj _) ?_
 repeat (first
  | (apply aG
     case hw=>rfl
     simp only [Act.put,pz])
  | (apply aH
     case hw=>rfl
     case h =>exact Zaak
     simp only [Act.put,pz]))
 exact Zacl):P:=h
theorem Zadb {P:Prop} (h:P:=by
 try dsimp only
 refine Own.mono (B:=w.heap.size+1+1) ?_ O';have hO:=HOz.out
 exact Zaa0):P:=h
theorem Zadc {P:Prop} (h:P:=by
 rw [HRN.out];refine Own.mono (B:=w7.heap.size) ?_ O'
 exact Zaav):P:=h
theorem Zadd {P:Prop} (h:P:=by
 have HRR:=I' hr;clear hr;go_wp2_with fail
 refine HOK.out.mono ?_
 exact Zaa2):P:=h
theorem Zade {P:Prop} (h:P:=by
 refine ⟨⟨k+1,N+1,g8,p8,O',O',N',rfl,I' ?_,?_,?_⟩,by simp [intOf];omega⟩
 ·exact Zabm
 ·exact Zace
 ·exact Zaa7):P:=h
theorem Zadf {P:Prop} (h:P:=by
 refine ⟨⟨k+1,N+1,g8,p8,O',O',N',rfl,I' ?_,?_,?_⟩,by simp [intOf];omega⟩
 ·exact Zabm
 ·exact Zacf
 ·exact Zaa7):P:=h
theorem Zadg {P:Prop} (h:P:=by
 refine ⟨⟨k+1,N+1,g8,p8,O',O',N',rfl,I' ?_,?_,?_⟩,by simp [intOf];omega⟩
 ·exact Zabm
 ·exact Zach
 ·exact Zaa7):P:=h
theorem Zadh {P:Prop} (h:P:=by
 refine ⟨⟨k+1,N+1,g8,p8,O',O',N',rfl,I' ?_,?_,?_⟩,by simp [intOf];omega⟩
 ·exact Zabm
 ·exact Zaci
 ·exact Zaa7):P:=h
theorem Zadi {P:Prop} (h:P:=by
 refine aN ?_;intro wn hn;replace hn:=hn.out;simp only [HQ.out]
 exact Zabu):P:=h
theorem Zadj {P:Prop} (h:P:=by
 rcases Nat.lt_or_ge j k with h9 | h9
 ·exact HW40.out j hj h9
 ·have:j = k:=by omega
  subst this;exact hv40):P:=h
theorem Zadk {P:Prop} (h:P:=by
 intro v7 w7 nK Ua ab7;rw [show 0+jj = jj by omega,List.nil_append] at nK;obtain ⟨g9,p9,hv7,hgb,hgp,hgl⟩:=wW nK O';subst hv7;have hb7:Below wn.heap.size wn w7:=Below.grown (hbB) Ua auJ (fun q hq=>(hown5.lt q hq).1)
 exact Zac0):P:=h
theorem Zadl {P:Prop} (h:P:=by
 intro v7 w7 nK Ua ab7;rw [show 0+jj = jj by omega,List.nil_append] at nK;obtain ⟨g9,p9,hv7,hgb,hgp,hgl⟩:=wW nK O';subst hv7;have hb7:Below wn.heap.size wn w7:=Below.grown (hbB) Ua auJ (fun q hq=>(hown5.lt q hq).1)
 exact Zaaf):P:=h
theorem Zadm {P:Prop} (h:P:=by
 intro v7 w7 nK Ua ab7;rw [show 0+jj = jj by omega,List.nil_append] at nK;obtain ⟨g9,p9,hv7,hgb,hgp,hgl⟩:=wW nK O';subst hv7;have hb7:Below wn.heap.size wn w7:=Below.grown (hb5) Ua auK (fun q hq=>(hown5.lt q hq).1)
 exact Zac2):P:=h
theorem Zadn {P:Prop} (h:P:=by
 refine hK _ _ hb7 ?_;try simp only [Act.put,pz]
 clear hK K;refine bP 11 J' U' J' (fun K hK=>?_);go_simp;refine hK _ _ hb7 ?_;try simp only [Act.put,pz]
 clear hK K;refine nR U' ?_
 exact HK _ _ ⟨g9,p9,_,_,_,_,_,_,_,_,_,_,aum,hb7,nK⟩):P:=h
theorem sq {a b:Nat} (hs:a≤b) {P:Prop} (h:a≤b→P:=by intro this;(try simp at this);omega):P:=h hs
theorem pz:(∀{α:Type} (a:List α) (i:Nat) (v:α),a.toArray.setIfInBounds i v = (a.set i v).toArray)∧(∀{α:Type} (x y:α) (l:List α),(x :: l).set 0 y = y :: l)∧(∀{α:Type} (x y:α) (l:List α) (n:Nat),(x :: l).set (n+1) y = x :: l.set n y):=⟨fun _ _ _=>List.setIfInBounds_toArray ..,fun _ _ _=>rfl,fun _ _ _ _=>rfl⟩
theorem atS {P:Prop} (h:P:=by repeat (first | with_reducible exact aj _ | with_reducible assumption | with_reducible refine ak ?_ _ | with_reducible refine ah ?_ (by assumption))) : P := h
theorem atT {P:Prop} (h:P:=by repeat (first | with_reducible exact aj _ | with_reducible assumption | with_reducible refine ak ?_ _ | with_reducible refine aA ?_ | with_reducible refine ah ?_ (by assumption))) : P := h
theorem atU {P:Prop} (h:P:=by have f1:=HF.out;have f2:=hm.out;have f3:=hb.out;have f4:=fJ.out;omega) : P := h
theorem atX {P:Prop} (h:P:=by dsimp only;omega) : P := h
theorem atY {P:Prop} (h:P:=by first | exact Nat.le_refl _ | (simp;done) | omega | (simp;omega)) : P := h
theorem atZ {P:Prop} (h:P:=by decide +kernel) : P := h
theorem at6 {P:Prop} (h:P:=by unfold maxLen;omega) : P := h
theorem at7 {P:Prop} (h:P:=by simp [hd.out]) : P := h
theorem aua {P:Prop} (h:P:=by simp [World.setCell]) : P := h
theorem aub {P:Prop} (h:P:=by simp [Value.oneCell']) : P := h
theorem auc {P:Prop} (h:P:=by have e1:=HN.out;have e2:=fJ.out;simp only [List.length_append,fU];omega) : P := h
theorem aue {P:Prop} (h:P:=by first | rfl | (simp;rfl)) : P := h
theorem auf {P:Prop} (h:P:=by unfold Func.isWrapper;first | (rw [if_pos atZ];kernel_rfl) | (rw [if_neg atZ];exact ⟨rfl,rfl⟩)) : P := h
theorem aui {P:Prop} (h:P:=by repeat (first | with_reducible exact aj _ | with_reducible assumption | with_reducible refine aC ?_ atX _ | with_reducible refine ak ?_ _ | with_reducible refine aA ?_ | with_reducible refine ah ?_ (by assumption))) : P := h
theorem auj {P:Prop} (h:P:=by first | exact aj _ | assumption) : P := h
theorem auk {P:Prop} (h:P:=by have e3:=HKK.out;have e4:=HD.out;have f1:=HF.out;have f2:=hm.out;have f3:=hb.out;have f4:=fJ.out;omega) : P := h
theorem aum {P:Prop} (h:P:=by simp only [Act.put,pz];rfl) : P := h
theorem aut {P:Prop} (h:P:=by first | exact hq | exact ah (ak (aj _) _) hq) : P := h
theorem auu {P:Prop} (h:P:=by have:=ha.out;omega) : P := h
theorem auv {P:Prop} (h:P:=by simpa only [List.append_assoc] using hS1) : P := h
theorem auw {P:Prop} (h:P:=by rw [List.length_append];have f1:=HF.out;have f2:=hm.out;have f3:=hb.out;have f4:=fJ.out;omega) : P := h
theorem auz {P:Prop} (h:P:=by have:=hd.out;omega) : P := h
theorem auA {P:Prop} (h:P:=by rw [iC hlt hlt',Heq.out];simpa [eqStr,Am] using hne) : P := h
theorem auC {P:Prop} (h:P:=by repeat (first | with_reducible exact aj _ | with_reducible assumption | with_reducible refine ak ?_ _ | with_reducible refine aC ?_ atY _ | with_reducible refine ah ?_ (by assumption))) : P := h
theorem auD {P:Prop} (h:P:=by first | omega | (show _ < _;omega) | (simp;done) | (simp;omega)) : P := h
theorem auF {P:Prop} (h:P:=by simp [madeCells]) : P := h
theorem auG {P:Prop} (h:P:=by unfold I64;omega) : P := h
theorem auI {P:Prop} (h:P:=by have:=(Qz).size;omega) : P := h
theorem auJ {P:Prop} (h:P:=by have:=(hbB).size;omega) : P := h
theorem auK {P:Prop} (h:P:=by have:=(hb5).size;omega) : P := h
theorem auL {P:Prop} (h:P:=by have:=HK.out;omega) : P := h
theorem auM {P:Prop} (h:P:=by simpa only [List.append_assoc] using hS3) : P := h
theorem auN {P:Prop} (h:P:=by rw [List.length_append,fU];have f1:=HF.out;have f2:=hm.out;have f3:=hb.out;have f4:=fJ.out;omega) : P := h
theorem auO {P:Prop} (h:P:=by first | (simp;done) | omega | (simp;omega)) : P := h
theorem auP {P:Prop} (h:P:=by rw [List.length_map,HJ.out,Nat.mul_one]) : P := h
theorem auQ {P:Prop} (h:P:=by first | exact Nat.le_refl _ | (dsimp only;omega)) : P := h
theorem auR {P:Prop} (h:P:=by dsimp only;have:=HS.out.lt;omega) : P := h
theorem auV {P:Prop} (h:P:=by rw [List.length_drop];have:=HN.out;omega) : P := h
theorem auW {P:Prop} (h:P:=by obtain ⟨d0,hs⟩:=fF hA;rw [hs];rfl) : P := h
theorem auX {P:Prop} (h:P:=by rw [Addr.add_lit];exact hgn) : P := h
theorem au1 {P:Prop} (h:P:=by rw [iC hlt hlt',Heq.out,he];rfl) : P := h
theorem au4 {P:Prop} (h:P:=by dsimp only;first | omega | (have:=S2'.lt;omega)) : P := h
theorem au5 {P:Prop} (h:P:=by repeat (first | with_reducible exact HS.out.below | with_reducible refine aC ?_ auQ _)) : P := h
theorem au9 {P:Prop} (h:P:=by rw [Oi hi];exact hlt) : P := h
theorem ava {P:Prop} (h:P:=by show _ = o+i * 3+0;omega) : P := h
theorem avb {P:Prop} (h:P:=by show _ = o+i * 3+1;omega) : P := h
theorem ave {P:Prop} (h:P:=by first | exact hq | exact hq.out | exact ah (ak (aj _) _) hq) : P := h
theorem avf {P:Prop} (h:P:=by simp [Value.ownBlock]) : P := h
theorem avg {P:Prop} (h:P:=by have:=hF y hy;dsimp only;omega) : P := h
theorem avn {P:Prop} (h:P:=by show _ = o+i * 3+2;omega) : P := h
theorem avp {P:Prop} (h:P:=by simpa using h) : P := h
theorem avq {P:Prop} (h:P:=by first | exact Nat.le_refl _ | (simp [World.setCell];done) | (simp [World.setCell];omega)) : P := h
theorem avr {P:Prop} (h:P:=by dsimp only;first | omega | (have:=S3'.lt;omega)) : P := h
theorem avv {P:Prop} (h:P:=by simpa using hi) : P := h
theorem avz {P:Prop} (h:P:=by rw [HE.out];simp) : P := h
theorem avD {P:Prop} (h:P:=by rw [iC hlt hlt',Heq.out];simpa using hne) : P := h
theorem avF {P:Prop} (h:P:=by have:=HS.out;simpa [List.append_assoc] using this) : P := h
theorem avG {P:Prop} (h:P:=by have:=ha.out;have:=hm.out;omega) : P := h
theorem avI {P:Prop} (h:P:=by rw [List.length_take];omega) : P := h
theorem avK {P:Prop} (h:P:=by have:=hbl.size;simp;omega) : P := h
theorem avQ {P:Prop} (h:P:=by rw [List.length_map,HJ.out];omega) : P := h
theorem avR {P:Prop} (h:P:=by have:=hb7.size;omega) : P := h
theorem avU {P:Prop} (h:P:=by have:=hg.size;simpa using this) : P := h
theorem av3 {P:Prop} (h:P:=by dsimp only;first | omega | (have:=S1'.lt;omega)) : P := h
theorem av4 {P:Prop} (h:P:=by repeat (first | with_reducible exact HO1.out | with_reducible refine Own.setCell ?_ auR _)) : P := h
theorem av5 {P:Prop} (h:P:=by repeat (first | with_reducible exact RZ.out | with_reducible refine Own.setCell ?_ auR _)) : P := h
theorem awj {P:Prop} (h:P:=by show _ = o+i * 1+0;omega) : P := h
theorem awm {P:Prop} (h:P:=by show _ = o+i * 2+0;omega) : P := h
theorem awn {P:Prop} (h:P:=by show _ = o+i * 2+1;omega) : P := h
theorem awo {P:Prop} (h:P:=by show _ = o+i * 4+0;omega) : P := h
theorem awp {P:Prop} (h:P:=by show _ = o+i * 4+1;omega) : P := h
theorem awq {P:Prop} (h:P:=by show _ = o+i * 4+2;omega) : P := h
theorem awr {P:Prop} (h:P:=by show _ = o+i * 4+3;omega) : P := h
theorem awy {P:Prop} (h:P:=by rw [h] at hr;cases hr) : P := h
theorem awz {P:Prop} (h:P:=by rw [List.length_drop];omega) : P := h
theorem awC {P:Prop} (h:P:=by rw [hu.out,hv.out];exact Nat.le_refl _) : P := h
theorem awD {P:Prop} (h:P:=by have:=hE.out;simpa [List.append_assoc] using this) : P := h
theorem awE {P:Prop} (h:P:=by rw [HR.out,HST.out,List.append_assoc]) : P := h
theorem awF {P:Prop} (h:P:=by rw [List.append_nil];exact hS) : P := h
theorem awH {P:Prop} (h:P:=by rw [List.length_map];exact hl) : P := h
theorem awI {P:Prop} (h:P:=by repeat (first | with_reducible exact jX | with_reducible refine Own.setCell ?_ auD _ | with_reducible refine Own.ext ?_ (by assumption) | with_reducible refine Own.alloc ?_ _)) : P := h
theorem awO {P:Prop} (h:P:=by first | exact hbor | (dsimp only;omega)) : P := h
theorem awP {P:Prop} (h:P:=by rw [Addr.add_lit];exact hg5.block (wn.heap.size+1) (by simp) avf) : P := h
theorem awQ {P:Prop} (h:P:=by rw [Addr.add_lit];exact (hg5.block wn.heap.size (by simp;omega) avf).trans (heap_alloc_old _ _ (by simp))) : P := h
theorem awR {P:Prop} (h:P:=by have:=HBN.out.size;have:=hb7.size;omega) : P := h
theorem awS {P:Prop} (h:P:=by rw [List.length_append,HJ.out];rfl) : P := h
theorem awT {P:Prop} (h:P:=by rw [List.length_map,HKL.out,Nat.mul_one]) : P := h
theorem awY {P:Prop} (h:P:=by repeat (first | with_reducible exact fH | with_reducible refine Own.setCell ?_ auD _ | with_reducible refine Own.ext ?_ (by assumption) | with_reducible refine Own.alloc ?_ _)) : P := h
theorem awZ {P:Prop} (h:P:=by have:=HW.out;unfold nI.wt at this;omega) : P := h
theorem ay {W w1:World} (hb:Below W.heap.size W w1):(∀b o,b < W.heap.size→w1.cell? ⟨b,o,none⟩ = W.cell? ⟨b,o,none⟩)∧(∀b o,b < W.heap.size→w1.frozen? ⟨b,o,none⟩ = W.frozen? ⟨b,o,none⟩) :=
 ⟨fun b o h=>hb.cell (p:=⟨b,o,none⟩) h,fun b o h=>hb.frozen (p:=⟨b,o,none⟩) h⟩
theorem aj (w:World):Below w.heap.size w w:=Below.refl _ _
theorem ah {w w1 w2:World} (h:Below w.heap.size w w1) (k:Below w1.heap.size w1 w2):Below w.heap.size w w2:=h.trans (k.mono h.size)
theorem ak {w w1:World} (h:Below w.heap.size w w1) (o:Obj):Below w.heap.size w (w1.alloc o):=h.alloc h.size o
theorem aA {w w1:World} (h:Below w.heap.size w w1):Below w.heap.size w w1.drew:=h.drew
theorem aC {w w1:World} (h:Below w.heap.size w w1) {p:Addr} (hp:w.heap.size≤p.block) (u:Value):Below w.heap.size w (w1.setCell p u):=h.setCell hp u
section
variable {H:Type} {enc:TypeId × Value→H} {P:Program}
theorem Zi {W W':World} (hl:laidOutB P = true) (hb:Below W.heap.size W W'):∀(ts:List TypeId) (vs:List Value) (ds:List (DataW H)) (ps:List MemPlace) (sp:Nat→Bool),
 (∀t∈ts,P.readableRec t = true∧t < P.types.size)→(∀x∈ps,x.block < W.heap.size)→(∀x∈ps,sp x.block = true) →
 DataW.TrodAll enc P W 0 (fun _=>true) true ts vs ds ps→DataW.TrodAll enc P W' 0 sp true ts vs ds ps
 | [],[],[],ps,sp,_,_,_,h=>h
 | t :: ts,v :: vs,d :: ds,ps,sp,ht,hlt,hsp,h=>by
   obtain ⟨p,q,h1,h2,rfl⟩:=h;refine ⟨p,q,?_,Zi hl hb ts vs ds q sp (fun t' h'=>ht t' (List.mem_cons_of_mem _ h')) (fun x hx=>hlt x (List.mem_append_right _ hx)) (fun x hx=>hsp x (List.mem_append_right _ hx)) h2,rfl⟩;obtain ⟨hr,hs⟩:=ht t (List.mem_cons_self ..);exact WideElems.Trod_stays hl hr hs h1 (fun x hx=>hb.same (hlt x (List.mem_append_left _ hx))) (fun x hx=>hsp x (List.mem_append_left _ hx))
 | [],_ :: _,_,_,_,_,_,_,h=>by simp [DataW.TrodAll] at h
 | [],[],_ :: _,_,_,_,_,_,h=>by simp [DataW.TrodAll] at h
 | _ :: _,[],_,_,_,_,_,_,h=>by simp [DataW.TrodAll] at h
 | _ :: _,_ :: _,[],_,_,_,_,_,h=>by simp [DataW.TrodAll] at h
theorem nO {f:Func} {s:ChangeSpec} {apart fresh handsOn:Bool} {W W':World} {args:Array Value} {ds gs:List (DataW H)} {before:List MemPlace} {tb:TypeId}
 (hl:laidOutB P = true) (hr:∀t∈f.params.toList,P.readableRec t = true∧t < P.types.size) (htb:f.resultTypes = #[tb]) (hub:P.underlying tb = some .bool)
 (hvars:s.vars = []) (hfn:s.fn H ds = { results:=[.lit (.bool true)],args:=ds,vars:=[] })
 (hW:DataW.Whole enc P f.params.toList s.vars apart W args.toList ds gs before) (hb:Below W.heap.size W W') :
 s.post enc P f apart fresh handsOn false W args (.bool true) W':=by
 have hlt:∀p∈before,p.block < W.heap.size:=fun p hp=>hW.lt p hp;have hW0:=hW;obtain ⟨p,q,hA,hV,rfl,hz,hn⟩:=hW0;rw [hvars] at hV;obtain ⟨rfl,rfl⟩:=trodVars_none hV;simp only [List.append_nil] at *;have hres:∀(b:Nat) (sp:Nat→Bool) (hd:Bool),DataW.TrodAll enc P W' b sp hd f.resultTypes.toList ((Value.bool true).resultList f.resultTypes.size) (s.fn H (ds++[])).results []:=by intro b sp hd;rw [htb,List.append_nil,hfn];exact trodAll_cons_mk (shut_bool hub _) trodAll_mk0
 have hargs:∀sp:Nat→Bool,(∀x∈p,sp x.block = true)→DataW.TrodAll enc P W' 0 sp true f.params.toList args.toList (s.fn H (ds++[])).args p:=by intro sp hsp;rw [List.append_nil,hfn];exact Zi hl hb _ _ _ _ _ hr hlt hsp hA
 have hvs:∀sp:Nat→Bool,DataW.TrodVars enc P W' sp s.vars (s.fn H (ds++[])).vars []:=by intro sp;rw [List.append_nil,hfn,hvars];rfl
 have hold:∀x∈p,(fun b=>decide (b < W.heap.size)) x.block = true:=fun x hx=>by simpa using hlt x hx
 refine ⟨ds,[],p,[],p,[],hW,hres _ _ _,hargs _ hold,hvs _,World.keptBut_mono (fun x hx=>⟨hx,by simpa using hx⟩) (hb.frame (·∈p)),fun hag=>by cases hag⟩
end
end Go.Proofs.YtnedlmlpeplnfaaGreat
