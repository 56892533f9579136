/- The frame of every law's proof: if the call returns true and leaves what was there as it was, the given post holds. No condition. -/
import Derived.Test.YtkbkikggodlbbaaGreatRows
import Derived.WalkKit
import Derived.ProofKit
import Derived.OpenShut
import Derived.Lib.Hide
import Derived.BigQuiet
import Derived.Deep.QuietTactic
import Derived.WalkSpells
import Derived.Deep.DeepFit
import Derived.Deep.AppendLies
import Derived.OwnWalk
import Derived.Deep.Slices
import Derived.Handy
namespace Go.Proofs.YtkbkikggodlbbaaGreat
open Go.ChangeShapes Go.WideShapes Go.ChangeAt Go.RowKit
theorem I' {P:Prop} (h:P):Hid P:=Lib.hid h
theorem O' {P:Prop} (h:P:=by omega):P:=h
theorem J' {P:Prop} (h:P:=by rfl):P:=h
theorem U' {P:Prop} (h:P:=by kernel_rfl):P:=h
theorem S' {P:Prop} (h:P:=by simp):P:=h
theorem N' {P:Prop} (h:P:=by go_num):P:=h
theorem Y' {P:Prop} (h:P:=by assumption):P:=h
theorem Zaaa {P:Prop} (h:P:=by
 have hlh:lo≤hi:=by have:=hm.out;have:=hb.out;have:=HD.out;omega
 have hhd:hi≤d:=by have:=hm.out;have:=HD.out;omega
 have hhl:hi≤L.length:=by have:=hm.out;have:=HD.out;omega
 have hld:d≤lo+R.length:=by have:=hm.out;have:=hb.out;have:=HD.out;omega
 have Ij:=I' hlo;have Ik:=I' hhi;clear hlo hhi;go_wp2_with fail
 go_loopw [20,21] (fun i j wr=>∃u v i0 j0:Nat,lo≤u∧u≤v∧v≤hi∧i = .int .i64 (i0:Int)∧j = .int .i64 (j0:Int)∧Hid (a+u = i0)∧Hid (a+v = j0)∧Hid (u = lo∨∃x y,L[u - 1]? = some x∧R[d - u]? = some y∧kS cv y x = false)∧Hid (v = hi∨∃x y,L[v]? = some x∧R[d - 1 - v]? = some y∧kS cv y x = true)∧jJ lrow 2 W0 wr b o (P++(L++(R++Q)))) (fun i j _=>(intOf j - intOf i).toNat)
 case atStart =>have e1:=Ij.out;have e2:=Ik.out;have e3:=HD.out;have e4:=hm.out;have e5:=hb.out;exact ⟨lo,hi,a+lo,a+hi,O',O',O',by first | (congr 1;omega) | (congr 1;push_cast;omega),by first | (congr 1;omega) | (congr 1;push_cast;omega),I' rfl,I' rfl,I' (.inl rfl),I' (.inl rfl),h⟩
 case round =>
  obtain ⟨u,v,i0,j0,hlu,huv,hv,rfl,rfl,HI,HJ,HP1,HP2,hS⟩:=hrel;by_cases hlt:u < v
  ·have hij:i0 < j0:=(by have:=HI.out;have:=HJ.out;omega);have hjb:j0≤m:=(by have:=HJ.out;have:=hm.out;omega);have hai:a≤i0:=(by have:=HI.out;omega);obtain ⟨t,ht⟩:∃t:Nat,(i0+j0) / 2 = t:=⟨_,rfl⟩;have hti:i0≤t:=O';have htj:t < j0:=O';obtain ⟨k,hk⟩:∃k,a+k = t:=⟨t - a,O'⟩;have huk:u≤k:=(by have:=HI.out;omega);have hkv:k < v:=(by have:=HJ.out;omega);have hkL:k < L.length:=O';have hkd:k < d:=O';have hkR:d - 1 - k < R.length:=O';obtain ⟨q,hq⟩:∃q:Nat,mid+m - 1 - t = q:=⟨_,rfl⟩;have hqm:m≤q:=(by have:=HD.out;omega);have hqb:q < bb:=(by have:=HD.out;have:=hb.out;omega);have hmd:mid≤bb:=(by have:=HD.out;have:=hm.out;have:=hb.out;omega);have hqq:q - m = d - 1 - k:=(by have:=HD.out;omega);have hL1:L[k]? = some L[k]:=List.getElem?_eq_getElem hkL;have hR1:R[d - 1 - k]? = some R[d - 1 - k]:=List.getElem?_eq_getElem hkR;obtain ⟨x,hx⟩:∃x,L[k] = x:=⟨_,rfl⟩;obtain ⟨y,hy⟩:∃y,R[d - 1 - k] = y:=⟨_,rfl⟩;rw [hx] at hL1;rw [hy] at hR1;have hgx:(P++(L++(R++Q)))[t]? = some x:=by
    rw [List.getElem?_append_right auu,show t - P.length = k by have:=ha.out;omega,List.getElem?_append_left hkL,hL1]
   have MV:(P++(L++(R++Q)))[q]? = some y:=by rw [List.getElem?_append_right auu,List.getElem?_append_right avG,show q - P.length - L.length = d - 1 - k by have:=ha.out;have:=hm.out;omega,List.getElem?_append_left hkR,hR1]
   have qx0:wr.cell? ⟨b,o+t * 2,none⟩ = some (.string x.key):=hS.tab _ x hgx 0 _ rfl;have qx1:wr.cell? ⟨b,o+t * 2+1,none⟩ = some (.string x.value):=hS.tab _ x hgx 1 _ rfl;have qy0:wr.cell? ⟨b,o+q * 2,none⟩ = some (.string y.key):=hS.tab _ y MV 0 _ rfl;have qy1:wr.cell? ⟨b,o+q * 2+1,none⟩ = some (.string y.value):=hS.tab _ y MV 1 _ rfl;have HU:=I' hS.upd;have hbl:b < wr.heap.size:=hS.plain.lt;have HS:=I' hS;have HK:=I' hk;have htI:((i0:Int)+j0) / 2 = t:=O';have hwq:IntKind.i64.wrap ((mid:Int)+m - 1 - t) = (q:Int):=(by rw [IntWalk.i64_in _ O'];omega);have HXY:=I' (And.intro hL1 hR1);clear hS hL1 hR1 MV hgx ht hk hx hy hq hqq;cases hcv:decide (cv y x < 0) with
   | false =>
     go_wp2_with fail
     refine aF wr U' U' (aj _) ?_
     repeat (first
      | (apply aG
         case hw=>rfl
         simp only [Act.put,pz])
      | (apply aH
         case hw=>rfl
         case h =>exact Zae2
         simp only [Act.put,pz]))
     refine aN ?_;intro wn hn;replace hn:=hn.out;go_wp2;refine ⟨⟨k+1,v,t+1,j0,O',O',hv,N',rfl,I' auL,HJ,I' (.inr ⟨x,y,by rw [Nat.add_sub_cancel];exact HXY.out.1,by rw [show d - (k+1) = d - 1 - k by omega];exact HXY.out.2,hcv⟩),HP2,HS.out.ext hn⟩,by simp [intOf];omega⟩
   | true =>
     go_wp2_with fail
     refine aF wr U' U' (aj _) ?_
     repeat (first
      | (apply aG
         case hw=>rfl
         simp only [Act.put,pz])
      | (apply aH
         case hw=>rfl
         case h =>exact Zae2
         simp only [Act.put,pz]))
     refine aN ?_;intro wn hn;replace hn:=hn.out;go_wp2;refine ⟨⟨u,k,i0,t,hlu,O',O',rfl,rfl,HI,HK,HP1,I' (.inr ⟨x,y,HXY.out.1,HXY.out.2,hcv⟩),HS.out.ext hn⟩,by simp [intOf];omega⟩
  ·have aa4:v = u:=O';subst aa4;have hj0:j0 = i0:=(by have:=HI.out;have:=HJ.out;omega);subst hj0;have hvd:v≤d:=O';have hdR:d - v≤R.length:=O'
   obtain ⟨l1,l2,r1,r2,Ob,fJ,LJ,HM⟩:∃l1 l2 r1 r2,Hid (L = l1++l2∧R = r1++r2)∧Hid (l1.length = v∧l2.length+v = L.length∧r1.length+v = d∧r1.length+r2.length = R.length)∧Hid (Sorted (kS cv) l1∧Sorted (kS cv) l2∧Sorted (kS cv) r1∧Sorted (kS cv) r2)∧Hid (fO (kS cv) L R = fO (kS cv) l1 r1++fO (kS cv) l2 r2) :=
    ⟨L.take v,L.drop v,R.take (d - v),R.drop (d - v),I' ⟨(List.take_append_drop ..).symm,(List.take_append_drop ..).symm⟩,I' ⟨by rw [List.length_take];omega,by rw [List.length_drop];omega,by rw [List.length_take];omega,by rw [List.length_take,List.length_drop];omega⟩,
      I' ⟨List.Pairwise.sublist (List.take_sublist ..) HSL.out,List.Pairwise.sublist (List.drop_sublist ..) HSL.out,List.Pairwise.sublist (List.take_sublist ..) HSR.out,List.Pairwise.sublist (List.drop_sublist ..) HSR.out⟩,
      I' (ali HW.out HSL.out HSR.out aoW.out aoX.out hlu hv O' O' HP1.out HP2.out)⟩
   have hS1:jJ lrow 2 W0 wr b o (P++(l1++(l2++(r1++(r2++Q))))):=by have:=hS;rw [Ob.out.1,Ob.out.2] at this;simpa only [List.append_assoc] using this
   obtain ⟨e0,he0⟩:∃e0:Nat,mid+m - j0 = e0:=⟨_,rfl⟩;have HF:=I' (show a+v = j0∧j0≤m∧e0+j0 = mid+m∧e0≤bb∧P.length = a∧a+d = mid∧m≤e0 by have f1:=HI.out;have f2:=hm.out;have f3:=hb.out;have f4:=HD.out;have f5:=ha.out;omega);have hE0:(mid:Int)+m - j0 = e0:=(by have:=HF.out;omega);have hej:e0≤bb:=HF.out.2.2.2.1;have hjm:j0≤m:=HF.out.2.1;clear he0 HP1 HP2 hS;rcases Nat.lt_or_ge v d with aoY | aoY
   ·rcases Nat.eq_zero_or_pos v with hv0 | hv0
    ·rcases Nat.eq_zero_or_pos r2.length with hr2 | hr2
     ·first
       | (exfalso;have e3:=Ij.out;have e4:=Ik.out;have e5:=HD.out;have f1:=HF.out;have f2:=hm.out;have f3:=hb.out;have f4:=fJ.out;omega)
       | (
        have g1:j0 < m:=(by have f1:=HF.out;have f2:=hm.out;have f3:=hb.out;have f4:=fJ.out;omega);have g2:m < e0:=(by have f1:=HF.out;have f2:=hm.out;have f3:=hb.out;have f4:=fJ.out;omega);have g3:j0≤a:=(by have f1:=HF.out;have f2:=hm.out;have f3:=hb.out;have f4:=fJ.out;omega);have g5:mid < e0:=(by have f1:=HF.out;have f2:=hm.out;have f3:=hb.out;have f4:=fJ.out;omega);have g6:bb≤e0:=(by have f1:=HF.out;have f2:=hm.out;have f3:=hb.out;have f4:=fJ.out;omega);go_wp2_with fail
        refine (rotateL_any W0 _ b o c N (P++l1) l2 r1 (r2++Q) j0 m e0 _ auv auc BI (I' auw) (I' atU) (I' atU) atU atU).mono ?_;rintro e w2 ⟨rfl,hS2⟩;replace hS2:jJ lrow 2 W0 w2 b o (P++(l1++(r1++(l2++(r2++Q))))):=(by simpa only [List.append_assoc] using hS2);go_wp2_with fail
        have l1e:l1 = []:=List.eq_nil_of_length_eq_zero atU;have hS3:jJ lrow 2 W0 w2 b o (P++(fO (kS cv) l1 r1++(l2++(r2++Q)))):=(by rw [l1e] at hS2 ⊢;simpa only [ig,List.nil_append] using hS2);have r2e:r2 = []:=List.eq_nil_of_length_eq_zero atU;have hS4:jJ lrow 2 W0 w2 b o (P++(fO (kS cv) l1 r1++(fO (kS cv) l2 r2++Q))):=(by rw [r2e] at hS3 ⊢;simpa only [gZ,List.nil_append] using hS3);go_end0
        refine ⟨rfl,?_⟩;rw [HM.out]
        simpa only [List.append_assoc] using hS4)
     ·first
       | (exfalso;have e3:=Ij.out;have e4:=Ik.out;have e5:=HD.out;have f1:=HF.out;have f2:=hm.out;have f3:=hb.out;have f4:=fJ.out;omega)
       | (
        have g1:j0 < m:=(by have f1:=HF.out;have f2:=hm.out;have f3:=hb.out;have f4:=fJ.out;omega);have g2:m < e0:=(by have f1:=HF.out;have f2:=hm.out;have f3:=hb.out;have f4:=fJ.out;omega);have g3:j0≤a:=(by have f1:=HF.out;have f2:=hm.out;have f3:=hb.out;have f4:=fJ.out;omega);have g5:mid < e0:=(by have f1:=HF.out;have f2:=hm.out;have f3:=hb.out;have f4:=fJ.out;omega);have g6:e0 < bb:=(by have f1:=HF.out;have f2:=hm.out;have f3:=hb.out;have f4:=fJ.out;omega);go_wp2_with fail
        refine (rotateL_any W0 _ b o c N (P++l1) l2 r1 (r2++Q) j0 m e0 _ auv auc BI (I' auw) (I' atU) (I' atU) atU atU).mono ?_;rintro e w2 ⟨rfl,hS2⟩;replace hS2:jJ lrow 2 W0 w2 b o (P++(l1++(r1++(l2++(r2++Q))))):=(by simpa only [List.append_assoc] using hS2);go_wp2_with fail
        have l1e:l1 = []:=List.eq_nil_of_length_eq_zero atU;have hS3:jJ lrow 2 W0 w2 b o (P++(fO (kS cv) l1 r1++(l2++(r2++Q)))):=(by rw [l1e] at hS2 ⊢;simpa only [ig,List.nil_append] using hS2);refine (HIH.out W0 _ b o c N (P++fO (kS cv) l1 r1) l2 r2 Q mid e0 bb cv auM auc BI (I' auN) (I' atU) (I' atU) atU atU HW.out LJ.out.2.1 LJ.out.2.2.2 HC.out auk).mono ?_;rintro e w4 ⟨rfl,hS4⟩;go_wp2;go_end0
        refine ⟨rfl,?_⟩;rw [HM.out]
        simpa only [List.append_assoc] using hS4)
    ·rcases Nat.eq_zero_or_pos l2.length with hl2 | hl2
     ·first
       | (exfalso;have e3:=Ij.out;have e4:=Ik.out;have e5:=HD.out;have f1:=HF.out;have f2:=hm.out;have f3:=hb.out;have f4:=fJ.out;omega)
       | (
        have g1:m≤j0:=(by have f1:=HF.out;have f2:=hm.out;have f3:=hb.out;have f4:=fJ.out;omega);have g3:a < j0:=(by have f1:=HF.out;have f2:=hm.out;have f3:=hb.out;have f4:=fJ.out;omega);have g4:j0 < mid:=(by have f1:=HF.out;have f2:=hm.out;have f3:=hb.out;have f4:=fJ.out;omega);have g5:e0≤mid:=(by have f1:=HF.out;have f2:=hm.out;have f3:=hb.out;have f4:=fJ.out;omega);go_wp2_with fail
        have l2e:l2 = []:=List.eq_nil_of_length_eq_zero atU;have hS2:jJ lrow 2 W0 wr b o (P++(l1++(r1++(l2++(r2++Q))))):=(by rw [l2e] at hS1 ⊢;simpa only [List.append_assoc,List.nil_append] using hS1);refine (HIH.out W0 _ b o c N P l1 r1 (l2++(r2++Q)) a j0 mid cv hS2 auc BI ha (I' atU) (I' atU) atU atU HW.out LJ.out.1 LJ.out.2.2.1 HC.out auk).mono ?_;rintro e w3 ⟨rfl,hS3⟩;go_wp2_with fail
        have hS4:jJ lrow 2 W0 w3 b o (P++(fO (kS cv) l1 r1++(fO (kS cv) l2 r2++Q))):=(by rw [l2e] at hS3 ⊢;simpa only [ig,List.nil_append] using hS3);go_end0
        refine ⟨rfl,?_⟩;rw [HM.out]
        simpa only [List.append_assoc] using hS4)
     ·rcases Nat.eq_zero_or_pos r2.length with hr2 | hr2
      ·first
        | (exfalso;have e3:=Ij.out;have e4:=Ik.out;have e5:=HD.out;have f1:=HF.out;have f2:=hm.out;have f3:=hb.out;have f4:=fJ.out;omega)
        | (
         have g1:j0 < m:=(by have f1:=HF.out;have f2:=hm.out;have f3:=hb.out;have f4:=fJ.out;omega);have g2:m < e0:=(by have f1:=HF.out;have f2:=hm.out;have f3:=hb.out;have f4:=fJ.out;omega);have g3:a < j0:=(by have f1:=HF.out;have f2:=hm.out;have f3:=hb.out;have f4:=fJ.out;omega);have g4:j0 < mid:=(by have f1:=HF.out;have f2:=hm.out;have f3:=hb.out;have f4:=fJ.out;omega);have g5:mid < e0:=(by have f1:=HF.out;have f2:=hm.out;have f3:=hb.out;have f4:=fJ.out;omega);have g6:bb≤e0:=(by have f1:=HF.out;have f2:=hm.out;have f3:=hb.out;have f4:=fJ.out;omega);go_wp2_with fail
         refine (rotateL_any W0 _ b o c N (P++l1) l2 r1 (r2++Q) j0 m e0 _ auv auc BI (I' auw) (I' atU) (I' atU) atU atU).mono ?_;rintro e w2 ⟨rfl,hS2⟩;replace hS2:jJ lrow 2 W0 w2 b o (P++(l1++(r1++(l2++(r2++Q))))):=(by simpa only [List.append_assoc] using hS2);go_wp2_with fail
         refine (HIH.out W0 _ b o c N P l1 r1 (l2++(r2++Q)) a j0 mid cv hS2 auc BI ha (I' atU) (I' atU) atU atU HW.out LJ.out.1 LJ.out.2.2.1 HC.out auk).mono ?_;rintro e w3 ⟨rfl,hS3⟩;go_wp2_with fail
         have r2e:r2 = []:=List.eq_nil_of_length_eq_zero atU;have hS4:jJ lrow 2 W0 w3 b o (P++(fO (kS cv) l1 r1++(fO (kS cv) l2 r2++Q))):=(by rw [r2e] at hS3 ⊢;simpa only [gZ,List.nil_append] using hS3);go_end0
         refine ⟨rfl,?_⟩;rw [HM.out]
         simpa only [List.append_assoc] using hS4)
      ·first
        | (exfalso;have e3:=Ij.out;have e4:=Ik.out;have e5:=HD.out;have f1:=HF.out;have f2:=hm.out;have f3:=hb.out;have f4:=fJ.out;omega)
        | (
         have g1:j0 < m:=(by have f1:=HF.out;have f2:=hm.out;have f3:=hb.out;have f4:=fJ.out;omega);have g2:m < e0:=(by have f1:=HF.out;have f2:=hm.out;have f3:=hb.out;have f4:=fJ.out;omega);have g3:a < j0:=(by have f1:=HF.out;have f2:=hm.out;have f3:=hb.out;have f4:=fJ.out;omega);have g4:j0 < mid:=(by have f1:=HF.out;have f2:=hm.out;have f3:=hb.out;have f4:=fJ.out;omega);have g5:mid < e0:=(by have f1:=HF.out;have f2:=hm.out;have f3:=hb.out;have f4:=fJ.out;omega);have g6:e0 < bb:=(by have f1:=HF.out;have f2:=hm.out;have f3:=hb.out;have f4:=fJ.out;omega);go_wp2_with fail
         refine (rotateL_any W0 _ b o c N (P++l1) l2 r1 (r2++Q) j0 m e0 _ auv auc BI (I' auw) (I' atU) (I' atU) atU atU).mono ?_;rintro e w2 ⟨rfl,hS2⟩;replace hS2:jJ lrow 2 W0 w2 b o (P++(l1++(r1++(l2++(r2++Q))))):=(by simpa only [List.append_assoc] using hS2);go_wp2_with fail
         refine (HIH.out W0 _ b o c N P l1 r1 (l2++(r2++Q)) a j0 mid cv hS2 auc BI ha (I' atU) (I' atU) atU atU HW.out LJ.out.1 LJ.out.2.2.1 HC.out auk).mono ?_;rintro e w3 ⟨rfl,hS3⟩;go_wp2_with fail
         refine (HIH.out W0 _ b o c N (P++fO (kS cv) l1 r1) l2 r2 Q mid e0 bb cv auM auc BI (I' auN) (I' atU) (I' atU) atU atU HW.out LJ.out.2.1 LJ.out.2.2.2 HC.out auk).mono ?_;rintro e w4 ⟨rfl,hS4⟩;go_wp2;go_end0
         refine ⟨rfl,?_⟩;rw [HM.out]
         simpa only [List.append_assoc] using hS4)
   ·rcases Nat.eq_zero_or_pos l2.length with hl2 | hl2
    ·first
      | (exfalso;have e3:=Ij.out;have e4:=Ik.out;have e5:=HD.out;have f1:=HF.out;have f2:=hm.out;have f3:=hb.out;have f4:=fJ.out;omega)
      | (
       have g1:m≤j0:=(by have f1:=HF.out;have f2:=hm.out;have f3:=hb.out;have f4:=fJ.out;omega);have g3:a < j0:=(by have f1:=HF.out;have f2:=hm.out;have f3:=hb.out;have f4:=fJ.out;omega);have g4:mid≤j0:=(by have f1:=HF.out;have f2:=hm.out;have f3:=hb.out;have f4:=fJ.out;omega);have g5:e0≤mid:=(by have f1:=HF.out;have f2:=hm.out;have f3:=hb.out;have f4:=fJ.out;omega);go_wp2_with fail
       have l2e:l2 = []:=List.eq_nil_of_length_eq_zero atU;have hS2:jJ lrow 2 W0 wr b o (P++(l1++(r1++(l2++(r2++Q))))):=(by rw [l2e] at hS1 ⊢;simpa only [List.append_assoc,List.nil_append] using hS1);have r1e:r1 = []:=List.eq_nil_of_length_eq_zero atU;have hS3:jJ lrow 2 W0 wr b o (P++(fO (kS cv) l1 r1++(l2++(r2++Q)))):=(by rw [r1e] at hS2 ⊢;simpa only [gZ,List.nil_append] using hS2);have hS4:jJ lrow 2 W0 wr b o (P++(fO (kS cv) l1 r1++(fO (kS cv) l2 r2++Q))):=(by rw [l2e] at hS3 ⊢;simpa only [ig,List.nil_append] using hS3);go_end0
       refine ⟨rfl,?_⟩;rw [HM.out]
       simpa only [List.append_assoc] using hS4)
    ·first
      | (exfalso;have e3:=Ij.out;have e4:=Ik.out;have e5:=HD.out;have f1:=HF.out;have f2:=hm.out;have f3:=hb.out;have f4:=fJ.out;omega)
      | (
       have g1:j0 < m:=(by have f1:=HF.out;have f2:=hm.out;have f3:=hb.out;have f4:=fJ.out;omega);have g2:e0≤m:=(by have f1:=HF.out;have f2:=hm.out;have f3:=hb.out;have f4:=fJ.out;omega);have g3:a < j0:=(by have f1:=HF.out;have f2:=hm.out;have f3:=hb.out;have f4:=fJ.out;omega);have g4:mid≤j0:=(by have f1:=HF.out;have f2:=hm.out;have f3:=hb.out;have f4:=fJ.out;omega);have g5:mid < e0:=(by have f1:=HF.out;have f2:=hm.out;have f3:=hb.out;have f4:=fJ.out;omega);have g6:e0 < bb:=(by have f1:=HF.out;have f2:=hm.out;have f3:=hb.out;have f4:=fJ.out;omega);go_wp2_with fail
       have r1e:r1 = []:=List.eq_nil_of_length_eq_zero atU;have hS2:jJ lrow 2 W0 wr b o (P++(l1++(r1++(l2++(r2++Q))))):=(by rw [r1e] at hS1 ⊢;simpa only [List.append_assoc,List.nil_append] using hS1);have hS3:jJ lrow 2 W0 wr b o (P++(fO (kS cv) l1 r1++(l2++(r2++Q)))):=(by rw [r1e] at hS2 ⊢;simpa only [gZ,List.nil_append] using hS2);refine (HIH.out W0 _ b o c N (P++fO (kS cv) l1 r1) l2 r2 Q mid e0 bb cv auM auc BI (I' auN) (I' atU) (I' atU) atU atU HW.out LJ.out.2.1 LJ.out.2.2.2 HC.out auk).mono ?_;rintro e w4 ⟨rfl,hS4⟩;go_wp2;go_end0
       refine ⟨rfl,?_⟩;rw [HM.out]
       simpa only [List.append_assoc] using hS4)):P:=h
theorem Zaab {P:Prop} (h:P:=by
 intro HK;have hbx:Below wn.heap.size wn wn.drew:=aA (aj _)
 refine aX 1 _ J' U' (fun _ _ d _ _ h=>by cases d <;> exact h) hbx (Or.inl ⟨rfl,fun wq hq=>by
  have hcq:=(aB hq).1;go_simp
  try rfl⟩) ?_
 try simp only [Act.put,pz]
 refine aX 2 _ J' U' (fun _ _ d _ _ h=>by cases d <;> exact h) hbx (Or.inl ⟨rfl,fun wq hq=>by
  have hcq:=(aB hq).1;go_simp
  try rfl⟩) ?_
 try simp only [Act.put,pz]
 refine aX 3 _ J' U' (fun _ _ d _ _ h=>by cases d <;> exact h) hbx (Or.inl ⟨rfl,fun wq hq=>by
  have hcq:=(aB hq).1;go_simp
  try rfl⟩) ?_
 try simp only [Act.put,pz]
 refine aX 4 _ J' U' (fun _ _ d _ _ h=>by cases d <;> exact h) hbx (Or.inl ⟨rfl,fun wq hq=>by
  have hcq:=(aB hq).1;go_simp
  try rfl⟩) ?_
 try simp only [Act.put,pz]
 refine aX 6 _ J' U' (fun _ _ d _ _ h=>by cases d <;> exact h) hbx (Or.inl ⟨rfl,fun wq hq=>by
  have hcq:=(aB hq).1;go_simp
  try rfl⟩) ?_
 try simp only [Act.put,pz]
 refine aX 7 _ J' U' (fun _ _ d _ _ h=>by cases d <;> exact h) hbx (Or.inl ⟨rfl,fun wq hq=>by
  have hcq:=(aB hq).1;go_simp
  try rfl⟩) ?_
 try simp only [Act.put,pz]
 refine aX 8 _ J' U' (fun _ _ d _ _ h=>by cases d <;> exact h) hbx (Or.inl ⟨rfl,fun wq hq=>by
  have hcq:=(aB hq).1;go_simp
  try rfl⟩) ?_
 try simp only [Act.put,pz]
 refine aX 9 _ J' U' (fun _ _ d _ _ h=>by cases d <;> exact h) hbx (Or.inl ⟨rfl,fun wq hq=>by
  have hcq:=(aB hq).1;go_simp
  try rfl⟩) ?_
 try simp only [Act.put,pz]
 refine D7 0 10 J' J' U' J' J' (fun K hK=>?_) (fun K hK=>?_)
 ·go_simp;refine hK _ _ (ak hbx (.cells #[] 97)) ?_;try simp only [Act.put,pz]
  clear hK K;have Qz:=ak hbx (.cells #[] 97);have hrA:=D9 wn.drew 97 9 wn.heap.size rfl;refine D7 5 10 J' J' U' J' J' (fun K hK=>?_) (fun K hK=>?_)
  ·refine qQ elIPlaced _ _ J' (wn.drew.alloc (.cells #[] 97)) wn.heap.size _ 0 [] hrA J' ⟨g,0,none⟩ k dJ ((ds.take (k * 9))) J' (by rw [List.length_take,hdl];omega) (fun q u hu=>(Qz.cell (p:=(⟨g,0,none⟩:Addr).add q) auX).trans (HNC.out q u hu)) (fun u hu=>HONE.out u (List.mem_of_mem_take hu)) O' O' auI ?_;intro v5 w5 hown5 hg5 aaQ;have hb5:Below wn.heap.size wn w5:=Below.grown (Qz) hg5 auI (fun q hq=>(hrA.lt q hq).1);refine hK _ _ hb5 ?_;try simp only [Act.put,pz]
   clear hK K;refine bP 10 J' U' J' (fun K hK=>?_);go_simp;refine hK _ _ (ak hb5 (.cells #[.string n.name,.slice bY n.labels.length bZ,.int .i64 n.cpu,.int .i64 n.mem,.int .i64 n.rank,.slice eU n.needs.length eX,.slice bg n.tolerances.length bn,.string ⟨#[]⟩,.int .i64 x.next] 97)) ?_;try simp only [Act.put,pz]
   clear hK K;have hbB:=ak hb5 (.cells #[.string n.name,.slice bY n.labels.length bZ,.int .i64 n.cpu,.int .i64 n.mem,.int .i64 n.rank,.slice eU n.needs.length eX,.slice bg n.tolerances.length bn,.string ⟨#[]⟩,.int .i64 x.next] 97);refine bP 11 J' U' J' (fun K hK=>?_);refine qQ elIPlaced _ _ J' (w5.alloc (.cells #[.string n.name,.slice bY n.labels.length bZ,.int .i64 n.cpu,.int .i64 n.mem,.int .i64 n.rank,.slice eU n.needs.length eX,.slice bg n.tolerances.length bn,.string ⟨#[]⟩,.int .i64 x.next] 97)) wn.heap.size v5 _ _ (mG hown5 (ak (aj _) _)) J' ⟨w5.heap.size,0,none⟩ 1 1 [.string n.name,.slice bY n.labels.length bZ,.int .i64 n.cpu,.int .i64 n.mem,.int .i64 n.rank,.slice eU n.needs.length eX,.slice bg n.tolerances.length bn,.string ⟨#[]⟩,.int .i64 x.next] J' J' (DI w5 97 [.string n.name,.slice bY n.labels.length bZ,.int .i64 n.cpu,.int .i64 n.mem,.int .i64 n.rank,.slice eU n.needs.length eX,.slice bg n.tolerances.length bn,.string ⟨#[]⟩,.int .i64 x.next] w5.heap.size rfl) HN1.out O' O' auJ ?_;intro v7 w7 nK Ua ab7;rw [show 0+k = k by omega,List.nil_append] at nK;obtain ⟨g9,p9,hv7,hgb,hgp,hgl⟩:=wW nK O';subst hv7;have hb7:Below wn.heap.size wn w7:=Below.grown (hbB) Ua auJ (fun q hq=>(hown5.lt q hq).1);exact Zaez
  ·go_simp;refine hK _ _ (ak Qz (.cells #[.string n.name,.slice bY n.labels.length bZ,.int .i64 n.cpu,.int .i64 n.mem,.int .i64 n.rank,.slice eU n.needs.length eX,.slice bg n.tolerances.length bn,.string ⟨#[]⟩,.int .i64 x.next] 97)) ?_;try simp only [Act.put,pz]
   clear hK K;have hbB:=ak Qz (.cells #[.string n.name,.slice bY n.labels.length bZ,.int .i64 n.cpu,.int .i64 n.mem,.int .i64 n.rank,.slice eU n.needs.length eX,.slice bg n.tolerances.length bn,.string ⟨#[]⟩,.int .i64 x.next] 97);replace hrA:=mG hrA (ak (aj _) (.cells #[.string n.name,.slice bY n.labels.length bZ,.int .i64 n.cpu,.int .i64 n.mem,.int .i64 n.rank,.slice eU n.needs.length eX,.slice bg n.tolerances.length bn,.string ⟨#[]⟩,.int .i64 x.next] 97));refine bP 5 J' U' J' (fun K hK=>?_);refine qQ elIPlaced _ _ J' ((wn.drew.alloc (.cells #[] 97)).alloc (.cells #[.string n.name,.slice bY n.labels.length bZ,.int .i64 n.cpu,.int .i64 n.mem,.int .i64 n.rank,.slice eU n.needs.length eX,.slice bg n.tolerances.length bn,.string ⟨#[]⟩,.int .i64 x.next] 97)) wn.heap.size _ 0 [] hrA J' ⟨g,0,none⟩ k dJ ((ds.take (k * 9))) J' (by rw [List.length_take,hdl];omega) (fun q u hu=>(hbB.cell (p:=(⟨g,0,none⟩:Addr).add q) auX).trans (HNC.out q u hu)) (fun u hu=>HONE.out u (List.mem_of_mem_take hu)) O' O' auJ ?_;intro v5 w5 hown5 hg5 aaQ;have hb5:Below wn.heap.size wn w5:=Below.grown (hbB) hg5 auJ (fun q hq=>(hrA.lt q hq).1);refine hK _ _ hb5 ?_;try simp only [Act.put,pz]
   clear hK K;refine bP 11 J' U' J' (fun K hK=>?_);refine qQ elIPlaced _ _ J' w5 wn.heap.size v5 _ _ hown5 J' ⟨wn.heap.size+1,0,none⟩ 1 1 [.string n.name,.slice bY n.labels.length bZ,.int .i64 n.cpu,.int .i64 n.mem,.int .i64 n.rank,.slice eU n.needs.length eX,.slice bg n.tolerances.length bn,.string ⟨#[]⟩,.int .i64 x.next] J' J' (fun q u hu=>(World.cell?_of_block awP).trans ((DI (wn.drew.alloc (.cells #[] 97)) 97 [.string n.name,.slice bY n.labels.length bZ,.int .i64 n.cpu,.int .i64 n.mem,.int .i64 n.rank,.slice eU n.needs.length eX,.slice bg n.tolerances.length bn,.string ⟨#[]⟩,.int .i64 x.next] (wn.heap.size+1) S') q u hu)) HN1.out O' O' auK ?_;exact Zaf5
 ·go_simp;refine hK _ _ (ak hbx (.cells #[.string n.name,.slice bY n.labels.length bZ,.int .i64 n.cpu,.int .i64 n.mem,.int .i64 n.rank,.slice eU n.needs.length eX,.slice bg n.tolerances.length bn,.string ⟨#[]⟩,.int .i64 x.next] 97)) ?_;try simp only [Act.put,pz]
  clear hK K;have hbB:=ak hbx (.cells #[.string n.name,.slice bY n.labels.length bZ,.int .i64 n.cpu,.int .i64 n.mem,.int .i64 n.rank,.slice eU n.needs.length eX,.slice bg n.tolerances.length bn,.string ⟨#[]⟩,.int .i64 x.next] 97);refine bP 0 J' U' J' (fun K hK=>?_);go_simp;refine hK _ _ (ak hbB (.cells #[] 97)) ?_;try simp only [Act.put,pz]
  clear hK K;have Qz:=ak hbB (.cells #[] 97);have hrA:=vP (D9 (wn.drew.alloc (.cells #[.string n.name,.slice bY n.labels.length bZ,.int .i64 n.cpu,.int .i64 n.mem,.int .i64 n.rank,.slice eU n.needs.length eX,.slice bg n.tolerances.length bn,.string ⟨#[]⟩,.int .i64 x.next] 97)) 97 9 (wn.heap.size+1) S') (B':=wn.heap.size) O';refine bP 5 J' U' J' (fun K hK=>?_);refine qQ elIPlaced _ _ J' ((wn.drew.alloc (.cells #[.string n.name,.slice bY n.labels.length bZ,.int .i64 n.cpu,.int .i64 n.mem,.int .i64 n.rank,.slice eU n.needs.length eX,.slice bg n.tolerances.length bn,.string ⟨#[]⟩,.int .i64 x.next] 97)).alloc (.cells #[] 97)) wn.heap.size _ 0 [] hrA J' ⟨g,0,none⟩ k dJ ((ds.take (k * 9))) J' (by rw [List.length_take,hdl];omega) (fun q u hu=>(Qz.cell (p:=(⟨g,0,none⟩:Addr).add q) auX).trans (HNC.out q u hu)) (fun u hu=>HONE.out u (List.mem_of_mem_take hu)) O' O' auI ?_;intro v5 w5 hown5 hg5 aaQ;have hb5:Below wn.heap.size wn w5:=Below.grown (Qz) hg5 auI (fun q hq=>(hrA.lt q hq).1);refine hK _ _ hb5 ?_;try simp only [Act.put,pz]
  clear hK K;refine bP 11 J' U' J' (fun K hK=>?_);refine qQ elIPlaced _ _ J' w5 wn.heap.size v5 _ _ hown5 J' ⟨wn.heap.size,0,none⟩ 1 1 [.string n.name,.slice bY n.labels.length bZ,.int .i64 n.cpu,.int .i64 n.mem,.int .i64 n.rank,.slice eU n.needs.length eX,.slice bg n.tolerances.length bn,.string ⟨#[]⟩,.int .i64 x.next] J' J' (fun q u hu=>(World.cell?_of_block awQ).trans ((DI wn.drew 97 [.string n.name,.slice bY n.labels.length bZ,.int .i64 n.cpu,.int .i64 n.mem,.int .i64 n.rank,.slice eU n.needs.length eX,.slice bg n.tolerances.length bn,.string ⟨#[]⟩,.int .i64 x.next] wn.heap.size rfl) q u hu)) HN1.out O' O' auK ?_
  exact Zaf5):P:=h
theorem Zaac {P:Prop} (h:P:=by
 try simp only [Bool.and_false,Bool.and_true,Bool.false_and,Bool.and_self] at hp
 have HN:=I' (gq hall.out hp);clear hp;go_wp2_with fail
 skip
 refine aF _ U' U' (aj _) ?_
 repeat (first
  | (apply aG
     case hw=>rfl
     simp only [Act.put,pz])
  | (apply aH
     case hw=>rfl
     case h =>exact Zae5
     simp only [Act.put,pz]))
 refine aN ?_;intro wn hn;replace hn:=hn.out;obtain ⟨hcn,hfn⟩:=ay hn;have hzn:w.heap.size < wn.heap.size:=sq hn.size;have hyn:b' < wn.heap.size:=sq hn.size;try (have hxn:wr.heap.size < wn.heap.size:=sq hn.size)
 have hWn:Below wr.heap.size wr wn:=atS;have hs8:wn.cell? ⟨wr.heap.size,8,none⟩ = some (.int .i64 x.au[j+1].seq):=by rw [hcn _ _ S',cell_of_row _ _ _ _ _ _ (heap_alloc_new wr _)];rfl
 have anN:(j+1:Nat) < 12:=by omega
 obtain ⟨wo,hwo⟩:∃wo,wo = wr:=⟨_,rfl⟩;subst hwo;go_wp2_with fail
 go_loopw [5] (fun i2 wi=>∃q:Nat,q≤j+1∧i2 = .int .i64 q∧Hid (∀u∈x.au.take q,(u.seq == x.au[j+1].seq) = false)∧Below wn.heap.size wn wi) (fun i2 _=>j+1 - (intOf i2).toNat)
 case atStart=>exact ⟨0,Nat.zero_le _,rfl,by show ∀_,_;simp,aj _⟩
 case round =>
  obtain ⟨q,hq,rfl,HQ,hbi⟩:=hrel;have Fp:Below wo.heap.size wo wr:=ah hWn hbi;have hBi:Below w.heap.size w wr:=ah hBr Fp;have ci0:=(ay Fp).1 _ 0 tX |>.trans c0;have ci1:=(ay Fp).1 _ 1 tX |>.trans c1;have ci2:=(ay Fp).1 _ 2 tX |>.trans c2;have ci3:=(ay Fp).1 _ 3 tX |>.trans c3;have ci4:=(ay Fp).1 _ 4 tX |>.trans c4;have ci5:=(ay Fp).1 _ 5 tX |>.trans c5;replace hs8:=((ay hbi).1 _ _ O').trans hs8;have hzi:w.heap.size < wr.heap.size:=by have:=Fp.size;omega
  have hxi:wo.heap.size < wr.heap.size:=by have:=hbi.size;omega
  by_cases hqk:q < j+1
  ·obtain ⟨b6,o6,ck6,Fk6,e,hbF6,LU,hr6,aqC,hc6⟩:=Sl.get (α:=Placed) (c:=bW) dM (show q < x.au.length by omega);have afi:=hr6;obtain ⟨Ho,Hq,Xm,JK,JL,aan,AL,AO,Oz,anO,anP,acM,Xn,afj,afk,acN,aao,OA,hon6,aqD⟩:=kE afi;subst anO;obtain ⟨rfl,rfl⟩:b6 = b'∧o6 = o':=by simpa using e.symm
   clear e;have m0:w.cell? ⟨b6,o6+q * 9,none⟩ = some (.string x.au[q].aS.name):=(by exact hc6 0 _ rfl);have m1:w.cell? ⟨b6,o6+q * 9+1,none⟩ = some (.slice Ho x.au[q].aS.labels.length Hq):=(by rw [Nat.add_assoc];exact hc6 1 _ rfl);have m2:w.cell? ⟨b6,o6+q * 9+2,none⟩ = some (.int .i64 x.au[q].aS.cpu):=(by rw [Nat.add_assoc];exact hc6 2 _ rfl);have m3:w.cell? ⟨b6,o6+q * 9+3,none⟩ = some (.int .i64 x.au[q].aS.mem):=(by rw [Nat.add_assoc];exact hc6 3 _ rfl);have m4:w.cell? ⟨b6,o6+q * 9+4,none⟩ = some (.int .i64 x.au[q].aS.rank):=(by rw [Nat.add_assoc];exact hc6 4 _ rfl);have m5:w.cell? ⟨b6,o6+q * 9+5,none⟩ = some (.slice JK x.au[q].aS.needs.length JL):=(by rw [Nat.add_assoc];exact hc6 5 _ rfl);have m6:w.cell? ⟨b6,o6+q * 9+6,none⟩ = some (.slice AL x.au[q].aS.tolerances.length AO):=(by rw [Nat.add_assoc];exact hc6 6 _ rfl);have m7:w.cell? ⟨b6,o6+q * 9+7,none⟩ = some (.string x.au[q].on):=(by rw [Nat.add_assoc];exact hc6 7 _ rfl);have m8:w.cell? ⟨b6,o6+q * 9+8,none⟩ = some (.int .i64 x.au[q].seq):=(by rw [Nat.add_assoc];exact hc6 8 _ rfl);clear hc6 afi anP;replace m8:=((ay hBi).1 _ _ LU).trans m8;have hyi:b6 < wr.heap.size:=(by have:=hBi.size;omega);have hqi:(q:Int) < ((j+1:Nat):Int):=O';have hql:q < x.au.length:=O';cases hse:(x.au[q].seq == x.au[j+1].seq) with
   | true =>
     have hsn:seenIn (x.au.take (j+1)) x.au[j+1].seq = true:=by unfold seenIn;rw [List.any_eq_true];exact ⟨x.au[q],by rw [List.mem_take_iff_getElem];exact ⟨q,O',rfl⟩,hse⟩
     have HF:=I' (DR hlt av2);go_wp2_with fail
     refine aF _ U' U' (aj _) ?_
     repeat (first
      | (apply aG
         case hw=>rfl
         simp only [Act.put,pz])
      | (apply aH
         case hw=>rfl
         case h =>exact Zafb
         simp only [Act.put,pz]))
     refine aN ?_;intro wz hz;replace hz:=hz.out;exact Zagc
   | false =>
     have HQ2:=I' (yQ (p:=fun u:Placed=>u.seq == x.au[j+1].seq) hql HQ.out hse);go_wp2_with fail
     refine aF _ U' U' (aj _) ?_
     repeat (first
      | (apply aG
         case hw=>rfl
         simp only [Act.put,pz])
      | (apply aH
         case hw=>rfl
         case h =>exact Zafb
         simp only [Act.put,pz]))
     refine aN ?_;intro wz hz;replace hz:=hz.out;go_wp2;exact ⟨⟨q+1,O',N',HQ2.out,atS⟩,by simp [intOf];omega⟩
  ·obtain rfl:q = j+1:=by omega
   have hsn:seenIn (x.au.take (j+1)) x.au[j+1].seq = false:=by unfold seenIn;rw [List.any_eq_false];intro u hu;have:=HQ.out u hu;simp [this]
   have Gn:=I' (gq hfresh.out (show DN x.au (j+1) = true by rw [sG hlt,hsn];rfl));clear hsn;go_wp2
   exact ⟨⟨j+1+1,O',N',HN.out,Gn.out,ah hbl Fp⟩,by simp [intOf];omega⟩):P:=h
theorem Zaad {P:Prop} (h:P:=by
 exact Zafb):P:=h
theorem Zaae {P:Prop} (h:P:=by
 intro HK;have hbx:Below wn.heap.size wn wn.drew:=aA (aj _)
 refine aX 1 _ J' U' (fun _ _ d _ _ h=>by cases d <;> exact h) hbx (Or.inl ⟨rfl,fun wq hq=>by
  have hcq:=(aB hq).1;go_simp
  try rfl⟩) ?_
 try simp only [Act.put,pz]
 refine aX 2 _ J' U' (fun _ _ d _ _ h=>by cases d <;> exact h) hbx (Or.inl ⟨rfl,fun wq hq=>by
  have hcq:=(aB hq).1;go_simp
  try rfl⟩) ?_
 try simp only [Act.put,pz]
 refine aX 3 _ J' U' (fun _ _ d _ _ h=>by cases d <;> exact h) hbx (Or.inl ⟨rfl,fun wq hq=>by
  have hcq:=(aB hq).1;go_simp
  try rfl⟩) ?_
 try simp only [Act.put,pz]
 refine aX 5 _ J' U' (fun _ _ d _ _ h=>by cases d <;> exact h) hbx (Or.inl ⟨rfl,fun wq hq=>by
  have hcq:=(aB hq).1;go_simp
  try rfl⟩) ?_
 try simp only [Act.put,pz]
 refine aX 6 _ J' U' (fun _ _ d _ _ h=>by cases d <;> exact h) hbx (Or.inl ⟨rfl,fun wq hq=>by
  have hcq:=(aB hq).1;go_simp
  try rfl⟩) ?_
 try simp only [Act.put,pz]
 refine aX 7 _ J' U' (fun _ _ d _ _ h=>by cases d <;> exact h) hbx (Or.inl ⟨rfl,fun wq hq=>by
  have hcq:=(aB hq).1;go_simp
  try rfl⟩) ?_
 try simp only [Act.put,pz]
 refine aX 8 _ J' U' (fun _ _ d _ _ h=>by cases d <;> exact h) hbx (Or.inl ⟨rfl,fun wq hq=>by
  have hcq:=(aB hq).1;go_simp
  try rfl⟩) ?_
 try simp only [Act.put,pz]
 refine D7 0 9 J' J' U' J' J' (fun K hK=>?_) (fun K hK=>?_)
 ·go_simp;refine hK _ _ (ak hbx (.cells #[] 160)) ?_;try simp only [Act.put,pz]
  clear hK K;have Qz:=ak hbx (.cells #[] 160);have hrA:=D9 wn.drew 160 4 wn.heap.size rfl;refine D7 4 9 J' J' U' J' J' (fun K hK=>?_) (fun K hK=>?_)
  ·refine qQ elSTolerance _ _ J' (wn.drew.alloc (.cells #[] 160)) wn.heap.size _ 0 [] hrA J' ⟨g,0,none⟩ jj cap ((s1.flatMap vrow)) J' (by rw [rowsLen (row:=vrow) (S:=4) (fun _=>rfl),HJ.out]) (fun q u hu=>(Qz.cell (p:=(⟨g,0,none⟩:Addr).add q) auX).trans (HNC.out q u hu)) (rowsOne vrow_one s1) O' O' auI ?_;intro v5 w5 hown5 hg5 aaQ;have hb5:Below wn.heap.size wn w5:=Below.grown (Qz) hg5 auI (fun q hq=>(hrA.lt q hq).1);refine hK _ _ hb5 ?_;try simp only [Act.put,pz]
   clear hK K;refine bP 9 J' U' J' (fun K hK=>?_);go_simp;refine hK _ _ (ak hb5 (.cells #[.string y.key,.bool y.equal,.string y.value,.int .i64 y.effect] 160)) ?_;try simp only [Act.put,pz]
   clear hK K;have hbB:=ak hb5 (.cells #[.string y.key,.bool y.equal,.string y.value,.int .i64 y.effect] 160);refine bP 10 J' U' J' (fun K hK=>?_);refine qQ elSTolerance _ _ J' (w5.alloc (.cells #[.string y.key,.bool y.equal,.string y.value,.int .i64 y.effect] 160)) wn.heap.size v5 _ _ (mG hown5 (ak (aj _) _)) J' ⟨w5.heap.size,0,none⟩ 1 1 [.string y.key,.bool y.equal,.string y.value,.int .i64 y.effect] J' J' (DI w5 160 [.string y.key,.bool y.equal,.string y.value,.int .i64 y.effect] w5.heap.size rfl) (vrow_one y) O' O' auJ ?_;exact Zaf1
  ·go_simp;refine hK _ _ (ak Qz (.cells #[.string y.key,.bool y.equal,.string y.value,.int .i64 y.effect] 160)) ?_;try simp only [Act.put,pz]
   clear hK K;have hbB:=ak Qz (.cells #[.string y.key,.bool y.equal,.string y.value,.int .i64 y.effect] 160);replace hrA:=mG hrA (ak (aj _) (.cells #[.string y.key,.bool y.equal,.string y.value,.int .i64 y.effect] 160));refine bP 4 J' U' J' (fun K hK=>?_);refine qQ elSTolerance _ _ J' ((wn.drew.alloc (.cells #[] 160)).alloc (.cells #[.string y.key,.bool y.equal,.string y.value,.int .i64 y.effect] 160)) wn.heap.size _ 0 [] hrA J' ⟨g,0,none⟩ jj cap ((s1.flatMap vrow)) J' (by rw [rowsLen (row:=vrow) (S:=4) (fun _=>rfl),HJ.out]) (fun q u hu=>(hbB.cell (p:=(⟨g,0,none⟩:Addr).add q) auX).trans (HNC.out q u hu)) (rowsOne vrow_one s1) O' O' auJ ?_;intro v5 w5 hown5 hg5 aaQ;have hb5:Below wn.heap.size wn w5:=Below.grown (hbB) hg5 auJ (fun q hq=>(hrA.lt q hq).1);refine hK _ _ hb5 ?_;try simp only [Act.put,pz]
   clear hK K;refine bP 10 J' U' J' (fun K hK=>?_);refine qQ elSTolerance _ _ J' w5 wn.heap.size v5 _ _ hown5 J' ⟨wn.heap.size+1,0,none⟩ 1 1 [.string y.key,.bool y.equal,.string y.value,.int .i64 y.effect] J' J' (fun q u hu=>(World.cell?_of_block awP).trans ((DI (wn.drew.alloc (.cells #[] 160)) 160 [.string y.key,.bool y.equal,.string y.value,.int .i64 y.effect] (wn.heap.size+1) S') q u hu)) (vrow_one y) O' O' auK ?_;exact Zaen
 ·go_simp;refine hK _ _ (ak hbx (.cells #[.string y.key,.bool y.equal,.string y.value,.int .i64 y.effect] 160)) ?_;try simp only [Act.put,pz]
  clear hK K;have hbB:=ak hbx (.cells #[.string y.key,.bool y.equal,.string y.value,.int .i64 y.effect] 160);refine bP 0 J' U' J' (fun K hK=>?_);go_simp;refine hK _ _ (ak hbB (.cells #[] 160)) ?_;try simp only [Act.put,pz]
  clear hK K;have Qz:=ak hbB (.cells #[] 160);have hrA:=vP (D9 (wn.drew.alloc (.cells #[.string y.key,.bool y.equal,.string y.value,.int .i64 y.effect] 160)) 160 4 (wn.heap.size+1) S') (B':=wn.heap.size) O';refine bP 4 J' U' J' (fun K hK=>?_);refine qQ elSTolerance _ _ J' ((wn.drew.alloc (.cells #[.string y.key,.bool y.equal,.string y.value,.int .i64 y.effect] 160)).alloc (.cells #[] 160)) wn.heap.size _ 0 [] hrA J' ⟨g,0,none⟩ jj cap ((s1.flatMap vrow)) J' (by rw [rowsLen (row:=vrow) (S:=4) (fun _=>rfl),HJ.out]) (fun q u hu=>(Qz.cell (p:=(⟨g,0,none⟩:Addr).add q) auX).trans (HNC.out q u hu)) (rowsOne vrow_one s1) O' O' auI ?_;intro v5 w5 hown5 hg5 aaQ;have hb5:Below wn.heap.size wn w5:=Below.grown (Qz) hg5 auI (fun q hq=>(hrA.lt q hq).1);refine hK _ _ hb5 ?_;try simp only [Act.put,pz]
  clear hK K;refine bP 10 J' U' J' (fun K hK=>?_);refine qQ elSTolerance _ _ J' w5 wn.heap.size v5 _ _ hown5 J' ⟨wn.heap.size,0,none⟩ 1 1 [.string y.key,.bool y.equal,.string y.value,.int .i64 y.effect] J' J' (fun q u hu=>(World.cell?_of_block awQ).trans ((DI wn.drew 160 [.string y.key,.bool y.equal,.string y.value,.int .i64 y.effect] wn.heap.size rfl) q u hu)) (vrow_one y) O' O' auK ?_
  exact Zaen):P:=h
theorem Zaaf {P:Prop} (h:P:=by
 intro HK;have hbx:Below wn.heap.size wn wn.drew:=aA (aj _)
 refine aX 1 _ J' U' (fun _ _ d _ _ h=>by cases d <;> exact h) hbx (Or.inl ⟨rfl,fun wq hq=>by
  have hcq:=(aB hq).1;go_simp
  try rfl⟩) ?_
 try simp only [Act.put,pz]
 refine aX 2 _ J' U' (fun _ _ d _ _ h=>by cases d <;> exact h) hbx (Or.inl ⟨rfl,fun wq hq=>by
  have hcq:=(aB hq).1;go_simp
  try rfl⟩) ?_
 try simp only [Act.put,pz]
 refine aX 3 _ J' U' (fun _ _ d _ _ h=>by cases d <;> exact h) hbx (Or.inl ⟨rfl,fun wq hq=>by
  have hcq:=(aB hq).1;go_simp
  try rfl⟩) ?_
 try simp only [Act.put,pz]
 refine aX 5 _ J' U' (fun _ _ d _ _ h=>by cases d <;> exact h) hbx (Or.inl ⟨rfl,fun wq hq=>by
  have hcq:=(aB hq).1;go_simp
  try rfl⟩) ?_
 try simp only [Act.put,pz]
 refine aX 6 _ J' U' (fun _ _ d _ _ h=>by cases d <;> exact h) hbx (Or.inl ⟨rfl,fun wq hq=>by
  have hcq:=(aB hq).1;go_simp
  try rfl⟩) ?_
 try simp only [Act.put,pz]
 refine aX 7 _ J' U' (fun _ _ d _ _ h=>by cases d <;> exact h) hbx (Or.inl ⟨rfl,fun wq hq=>by
  have hcq:=(aB hq).1;go_simp
  try rfl⟩) ?_
 try simp only [Act.put,pz]
 refine aX 8 _ J' U' (fun _ _ d _ _ h=>by cases d <;> exact h) hbx (Or.inl ⟨rfl,fun wq hq=>by
  have hcq:=(aB hq).1;go_simp
  try rfl⟩) ?_
 try simp only [Act.put,pz]
 refine D7 0 9 J' J' U' J' J' (fun K hK=>?_) (fun K hK=>?_)
 ·go_simp;refine hK _ _ (ak hbx (.cells #[] 162)) ?_;try simp only [Act.put,pz]
  clear hK K;have Qz:=ak hbx (.cells #[] 162);have hrA:=D9 wn.drew 162 3 wn.heap.size rfl;refine D7 4 9 J' J' U' J' J' (fun K hK=>?_) (fun K hK=>?_)
  ·refine qQ elSTaint _ _ J' (wn.drew.alloc (.cells #[] 162)) wn.heap.size _ 0 [] hrA J' ⟨g,0,none⟩ jj cap ((s1.flatMap trow)) J' (by rw [rowsLen (row:=trow) (S:=3) (fun _=>rfl),HJ.out]) (fun q u hu=>(Qz.cell (p:=(⟨g,0,none⟩:Addr).add q) auX).trans (HNC.out q u hu)) (rowsOne trow_one s1) O' O' auI ?_;intro v5 w5 hown5 hg5 aaQ;have hb5:Below wn.heap.size wn w5:=Below.grown (Qz) hg5 auI (fun q hq=>(hrA.lt q hq).1);refine hK _ _ hb5 ?_;try simp only [Act.put,pz]
   clear hK K;refine bP 9 J' U' J' (fun K hK=>?_);go_simp;refine hK _ _ (ak hb5 (.cells #[.string y.key,.string y.value,.int .i64 y.effect] 162)) ?_;try simp only [Act.put,pz]
   clear hK K;have hbB:=ak hb5 (.cells #[.string y.key,.string y.value,.int .i64 y.effect] 162);refine bP 10 J' U' J' (fun K hK=>?_);refine qQ elSTaint _ _ J' (w5.alloc (.cells #[.string y.key,.string y.value,.int .i64 y.effect] 162)) wn.heap.size v5 _ _ (mG hown5 (ak (aj _) _)) J' ⟨w5.heap.size,0,none⟩ 1 1 [.string y.key,.string y.value,.int .i64 y.effect] J' J' (DI w5 162 [.string y.key,.string y.value,.int .i64 y.effect] w5.heap.size rfl) (trow_one y) O' O' auJ ?_;exact Zaf1
  ·go_simp;refine hK _ _ (ak Qz (.cells #[.string y.key,.string y.value,.int .i64 y.effect] 162)) ?_;try simp only [Act.put,pz]
   clear hK K;have hbB:=ak Qz (.cells #[.string y.key,.string y.value,.int .i64 y.effect] 162);replace hrA:=mG hrA (ak (aj _) (.cells #[.string y.key,.string y.value,.int .i64 y.effect] 162));refine bP 4 J' U' J' (fun K hK=>?_);refine qQ elSTaint _ _ J' ((wn.drew.alloc (.cells #[] 162)).alloc (.cells #[.string y.key,.string y.value,.int .i64 y.effect] 162)) wn.heap.size _ 0 [] hrA J' ⟨g,0,none⟩ jj cap ((s1.flatMap trow)) J' (by rw [rowsLen (row:=trow) (S:=3) (fun _=>rfl),HJ.out]) (fun q u hu=>(hbB.cell (p:=(⟨g,0,none⟩:Addr).add q) auX).trans (HNC.out q u hu)) (rowsOne trow_one s1) O' O' auJ ?_;intro v5 w5 hown5 hg5 aaQ;have hb5:Below wn.heap.size wn w5:=Below.grown (hbB) hg5 auJ (fun q hq=>(hrA.lt q hq).1);refine hK _ _ hb5 ?_;try simp only [Act.put,pz]
   clear hK K;refine bP 10 J' U' J' (fun K hK=>?_);refine qQ elSTaint _ _ J' w5 wn.heap.size v5 _ _ hown5 J' ⟨wn.heap.size+1,0,none⟩ 1 1 [.string y.key,.string y.value,.int .i64 y.effect] J' J' (fun q u hu=>(World.cell?_of_block awP).trans ((DI (wn.drew.alloc (.cells #[] 162)) 162 [.string y.key,.string y.value,.int .i64 y.effect] (wn.heap.size+1) S') q u hu)) (trow_one y) O' O' auK ?_;exact Zaen
 ·go_simp;refine hK _ _ (ak hbx (.cells #[.string y.key,.string y.value,.int .i64 y.effect] 162)) ?_;try simp only [Act.put,pz]
  clear hK K;have hbB:=ak hbx (.cells #[.string y.key,.string y.value,.int .i64 y.effect] 162);refine bP 0 J' U' J' (fun K hK=>?_);go_simp;refine hK _ _ (ak hbB (.cells #[] 162)) ?_;try simp only [Act.put,pz]
  clear hK K;have Qz:=ak hbB (.cells #[] 162);have hrA:=vP (D9 (wn.drew.alloc (.cells #[.string y.key,.string y.value,.int .i64 y.effect] 162)) 162 3 (wn.heap.size+1) S') (B':=wn.heap.size) O';refine bP 4 J' U' J' (fun K hK=>?_);refine qQ elSTaint _ _ J' ((wn.drew.alloc (.cells #[.string y.key,.string y.value,.int .i64 y.effect] 162)).alloc (.cells #[] 162)) wn.heap.size _ 0 [] hrA J' ⟨g,0,none⟩ jj cap ((s1.flatMap trow)) J' (by rw [rowsLen (row:=trow) (S:=3) (fun _=>rfl),HJ.out]) (fun q u hu=>(Qz.cell (p:=(⟨g,0,none⟩:Addr).add q) auX).trans (HNC.out q u hu)) (rowsOne trow_one s1) O' O' auI ?_;intro v5 w5 hown5 hg5 aaQ;have hb5:Below wn.heap.size wn w5:=Below.grown (Qz) hg5 auI (fun q hq=>(hrA.lt q hq).1);refine hK _ _ hb5 ?_;try simp only [Act.put,pz]
  clear hK K;refine bP 10 J' U' J' (fun K hK=>?_);refine qQ elSTaint _ _ J' w5 wn.heap.size v5 _ _ hown5 J' ⟨wn.heap.size,0,none⟩ 1 1 [.string y.key,.string y.value,.int .i64 y.effect] J' J' (fun q u hu=>(World.cell?_of_block awQ).trans ((DI wn.drew 162 [.string y.key,.string y.value,.int .i64 y.effect] wn.heap.size rfl) q u hu)) (trow_one y) O' O' auK ?_
  exact Zaen):P:=h
theorem Zaag {P:Prop} (h:P:=by
 try simp only [Bool.and_false,Bool.and_true,Bool.false_and,Bool.and_self] at hp
 have HF:=I' (dW hlt hp);clear hp;go_wp2_with (go_at_call 66;refine (iQ x _ _ x.hosts[j+1].name _ (aJ h atS) Ji.out).mono ?_;rw [HU.out];rintro e w5 ⟨rfl,hb5⟩;obtain ⟨hc5,hf5⟩:=ay hb5;have Es:w.heap.size < w5.heap.size:=(sq hb5.size);have IV:b' < w5.heap.size:=(sq hb5.size);(try have hx5:wr.heap.size < w5.heap.size:=(sq hb5.size)))
 clear q0 q1 q2 q3 q4 q5;refine aF _ U' U' (aj _) ?_
 repeat (first
  | (apply aG
     case hw=>rfl
     simp only [Act.put,pz])
  | (apply aH
     case hw=>rfl
     case h =>exact Zae9
     simp only [Act.put,pz]))
 exact Zae7):P:=h
theorem Zaah {P:Prop} (h:P:=by
 intro HK;have hbx:Below wn.heap.size wn wn.drew:=aA (aj _)
 refine aX 1 _ J' U' (fun _ _ d _ _ h=>by cases d <;> exact h) hbx (Or.inl ⟨rfl,fun wq hq=>by
  have hcq:=(aB hq).1;go_simp
  try rfl⟩) ?_
 try simp only [Act.put,pz]
 refine aX 2 _ J' U' (fun _ _ d _ _ h=>by cases d <;> exact h) hbx (Or.inl ⟨rfl,fun wq hq=>by
  have hcq:=(aB hq).1;go_simp
  try rfl⟩) ?_
 try simp only [Act.put,pz]
 refine aX 3 _ J' U' (fun _ _ d _ _ h=>by cases d <;> exact h) hbx (Or.inl ⟨rfl,fun wq hq=>by
  have hcq:=(aB hq).1;go_simp
  try rfl⟩) ?_
 try simp only [Act.put,pz]
 refine aX 4 _ J' U' (fun _ _ d _ _ h=>by cases d <;> exact h) hbx (Or.inl ⟨rfl,fun wq hq=>by
  have hcq:=(aB hq).1;go_simp
  try rfl⟩) ?_
 try simp only [Act.put,pz]
 refine aX 6 _ J' U' (fun _ _ d _ _ h=>by cases d <;> exact h) hbx (Or.inl ⟨rfl,fun wq hq=>by
  have hcq:=(aB hq).1;go_simp
  try rfl⟩) ?_
 try simp only [Act.put,pz]
 refine D7 0 7 J' J' U' J' J' (fun K hK=>?_) (fun K hK=>?_)
 ·go_simp;refine hK _ _ (ak hbx (.cells #[] 55)) ?_;try simp only [Act.put,pz]
  clear hK K;have Qz:=ak hbx (.cells #[] 55);have hrA:=D9 wn.drew 55 6 wn.heap.size rfl;refine D7 5 7 J' J' U' J' J' (fun K hK=>?_) (fun K hK=>?_)
  ·refine qQ elIHost _ _ J' (wn.drew.alloc (.cells #[] 55)) wn.heap.size _ 0 [] hrA J' ⟨g,0,none⟩ k bV ((ds.take (k * 6))) J' (by rw [List.length_take,hdl];omega) (fun q u hu=>(Qz.cell (p:=(⟨g,0,none⟩:Addr).add q) auX).trans (HNC.out q u hu)) (fun u hu=>HONE.out u (List.mem_of_mem_take hu)) O' O' auI ?_;intro v5 w5 hown5 hg5 aaQ;have hb5:Below wn.heap.size wn w5:=Below.grown (Qz) hg5 auI (fun q hq=>(hrA.lt q hq).1);refine hK _ _ hb5 ?_;try simp only [Act.put,pz]
   clear hK K;refine bP 7 J' U' J' (fun K hK=>?_);go_simp;refine hK _ _ (ak hb5 (.cells #[.string n.name,.slice bY n.labels.length bZ,.int .i64 n.cpu,.int .i64 n.mem,.int .i64 n.slots,.slice wP n.aT.length wQ] 55)) ?_;try simp only [Act.put,pz]
   clear hK K;have hbB:=ak hb5 (.cells #[.string n.name,.slice bY n.labels.length bZ,.int .i64 n.cpu,.int .i64 n.mem,.int .i64 n.slots,.slice wP n.aT.length wQ] 55);refine bP 8 J' U' J' (fun K hK=>?_);refine qQ elIHost _ _ J' (w5.alloc (.cells #[.string n.name,.slice bY n.labels.length bZ,.int .i64 n.cpu,.int .i64 n.mem,.int .i64 n.slots,.slice wP n.aT.length wQ] 55)) wn.heap.size v5 _ _ (mG hown5 (ak (aj _) _)) J' ⟨w5.heap.size,0,none⟩ 1 1 [.string n.name,.slice bY n.labels.length bZ,.int .i64 n.cpu,.int .i64 n.mem,.int .i64 n.slots,.slice wP n.aT.length wQ] J' J' (DI w5 55 [.string n.name,.slice bY n.labels.length bZ,.int .i64 n.cpu,.int .i64 n.mem,.int .i64 n.slots,.slice wP n.aT.length wQ] w5.heap.size rfl) HN1.out O' O' auJ ?_;intro v7 w7 nK Ua ab7;rw [show 0+k = k by omega,List.nil_append] at nK;obtain ⟨g9,p9,hv7,hgb,hgp,hgl⟩:=wW nK O';subst hv7;have hb7:Below wn.heap.size wn w7:=Below.grown (hbB) Ua auJ (fun q hq=>(hown5.lt q hq).1);exact Zae0
  ·go_simp;refine hK _ _ (ak Qz (.cells #[.string n.name,.slice bY n.labels.length bZ,.int .i64 n.cpu,.int .i64 n.mem,.int .i64 n.slots,.slice wP n.aT.length wQ] 55)) ?_;try simp only [Act.put,pz]
   clear hK K;have hbB:=ak Qz (.cells #[.string n.name,.slice bY n.labels.length bZ,.int .i64 n.cpu,.int .i64 n.mem,.int .i64 n.slots,.slice wP n.aT.length wQ] 55);replace hrA:=mG hrA (ak (aj _) (.cells #[.string n.name,.slice bY n.labels.length bZ,.int .i64 n.cpu,.int .i64 n.mem,.int .i64 n.slots,.slice wP n.aT.length wQ] 55));refine bP 5 J' U' J' (fun K hK=>?_);refine qQ elIHost _ _ J' ((wn.drew.alloc (.cells #[] 55)).alloc (.cells #[.string n.name,.slice bY n.labels.length bZ,.int .i64 n.cpu,.int .i64 n.mem,.int .i64 n.slots,.slice wP n.aT.length wQ] 55)) wn.heap.size _ 0 [] hrA J' ⟨g,0,none⟩ k bV ((ds.take (k * 6))) J' (by rw [List.length_take,hdl];omega) (fun q u hu=>(hbB.cell (p:=(⟨g,0,none⟩:Addr).add q) auX).trans (HNC.out q u hu)) (fun u hu=>HONE.out u (List.mem_of_mem_take hu)) O' O' auJ ?_;intro v5 w5 hown5 hg5 aaQ;have hb5:Below wn.heap.size wn w5:=Below.grown (hbB) hg5 auJ (fun q hq=>(hrA.lt q hq).1);refine hK _ _ hb5 ?_;try simp only [Act.put,pz]
   clear hK K;refine bP 8 J' U' J' (fun K hK=>?_);refine qQ elIHost _ _ J' w5 wn.heap.size v5 _ _ hown5 J' ⟨wn.heap.size+1,0,none⟩ 1 1 [.string n.name,.slice bY n.labels.length bZ,.int .i64 n.cpu,.int .i64 n.mem,.int .i64 n.slots,.slice wP n.aT.length wQ] J' J' (fun q u hu=>(World.cell?_of_block awP).trans ((DI (wn.drew.alloc (.cells #[] 55)) 55 [.string n.name,.slice bY n.labels.length bZ,.int .i64 n.cpu,.int .i64 n.mem,.int .i64 n.slots,.slice wP n.aT.length wQ] (wn.heap.size+1) S') q u hu)) HN1.out O' O' auK ?_;exact Zaf6
 ·go_simp;refine hK _ _ (ak hbx (.cells #[.string n.name,.slice bY n.labels.length bZ,.int .i64 n.cpu,.int .i64 n.mem,.int .i64 n.slots,.slice wP n.aT.length wQ] 55)) ?_;try simp only [Act.put,pz]
  clear hK K;have hbB:=ak hbx (.cells #[.string n.name,.slice bY n.labels.length bZ,.int .i64 n.cpu,.int .i64 n.mem,.int .i64 n.slots,.slice wP n.aT.length wQ] 55);refine bP 0 J' U' J' (fun K hK=>?_);go_simp;refine hK _ _ (ak hbB (.cells #[] 55)) ?_;try simp only [Act.put,pz]
  clear hK K;have Qz:=ak hbB (.cells #[] 55);have hrA:=vP (D9 (wn.drew.alloc (.cells #[.string n.name,.slice bY n.labels.length bZ,.int .i64 n.cpu,.int .i64 n.mem,.int .i64 n.slots,.slice wP n.aT.length wQ] 55)) 55 6 (wn.heap.size+1) S') (B':=wn.heap.size) O';refine bP 5 J' U' J' (fun K hK=>?_);refine qQ elIHost _ _ J' ((wn.drew.alloc (.cells #[.string n.name,.slice bY n.labels.length bZ,.int .i64 n.cpu,.int .i64 n.mem,.int .i64 n.slots,.slice wP n.aT.length wQ] 55)).alloc (.cells #[] 55)) wn.heap.size _ 0 [] hrA J' ⟨g,0,none⟩ k bV ((ds.take (k * 6))) J' (by rw [List.length_take,hdl];omega) (fun q u hu=>(Qz.cell (p:=(⟨g,0,none⟩:Addr).add q) auX).trans (HNC.out q u hu)) (fun u hu=>HONE.out u (List.mem_of_mem_take hu)) O' O' auI ?_;intro v5 w5 hown5 hg5 aaQ;have hb5:Below wn.heap.size wn w5:=Below.grown (Qz) hg5 auI (fun q hq=>(hrA.lt q hq).1);refine hK _ _ hb5 ?_;try simp only [Act.put,pz]
  clear hK K;refine bP 8 J' U' J' (fun K hK=>?_);refine qQ elIHost _ _ J' w5 wn.heap.size v5 _ _ hown5 J' ⟨wn.heap.size,0,none⟩ 1 1 [.string n.name,.slice bY n.labels.length bZ,.int .i64 n.cpu,.int .i64 n.mem,.int .i64 n.slots,.slice wP n.aT.length wQ] J' J' (fun q u hu=>(World.cell?_of_block awQ).trans ((DI wn.drew 55 [.string n.name,.slice bY n.labels.length bZ,.int .i64 n.cpu,.int .i64 n.mem,.int .i64 n.slots,.slice wP n.aT.length wQ] wn.heap.size rfl) q u hu)) HN1.out O' O' auK ?_
  exact Zaf6):P:=h
theorem Zaai {P:Prop} (h:P:=by
 exact Zaen):P:=h
theorem Zaaj {P:Prop} (h:P:=by
 intro HK;have hbx:Below wn.heap.size wn wn.drew:=aA (aj _)
 refine aX 1 _ J' U' (fun _ _ d _ _ h=>by cases d <;> exact h) hbx (Or.inl ⟨rfl,fun wq hq=>by
  have hcq:=(aB hq).1;go_simp
  try rfl⟩) ?_
 try simp only [Act.put,pz]
 refine aX 2 _ J' U' (fun _ _ d _ _ h=>by cases d <;> exact h) hbx (Or.inl ⟨rfl,fun wq hq=>by
  have hcq:=(aB hq).1;go_simp
  try rfl⟩) ?_
 try simp only [Act.put,pz]
 refine aX 3 _ J' U' (fun _ _ d _ _ h=>by cases d <;> exact h) hbx (Or.inl ⟨rfl,fun wq hq=>by
  have hcq:=(aB hq).1;go_simp
  try rfl⟩) ?_
 try simp only [Act.put,pz]
 refine aX 5 _ J' U' (fun _ _ d _ _ h=>by cases d <;> exact h) hbx (Or.inl ⟨rfl,fun wq hq=>by
  have hcq:=(aB hq).1;go_simp
  try rfl⟩) ?_
 try simp only [Act.put,pz]
 refine D7 0 6 J' J' U' J' J' (fun K hK=>?_) (fun K hK=>?_)
 ·go_simp;refine hK _ _ (ak hbx (.cells #[] 158)) ?_;try simp only [Act.put,pz]
  clear hK K;have Qz:=ak hbx (.cells #[] 158);have hrA:=D9 wn.drew 158 3 wn.heap.size rfl;refine D7 4 6 J' J' U' J' J' (fun K hK=>?_) (fun K hK=>?_)
  ·refine qQ elSNeed _ _ J' (wn.drew.alloc (.cells #[] 158)) wn.heap.size _ 0 [] hrA J' ⟨g,0,none⟩ jj cap ((ds.take (jj * 3))) J' (by rw [List.length_take,HDL.out];omega) (fun q u hu=>(Qz.cell (p:=(⟨g,0,none⟩:Addr).add q) auX).trans (HNC.out q u hu)) (fun u hu=>HONE.out u (List.mem_of_mem_take hu)) O' O' auI ?_;intro v5 w5 hown5 hg5 aaQ;have hb5:Below wn.heap.size wn w5:=Below.grown (Qz) hg5 auI (fun q hq=>(hrA.lt q hq).1);refine hK _ _ hb5 ?_;try simp only [Act.put,pz]
   clear hK K;refine bP 6 J' U' J' (fun K hK=>?_);go_simp;refine hK _ _ (ak hb5 (.cells #[.string y.key,.int .i64 y.op,.slice Ay y.values.length cy] 158)) ?_;try simp only [Act.put,pz]
   clear hK K;have hbB:=ak hb5 (.cells #[.string y.key,.int .i64 y.op,.slice Ay y.values.length cy] 158);refine bP 7 J' U' J' (fun K hK=>?_);refine qQ elSNeed _ _ J' (w5.alloc (.cells #[.string y.key,.int .i64 y.op,.slice Ay y.values.length cy] 158)) wn.heap.size v5 _ _ (mG hown5 (ak (aj _) _)) J' ⟨w5.heap.size,0,none⟩ 1 1 [.string y.key,.int .i64 y.op,.slice Ay y.values.length cy] J' J' (DI w5 158 [.string y.key,.int .i64 y.op,.slice Ay y.values.length cy] w5.heap.size rfl) HN1.out O' O' auJ ?_;intro v7 w7 nK Ua ab7;rw [show 0+jj = jj by omega,List.nil_append] at nK;obtain ⟨g9,p9,hv7,hgb,hgp,hgl⟩:=wW nK O';subst hv7;have hb7:Below wn.heap.size wn w7:=Below.grown (hbB) Ua auJ (fun q hq=>(hown5.lt q hq).1);exact Zafa
  ·go_simp;refine hK _ _ (ak Qz (.cells #[.string y.key,.int .i64 y.op,.slice Ay y.values.length cy] 158)) ?_;try simp only [Act.put,pz]
   clear hK K;have hbB:=ak Qz (.cells #[.string y.key,.int .i64 y.op,.slice Ay y.values.length cy] 158);replace hrA:=mG hrA (ak (aj _) (.cells #[.string y.key,.int .i64 y.op,.slice Ay y.values.length cy] 158));refine bP 4 J' U' J' (fun K hK=>?_);refine qQ elSNeed _ _ J' ((wn.drew.alloc (.cells #[] 158)).alloc (.cells #[.string y.key,.int .i64 y.op,.slice Ay y.values.length cy] 158)) wn.heap.size _ 0 [] hrA J' ⟨g,0,none⟩ jj cap ((ds.take (jj * 3))) J' (by rw [List.length_take,HDL.out];omega) (fun q u hu=>(hbB.cell (p:=(⟨g,0,none⟩:Addr).add q) auX).trans (HNC.out q u hu)) (fun u hu=>HONE.out u (List.mem_of_mem_take hu)) O' O' auJ ?_;intro v5 w5 hown5 hg5 aaQ;have hb5:Below wn.heap.size wn w5:=Below.grown (hbB) hg5 auJ (fun q hq=>(hrA.lt q hq).1);refine hK _ _ hb5 ?_;try simp only [Act.put,pz]
   clear hK K;refine bP 7 J' U' J' (fun K hK=>?_);refine qQ elSNeed _ _ J' w5 wn.heap.size v5 _ _ hown5 J' ⟨wn.heap.size+1,0,none⟩ 1 1 [.string y.key,.int .i64 y.op,.slice Ay y.values.length cy] J' J' (fun q u hu=>(World.cell?_of_block awP).trans ((DI (wn.drew.alloc (.cells #[] 158)) 158 [.string y.key,.int .i64 y.op,.slice Ay y.values.length cy] (wn.heap.size+1) S') q u hu)) HN1.out O' O' auK ?_;exact Zaf3
 ·go_simp;refine hK _ _ (ak hbx (.cells #[.string y.key,.int .i64 y.op,.slice Ay y.values.length cy] 158)) ?_;try simp only [Act.put,pz]
  clear hK K;have hbB:=ak hbx (.cells #[.string y.key,.int .i64 y.op,.slice Ay y.values.length cy] 158);refine bP 0 J' U' J' (fun K hK=>?_);go_simp;refine hK _ _ (ak hbB (.cells #[] 158)) ?_;try simp only [Act.put,pz]
  clear hK K;have Qz:=ak hbB (.cells #[] 158);have hrA:=vP (D9 (wn.drew.alloc (.cells #[.string y.key,.int .i64 y.op,.slice Ay y.values.length cy] 158)) 158 3 (wn.heap.size+1) S') (B':=wn.heap.size) O';refine bP 4 J' U' J' (fun K hK=>?_);refine qQ elSNeed _ _ J' ((wn.drew.alloc (.cells #[.string y.key,.int .i64 y.op,.slice Ay y.values.length cy] 158)).alloc (.cells #[] 158)) wn.heap.size _ 0 [] hrA J' ⟨g,0,none⟩ jj cap ((ds.take (jj * 3))) J' (by rw [List.length_take,HDL.out];omega) (fun q u hu=>(Qz.cell (p:=(⟨g,0,none⟩:Addr).add q) auX).trans (HNC.out q u hu)) (fun u hu=>HONE.out u (List.mem_of_mem_take hu)) O' O' auI ?_;intro v5 w5 hown5 hg5 aaQ;have hb5:Below wn.heap.size wn w5:=Below.grown (Qz) hg5 auI (fun q hq=>(hrA.lt q hq).1);refine hK _ _ hb5 ?_;try simp only [Act.put,pz]
  clear hK K;refine bP 7 J' U' J' (fun K hK=>?_);refine qQ elSNeed _ _ J' w5 wn.heap.size v5 _ _ hown5 J' ⟨wn.heap.size,0,none⟩ 1 1 [.string y.key,.int .i64 y.op,.slice Ay y.values.length cy] J' J' (fun q u hu=>(World.cell?_of_block awQ).trans ((DI wn.drew 158 [.string y.key,.int .i64 y.op,.slice Ay y.values.length cy] wn.heap.size rfl) q u hu)) HN1.out O' O' auK ?_
  exact Zaf3):P:=h
theorem Zaak {P:Prop} (h:P:=by
 exact Zaep):P:=h
theorem Zaal {P:Prop} (h:P:=by
 go_wp2_with fail
 clear q0 q1 q2 q3 q4 q5 q6 q7 q8;refine aF _ U' U' (aj _) ?_
 repeat (first
  | (apply aG
     case hw=>rfl
     simp only [Act.put,pz])
  | (apply aH
     case hw=>rfl
     case h =>exact Zae3
     simp only [Act.put,pz]))
 exact Zae7):P:=h
theorem Zaam {P:Prop} (h:P:=by
 have HF:=I' (dW hlt hp);clear hp;go_wp2_with (go_at_call 66;refine (iQ x _ _ x.hosts[0].name _ (aJ h atS) Ji.out).mono ?_;rw [HU.out];rintro e w5 ⟨rfl,hb5⟩;obtain ⟨hc5,hf5⟩:=ay hb5;have Es:w.heap.size < w5.heap.size:=(sq hb5.size);have IV:b < w5.heap.size:=(sq hb5.size);(try have hx5:wr.heap.size < w5.heap.size:=(sq hb5.size)))
 clear q0 q1 q2 q3 q4 q5;refine aF _ U' U' (aj _) ?_
 repeat (first
  | (apply aG
     case hw=>rfl
     simp only [Act.put,pz])
  | (apply aH
     case hw=>rfl
     case h =>exact Zafc
     simp only [Act.put,pz]))
 exact Zae8):P:=h
theorem Zaan {P:Prop} (h:P:=by
 exact Zae7):P:=h
theorem Zaao {P:Prop} (h:P:=by
 try simp only [Bool.and_false,Bool.and_true,Bool.false_and,Bool.and_self] at hp
 have HF:=I' (dW hlt hp);clear hp;go_wp2_with fail
 refine aF _ U' U' (aj _) ?_
 repeat (first
  | (apply aG
     case hw=>rfl
     simp only [Act.put,pz])
  | (apply aH
     case hw=>rfl
     case h =>exact Zafe
     simp only [Act.put,pz]))
 refine aN ?_;intro wn hn;replace hn:=hn.out;obtain ⟨hcn,hfn⟩:=ay hn;have hzn:w.heap.size < wn.heap.size:=sq hn.size;have hyn:b' < wn.heap.size:=sq hn.size;try (have hxn:wr.heap.size < wn.heap.size:=sq hn.size)
 go_wp2_with (go_at_call 56;refine (jm x _ _ x.hosts[j+1].name _ (aJ h atS) Ji.out).mono ?_;rw [HU.out];rintro e w5 ⟨rfl,hb5⟩;obtain ⟨hc5,hf5⟩:=ay hb5;have Es:w.heap.size < w5.heap.size:=(sq hb5.size);have IV:b' < w5.heap.size:=(sq hb5.size);(try have hx5:wr.heap.size < w5.heap.size:=(sq hb5.size)))
 go_ret
 exact ⟨by rw [HF.out];rfl,atS⟩):P:=h
theorem Zaap {P:Prop} (h:P:=by
 have HF:=I' (dW hlt hp);clear hp;go_wp2_with fail
 refine aF _ U' U' (aj _) ?_
 repeat (first
  | (apply aG
     case hw=>rfl
     simp only [Act.put,pz])
  | (apply aH
     case hw=>rfl
     case h =>exact Zaff
     simp only [Act.put,pz]))
 refine aN ?_;intro wn hn;replace hn:=hn.out;obtain ⟨hcn,hfn⟩:=ay hn;have hzn:w.heap.size < wn.heap.size:=sq hn.size;have hyn:b < wn.heap.size:=sq hn.size;try (have hxn:wr.heap.size < wn.heap.size:=sq hn.size)
 go_wp2_with (go_at_call 56;refine (jm x _ _ x.hosts[0].name _ (aJ h atS) Ji.out).mono ?_;rw [HU.out];rintro e w5 ⟨rfl,hb5⟩;obtain ⟨hc5,hf5⟩:=ay hb5;have Es:w.heap.size < w5.heap.size:=(sq hb5.size);have IV:b < w5.heap.size:=(sq hb5.size);(try have hx5:wr.heap.size < w5.heap.size:=(sq hb5.size)))
 go_ret
 exact ⟨by rw [HF.out];rfl,atS⟩):P:=h
theorem Zaaq {P:Prop} (h:P:=by
 go_wp2_with fail
 clear q0 q1 q2 q3 q4 q5 q6 q7 q8;refine aF _ U' U' (aj _) ?_
 repeat (first
  | (apply aG
     case hw=>rfl
     simp only [Act.put,pz])
  | (apply aH
     case hw=>rfl
     case h =>exact Zae4
     simp only [Act.put,pz]))
 exact Zae8):P:=h
theorem Zaar {P:Prop} (h:P:=by
 exact Zae3):P:=h
theorem Zaas {P:Prop} (h:P:=by
 exact Zae8):P:=h
theorem Zaat {P:Prop} (h:P:=by
 have HN:=I' (gq hall.out hp);clear hp;go_wp2_with fail
 skip
 refine aF _ U' U' (aj _) ?_
 repeat (first
  | (apply aG
     case hw=>rfl
     simp only [Act.put,pz])
  | (apply aH
     case hw=>rfl
     case h =>exact Zae6
     simp only [Act.put,pz]))
 refine aN ?_;intro wn hn;replace hn:=hn.out;obtain ⟨hcn,hfn⟩:=ay hn;have hzn:w.heap.size < wn.heap.size:=sq hn.size;have hyn:b < wn.heap.size:=sq hn.size;try (have hxn:wr.heap.size < wn.heap.size:=sq hn.size)
 have hWn:Below wr.heap.size wr wn:=atS;have hs8:wn.cell? ⟨wr.heap.size,8,none⟩ = some (.int .i64 x.au[0].seq):=by rw [hcn _ _ S',cell_of_row _ _ _ _ _ _ (heap_alloc_new wr _)];rfl
 have anN:(0:Nat) < 12:=by omega
 obtain ⟨wo,hwo⟩:∃wo,wo = wr:=⟨_,rfl⟩;subst hwo;go_wp2_with fail
 go_loopw [5] (fun i2 wi=>∃q:Nat,q≤0∧i2 = .int .i64 q∧Hid (∀u∈x.au.take q,(u.seq == x.au[0].seq) = false)∧Below wn.heap.size wn wi) (fun i2 _=>0 - (intOf i2).toNat)
 case atStart=>exact ⟨0,Nat.zero_le _,rfl,by show ∀_,_;simp,aj _⟩
 case round =>
  obtain ⟨q,hq,rfl,HQ,hbi⟩:=hrel;have Fp:Below wo.heap.size wo wr:=ah hWn hbi;have hBi:Below w.heap.size w wr:=ah hBr Fp;have ci0:=(ay Fp).1 _ 0 tX |>.trans c0;have ci1:=(ay Fp).1 _ 1 tX |>.trans c1;have ci2:=(ay Fp).1 _ 2 tX |>.trans c2;have ci3:=(ay Fp).1 _ 3 tX |>.trans c3;have ci4:=(ay Fp).1 _ 4 tX |>.trans c4;have ci5:=(ay Fp).1 _ 5 tX |>.trans c5;replace hs8:=((ay hbi).1 _ _ O').trans hs8;have hzi:w.heap.size < wr.heap.size:=by have:=Fp.size;omega
  have hxi:wo.heap.size < wr.heap.size:=by have:=hbi.size;omega
  by_cases hqk:q < 0
  ·exact absurd hqk O'
  ·obtain rfl:q = 0:=by omega
   have hsn:seenIn (x.au.take (0)) x.au[0].seq = false:=by unfold seenIn;rw [List.any_eq_false];intro u hu;have:=HQ.out u hu;simp [this]
   have Gn:=I' (gq hfresh.out (show DN x.au (0) = true by rw [sG hlt,hsn];rfl));clear hsn;go_wp2
   exact ⟨⟨0+1,O',N',HN.out,Gn.out,ah hbl Fp⟩,by simp [intOf];omega⟩):P:=h
theorem Zaau {P:Prop} (h:P:=by
 rw [HK.out];rintro e w2 ⟨rfl,hb2⟩;obtain ⟨hc2,hf2⟩:=ay hb2;have hz2:w.heap.size < w2.heap.size:=by have:=hb2.size;simp at this;omega
 have hq1:w2.cell? ⟨w.heap.size,1,none⟩ = some (.int .i64 x.op):=by rw [hc2 _ _ S',cell_of_row _ _ _ _ _ _ (heap_alloc_new w _)];rfl
 have hq2:w2.cell? ⟨w.heap.size,2,none⟩ = some (.slice jy x.values.length ji):=by rw [hc2 _ _ S',cell_of_row _ _ _ _ _ _ (heap_alloc_new w _)];rfl
 have hB2:Below w.heap.size w w2:=atS;clear hc2 hf2;go_wp2;go_ret
 exact ⟨by rw [HF.out];first | rfl | simp_all,hB2⟩):P:=h
theorem Zaav {P:Prop} (h:P:=by
 exact Zae4):P:=h
theorem Zaaw {P:Prop} (h:P:=by
 have rr:=HS.out.box.lt;go_wp2_with fail
 refine (alS x _ _ v3 (rd_extN HX.out HS.out.below) hl1 hl2 hl3 hv).mono ?_;rintro e w8 ⟨ds8,G8,rfl,sV,hb8⟩;have T8:=HS.out.ext hb8;have SY:=sV;obtain ⟨Alabels9,clabels9,Flabels9,Aneeds9,cneeds9,Fneeds9,Atolerances9,ctolerances9,Ftolerances9,hck9,hF9,hname9,hlabels9,hcpu9,hmem9,hrank9,hneeds9,htolerances9⟩:=dL sV.rd;subst hck9;clear hF9 sV;have r0:=T8.rb.cell (i:=0) (u:=.string ⟨#[]⟩) rfl;have r1:=T8.rb.cell (i:=1) (u:=.slice none 0 0) rfl;have r2:=T8.rb.cell (i:=2) (u:=.int .i64 0) rfl;have r3:=T8.rb.cell (i:=3) (u:=.int .i64 0) rfl;have r4:=T8.rb.cell (i:=4) (u:=.int .i64 0) rfl;have r5:=T8.rb.cell (i:=5) (u:=.slice none 0 0) rfl;have r6:=T8.rb.cell (i:=6) (u:=.slice none 0 0) rfl;have rf:=T8.rb.fz;have rl:=T8.rb.lt;have HO9:=I' SY;have HT8:=I' T8;have hzw:w.heap.size+1 < v3.heap.size:=HS.out.rb.lt;clear SY T8 hb8;go_wp2_with fail
 try dsimp only
 iterate 60 (first | go_step | skip)
 refine bodyPost_ret (v:=.tuple #[.agg #[.string x.name,.slice Alabels9 x.labels.length clabels9,.int .i64 x.cpu,.int .i64 x.mem,.int .i64 x.rank,.slice Aneeds9 x.needs.length cneeds9,.slice Atolerances9 x.tolerances.length ctolerances9],.bool false]) (by simp [results,Tryz.results72,go_sem, *]) rfl ⟨[.string x.name,.slice Alabels9 x.labels.length clabels9,.int .i64 x.cpu,.int .i64 x.mem,.int .i64 x.rank,.slice Aneeds9 x.needs.length cneeds9,.slice Atolerances9 x.tolerances.length ctolerances9],G8,by rw [HRN.out];try rfl,?_,?_⟩
 ·rw [HRN.out];refine Own.mono (B:=v3.heap.size) ?_ O';exact Zafm
 ·exact Zafr):P:=h
theorem Zaax {P:Prop} (h:P:=by
 have rr:=HS.out.box.lt;go_wp2_with fail
 refine (anU x _ _ v3 (rd_extN HX.out HS.out.below) hl1 hl2 hl3 hv).mono ?_;rintro e w8 ⟨ds8,G8,rfl,sV,hb8⟩;have T8:=HS.out.ext hb8;have SY:=sV;obtain ⟨Alabels9,clabels9,Flabels9,Aneeds9,cneeds9,Fneeds9,Atolerances9,ctolerances9,Ftolerances9,hck9,hF9,hname9,hlabels9,hcpu9,hmem9,hrank9,hneeds9,htolerances9⟩:=dL sV.rd;subst hck9;clear hF9 sV;have r0:=T8.rb.cell (i:=0) (u:=.string ⟨#[]⟩) rfl;have r1:=T8.rb.cell (i:=1) (u:=.slice none 0 0) rfl;have r2:=T8.rb.cell (i:=2) (u:=.int .i64 0) rfl;have r3:=T8.rb.cell (i:=3) (u:=.int .i64 0) rfl;have r4:=T8.rb.cell (i:=4) (u:=.int .i64 0) rfl;have r5:=T8.rb.cell (i:=5) (u:=.slice none 0 0) rfl;have r6:=T8.rb.cell (i:=6) (u:=.slice none 0 0) rfl;have rf:=T8.rb.fz;have rl:=T8.rb.lt;have HO9:=I' SY;have HT8:=I' T8;have hzw:w.heap.size+1 < v3.heap.size:=HS.out.rb.lt;clear SY T8 hb8;go_wp2_with fail
 try dsimp only
 iterate 60 (first | go_step | skip)
 refine bodyPost_ret (v:=.tuple #[.agg #[.string x.name,.slice Alabels9 x.labels.length clabels9,.int .i64 x.cpu,.int .i64 x.mem,.int .i64 x.rank,.slice Aneeds9 x.needs.length cneeds9,.slice Atolerances9 x.tolerances.length ctolerances9],.bool false]) (by simp [results,Tryz.results48,go_sem, *]) rfl ⟨[.string x.name,.slice Alabels9 x.labels.length clabels9,.int .i64 x.cpu,.int .i64 x.mem,.int .i64 x.rank,.slice Aneeds9 x.needs.length cneeds9,.slice Atolerances9 x.tolerances.length ctolerances9],G8,by rw [HRN.out];try rfl,?_,?_⟩
 ·rw [HRN.out];refine Own.mono (B:=v3.heap.size) ?_ O';exact Zafm
 ·exact Zafr):P:=h
theorem Zaay {P:Prop} (h:P:=by
 exact Zae5):P:=h
theorem Zaaz {P:Prop} (h:P:=by
 exact Zafe):P:=h
theorem Zaa0 {P:Prop} (h:P:=by
 have HC:=I' hc;have HN:=I' hn;clear hc hn;go_wp2_with fail
 refine (l22Copy_room x _ _ _ (aZ h atT) HW.out).mono ?_;rintro e w1 ⟨cs1,G1,rfl,jX,hb1,hRM⟩;obtain ⟨hc1,hf1⟩:=ay hb1;have hz1_0:w.heap.size < w1.heap.size:=sq hb1.size;have hz1_1:w.heap.size+1 < w1.heap.size:=sq hb1.size;have aqV:w.heap.size+1+1 < w1.heap.size:=sq hb1.size;have hR1:=jX.rd;obtain ⟨dG,bV,xq,dS,dJ,Bz,hck,hG1,oO,tq,wI,iV,gI,iW⟩:=aO hR1;subst hck;clear hG1 hR1;go_wp2_with fail
 refine (PodNormal_spec u _ _ _ (aZ h' atT) HU.out).mono ?_;rw [HN.out];rintro e w2 ⟨cs2,G2,rfl,hO2,hb2⟩;obtain ⟨hc2,hf2⟩:=ay hb2;have hz2_0:w.heap.size < w2.heap.size:=sq hb2.size;have hz2_1:w.heap.size+1 < w2.heap.size:=sq hb2.size;have hz2_2:w.heap.size+1+1 < w2.heap.size:=sq hb2.size;have aqX:w1.heap.size < w2.heap.size:=sq hb2.size;have hR2:=hO2.rd;obtain ⟨bY,bZ,iq,eU,eX,jV,bg,bn,dK,hck,hG2,jW,dA,kQ,lg,lG,iO,bK⟩:=dL hR2;subst hck;clear hG2 hR2;go_wp2_with fail
 refine (qM x _ _ _ (aZ h atT) HW.out).mono ?_;rw [HC.out];rintro e w3 ⟨rfl,hb3⟩;obtain ⟨hc3,hf3⟩:=ay hb3;have hz3_0:w.heap.size < w3.heap.size:=sq hb3.size;have hz3_1:w.heap.size+1 < w3.heap.size:=sq hb3.size;have hz3_2:w.heap.size+1+1 < w3.heap.size:=sq hb3.size;have hz3_3:w1.heap.size < w3.heap.size:=sq hb3.size;have hz3_4:w2.heap.size < w3.heap.size:=sq hb3.size;have HI:=I' hk0;clear hk0;go_wp2_with fail
 refine (aaj x _ _ n.name _ (aZ h atT) Ji.out).mono ?_;rw [HI.out];rintro e w4 ⟨rfl,hb4⟩;obtain ⟨hc4,hf4⟩:=ay hb4;have hz4_0:w.heap.size < w4.heap.size:=sq hb4.size;have hz4_1:w.heap.size+1 < w4.heap.size:=sq hb4.size;have hz4_2:w.heap.size+1+1 < w4.heap.size:=sq hb4.size;have hz4_3:w1.heap.size < w4.heap.size:=sq hb4.size;have hz4_4:w2.heap.size < w4.heap.size:=sq hb4.size;have HO9:Hid (Own w4 (w.heap.size+1+1+1) x [.slice dG x.hosts.length bV,.slice dS x.au.length dJ,.int .i64 x.next,.int .i64 x.weights.pack,.int .i64 x.weights.spread,.int .i64 x.weights.soft] G1):=I' ((((((jX.mono S').alloc _).ext hb2).alloc _).ext hb3).ext hb4);clear jX hO2 hRM;go_wp2_with fail
 try dsimp only
 iterate 60 (first | go_step | skip)
 refine bodyPost_ret (v:=.tuple #[.agg #[.slice dG x.hosts.length bV,.slice dS x.au.length dJ,.int .i64 x.next,.int .i64 x.weights.pack,.int .i64 x.weights.spread,.int .i64 x.weights.soft],.int .i64 4]) (by simp [results,Tryz.results19,go_sem, *]) rfl ?_;rw [HF.out];first | refine ⟨[.slice dG x.hosts.length bV,.slice dS x.au.length dJ,.int .i64 x.next,.int .i64 x.weights.pack,.int .i64 x.weights.spread,.int .i64 x.weights.soft],G1,rfl,?_,?_⟩ | refine ⟨[.slice dG x.hosts.length bV,.slice dS x.au.length dJ,.int .i64 x.next,.int .i64 x.weights.pack,.int .i64 x.weights.spread,.int .i64 x.weights.soft],rfl,⟨G1,?_⟩,?_⟩
 ·try dsimp only
  refine Own.mono (B:=w.heap.size+1+1+1) ?_ O';exact Zafm
 ·exact aui):P:=h
theorem Zaa1 {P:Prop} (h:P:=by
 exact Zae2):P:=h
theorem Zaa2 {P:Prop} (h:P:=by
 exact Zae6):P:=h
theorem Zaa3 {P:Prop} (h:P:=by
 exact Zagc):P:=h
theorem Zaa4 {P:Prop} (h:P:=by
 exact Zafm):P:=h
theorem Zaa5 {P:Prop} (h:P:=by
 exact Zaff):P:=h
theorem Zaa6 {P:Prop} (h:P:=by
 exact Zaez):P:=h
theorem Zaa7 {P:Prop} (h:P:=by
 exact Zae0):P:=h
theorem Zaa8 {P:Prop} (h:P:=by
 have hlen:(insAt k (newP x n) x.au).length = x.au.length+1:=by rw [insAt_len]
 obtain ⟨A9,c9,F9,hv9,SY,hF9⟩:=Own.of_rowI (xs:=insAt k (newP x n) x.au) (by rw [hlen];exact vP HROW8.out (B':=w.heap.size+1+1+1) O') (HOC.out.keep (fun y hy=>HKP.out y (HFI.out y hy).1) O') (fun q hq hm=>by have:=(HROW8.out.lt q hq).1;have:=(HFI.out q hm).1;omega);rw [hlen] at hv9 SY;simp only [Value.slice.injEq,true_and] at hv9;obtain ⟨rfl,rfl⟩:=hv9
 have HOW:=I' (Own.wholeA (HOp.out.keep (fun y hy=>HKP.out y (by have:=HGH.out y hy;omega)) O') SY (fun y hm hy=>by
  rcases hF9 y hy with h9 | h9
  ·exact (HFI.out y h9).2.2 hm
  ·have:=(HROW8.out.lt y h9).1;have:=HGH.out y hm;omega) (show I64 (x.next+1) by unfold I64;omega) iV gI iW)
 have HFG:=I' (show ∀y∈Gh++F9,y≠w1.heap.size from fun y hy=>by
  rcases List.mem_append.1 hy with hy | hy
  ·have:=HGH.out y hy;omega
  ·rcases hF9 y hy with h9 | h9
   ·exact (HFI.out y h9).2.1
   ·have:=(HROW8.out.lt y h9).1;omega)
 have XA:=HB8.out;clear SY hF9;try dsimp only
 iterate 90 (first | go_step | skip)
 refine bodyPost_ret (v:=.tuple #[.agg #[.slice dG x.hosts.length bV,.slice (some ⟨g8,0,none⟩) (x.au.length+1) p8,.int .i64 (x.next+1),.int .i64 x.weights.pack,.int .i64 x.weights.spread,.int .i64 x.weights.soft],.int .i64 0]) (by simp [results,Tryz.results19,go_sem, *]) rfl ?_;rw [HF.out,← HKE.out];first | refine ⟨[.slice dG x.hosts.length bV,.slice (some ⟨g8,0,none⟩) (x.au.length+1) p8,.int .i64 (x.next+1),.int .i64 x.weights.pack,.int .i64 x.weights.spread,.int .i64 x.weights.soft],Gh++F9,rfl,?_,?_⟩ | refine ⟨[.slice dG x.hosts.length bV,.slice (some ⟨g8,0,none⟩) (x.au.length+1) p8,.int .i64 (x.next+1),.int .i64 x.weights.pack,.int .i64 x.weights.spread,.int .i64 x.weights.soft],rfl,⟨Gh++F9,?_⟩,?_⟩
 ·exact Zaey
 ·exact aui):P:=h
theorem Zaa9 {P:Prop} (h:P:=by
 have m2:=KB6.cell (i:=2) (u:=.int .i64 x.next) rfl;have m3:=KB6.cell (i:=3) (u:=.int .i64 x.weights.pack) rfl;have m4:=KB6.cell (i:=4) (u:=.int .i64 x.weights.spread) rfl;have m5:=KB6.cell (i:=5) (u:=.int .i64 x.weights.soft) rfl;have mf:=KB6.fz;have ml:=KB6.lt;have r0:=KR6.cell (i:=0) (u:=.slice none 0 0) rfl;have r1:=KR6.cell (i:=1) (u:=.slice none 0 0) rfl;have r2:=KR6.cell (i:=2) (u:=.int .i64 0) rfl;have r3:=KR6.cell (i:=3) (u:=.int .i64 0) rfl;have r4:=KR6.cell (i:=4) (u:=.int .i64 0) rfl;have r5:=KR6.cell (i:=5) (u:=.int .i64 0) rfl;have rf:=KR6.fz;have rl:=KR6.lt;have HOW:=I' (Own.wholeA hOp6 iD (fun y hy hy'=>(hF6a y hy').2 hy) (show I64 (x.next+1) by unfold I64;omega) zF wB zG);have HFG:=I' (show ∀y∈Gh++F6,y≠w4.heap.size from fun y hy=>by rcases List.mem_append.1 hy with hy | hy;have:=HGH.out y hy;omega;exact (hF6a y hy).1);clear iD hOp6 hF6 hF6a hU6 KB6 KR6;go_wp2_with fail
 try dsimp only
 iterate 90 (first | go_step | skip)
 refine bodyPost_ret (v:=.tuple #[.agg #[.slice Pe x.hosts.length Pg,.slice A6 (x.au.length+1) c6,.int .i64 (x.next+1),.int .i64 x.weights.pack,.int .i64 x.weights.spread,.int .i64 x.weights.soft],.int .i64 0]) (by simp [results,Tryz.results30,go_sem, *]) rfl ?_;rw [HF.out];first | refine ⟨[.slice Pe x.hosts.length Pg,.slice A6 (x.au.length+1) c6,.int .i64 (x.next+1),.int .i64 x.weights.pack,.int .i64 x.weights.spread,.int .i64 x.weights.soft],Gh++F6,rfl,?_,?_⟩ | refine ⟨[.slice Pe x.hosts.length Pg,.slice A6 (x.au.length+1) c6,.int .i64 (x.next+1),.int .i64 x.weights.pack,.int .i64 x.weights.spread,.int .i64 x.weights.soft],rfl,⟨Gh++F6,?_⟩,?_⟩
 ·exact Zaey
 ·exact aui):P:=h
theorem Zaba {P:Prop} (h:P:=by
 have hlen:(insAt k n x.hosts).length = x.hosts.length+1:=by rw [insAt_len]
 obtain ⟨A9,c9,F9,hv9,SY,hF9⟩:=Own.of_rowI (xs:=insAt k n x.hosts) (by rw [hlen];exact vP HROW8.out (B':=w.heap.size+1+1+1) O') (HOC.out.keep (fun y hy=>HKP.out y (HFI.out y hy).1) O') (fun q hq hm=>by have:=(HROW8.out.lt q hq).1;have:=(HFI.out q hm).1;omega);rw [hlen] at hv9 SY;simp only [Value.slice.injEq,true_and] at hv9;obtain ⟨rfl,rfl⟩:=hv9
 have HOW:=I' (Own.wholeA SY (HOp.out.keep (fun y hy=>HKP.out y (by have:=HGP.out y hy;omega)) O') (fun y hy=>by
  rcases hF9 y hy with h9 | h9
  ·exact (HFI.out y h9).2.2
  ·have:=(HROW8.out.lt y h9).1;exact fun hm=>by have:=HGP.out y hm;omega) wI iV gI iW)
 have HFG:=I' (show ∀y∈F9++Gp,y≠w1.heap.size from fun y hy=>by
  rcases List.mem_append.1 hy with hy | hy
  ·rcases hF9 y hy with h9 | h9
   ·exact (HFI.out y h9).2.1
   ·have:=(HROW8.out.lt y h9).1;omega
  ·have:=HGP.out y hy;omega)
 have XA:=HB8.out;clear SY hF9;try dsimp only
 iterate 60 (first | go_step | skip)
 refine bodyPost_ret (v:=.tuple #[.agg #[.slice (some ⟨g8,0,none⟩) (x.hosts.length+1) p8,.slice dS x.au.length dJ,.int .i64 x.next,.int .i64 x.weights.pack,.int .i64 x.weights.spread,.int .i64 x.weights.soft],.int .i64 0]) (by simp [results,Tryz.results20,go_sem, *]) rfl ?_;rw [HF.out,← HKE.out];refine ⟨[.slice (some ⟨g8,0,none⟩) (x.hosts.length+1) p8,.slice dS x.au.length dJ,.int .i64 x.next,.int .i64 x.weights.pack,.int .i64 x.weights.spread,.int .i64 x.weights.soft],F9++Gp,rfl,?_,?_⟩
 ·exact Zaey
 ·exact aui):P:=h
theorem Zabb {P:Prop} (h:P:=by
 rintro e w1 ⟨ds,G,rfl,hO,hb1⟩;have hR:=hO.rd;obtain ⟨kM,kN,ND,ny,nC,TD,hck,hGr,NG,TF,TG,xI,uD,xJ⟩:=aO hR;subst hck;clear hGr hR;have hz1:=hb1.size;simp at hz1;have XB:oG w1 (w.heap.size+1+1) [.slice none 0 0,.slice none 0 0,.int .i64 0,.int .i64 0,.int .i64 0,.int .i64 0]:=oG.ext (oG.new3 w _ _ [.slice none 0 0,.slice none 0 0,.int .i64 0,.int .i64 0,.int .i64 0,.int .i64 0] 44) hb1;have HO:=I' (hO.mono (B':=w.heap.size+1+1+1) S');have hb2:Below w.heap.size w w1:=ah atT hb1;clear hO hb1 h;try dsimp only
 iterate 8 go_step
 refine wp_storeB 44 _ _ rfl (w.heap.size+1+1) 0 [.slice kM R.hosts.length kN,.slice ny R.au.length nC,.int .i64 R.next,.int .i64 R.weights.pack,.int .i64 R.weights.spread,.int .i64 R.weights.soft] [.slice none 0 0,.slice none 0 0,.int .i64 0,.int .i64 0,.int .i64 0,.int .i64 0] rfl rfl XB S' U' aub ?_;intro w2 YB OB;replace YB:oG w2 (w.heap.size+1+1) [.slice kM R.hosts.length kN,.slice ny R.au.length nC,.int .i64 R.next,.int .i64 R.weights.pack,.int .i64 R.weights.spread,.int .i64 R.weights.soft]:=YB;try dsimp only [Act.put]
 go_wp2;refine bodyPost_ret (v:=.tuple #[.agg #[.slice kM R.hosts.length kN,.slice ny R.au.length nC,.int .i64 R.next,.int .i64 R.weights.pack,.int .i64 R.weights.spread,.int .i64 R.weights.soft],.int .i64 cd]) (results_cellB2 Tryz.results6 _ (w.heap.size+1+1) [.slice kM R.hosts.length kN,.slice ny R.au.length nC,.int .i64 R.next,.int .i64 R.weights.pack,.int .i64 R.weights.spread,.int .i64 R.weights.soft] _ _ rfl rfl YB Tryz.underlying44 rfl U') rfl ?_
 exact Zafn):P:=h
theorem Zabc {P:Prop} (h:P:=by
 refine aN ?_;intro wn hn;replace hn:=hn.out;go_wp2
 ·rename_i hne;go_ret
  refine ⟨?_,ah hbl hn⟩;rw [nP (k+1) auA HL.out];rfl
 ·rename_i hne
  exact ⟨⟨k+1,O',N',by show _ = _;rw [iC hlt hlt',Heq.out];simpa [eqStr,Am] using hne,ah hbl hn⟩,by simp [intOf];omega⟩):P:=h
theorem Zabd {P:Prop} (h:P:=by
 have m1:=KB6.cell (i:=1) (u:=.slice Vo x.au.length Vp) rfl;have m2:=KB6.cell (i:=2) (u:=.int .i64 x.next) rfl;have m3:=KB6.cell (i:=3) (u:=.int .i64 x.weights.pack) rfl;have m4:=KB6.cell (i:=4) (u:=.int .i64 x.weights.spread) rfl;have m5:=KB6.cell (i:=5) (u:=.int .i64 x.weights.soft) rfl;have mf:=KB6.fz;have ml:=KB6.lt;have r0:=KR6.cell (i:=0) (u:=.slice none 0 0) rfl;have r1:=KR6.cell (i:=1) (u:=.slice none 0 0) rfl;have r2:=KR6.cell (i:=2) (u:=.int .i64 0) rfl;have r3:=KR6.cell (i:=3) (u:=.int .i64 0) rfl;have r4:=KR6.cell (i:=4) (u:=.int .i64 0) rfl;have r5:=KR6.cell (i:=5) (u:=.int .i64 0) rfl;have rf:=KR6.fz;have rl:=KR6.lt;have HOW:=I' (Own.wholeA iD hOp6 (fun y hy=>(hF6a y hy).2) Vs zF wB zG);have HFG:=I' (show ∀y∈F6++Gp,y≠w4.heap.size from fun y hy=>by rcases List.mem_append.1 hy with hy | hy;exact (hF6a y hy).1;have:=HGP.out y hy;omega);clear iD hOp6 hF6 hF6a hU6 KB6 KR6;go_wp2_with fail
 try dsimp only
 iterate 60 (first | go_step | skip)
 refine bodyPost_ret (v:=.tuple #[.agg #[.slice A6 (x.hosts.length+1) c6,.slice Vo x.au.length Vp,.int .i64 x.next,.int .i64 x.weights.pack,.int .i64 x.weights.spread,.int .i64 x.weights.soft],.int .i64 0]) (by simp [results,Tryz.results31,go_sem, *]) rfl ?_;rw [HF.out];refine ⟨[.slice A6 (x.hosts.length+1) c6,.slice Vo x.au.length Vp,.int .i64 x.next,.int .i64 x.weights.pack,.int .i64 x.weights.spread,.int .i64 x.weights.soft],F6++Gp,rfl,?_,?_⟩
 ·exact Zaey
 ·exact aui):P:=h
theorem Zabe {P:Prop} (h:P:=by
 exact Zaey):P:=h
theorem Zabf {P:Prop} (h:P:=by
 rintro e w1 ⟨ds,G,rfl,hO,hb1⟩;have hR:=hO.rd;obtain ⟨kM,kN,ND,ny,nC,TD,hck,hGr,NG,TF,TG,xI,uD,xJ⟩:=aO hR;subst hck;clear hGr hR;have XB:=X0.ext hb1;have HO:=I' (hO.mono (B':=w.heap.size+1+1+1) O');have hb2:Below w.heap.size w w1:=ah hB0 hb1;clear hO hb1 h X0;try dsimp only
 iterate 8 go_step
 refine wp_storeB 44 _ _ rfl (w.heap.size+1+1) 0 [.slice kM R.hosts.length kN,.slice ny R.au.length nC,.int .i64 R.next,.int .i64 R.weights.pack,.int .i64 R.weights.spread,.int .i64 R.weights.soft] [.slice none 0 0,.slice none 0 0,.int .i64 0,.int .i64 0,.int .i64 0,.int .i64 0] rfl rfl XB S' U' aub ?_;intro w2 YB OB;replace YB:oG w2 (w.heap.size+1+1) [.slice kM R.hosts.length kN,.slice ny R.au.length nC,.int .i64 R.next,.int .i64 R.weights.pack,.int .i64 R.weights.spread,.int .i64 R.weights.soft]:=YB;try dsimp only [Act.put]
 go_wp2;refine bodyPost_ret (v:=.tuple #[.agg #[.slice kM R.hosts.length kN,.slice ny R.au.length nC,.int .i64 R.next,.int .i64 R.weights.pack,.int .i64 R.weights.spread,.int .i64 R.weights.soft],.int .i64 cd]) (results_cellB2 Tryz.results9 _ (w.heap.size+1+1) [.slice kM R.hosts.length kN,.slice ny R.au.length nC,.int .i64 R.next,.int .i64 R.weights.pack,.int .i64 R.weights.spread,.int .i64 R.weights.soft] _ _ rfl rfl YB Tryz.underlying44 rfl U') rfl ?_
 exact Zafn):P:=h
theorem Zabg {P:Prop} (h:P:=by
 intro wq hq;have hcq:=(aB hq).1;have lJ:=(aB hq).2;go_simp
 first
  | exact ⟨hq,rfl⟩
  | exact ⟨aQ hq _,rfl⟩
  | (refine (lW (kk) _ O' O').mono ?_;rintro e w2 ⟨rfl,hb2⟩;exact ⟨rfl,aI hq hb2⟩)
  | (simp only [↓IntWalk.iteOmega];exact ⟨hq,rfl⟩)):P:=h
theorem Zabh {P:Prop} (h:P:=by
 refine aN ?_;intro wn hn;replace hn:=hn.out;obtain ⟨hcn,hfn⟩:=ay hn;have hzn:w.heap.size < wn.heap.size:=sq hn.size;have hyn:b' < wn.heap.size:=sq hn.size;try (have hxn:wr.heap.size < wn.heap.size:=sq hn.size)
 have zq:=((hown.alloc (.cells #[.string x.au[j+1].aS.name,.slice fC x.au[j+1].aS.labels.length fD,.int .i64 x.au[j+1].aS.cpu,.int .i64 x.au[j+1].aS.mem,.int .i64 x.au[j+1].aS.rank,.slice gB x.au[j+1].aS.needs.length gG,.slice bT x.au[j+1].aS.tolerances.length bU,.string x.au[j+1].on,.int .i64 x.au[j+1].seq] 97)).kept (grown_of hn) S')
 go_wp2_with (at_mapUpdate
              refine wpList_mapUpdate_own _ J' _ _ _ 113 J' 3 4 Oy Tryz.underlying113 _ wp.heap.size _ _ J' zq at6 _ _ _ J' J' (Maps.keyOf_int_mk Tryz.underlying3 (WalkArith.wf_i64 Ue)) _ [] (plainElem_bool Tryz.underlying4 true) ?_
              intro w5 hown5 JJ)
 exact ⟨⟨j+1+1,O',N',HN.out,Gn.out,au2,(Below.grown (ah (ak U3 _) hn) JJ au3 (fun k hk=>by cases hk;exact Nat.le_refl _))⟩,by simp [intOf];omega⟩):P:=h
theorem Zabi {P:Prop} (h:P:=by
 go_enter Tryz.func28,Tryz.ntmps28;go_wp2_with fail
 rw [HW0.out]
 go_wp2_with (first
  | (go_at_call 64;refine (jc x.next 1 1000000000 _).mono ?_;rw [Jf.out];rintro e w1 ⟨rfl,hw1⟩;simp only [← hw1];clear hw1 w1)
  | (go_at_call 65;refine (pU x.weights.pack x.weights.spread x.weights.soft _).mono ?_;rw [Du.out];rintro e w2 ⟨rfl,hb2⟩;obtain ⟨hc2,hf2⟩:=ay hb2;have hz2:w.heap.size < w2.heap.size:=(sq hb2.size)))
 go_ret
 exact ⟨by rw [HF.out];rfl,atS⟩):P:=h
theorem Zabj {P:Prop} (h:P:=by
 go_enter Tryz.func21,Tryz.ntmps21;go_wp2_with fail
 rw [HW0.out]
 go_wp2_with (first
  | (go_at_call 52;refine (kH x.next 1 1000000000 _).mono ?_;rw [Jf.out];rintro e w1 ⟨rfl,hw1⟩;simp only [← hw1];clear hw1 w1)
  | (go_at_call 53;refine (pW x.weights.pack x.weights.spread x.weights.soft _).mono ?_;rw [Du.out];rintro e w2 ⟨rfl,hb2⟩;obtain ⟨hc2,hf2⟩:=ay hb2;have hz2:w.heap.size < w2.heap.size:=(sq hb2.size)))
 go_ret
 exact ⟨by rw [HF.out];rfl,atS⟩):P:=h
theorem Zabk {P:Prop} (h:P:=by
 refine aN ?_;intro wn hn;replace hn:=hn.out;obtain ⟨hcn,hfn⟩:=ay hn;have hzn:w.heap.size < wn.heap.size:=sq hn.size;have hyn:b < wn.heap.size:=sq hn.size;try (have hxn:wr.heap.size < wn.heap.size:=sq hn.size)
 have zq:=((hown.alloc (.cells #[.string x.au[0].aS.name,.slice fC x.au[0].aS.labels.length fD,.int .i64 x.au[0].aS.cpu,.int .i64 x.au[0].aS.mem,.int .i64 x.au[0].aS.rank,.slice gB x.au[0].aS.needs.length gG,.slice bT x.au[0].aS.tolerances.length bU,.string x.au[0].on,.int .i64 x.au[0].seq] 97)).kept (grown_of hn) S')
 go_wp2_with (at_mapUpdate
              refine wpList_mapUpdate_own _ J' _ _ _ 113 J' 3 4 Oy Tryz.underlying113 _ wp.heap.size _ _ J' zq at6 _ _ _ J' J' (Maps.keyOf_int_mk Tryz.underlying3 (WalkArith.wf_i64 Ue)) _ [] (plainElem_bool Tryz.underlying4 true) ?_
              intro w5 hown5 JJ)
 exact ⟨⟨0+1,O',N',HN.out,Gn.out,au2,(Below.grown (ah (ak U3 _) hn) JJ au3 (fun k hk=>by cases hk;exact Nat.le_refl _))⟩,by simp [intOf];omega⟩):P:=h
theorem Zabl {P:Prop} (h:P:=by
 intro wq hq;have hcq:=(aB hq).1;have lJ:=(aB hq).2;go_simp
 first
  | exact ⟨hq,rfl⟩
  | exact ⟨aQ hq _,rfl⟩
  | (first | (refine (NOK.out _ aut).mono ?_;rintro e w2 ⟨rfl,hb2⟩;exact ⟨rfl,aI hq hb2⟩) | (refine (CMP.out _ aut).mono ?_;rintro e w2 ⟨rfl,hb2⟩;exact ⟨rfl,aI hq hb2⟩))
  | (simp only [↓IntWalk.iteOmega];exact ⟨hq,rfl⟩)):P:=h
theorem Zabm {P:Prop} (h:P:=by
 have hkp:∀y,y < wn.heap.size→w8.heap[y]? = wn.heap[y]?:=fun y hy=>(hg8.block y O' (fun e=>by have:=(nK.lt y e.symm).1;omega)).trans (hb7.block y hy);have hz8:=hg8.size;obtain ⟨FI,hOI,hFI⟩:=HOCn.out.ins HOYn.out HDJ.out jj (by have:=HSL.out;omega);have hlt8:∀y∈FI,y < wn.heap.size:=fun y hy=>by
  rcases hFI y hy with h9 | h9
  ·exact HOCn.out.lt y h9
  ·exact HOYn.out.lt y h9
 refine ⟨⟨k+1,N+1,g8,p8,_,FI,O',O',N',rfl,I' ?_,I' ?_,I' (vP Le (B':=w.heap.size) HBW.out.size),I' ?_,I' ?_,?_⟩,by simp [intOf];omega⟩
 ·rw [Jf.out,HI.out,insAt_len,HSL.out]
 ·intro j hj hjk2;exact Zafx
 ·rw [Jf.out,HI.out];exact hOI.keep (fun y hy=>hkp y (hlt8 y hy)) O'
 ·exact fun hm=>by have:=hlt8 g8 hm;omega
 ·exact Below.grown (HBW.out.trans (hb7.mono HBW.out.size)) hg8 (by have:=HBW.out.size;omega) (fun q hq=>by have:=(nK.lt q hq).1;have:=HBW.out.size;omega)):P:=h
theorem Zabn {P:Prop} (h:P:=by
 intro wq hq;have hcq:=(aB hq).1;have lJ:=(aB hq).2;go_simp
 first
  | exact ⟨hq,rfl⟩
  | exact ⟨aQ hq _,rfl⟩
  | ((refine (HARM.out wq hq).mono ?_;rw [HV.out];rintro e wz ⟨rfl,hbz⟩;exact ⟨rfl,aI hq hbz⟩))
  | (simp only [↓IntWalk.iteOmega];exact ⟨hq,rfl⟩)):P:=h
theorem Zabo {P:Prop} (h:P:=by
 have hkl:k = xs.length:=by omega
 have HK:=I' hkl;clear hkl;go_wp2;go_ret
 have h1:=Heq.out;rw [HK.out,List.take_length,HL.out,List.take_length] at h1
 exact ⟨by rw [h1];rfl,hbl⟩):P:=h
theorem Zabp {P:Prop} (h:P:=by
 exact Zafr):P:=h
theorem Zabq {P:Prop} (h:P:=by
 have hkeep:∀y∈F',w'.heap[y]? = w.heap[y]?:=fun y hy=>hg.block y (hOI.lt y hy) (fun e=>by
  rcases hF' y hy with h9 | h9
  ·exact hne y e.symm h9
  ·exact hd y (hAF y e.symm) h9)
 have hOI':=hOI.keep hkeep hg.size;have hnb:∀g,v'.ownBlock = some g→g∉F':=fun g hg' hm=>by
  rcases hat with e | e
  ·rw [e] at hg';rcases hF' g hm with h9 | h9
   ·exact hne g hg' h9
   ·exact hd g (hAF g hg') h9
  ·rw [e] at hg';have:=hOI.lt g hm;simp only [Option.some.injEq] at hg';omega
 have hlen:=insAt_len i x xs;obtain ⟨A',c',F2,hv',hO2,hF2⟩:=Own.of_rowI (xs:=insAt i x xs) (by rw [hlen];exact hr) hOI' hnb;rw [hlen] at hv' hO2;refine ⟨A',c',F2,hv',hO2,fun y hy=>?_,⟨hg.os,hg.tape,hg.output,hg.size,fun k hk hkF=>hg.block k hk (fun e=>hkF (hAF k e.symm))⟩⟩;rcases hF2 y hy with h9 | h9
 ·rcases hF' y h9 with h8 | h8
  ·exact .inl (hG0 y h8)
  ·exact .inr (.inl h8)
 ·rcases hat with e | e
  ·rw [e] at h9;exact .inl (hAF y h9)
  ·rw [e] at h9;simp only [Option.some.injEq] at h9
   exact .inr (.inr O')):P:=h
theorem Zabr {P:Prop} (h:P:=by
 refine aN ?_;intro wn hn;replace hn:=hn.out;go_wp2;refine ⟨⟨s1++[z],s2,jj+1,I' avz,N',I' awS,I' (fun z' hz=>?_),ah hbr hn⟩,by simp [intOf];omega⟩;rcases List.mem_append.1 hz with hz | hz
 ·exact HN.out z' hz
 ·rw [List.mem_singleton.1 hz];exact HL.out):P:=h
theorem Zabs {P:Prop} (h:P:=by
 simp only [Value.slice.injEq,true_and] at hv3;obtain ⟨hA3,hc3⟩:=hv3;subst hA3 hc3;have HO3:=I' hO3;clear hO3;go_wp2_with fail
 refine HOK.out.mono ?_;rw [HRR.out];rintro e w4 ⟨rfl,hb4⟩;have HB4:=I' hb4;clear hb4;go_wp2;go_ret2
 exact ⟨A2,c2,G3,by rw [HR.out];try rfl,by rw [HR.out];exact (HO3.out.ext HBL.out).ext HB4.out,HBB.out.trans (HB4.out.mono HBB.out.size)⟩):P:=h
theorem Zabt {P:Prop} (h:P:=by
 have hkl:k = xs.length:=by omega
 subst hkl;go_wp2;go_ret
 rw [List.take_length] at hO
 exact ⟨_,_,_,rfl,Own.Ep hf hO (Nat.le_refl _) at6,hbl⟩):P:=h
theorem Zabu {P:Prop} (h:P:=by
 have hl7:yR.length = 7:=Dat.len kG;have h2:List.take 7 (yR++don) = yR:=by rw [List.take_append_of_le_length O',List.take_of_length_le O']
 have h3:=congrArg (List.take 7) hdc;rw [h2] at h3;rw [← h3] at kG
 exact kG):P:=h
theorem Zabv {P:Prop} (h:P:=by
 rw [HRR.out];rintro e w4 ⟨rfl,hb4⟩;have HB4:=I' hb4;clear hb4;go_wp2;go_ret2
 exact ⟨some ⟨g,0,none⟩,cap,G4,by rw [HR.out,HSL.out];try rfl,by rw [HR.out];exact HO4.out.ext HB4.out,HBB.out.trans (HB4.out.mono HBB.out.size)⟩):P:=h
theorem Zabw {P:Prop} (h:P:=by
 exact ⟨[.slice kM x.hosts.length kN,.slice ny x.au.length nC,.int .i64 x.next,.int .i64 x.weights.pack,.int .i64 x.weights.spread,.int .i64 x.weights.soft],G,rfl,(HO.out.only OB (fun b hb=>by have:=HO.out.base b hb;omega)).mono (B':=w.heap.size) O',ext_only hb2 OB O'⟩):P:=h
theorem Zabx {P:Prop} (h:P:=by
 obtain ⟨A',c',G,ds,e0,_,_,_,h0⟩:=h;simp only [List.cons.injEq,Value.slice.injEq,and_true,true_and] at e0;rcases h0 with h0 | ⟨b,o,hA,_⟩
 ·exact h0.1
 ·rw [← e0.1] at hA;cases hA):P:=h
theorem Zaby {P:Prop} (h:P:=by
 have hkl:i = xs.length:=by omega
 subst hkl;go_wp2;go_ret
 rw [Kt] at hO;simp only [List.take_length]
 exact ⟨rfl,hO,hu⟩):P:=h
theorem Zabz {P:Prop} (h:P:=by
 have fx:=EW.ob.fz 0;have lx:=EW.ob.lt;refine hK _ _ x0 ?_;try simp only [Act.put,pz]
 clear hK K;replace x0:=x0.1;refine yG ?_;go_wp2;obtain ⟨Fb,Jl⟩:=aY.afm (v':=.slice A7 (k+1) c7) aek.out acP.out HNE.out ajv.out O' (fun g hg=>by have:=Y6.out g hg;omega) (fun y hy=>by have:=HLF.out y hy;omega) DV Uf;rw [← List.take_succ_eq_append_getElem hlt] at Fb;have r13:=EJ (c:=w.heap.size+1+1) (i:=0) (u:=.slice A7 (k+1) c7) ug (fun g hg=>by have:=(ug.lt g hg).1;omega)
 refine ⟨⟨k+1,_,_,.slice A7 (k+1) c7,O',I' (fun h0=>by omega),N',r13,Fb.setCell (p:=⟨w.heap.size+1+1,0,none⟩) aun _,Jl,EW.put 0 (.slice A7 (k+1) c7),by have:=DV.size;simp only [World.setCell,Array.size_modify] at *;omega⟩,by simp [intOf];omega⟩):P:=h
theorem Zab0 {P:Prop} (h:P:=by
 rw [HK.out];rintro e w2 ⟨rfl,hb2⟩;obtain ⟨hc2,hf2⟩:=ay hb2;have hz2:w.heap.size < w2.heap.size:=by have:=hb2.size;simp at this;omega
 have hq1:w2.cell? ⟨w.heap.size,1,none⟩ = some (.int .i64 x.op):=by rw [hc2 _ _ S',cell_of_row _ _ _ _ _ _ (heap_alloc_new w _)];rfl
 have hq2:w2.cell? ⟨w.heap.size,2,none⟩ = some (.slice jy x.values.length ji):=by rw [hc2 _ _ S',cell_of_row _ _ _ _ _ _ (heap_alloc_new w _)];rfl
 have hB2:Below w.heap.size w w2:=atS;clear hc2 hf2;have h0i:((x.values.length:Int) == 0) = true:=by simp [H0.out]
 go_wp2;go_ret
 exact ⟨by rw [HF.out];first | rfl | simp_all,hB2⟩):P:=h
theorem Zab1 {P:Prop} (h:P:=by
 obtain ⟨Fb,Jl⟩:=aY.afm (v':=.slice A7 (k+1) c7) aek.out acP.out HNE.out ajv.out O' (fun g hg=>by have:=Y6.out g hg;omega) (fun y hy=>by have:=HLF.out y hy;omega) DV Uf;rw [← List.take_succ_eq_append_getElem hlt] at Fb;have r13:=EJ (c:=w.heap.size+1+1) (i:=1) (u:=.slice A7 (k+1) c7) ug (fun g hg=>by have:=(ug.lt g hg).1;omega)
 refine ⟨⟨k+1,_,_,.slice A7 (k+1) c7,O',I' (fun h0=>by omega),N',r13,Fb.setCell (p:=⟨w.heap.size+1+1,1,none⟩) aun _,Jl,alX.setCell (p:=⟨w.heap.size+1+1,1,none⟩) aun _,EW.put 1 (.slice A7 (k+1) c7),by have:=DV.size;simp only [World.setCell,Array.size_modify] at *;omega⟩,by simp [intOf];omega⟩):P:=h
theorem Zab2 {P:Prop} (h:P:=by
 have hkl:i = xs.length:=by omega
 subst hkl;go_wp2;go_ret
 simp only [List.take_length]
 exact ⟨rfl,hbl⟩):P:=h
theorem Zab3 {P:Prop} (h:P:=by
 rintro e w5 ⟨A5,c5,F5,rfl,fH,hb5⟩;go_wp2;go_ret2
 exact ⟨A5,c5,F5,by rw [HR.out];try rfl,by rw [HR.out];exact fH.mono HB4.out.size,ah HB4.out hb5⟩):P:=h
theorem Zab4 {P:Prop} (h:P:=by
 exact Below.grown (ah HBN.out hb7) hg8 awR (fun q hq=>by have:=(nK.lt q hq).1;have:=HBN.out.size;omega)):P:=h
theorem Zab5 {P:Prop} (h:P:=by
 intro wq hq;have hcq:=(aB hq).1;have lJ:=(aB hq).2;go_simp
 first
  | exact ⟨hq,rfl⟩
  | exact ⟨aQ hq _,rfl⟩
  | ((refine (TN y z _ _ _ _ wq (aJ HRY.out (ah HBR.out hq)) (aJ HRZ.out (ah HBR.out hq)) HVY.out HVZ.out).mono ?_;rw [HL.out];rintro e wz ⟨rfl,hbz⟩;exact ⟨rfl,aI hq hbz⟩))
  | (simp only [↓IntWalk.iteOmega];exact ⟨hq,rfl⟩)):P:=h
theorem Zab6 {P:Prop} (h:P:=by
 intro wq hq;have hcq:=(aB hq).1;have lJ:=(aB hq).2;go_simp
 first
  | exact ⟨hq,rfl⟩
  | exact ⟨aQ hq _,rfl⟩
  | ((refine (aiC z y _ _ _ _ wq (rdTolerance_flat HRD.out HZM.out wq) (rdTolerance_flat HRD.out HYM.out wq)).mono ?_;rw [HL.out];rintro e wz ⟨rfl,hbz⟩;exact ⟨rfl,aI hq hbz⟩))
  | (simp only [↓IntWalk.iteOmega];exact ⟨hq,rfl⟩)):P:=h
theorem Zab7 {P:Prop} (h:P:=by
 intro wq hq;have hcq:=(aB hq).1;have lJ:=(aB hq).2;go_simp
 first
  | exact ⟨hq,rfl⟩
  | exact ⟨aQ hq _,rfl⟩
  | ((refine (TN z y _ _ _ _ wq (aJ HRZ.out (ah HBR.out hq)) (aJ HRY.out (ah HBR.out hq)) HVZ.out HVY.out).mono ?_;rw [HL.out];rintro e wz ⟨rfl,hbz⟩;exact ⟨rfl,aI hq hbz⟩))
  | (simp only [↓IntWalk.iteOmega];exact ⟨hq,rfl⟩)):P:=h
theorem Zab8 {P:Prop} (h:P:=by
 intro wq hq;have hcq:=(aB hq).1;have lJ:=(aB hq).2;go_simp
 first
  | exact ⟨hq,rfl⟩
  | exact ⟨aQ hq _,rfl⟩
  | ((refine (anf z y _ _ _ _ wq (rdTaint_flat HRD.out HZM.out wq) (rdTaint_flat HRD.out HYM.out wq)).mono ?_;rw [HL.out];rintro e wz ⟨rfl,hbz⟩;exact ⟨rfl,aI hq hbz⟩))
  | (simp only [↓IntWalk.iteOmega];exact ⟨hq,rfl⟩)):P:=h
theorem Zab9 {P:Prop} (h:P:=by
 go_wp2
 all_goals
  go_ret
  exact ⟨by first | rfl | simp_all,atS⟩):P:=h
theorem Zaca {P:Prop} (h:P:=by
 rw [HRY.out,HN.out];refine Own.mono (B:=w.heap.size+1+1+1) ?_ O'
 exact (by repeat (first | with_reducible exact HOWN7.out | with_reducible refine Own.setCell ?_ atX _))):P:=h
theorem Zacb {P:Prop} (h:P:=by
 intro wq hq;have hcq:=(aB hq).1;have lJ:=(aB hq).2;go_simp
 first
  | exact ⟨hq,rfl⟩
  | exact ⟨aQ hq _,rfl⟩
  | (refine outcome_ofK (v:=.bool (!(Aq p.x q.x))) ?_ hq;unfold Aq;repeat' split;all_goals simp [*])
  | (simp only [↓IntWalk.iteOmega];exact ⟨hq,rfl⟩)):P:=h
theorem Zacc {P:Prop} (h:P:=by
 intro wq hq;have hcq:=(aB hq).1;have lJ:=(aB hq).2;go_simp
 first
  | exact ⟨hq,rfl⟩
  | exact ⟨aQ hq _,rfl⟩
  | (refine outcome_ofK (v:=.bool (!(oP p.x q.x))) ?_ hq;unfold oP;repeat' split;all_goals simp [*])
  | (simp only [↓IntWalk.iteOmega];exact ⟨hq,rfl⟩)):P:=h
theorem Zacd {P:Prop} (h:P:=by
 intro wq hq;have hcq:=(aB hq).1;have lJ:=(aB hq).2;go_simp
 first
  | exact ⟨hq,rfl⟩
  | exact ⟨aQ hq _,rfl⟩
  | (refine outcome_ofK (v:=.bool (Aq z y)) ?_ hq;unfold Aq;repeat' split;all_goals simp [*])
  | (simp only [↓IntWalk.iteOmega];exact ⟨hq,rfl⟩)):P:=h
theorem Zace {P:Prop} (h:P:=by
 intro wq hq;have hcq:=(aB hq).1;have lJ:=(aB hq).2;go_simp
 first
  | exact ⟨hq,rfl⟩
  | exact ⟨aQ hq _,rfl⟩
  | (refine outcome_ofK (v:=.bool (oP z y)) ?_ hq;unfold oP;repeat' split;all_goals simp [*])
  | (simp only [↓IntWalk.iteOmega];exact ⟨hq,rfl⟩)):P:=h
theorem Zacf {P:Prop} (h:P:=by
 rw [Jf.out,HI.out,List.length_append,List.length_cons,HJ.out];have:=HL2.out;omega):P:=h
theorem Zacg {P:Prop} (h:P:=by
 intro j u hu;rw [Addr.add];have hc:=cell_of_row (w.alloc (.cells cs.toArray e)) w.heap.size j cs.toArray e (0,0) (heap_alloc_new w _);split
 ·rename_i hj;subst hj;rw [hc];simpa using hu
 ·simp only [Nat.zero_add];rw [hc];simpa using hu):P:=h
theorem Zach {P:Prop} (h:P:=by
 rw [Addr.add_lit,Nat.zero_add,cell_of_row w vb q _ tv (0,0) hv]
 simpa using hu):P:=h
theorem Zaci {P:Prop} (h:P:=by
 refine ⟨0,[],[],Nat.zero_le _,rfl,?_,⟨rfl,rfl⟩,?_,ak (ak (aj _) _) _⟩
 ·have:=World.ownsRow_made (base:=w.heap.size+1) (e:=52) (size:=7) (w.alloc (.cells #[.slice bG x.hosts.length bD,.slice dn x.au.length bW,.int .i64 x.next,.int .i64 x.weights.pack,.int .i64 x.weights.spread,.int .i64 x.weights.soft] 44)) #[] 0 S' at6 rfl;simpa [F7] using this
 ·rw [World.cell?_of_block (heap_alloc_old _ _ S'),cell_of_row _ _ _ _ _ _ (heap_alloc_new w _)];rfl):P:=h
theorem Zacj {P:Prop} (h:P:=by
 simp only [Value.slice.injEq,true_and] at hv3;obtain ⟨hA3,hc3⟩:=hv3;subst hA3 hc3;have HO:=I' hO3;clear hO3 hown hrc hrc2;go_wp2;go_ret2
 exact ⟨A2,c2,G3,by rw [HR.out];try rfl,by rw [HR.out];exact HO.out,hb2⟩):P:=h
theorem Zack {P:Prop} (h:P:=by
 intro wq hq;have hcq:=(aB hq).1;have lJ:=(aB hq).2;go_simp
 first
  | exact ⟨hq,rfl⟩
  | exact ⟨aQ hq _,rfl⟩
  | (refine outcome_ofK (v:=.bool ((Aq p.x q.x))) ?_ hq;unfold Aq;repeat' split;all_goals simp [*])
  | (simp only [↓IntWalk.iteOmega];exact ⟨hq,rfl⟩)):P:=h
theorem Zacl {P:Prop} (h:P:=by
 intro wq hq;have hcq:=(aB hq).1;have lJ:=(aB hq).2;go_simp
 first
  | exact ⟨hq,rfl⟩
  | exact ⟨aQ hq _,rfl⟩
  | (refine outcome_ofK (v:=.bool ((oP p.x q.x))) ?_ hq;unfold oP;repeat' split;all_goals simp [*])
  | (simp only [↓IntWalk.iteOmega];exact ⟨hq,rfl⟩)):P:=h
theorem Zacm {P:Prop} (h:P:=by
 have HF:=I' (agS hlt hb);clear hb;rcases hr with hr | ⟨hr,hr2⟩ | ⟨hr,hr2⟩ | ⟨hr,hr2⟩ | ⟨hr,hr2⟩ | hr
 all_goals
  have hne:((s[k].toNat:Int) != 45) = true:=(by simp;omega);have hne2:((s[k].toNat:Int) == 45) = false:=(by simp;omega);go_wp2
  all_goals first
   | (go_ret;exact ⟨by rw [HF.out];rfl,atS⟩)
   | (exfalso;rename_i hx;simp at hx;omega)):P:=h
theorem Zacn {P:Prop} (h:P:=by
 go_wp2;go_ret
 exact ⟨none,0,[],[],rfl,World.ownsRow_nil w _ _ _,⟨rfl,rfl⟩,(fun b hb=>by cases hb),aj _⟩):P:=h
theorem Zaco {P:Prop} (h:P:=by
 go_wp2
 exact ⟨⟨k+1,N,g,cap,O',O',N',rfl,I' (by rw [Jf.out,HI.out];exact HSL.out),by rw [Jf.out,HI.out];exact mG HROW.out (ah hbr hn),ah HBO.out (ah hbr hn)⟩,by simp [intOf];omega⟩):P:=h
theorem Zacp {P:Prop} (h:P:=by
 refine aN ?_;intro wn hn;replace hn:=hn.out;go_wp2
 exact ⟨⟨k+1,hk2,N',ah hbr hn⟩,by simp [intOf];omega⟩):P:=h
theorem Zacq {P:Prop} (h:P:=by
 have hP:=hO3.push (B':=wr.heap.size) (x:=xs[k]) hO2 hf.lt hO.lt;rw [← List.take_succ_eq_append_getElem hlt] at hP
 (try simp only [List.append_assoc,List.cons_append,List.nil_append] at hF)
 exact ⟨⟨k+1,_,_,O',N',hF,by show _ = _;(simp [hd.out]) <;> omega,hP,aC (aC (aC (ah hbl hb2) (Nat.le_refl _) _) (Nat.le_refl _) _) (Nat.le_refl _) _⟩,by simp [intOf];omega⟩):P:=h
theorem Zacr {P:Prop} (h:P:=by
 intro wq hq;have hcq:=(aB hq).1;have lJ:=(aB hq).2;go_simp
 first
  | exact ⟨hq,rfl⟩
  | exact ⟨aQ hq _,rfl⟩
  | (refine (lW (kk+1) _ O' O').mono ?_;rintro e w2 ⟨rfl,hb2⟩;exact ⟨rfl,aI hq hb2⟩)
  | (simp only [↓IntWalk.iteOmega];exact ⟨hq,rfl⟩)):P:=h
theorem Zacs {P:Prop} (h:P:=by
 have hj:=(List.getElem?_eq_some_iff.1 hu).1;rw [← ht,List.getElem?_take] at hu;split at hu
 ·simpa using hu
 ·cases hu):P:=h
theorem Zact {P:Prop} (h:P:=by
 rintro e w1 ⟨A1,c1,F1,rfl,jX,hb1⟩;go_wp2;go_ret2
 exact ⟨A1,c1,F1,by rw [HR.out];try rfl,by rw [HR.out];exact jX,hb1⟩):P:=h
theorem Zacu {P:Prop} (h:P:=by
 exact ⟨⟨k+1,O',N',O',by congr 1;omega,ah hbl hb2⟩,by simp [intOf];omega⟩):P:=h
theorem Zacv {P:Prop} (h:P:=by
 refine ⟨Ah,ch,Ap,cp,Gh,Gp,_,rfl,Own.rd (B:=w.heap.size+1+1+1) ?_,Own.rd (B:=w.heap.size+1+1+1) ?_⟩
 ·exact (by repeat (first | with_reducible exact HRH.out | with_reducible refine Own.setCell ?_ atX _))
 ·exact (by repeat (first | with_reducible exact HRP.out.mono hB34 | with_reducible refine Own.setCell ?_ atX _))):P:=h
theorem Zacw {P:Prop} (h:P:=by
 rcases h.rd.2 with ⟨_,he⟩ | ⟨g',c',cur,G',_,he,hF,_⟩
 ·simp only [List.cons.injEq,Value.slice.injEq,and_true] at he;rw [he.1] at hg;cases hg
 ·simp only [List.cons.injEq,Value.slice.injEq,and_true] at he;rw [he.1] at hg;simp only [Value.ownBlock,Option.some.injEq] at hg
  rw [hF,← hg];exact List.mem_cons_self ..):P:=h
theorem Zacx {P:Prop} (h:P:=by
 have HRR:=I' hr;clear hr;go_wp2_with fail
 refine HOK.out.mono ?_;rw [HRR.out];rintro e w4 ⟨rfl,hb4⟩;have HB4:=I' hb4;clear hb4;go_wp2;go_ret2
 exact ⟨A1,c1,F3,by rw [HR.out];try rfl,by rw [HR.out];exact HO3.out.ext HB4.out,HB3.out.trans (HB4.out.mono HB3.out.size)⟩):P:=h
theorem Zacy {P:Prop} (h:P:=by
 refine ⟨k+1,O',O',Nat.le_refl _,N',hS.ext hn,I' (fun j hj=>?_)⟩;by_cases e:j = k
 ·subst e;rw [HK.out,HV.out];rfl
 ·exact HA.out j O'):P:=h
theorem Zacz {P:Prop} (h:P:=by
 refine Or.inl ⟨rfl,fun wq hq=>?_⟩;have hcq:=(aB hq).1;go_simp
 try rfl):P:=h
theorem Zac0 {P:Prop} (h:P:=by
 rw [e]
 exact ⟨g :: D.flatMap El.F,by rw [List.length_map],ht.own R rfl hcap1 hcap2,ht.upd.below (fun b hb=>by rw [List.mem_singleton.1 hb];exact hbg) hB⟩):P:=h
theorem Zac1 {P:Prop} (h:P:=by
 rcases hF6 y hy with h9 | h9 | h9
 ·exact ⟨by have:=HGP.out y h9;omega,fun hm=>HDP.out y hm h9⟩
 ·exact ⟨by have:=HG1.out y h9;omega,fun hm=>by have:=HG1.out y h9;have:=HGH.out y hm;omega⟩
 ·(try simp at h9)
  exact ⟨O',fun hm=>by have:=HGH.out y hm;omega⟩):P:=h
theorem Zac2 {P:Prop} (h:P:=by
 refine ⟨0,Nat.zero_le _,rfl,?_,?_,?_,ak (ak (aj _) _) _⟩
 ·exact (World.ownsRow_made w #[] 0 (Nat.le_refl _) at6 rfl).alloc _
 ·have:=World.ownsRow_made (base:=w.heap.size) (e:=3) (size:=1) (w.alloc (.cells #[] 3)) #[] 0 S' at6 rfl;simpa [iv] using this
 ·right;simp [Value.ownBlock]):P:=h
theorem Zac3 {P:Prop} (h:P:=by
 rcases hF6 y hy with h9 | h9 | h9
 ·exact ⟨by have:=HGH.out y h9;omega,HDP.out y h9⟩
 ·exact ⟨by have:=HG1.out y h9;omega,fun hm=>by have:=HG1.out y h9;have:=HGP.out y hm;omega⟩
 ·(try simp at h9)
  exact ⟨O',fun hm=>by have:=HGP.out y hm;omega⟩):P:=h
theorem Zac4 {P:Prop} (h:P:=by
 split
 ·rename_i hw;rw [if_pos hw] at h;exact .inl (Oper.wp_mono next h)
 ·rename_i hw;rw [if_neg hw] at h
  exact next _ _ h):P:=h
theorem Zac5 {P:Prop} (h:P:=by
 rw [Bool.eq_iff_iff,decide_eq_true_eq,Wx,ByteArray.toList_eq,ByteArray.toList_eq]):P:=h
theorem Zac6 {P:Prop} (h:P:=by
 have:k = D.length:=by omega
 subst this;have HS:=I' hS;clear hS;go_wp2;go_ret
 exact HF.out wr HS.out HA.out):P:=h
theorem Zac7 {P:Prop} (h:P:=by
 have e:GX a b = none:=by unfold GX;rw [if_pos O']
 rw [e];go_enter Tryz.func184,Tryz.ntmps184;go_wp2;go_returns
 exact ⟨rfl,aj _⟩):P:=h
theorem Zac8 {P:Prop} (h:P:=by
 have e:GX a b = none:=by unfold GX;rw [if_pos O']
 rw [e];go_enter Tryz.func183,Tryz.ntmps183;go_wp2;go_returns
 exact ⟨rfl,aj _⟩):P:=h
theorem Zac9 {P:Prop} (h:P:=by
 go_wp2
 all_goals
  go_ret
  refine ⟨?_,rfl⟩;refine congrArg (fun b=>Ending.returned (Value.bool b)) ?_;show (_:Bool) = _;unfold GL;rw [Bool.eq_iff_iff];simp only [Bool.or_eq_true,Bool.and_eq_true,decide_eq_true_eq,Bool.false_eq_true,true_iff,false_iff]
  omega):P:=h
theorem Zada {P:Prop} (h:P:=by
 exact (by repeat (first | with_reducible exact HS7.out.below | with_reducible refine aC ?_ atX _))):P:=h
theorem Zadb {P:Prop} (h:P:=by
 rw [J5,← ByteArray.toList_eq,← ByteArray.toList_eq] at e
 simp [e] at h):P:=h
theorem Zadc {P:Prop} (h:P:=by
 go_wp2;go_ret
 exact ⟨by rw [HL.out];rfl,aj _⟩):P:=h
theorem Zadd {P:Prop} (h:P:=by
 have h1:=H.out.lt b (hsub b hb);simp [Value.ownBlock] at e
 omega):P:=h
theorem Zade {P:Prop} (h:P:=by
 go_wp2;go_ret
 exact ⟨by rw [HF.out];first | rfl | simp_all,hbl⟩):P:=h
theorem Zadf {P:Prop} (h:P:=by
 rw [getElem!_pos ROW t O',getElem!_pos ds t O'];simp only [hROW];rw [Array.getElem_append_left (by simp only [Array.size_append,List.size_toArray,htl];omega),Array.getElem_append_left (by rw [List.size_toArray,htl];exact ht)]
 simp):P:=h
theorem Zadg {P:Prop} (h:P:=by
 rcases hown.2 with ⟨h,_⟩ | ⟨g',c',cur,h1,h2,h3,h4,h5,h6,h7⟩
 ·cases h
 ·simp only [Value.slice.injEq,Option.some.injEq,Addr.mk.injEq,and_true,true_and] at h1;obtain ⟨rfl,rfl⟩:=h1
  exact ⟨cur,h3,h6,h7⟩):P:=h
theorem Zadh {P:Prop} (h:P:=by
 go_wp2;go_ret
 exact ⟨mQ HF.out.symm,aj _⟩):P:=h
theorem Zadi {P:Prop} (h:P:=by
 have h1:=hall e he hb;have h0:=(mem_ready.1 hr).1;rw [heq] at h1;rcases Nat.lt_or_ge i listed.size with h' | h'
 ·simp [h'] at h0 h1;rw [h0] at h1;cases h1
 ·simp [Array.getElem?_eq_none h'] at h1):P:=h
theorem Zadj {P:Prop} (h:P:=by
 rcases Nat.lt_or_ge g w.heap.size with hlt | hge
 ·exact hlt
 ·rw [Array.getElem?_eq_none hge] at hh;cases hh):P:=h
theorem Zadk {P:Prop} (h:P:=by
 rw [Jf.out,HI.out];have:=vP Le (B':=w2.heap.size) HBN.out.size
 simpa only [List.flatMap_append,List.flatMap_cons,List.append_assoc,List.cons_append,List.nil_append,trow] using this):P:=h
theorem Zadl {P:Prop} (h:P:=by
 rw [Jf.out,HI.out];have:=vP Le (B':=w2.heap.size) HBN.out.size
 simpa only [List.flatMap_append,List.flatMap_cons,List.append_assoc,List.cons_append,List.nil_append,vrow] using this):P:=h
theorem Zadm {P:Prop} (h:P:=by
 rw [Jf.out,HI.out];have:=vP Le (B':=w2.heap.size) HBN.out.size
 simpa only [List.flatMap_append,List.flatMap_cons,List.append_assoc,List.cons_append,List.nil_append,lrow] using this):P:=h
theorem Zadn {P:Prop} (h:P:=by
 rw [Jf.out,HI.out];have:=vP Le (B':=w.heap.size) HBN.out.size
 simpa only [List.map_append,List.map_cons,List.map_nil,List.append_assoc,List.cons_append,List.nil_append] using this):P:=h
theorem Zado {P:Prop} (h:P:=by
 have hkl:k = xs.length:=by omega
 subst hkl;have hf:GZ xs 0 = some s:=by rw [HS.out,List.drop_length];rfl
 have HF:=I' hf;clear hf;go_wp2;go_returns
 exact ⟨by rw [HF.out];rfl,hbl⟩):P:=h
theorem Zadp {P:Prop} (h:P:=by
 cases a;cases b
 simp only at h0 h1 h2;subst h0 h1 h2
 rfl):P:=h
theorem Zadq {P:Prop} (h:P:=by
 rintro e w' ⟨v',rfl,hr,hg,hat⟩;obtain ⟨A',c',F2,rfl,h3,h4,h5⟩:=fin v' w' (by rw [← hdl,List.take_length,List.drop_length,List.append_nil];exact hr) hg hat
 exact ⟨A',c',F2,rfl,h3,h4,h5⟩):P:=h
theorem Zadr {P:Prop} (h:P:=by
 unfold Lib.compareInt;rw [Bool.eq_iff_iff,decide_eq_true_eq,decide_eq_true_eq];repeat' split
 all_goals omega):P:=h
theorem Zads {P:Prop} (h:P:=by
 rcases Nat.lt_or_ge k (insIx n.name x.hosts) with h9 | h9
 ·exact h9
 ·have he:k = insIx n.name x.hosts:=by omega
  subst he
  rw [insIx_at hlt] at hs;cases hs):P:=h
theorem Zadt {P:Prop} (h:P:=by
 have hkl:k = xs.length:=by omega
 subst hkl;have hn:=Hn.out;rw [List.take_length] at hn;have HI:=I' (F5 hn);clear hn;go_wp2;go_ret
 exact ⟨by rw [HI.out];rfl,hbl⟩):P:=h
theorem Zadu {P:Prop} (h:P:=by
 rcases Nat.lt_or_ge k (insPx n.name x.au) with h9 | h9
 ·exact h9
 ·have he:k = insPx n.name x.au:=by omega
  subst he
  rw [insPx_at hlt] at hs;cases hs):P:=h
theorem Zadv {P:Prop} (h:P:=by
 refine aN ?_;intro wn hn;replace hn:=hn.out;go_wp2
 refine ⟨⟨k+1,v,t+1,j0,O',hv,N',rfl,I' auL,HJ,I' (HY2.out hcv),HN,HS.out.ext hn⟩,by simp [intOf];omega⟩):P:=h
theorem Zadw {P:Prop} (h:P:=by
 refine aN ?_;intro wn hn;replace hn:=hn.out;go_wp2
 refine ⟨⟨u,k,i0,t,O',O',rfl,rfl,HI,HK,HY,I' (Gn.out hcv),HS.out.ext hn⟩,by simp [intOf];omega⟩):P:=h
theorem Zadx {P:Prop} (h:P:=by
 go_wp2;go_ret
 exact ⟨by rw [HN.out];rfl,rfl⟩):P:=h
theorem Zady {P:Prop} (h:P:=by
 go_wp2;refine bodyPost_ret (results_none rfl _ _ _) rfl ?_;refine ⟨rfl,?_⟩;rw [HM.out]
 simpa only [List.append_assoc,List.cons_append] using hS2):P:=h
theorem Zadz {P:Prop} (h:P:=by
 exact ⟨⟨g,0,none⟩,by simp [hc],rfl,fun q u hu=>by simp at hu⟩):P:=h
theorem Zad0 {P:Prop} (h:P:=by
 have h8:=HGH.out y (Ie.out y h9)
 exact ⟨O',O',fun hm=>HDP.out y (Ie.out y h9) hm⟩):P:=h
theorem Zad1 {P:Prop} (h:P:=by
 have h8:=HGP.out y (Ie.out y h9)
 exact ⟨O',O',fun hm=>HDP.out y hm (Ie.out y h9)⟩):P:=h
theorem Zad2 {P:Prop} (h:P:=by
 exact (by repeat (first | with_reducible exact hO0 | with_reducible refine Own.setCell ?_ auD _ | with_reducible refine Own.ext ?_ Y' | with_reducible refine Own.alloc ?_ _))):P:=h
theorem Zad3 {P:Prop} (h:P:=by
 exact (hbn.cell (p:=⟨g,q,none⟩) atX).trans (asc.out q u hu)):P:=h
theorem Zad4 {P:Prop} (h:P:=by
 go_wp2;go_ret
 exact ⟨by rw [HG.out];first | rfl | simp_all,hbl⟩):P:=h
theorem Zad5 {P:Prop} (h:P:=by
 go_enter Tryz.func226,Tryz.ntmps226;go_wp2;go_ret
 exact ⟨rfl,rfl⟩):P:=h
theorem Zad6 {P:Prop} (h:P:=by
 have hn:=Hn.out;rw [hkl,List.take_length] at hn;have HI:=I' (F5 hn);clear hn hkl;go_wp2;go_ret
 exact ⟨by rw [HI.out];rfl,atS⟩):P:=h
theorem Zad7 {P:Prop} (h:P:=by
 rintro e w' ⟨rfl,hr,hg⟩;obtain ⟨A',c',F2,h2,h3,h4,h5⟩:=fin _ w' hr hg (.inl rfl);rw [h2]
 exact ⟨A',c',F2,rfl,h3,h4,h5⟩):P:=h
theorem Zad8 {P:Prop} (h:P:=by
 simp at h;subst h;rw [List.flatMap_cons,Nat.zero_mul,Nat.zero_add,List.getElem?_append_left (List.getElem?_eq_some_iff.1 hj).1]
 exact hj):P:=h
theorem Zad9 {P:Prop} (h:P:=by
 rintro e w' ⟨v',rfl,hr,hg,hat⟩;obtain ⟨A',c',F2,rfl,h3,h4,h5⟩:=fin v' w' (by simpa using hr) hg hat
 exact ⟨A',c',F2,rfl,h3,h4,h5⟩):P:=h
theorem Zaea {P:Prop} (h:P:=by
 rintro e w' ⟨v',rfl,hr,hg,hat⟩;obtain ⟨A',c',F2,rfl,h3,h4,h5⟩:=fin v' w' hr hg (.inr hat)
 exact ⟨A',c',F2,rfl,h3,h4,h5⟩):P:=h
theorem Zaeb {P:Prop} (h:P:=by
 go_wp2;go_ret
 exact HF.out w (.start R) (fun j hj=>keepAt_one _ _ j O')):P:=h
theorem Zaec {P:Prop} (h:P:=by
 simp only [Value.slice.injEq,true_and] at h9
 exact h9):P:=h
theorem Zaed {P:Prop} (h:P:=by
 simp only [List.map_cons,List.sum_cons];omega):P:=h
theorem Zaee {P:Prop} (h:P:=by
 rintro e w2 ⟨rfl,hw⟩;rw [hw];clear hw w2;go_wp2;go_ret
 exact ⟨by rw [HF.out];rfl,aj _⟩):P:=h
theorem Zaef {P:Prop} (h:P:=by
 refine ⟨⟨k+1,O',N',by rw [ae7 _ _ _ hlt];exact hu3,by rw [ae7 _ _ _ hlt];exact hv3,hap3.symm,hb3⟩,by simp [intOf];omega⟩):P:=h
theorem Zaeg {P:Prop} (h:P:=by
 have h1:=hsm x hx;have h2:Need.wt x = x.key.size+kL ByteArray.size x.values:=rfl;have h3:=gJ ByteArray.size x.values
 omega):P:=h
theorem Zaeh {P:Prop} (h:P:=by
 intro HK;have hbx:Below wn.heap.size wn wn.drew:=aA (aj _)
 refine aX 1 _ J' U' (fun _ _ d _ _ h=>by cases d <;> exact h) hbx (Or.inl ⟨rfl,fun wq hq=>by
  have hcq:=(aB hq).1;go_simp
  try rfl⟩) ?_
 try simp only [Act.put,pz]
 refine aX 2 _ J' U' (fun _ _ d _ _ h=>by cases d <;> exact h) hbx (Or.inl ⟨rfl,fun wq hq=>by
  have hcq:=(aB hq).1;go_simp
  try rfl⟩) ?_
 try simp only [Act.put,pz]
 refine aX 3 _ J' U' (fun _ _ d _ _ h=>by cases d <;> exact h) hbx (Or.inl ⟨rfl,fun wq hq=>by
  have hcq:=(aB hq).1;go_simp
  try rfl⟩) ?_
 try simp only [Act.put,pz]
 refine aX 5 _ J' U' (fun _ _ d _ _ h=>by cases d <;> exact h) hbx (Or.inl ⟨rfl,fun wq hq=>by
  have hcq:=(aB hq).1;go_simp
  try rfl⟩) ?_
 try simp only [Act.put,pz]
 refine aX 6 _ J' U' (fun _ _ d _ _ h=>by cases d <;> exact h) hbx (Or.inl ⟨rfl,fun wq hq=>by
  have hcq:=(aB hq).1;go_simp
  try rfl⟩) ?_
 try simp only [Act.put,pz]
 refine aX 7 _ J' U' (fun _ _ d _ _ h=>by cases d <;> exact h) hbx (Or.inl ⟨rfl,fun wq hq=>by
  have hcq:=(aB hq).1;go_simp
  try rfl⟩) ?_
 try simp only [Act.put,pz]
 refine aX 8 _ J' U' (fun _ _ d _ _ h=>by cases d <;> exact h) hbx (Or.inl ⟨rfl,fun wq hq=>by
  have hcq:=(aB hq).1;go_simp
  try rfl⟩) ?_
 try simp only [Act.put,pz]
 refine D7 0 9 J' J' U' J' J' (fun K hK=>?_) (fun K hK=>?_)
 ·go_simp;refine hK _ _ (ak hbx (.cells #[] 156)) ?_;try simp only [Act.put,pz]
  clear hK K;have Qz:=ak hbx (.cells #[] 156);have hrA:=D9 wn.drew 156 2 wn.heap.size rfl;refine D7 4 9 J' J' U' J' J' (fun K hK=>?_) (fun K hK=>?_)
  ·refine qQ elSLabel _ _ J' (wn.drew.alloc (.cells #[] 156)) wn.heap.size _ 0 [] hrA J' ⟨g,0,none⟩ jj cap ((s1.flatMap lrow)) J' (by rw [rowsLen (row:=lrow) (S:=2) (fun _=>rfl),HJ.out]) (fun q u hu=>(Qz.cell (p:=(⟨g,0,none⟩:Addr).add q) auX).trans (HNC.out q u hu)) (rowsOne lrow_one s1) O' O' auI ?_;intro v5 w5 hown5 hg5 aaQ;have hb5:Below wn.heap.size wn w5:=Below.grown (Qz) hg5 auI (fun q hq=>(hrA.lt q hq).1);refine hK _ _ hb5 ?_;try simp only [Act.put,pz]
   clear hK K;refine bP 9 J' U' J' (fun K hK=>?_);go_simp;refine hK _ _ (ak hb5 (.cells #[.string y.key,.string y.value] 156)) ?_;try simp only [Act.put,pz]
   clear hK K;have hbB:=ak hb5 (.cells #[.string y.key,.string y.value] 156);refine bP 10 J' U' J' (fun K hK=>?_);refine qQ elSLabel _ _ J' (w5.alloc (.cells #[.string y.key,.string y.value] 156)) wn.heap.size v5 _ _ (mG hown5 (ak (aj _) _)) J' ⟨w5.heap.size,0,none⟩ 1 1 [.string y.key,.string y.value] J' J' (DI w5 156 [.string y.key,.string y.value] w5.heap.size rfl) (lrow_one y) O' O' auJ ?_;exact Zaf2
  ·go_simp;refine hK _ _ (ak Qz (.cells #[.string y.key,.string y.value] 156)) ?_;try simp only [Act.put,pz]
   clear hK K;have hbB:=ak Qz (.cells #[.string y.key,.string y.value] 156);replace hrA:=mG hrA (ak (aj _) (.cells #[.string y.key,.string y.value] 156));refine bP 4 J' U' J' (fun K hK=>?_);refine qQ elSLabel _ _ J' ((wn.drew.alloc (.cells #[] 156)).alloc (.cells #[.string y.key,.string y.value] 156)) wn.heap.size _ 0 [] hrA J' ⟨g,0,none⟩ jj cap ((s1.flatMap lrow)) J' (by rw [rowsLen (row:=lrow) (S:=2) (fun _=>rfl),HJ.out]) (fun q u hu=>(hbB.cell (p:=(⟨g,0,none⟩:Addr).add q) auX).trans (HNC.out q u hu)) (rowsOne lrow_one s1) O' O' auJ ?_;intro v5 w5 hown5 hg5 aaQ;have hb5:Below wn.heap.size wn w5:=Below.grown (hbB) hg5 auJ (fun q hq=>(hrA.lt q hq).1);refine hK _ _ hb5 ?_;try simp only [Act.put,pz]
   clear hK K;refine bP 10 J' U' J' (fun K hK=>?_);refine qQ elSLabel _ _ J' w5 wn.heap.size v5 _ _ hown5 J' ⟨wn.heap.size+1,0,none⟩ 1 1 [.string y.key,.string y.value] J' J' (fun q u hu=>(World.cell?_of_block awP).trans ((DI (wn.drew.alloc (.cells #[] 156)) 156 [.string y.key,.string y.value] (wn.heap.size+1) S') q u hu)) (lrow_one y) O' O' auK ?_;exact Zaai
 ·go_simp;refine hK _ _ (ak hbx (.cells #[.string y.key,.string y.value] 156)) ?_;try simp only [Act.put,pz]
  clear hK K;have hbB:=ak hbx (.cells #[.string y.key,.string y.value] 156);refine bP 0 J' U' J' (fun K hK=>?_);go_simp;refine hK _ _ (ak hbB (.cells #[] 156)) ?_;try simp only [Act.put,pz]
  clear hK K;have Qz:=ak hbB (.cells #[] 156);have hrA:=vP (D9 (wn.drew.alloc (.cells #[.string y.key,.string y.value] 156)) 156 2 (wn.heap.size+1) S') (B':=wn.heap.size) O';refine bP 4 J' U' J' (fun K hK=>?_);refine qQ elSLabel _ _ J' ((wn.drew.alloc (.cells #[.string y.key,.string y.value] 156)).alloc (.cells #[] 156)) wn.heap.size _ 0 [] hrA J' ⟨g,0,none⟩ jj cap ((s1.flatMap lrow)) J' (by rw [rowsLen (row:=lrow) (S:=2) (fun _=>rfl),HJ.out]) (fun q u hu=>(Qz.cell (p:=(⟨g,0,none⟩:Addr).add q) auX).trans (HNC.out q u hu)) (rowsOne lrow_one s1) O' O' auI ?_;intro v5 w5 hown5 hg5 aaQ;have hb5:Below wn.heap.size wn w5:=Below.grown (Qz) hg5 auI (fun q hq=>(hrA.lt q hq).1);refine hK _ _ hb5 ?_;try simp only [Act.put,pz]
  clear hK K;refine bP 10 J' U' J' (fun K hK=>?_);refine qQ elSLabel _ _ J' w5 wn.heap.size v5 _ _ hown5 J' ⟨wn.heap.size,0,none⟩ 1 1 [.string y.key,.string y.value] J' J' (fun q u hu=>(World.cell?_of_block awQ).trans ((DI wn.drew 156 [.string y.key,.string y.value] wn.heap.size rfl) q u hu)) (lrow_one y) O' O' auK ?_
  exact Zaai):P:=h
theorem Zaei {P:Prop} (h:P:=by
 intro HK;have hbx:Below wn.heap.size wn wn.drew:=aA (aj _)
 refine aX 1 _ J' U' (fun _ _ d _ _ h=>by cases d <;> exact h) hbx (Or.inl ⟨rfl,fun wq hq=>by
  have hcq:=(aB hq).1;go_simp
  try rfl⟩) ?_
 try simp only [Act.put,pz]
 refine aX 2 _ J' U' (fun _ _ d _ _ h=>by cases d <;> exact h) hbx (Or.inl ⟨rfl,fun wq hq=>by
  have hcq:=(aB hq).1;go_simp
  try rfl⟩) ?_
 try simp only [Act.put,pz]
 refine aX 3 _ J' U' (fun _ _ d _ _ h=>by cases d <;> exact h) hbx (Or.inl ⟨rfl,fun wq hq=>by
  have hcq:=(aB hq).1;go_simp
  try rfl⟩) ?_
 try simp only [Act.put,pz]
 refine aX 5 _ J' U' (fun _ _ d _ _ h=>by cases d <;> exact h) hbx (Or.inl ⟨rfl,fun wq hq=>by
  have hcq:=(aB hq).1;go_simp
  try rfl⟩) ?_
 try simp only [Act.put,pz]
 refine aX 6 _ J' U' (fun _ _ d _ _ h=>by cases d <;> exact h) hbx (Or.inl ⟨rfl,fun wq hq=>by
  have hcq:=(aB hq).1;go_simp
  try rfl⟩) ?_
 try simp only [Act.put,pz]
 refine aX 7 _ J' U' (fun _ _ d _ _ h=>by cases d <;> exact h) hbx (Or.inl ⟨rfl,fun wq hq=>by
  have hcq:=(aB hq).1;go_simp
  try rfl⟩) ?_
 try simp only [Act.put,pz]
 refine aX 8 _ J' U' (fun _ _ d _ _ h=>by cases d <;> exact h) hbx (Or.inl ⟨rfl,fun wq hq=>by
  have hcq:=(aB hq).1;go_simp
  try rfl⟩) ?_
 try simp only [Act.put,pz]
 refine D7 0 9 J' J' U' J' J' (fun K hK=>?_) (fun K hK=>?_)
 ·go_simp;refine hK _ _ (ak hbx (.cells #[] 9)) ?_;try simp only [Act.put,pz]
  clear hK K;have Qz:=ak hbx (.cells #[] 9);have hrA:=D9 wn.drew 9 1 wn.heap.size rfl;refine D7 4 9 J' J' U' J' J' (fun K hK=>?_) (fun K hK=>?_)
  ·refine qQ qw _ _ J' (wn.drew.alloc (.cells #[] 9)) wn.heap.size _ 0 [] hrA J' ⟨g,0,none⟩ jj cap (((s1).map Value.string)) J' auP (fun q u hu=>(Qz.cell (p:=(⟨g,0,none⟩:Addr).add q) auX).trans (HNC.out q u hu)) (fun u hu=>by obtain ⟨z0,_,rfl⟩:=List.mem_map.1 hu;rfl) O' O' auI ?_;intro v5 w5 hown5 hg5 aaQ;have hb5:Below wn.heap.size wn w5:=Below.grown (Qz) hg5 auI (fun q hq=>(hrA.lt q hq).1);refine hK _ _ hb5 ?_;try simp only [Act.put,pz]
   clear hK K;refine bP 9 J' U' J' (fun K hK=>?_);go_simp;refine hK _ _ (ak hb5 (.cells #[.string y] 9)) ?_;try simp only [Act.put,pz]
   clear hK K;have hbB:=ak hb5 (.cells #[.string y] 9);refine bP 10 J' U' J' (fun K hK=>?_);refine qQ qw _ _ J' (w5.alloc (.cells #[.string y] 9)) wn.heap.size v5 _ _ (mG hown5 (ak (aj _) _)) J' ⟨w5.heap.size,0,none⟩ 1 1 [.string y] J' J' (DI w5 9 [.string y] w5.heap.size rfl) (fun u hu=>by rw [List.mem_singleton.1 hu];rfl) O' O' auJ ?_;exact Zaf2
  ·go_simp;refine hK _ _ (ak Qz (.cells #[.string y] 9)) ?_;try simp only [Act.put,pz]
   clear hK K;have hbB:=ak Qz (.cells #[.string y] 9);replace hrA:=mG hrA (ak (aj _) (.cells #[.string y] 9));refine bP 4 J' U' J' (fun K hK=>?_);refine qQ qw _ _ J' ((wn.drew.alloc (.cells #[] 9)).alloc (.cells #[.string y] 9)) wn.heap.size _ 0 [] hrA J' ⟨g,0,none⟩ jj cap (((s1).map Value.string)) J' auP (fun q u hu=>(hbB.cell (p:=(⟨g,0,none⟩:Addr).add q) auX).trans (HNC.out q u hu)) (fun u hu=>by obtain ⟨z0,_,rfl⟩:=List.mem_map.1 hu;rfl) O' O' auJ ?_;intro v5 w5 hown5 hg5 aaQ;have hb5:Below wn.heap.size wn w5:=Below.grown (hbB) hg5 auJ (fun q hq=>(hrA.lt q hq).1);refine hK _ _ hb5 ?_;try simp only [Act.put,pz]
   clear hK K;refine bP 10 J' U' J' (fun K hK=>?_);refine qQ qw _ _ J' w5 wn.heap.size v5 _ _ hown5 J' ⟨wn.heap.size+1,0,none⟩ 1 1 [.string y] J' J' (fun q u hu=>(World.cell?_of_block awP).trans ((DI (wn.drew.alloc (.cells #[] 9)) 9 [.string y] (wn.heap.size+1) S') q u hu)) (fun u hu=>by rw [List.mem_singleton.1 hu];rfl) O' O' auK ?_;exact Zaai
 ·go_simp;refine hK _ _ (ak hbx (.cells #[.string y] 9)) ?_;try simp only [Act.put,pz]
  clear hK K;have hbB:=ak hbx (.cells #[.string y] 9);refine bP 0 J' U' J' (fun K hK=>?_);go_simp;refine hK _ _ (ak hbB (.cells #[] 9)) ?_;try simp only [Act.put,pz]
  clear hK K;have Qz:=ak hbB (.cells #[] 9);have hrA:=vP (D9 (wn.drew.alloc (.cells #[.string y] 9)) 9 1 (wn.heap.size+1) S') (B':=wn.heap.size) O';refine bP 4 J' U' J' (fun K hK=>?_);refine qQ qw _ _ J' ((wn.drew.alloc (.cells #[.string y] 9)).alloc (.cells #[] 9)) wn.heap.size _ 0 [] hrA J' ⟨g,0,none⟩ jj cap (((s1).map Value.string)) J' auP (fun q u hu=>(Qz.cell (p:=(⟨g,0,none⟩:Addr).add q) auX).trans (HNC.out q u hu)) (fun u hu=>by obtain ⟨z0,_,rfl⟩:=List.mem_map.1 hu;rfl) O' O' auI ?_;intro v5 w5 hown5 hg5 aaQ;have hb5:Below wn.heap.size wn w5:=Below.grown (Qz) hg5 auI (fun q hq=>(hrA.lt q hq).1);refine hK _ _ hb5 ?_;try simp only [Act.put,pz]
  clear hK K;refine bP 10 J' U' J' (fun K hK=>?_);refine qQ qw _ _ J' w5 wn.heap.size v5 _ _ hown5 J' ⟨wn.heap.size,0,none⟩ 1 1 [.string y] J' J' (fun q u hu=>(World.cell?_of_block awQ).trans ((DI wn.drew 9 [.string y] wn.heap.size rfl) q u hu)) (fun u hu=>by rw [List.mem_singleton.1 hu];rfl) O' O' auK ?_
  exact Zaai):P:=h
theorem Zaej {P:Prop} (h:P:=by
 have HC:=I' hc;have HN:=I' hn;clear hc hn;go_wp2_with fail
 refine (l22Copy_room x _ _ _ (aZ h atT) HW.out).mono ?_;rintro e w1 ⟨cs1,G1,rfl,jX,hb1,hRM⟩;obtain ⟨hc1,hf1⟩:=ay hb1;have hz1_0:w.heap.size < w1.heap.size:=sq hb1.size;have hz1_1:w.heap.size+1 < w1.heap.size:=sq hb1.size;have aqV:w.heap.size+1+1 < w1.heap.size:=sq hb1.size;have hR1:=jX.rd;obtain ⟨dG,bV,xq,dS,dJ,Bz,hck,hG1,oO,tq,wI,iV,gI,iW⟩:=aO hR1;subst hck;clear hG1 hR1;go_wp2_with fail
 refine (PodNormal_spec u _ _ _ (aZ h' atT) HU.out).mono ?_;rw [HN.out];rintro e w2 ⟨cs2,G2,rfl,hO2,hb2⟩;obtain ⟨hc2,hf2⟩:=ay hb2;have hz2_0:w.heap.size < w2.heap.size:=sq hb2.size;have hz2_1:w.heap.size+1 < w2.heap.size:=sq hb2.size;have hz2_2:w.heap.size+1+1 < w2.heap.size:=sq hb2.size;have aqX:w1.heap.size < w2.heap.size:=sq hb2.size;have hR2:=hO2.rd;obtain ⟨bY,bZ,iq,eU,eX,jV,bg,bn,dK,hck,hG2,jW,dA,kQ,lg,lG,iO,bK⟩:=dL hR2;subst hck;clear hG2 hR2;go_wp2_with fail
 refine (qM x _ _ _ (aZ h atT) HW.out).mono ?_;rw [HC.out];rintro e w3 ⟨rfl,hb3⟩;obtain ⟨hc3,hf3⟩:=ay hb3;have hz3_0:w.heap.size < w3.heap.size:=sq hb3.size;have hz3_1:w.heap.size+1 < w3.heap.size:=sq hb3.size;have hz3_2:w.heap.size+1+1 < w3.heap.size:=sq hb3.size;have hz3_3:w1.heap.size < w3.heap.size:=sq hb3.size;have hz3_4:w2.heap.size < w3.heap.size:=sq hb3.size;have HO9:Hid (Own w3 (w.heap.size+1+1+1) x [.slice dG x.hosts.length bV,.slice dS x.au.length dJ,.int .i64 x.next,.int .i64 x.weights.pack,.int .i64 x.weights.spread,.int .i64 x.weights.soft] G1):=I' (((((jX.mono S').alloc _).ext hb2).alloc _).ext hb3);clear jX hO2 hRM;go_wp2_with fail
 try dsimp only
 iterate 60 (first | go_step | skip)
 refine bodyPost_ret (v:=.tuple #[.agg #[.slice dG x.hosts.length bV,.slice dS x.au.length dJ,.int .i64 x.next,.int .i64 x.weights.pack,.int .i64 x.weights.spread,.int .i64 x.weights.soft],.int .i64 1]) (by simp [results,Tryz.results19,go_sem, *]) rfl ?_;rw [HF.out];first | refine ⟨[.slice dG x.hosts.length bV,.slice dS x.au.length dJ,.int .i64 x.next,.int .i64 x.weights.pack,.int .i64 x.weights.spread,.int .i64 x.weights.soft],G1,rfl,?_,?_⟩ | refine ⟨[.slice dG x.hosts.length bV,.slice dS x.au.length dJ,.int .i64 x.next,.int .i64 x.weights.pack,.int .i64 x.weights.spread,.int .i64 x.weights.soft],rfl,⟨G1,?_⟩,?_⟩
 ·exact Zaf0
 ·exact aui):P:=h
theorem Zaek {P:Prop} (h:P:=by
 have HC:=I' hc;have HN:=I' hn;clear hc hn;go_wp2_with fail
 refine (l22Copy_room x _ _ _ (aZ h atT) HW.out).mono ?_;rintro e w1 ⟨cs1,G1,rfl,jX,hb1,hRM⟩;obtain ⟨hc1,hf1⟩:=ay hb1;have hz1_0:w.heap.size < w1.heap.size:=sq hb1.size;have hz1_1:w.heap.size+1 < w1.heap.size:=sq hb1.size;have aqV:w.heap.size+1+1 < w1.heap.size:=sq hb1.size;have hR1:=jX.rd;obtain ⟨dG,bV,xq,dS,dJ,Bz,hck,hG1,oO,tq,wI,iV,gI,iW⟩:=aO hR1;subst hck;clear hG1 hR1;go_wp2_with fail
 refine (HostNormal_spec u _ _ _ (aZ h' atT) HU.out).mono ?_;rw [HN.out];rintro e w2 ⟨cs2,G2,rfl,hO2,hb2⟩;obtain ⟨hc2,hf2⟩:=ay hb2;have hz2_0:w.heap.size < w2.heap.size:=sq hb2.size;have hz2_1:w.heap.size+1 < w2.heap.size:=sq hb2.size;have hz2_2:w.heap.size+1+1 < w2.heap.size:=sq hb2.size;have aqX:w1.heap.size < w2.heap.size:=sq hb2.size;have hR2:=hO2.rd;obtain ⟨bY,bZ,iq,wP,wQ,Qe,hck,hG2,jW,dA,kQ,lg,Nh,Bd⟩:=iy hR2;subst hck;clear hG2 hR2;go_wp2_with fail
 refine (qM x _ _ _ (aZ h atT) HW.out).mono ?_;rw [HC.out];rintro e w3 ⟨rfl,hb3⟩;obtain ⟨hc3,hf3⟩:=ay hb3;have hz3_0:w.heap.size < w3.heap.size:=sq hb3.size;have hz3_1:w.heap.size+1 < w3.heap.size:=sq hb3.size;have hz3_2:w.heap.size+1+1 < w3.heap.size:=sq hb3.size;have hz3_3:w1.heap.size < w3.heap.size:=sq hb3.size;have hz3_4:w2.heap.size < w3.heap.size:=sq hb3.size;have HO9:Hid (Own w3 (w.heap.size+1+1+1) x [.slice dG x.hosts.length bV,.slice dS x.au.length dJ,.int .i64 x.next,.int .i64 x.weights.pack,.int .i64 x.weights.spread,.int .i64 x.weights.soft] G1):=I' (((((jX.mono S').alloc _).ext hb2).alloc _).ext hb3);clear jX hO2 hRM;go_wp2_with fail
 try dsimp only
 iterate 60 (first | go_step | skip)
 refine bodyPost_ret (v:=.tuple #[.agg #[.slice dG x.hosts.length bV,.slice dS x.au.length dJ,.int .i64 x.next,.int .i64 x.weights.pack,.int .i64 x.weights.spread,.int .i64 x.weights.soft],.int .i64 1]) (by simp [results,Tryz.results20,go_sem, *]) rfl ?_;rw [HF.out];refine ⟨[.slice dG x.hosts.length bV,.slice dS x.au.length dJ,.int .i64 x.next,.int .i64 x.weights.pack,.int .i64 x.weights.spread,.int .i64 x.weights.soft],G1,rfl,?_,?_⟩
 ·exact Zaf0
 ·exact aui):P:=h
theorem Zael {P:Prop} (h:P:=by
 have HC:=I' hc;have HN:=I' hn;clear hc hn;go_wp2_with fail
 refine (PodNormal_impl u _ _ _ (aZ h' atT) HU.out).mono ?_;rw [HN.out];rintro e w1 ⟨cs1,G1,rfl,jX,hb1⟩;obtain ⟨hc1,hf1⟩:=ay hb1;have zO:w.heap.size < w1.heap.size:=sq hb1.size;have CO:w.heap.size+1 < w1.heap.size:=sq hb1.size;have air:w.heap.size+1+1 < w1.heap.size:=sq hb1.size;have hR1:=jX.rd;obtain ⟨dU,dV,Ba,mJ,mM,Vb,fK,fM,Fz,hck,hG1,hname1,jr,IQ,IU,Sj,Bv,qc⟩:=dL hR1;subst hck;clear hG1 hR1;go_wp2_with fail
 refine (qL x _ _ _ (aZ h atT) HW.out).mono ?_;rw [HC.out];rintro e w2 ⟨rfl,hb2⟩;obtain ⟨hc2,hf2⟩:=ay hb2;have al0:w.heap.size < w2.heap.size:=sq hb2.size;have hz21:w.heap.size+1 < w2.heap.size:=sq hb2.size;have hz22:w.heap.size+1+1 < w2.heap.size:=sq hb2.size;have hz1b_2:w1.heap.size < w2.heap.size:=sq hb2.size;go_wp2_with fail
 refine (uo x _ _ _ (aZ h atT) HW.out).mono ?_;rintro e w3 ⟨cs9,G9,rfl,SY,hb3⟩;obtain ⟨hc3,hf3⟩:=ay hb3;have hz30:w.heap.size < w3.heap.size:=sq hb3.size;have hz31:w.heap.size+1 < w3.heap.size:=sq hb3.size;have hz32:w.heap.size+1+1 < w3.heap.size:=sq hb3.size;have hR9:=SY.rd;obtain ⟨Pe,Pg,Ph,Vo,Vp,Vq,hck,hG9,Pj,Vr,Vs,zF,wB,zG⟩:=aO hR9;subst hck;clear hG9 hR9;have HO9:=I' (SY.mono (B':=w.heap.size+1+1+1) (by have:=hb2.size;(try simp at this ⊢);omega));clear SY;go_wp2_with fail
 try dsimp only
 iterate 60 (first | go_step | skip)
 refine bodyPost_ret (v:=.tuple #[.agg #[.slice Pe x.hosts.length Pg,.slice Vo x.au.length Vp,.int .i64 x.next,.int .i64 x.weights.pack,.int .i64 x.weights.spread,.int .i64 x.weights.soft],.int .i64 1]) (by simp [results,Tryz.results30,go_sem, *]) rfl ?_
 exact Zafz):P:=h
theorem Zaem {P:Prop} (h:P:=by
 have HC:=I' hc;have HN:=I' hn;clear hc hn;go_wp2_with fail
 refine (HostNormal_impl u _ _ _ (aZ h' atT) HU.out).mono ?_;rw [HN.out];rintro e w1 ⟨cs1,G1,rfl,jX,hb1⟩;obtain ⟨hc1,hf1⟩:=ay hb1;have zO:w.heap.size < w1.heap.size:=sq hb1.size;have CO:w.heap.size+1 < w1.heap.size:=sq hb1.size;have air:w.heap.size+1+1 < w1.heap.size:=sq hb1.size;have hR1:=jX.rd;obtain ⟨dU,dV,Ba,kY,kZ,NR,hck,hG1,hname1,jr,IQ,IU,KD,yO⟩:=iy hR1;subst hck;clear hG1 hR1;go_wp2_with fail
 refine (qL x _ _ _ (aZ h atT) HW.out).mono ?_;rw [HC.out];rintro e w2 ⟨rfl,hb2⟩;obtain ⟨hc2,hf2⟩:=ay hb2;have al0:w.heap.size < w2.heap.size:=sq hb2.size;have hz21:w.heap.size+1 < w2.heap.size:=sq hb2.size;have hz22:w.heap.size+1+1 < w2.heap.size:=sq hb2.size;have hz1b_2:w1.heap.size < w2.heap.size:=sq hb2.size;go_wp2_with fail
 refine (uo x _ _ _ (aZ h atT) HW.out).mono ?_;rintro e w3 ⟨cs9,G9,rfl,SY,hb3⟩;obtain ⟨hc3,hf3⟩:=ay hb3;have hz30:w.heap.size < w3.heap.size:=sq hb3.size;have hz31:w.heap.size+1 < w3.heap.size:=sq hb3.size;have hz32:w.heap.size+1+1 < w3.heap.size:=sq hb3.size;have hR9:=SY.rd;obtain ⟨Pe,Pg,Ph,Vo,Vp,Vq,hck,hG9,Pj,Vr,Vs,zF,wB,zG⟩:=aO hR9;subst hck;clear hG9 hR9;have HO9:=I' (SY.mono (B':=w.heap.size+1+1+1) (by have:=hb2.size;(try simp at this ⊢);omega));clear SY;go_wp2_with fail
 try dsimp only
 iterate 60 (first | go_step | skip)
 refine bodyPost_ret (v:=.tuple #[.agg #[.slice Pe x.hosts.length Pg,.slice Vo x.au.length Vp,.int .i64 x.next,.int .i64 x.weights.pack,.int .i64 x.weights.spread,.int .i64 x.weights.soft],.int .i64 1]) (by simp [results,Tryz.results31,go_sem, *]) rfl ?_;rw [HF.out];refine ⟨[.slice Pe x.hosts.length Pg,.slice Vo x.au.length Vp,.int .i64 x.next,.int .i64 x.weights.pack,.int .i64 x.weights.spread,.int .i64 x.weights.soft],G9,rfl,?_,?_⟩
 ·exact Zaf0
 ·exact aui):P:=h
theorem Zaen {P:Prop} (h:P:=by
 intro v7 w7 nK Ua ab7;rw [show 0+jj = jj by omega,List.nil_append] at nK;obtain ⟨g9,p9,hv7,hgb,hgp,hgl⟩:=wW nK O';subst hv7;have hb7:Below wn.heap.size wn w7:=Below.grown (hb5) Ua auK (fun q hq=>(hown5.lt q hq).1)
 exact Zaf4):P:=h
theorem Zaeo {P:Prop} (h:P:=by
 exact Zafz):P:=h
theorem Zaep {P:Prop} (h:P:=by
 exact Zaf4):P:=h
theorem Zaeq {P:Prop} (h:P:=by
 have rr:=HS.out.box.lt;go_wp2_with fail
 refine (ajs x _ _ v2 (rd_extN HX.out HS.out.below) hl1 hl2).mono ?_;rintro e w8 ⟨ds8,G8,rfl,sV,hb8⟩;have T8:=HS.out.ext hb8;have SY:=sV;obtain ⟨Alabels9,clabels9,Flabels9,Ataints9,ctaints9,Ftaints9,hck9,hF9,hname9,hlabels9,hcpu9,hmem9,hslots9,htaints9⟩:=iy sV.rd;subst hck9;clear hF9 sV;have r0:=T8.rb.cell (i:=0) (u:=.string ⟨#[]⟩) rfl;have r1:=T8.rb.cell (i:=1) (u:=.slice none 0 0) rfl;have r2:=T8.rb.cell (i:=2) (u:=.int .i64 0) rfl;have r3:=T8.rb.cell (i:=3) (u:=.int .i64 0) rfl;have r4:=T8.rb.cell (i:=4) (u:=.int .i64 0) rfl;have r5:=T8.rb.cell (i:=5) (u:=.slice none 0 0) rfl;have rf:=T8.rb.fz;have rl:=T8.rb.lt;have HO9:=I' SY;have HT8:=I' T8;have hzw:w.heap.size+1 < v2.heap.size:=HS.out.rb.lt;clear SY T8 hb8;go_wp2_with fail
 try dsimp only
 iterate 60 (first | go_step | skip)
 refine bodyPost_ret (v:=.tuple #[.agg #[.string x.name,.slice Alabels9 x.labels.length clabels9,.int .i64 x.cpu,.int .i64 x.mem,.int .i64 x.slots,.slice Ataints9 x.aT.length ctaints9],.bool false]) (by simp [results,Tryz.results75,go_sem, *]) rfl ⟨[.string x.name,.slice Alabels9 x.labels.length clabels9,.int .i64 x.cpu,.int .i64 x.mem,.int .i64 x.slots,.slice Ataints9 x.aT.length ctaints9],G8,by rw [HRN.out];try rfl,?_,?_⟩
 ·rw [HRN.out];refine Own.mono (B:=v2.heap.size) ?_ O';exact Zaa4
 ·exact Zabp):P:=h
theorem Zaer {P:Prop} (h:P:=by
 have rr:=HS.out.box.lt;go_wp2_with fail
 refine (alT x _ _ v2 (rd_extN HX.out HS.out.below) hl1 hl2).mono ?_;rintro e w8 ⟨ds8,G8,rfl,sV,hb8⟩;have T8:=HS.out.ext hb8;have SY:=sV;obtain ⟨Alabels9,clabels9,Flabels9,Ataints9,ctaints9,Ftaints9,hck9,hF9,hname9,hlabels9,hcpu9,hmem9,hslots9,htaints9⟩:=iy sV.rd;subst hck9;clear hF9 sV;have r0:=T8.rb.cell (i:=0) (u:=.string ⟨#[]⟩) rfl;have r1:=T8.rb.cell (i:=1) (u:=.slice none 0 0) rfl;have r2:=T8.rb.cell (i:=2) (u:=.int .i64 0) rfl;have r3:=T8.rb.cell (i:=3) (u:=.int .i64 0) rfl;have r4:=T8.rb.cell (i:=4) (u:=.int .i64 0) rfl;have r5:=T8.rb.cell (i:=5) (u:=.slice none 0 0) rfl;have rf:=T8.rb.fz;have rl:=T8.rb.lt;have HO9:=I' SY;have HT8:=I' T8;have hzw:w.heap.size+1 < v2.heap.size:=HS.out.rb.lt;clear SY T8 hb8;go_wp2_with fail
 try dsimp only
 iterate 60 (first | go_step | skip)
 refine bodyPost_ret (v:=.tuple #[.agg #[.string x.name,.slice Alabels9 x.labels.length clabels9,.int .i64 x.cpu,.int .i64 x.mem,.int .i64 x.slots,.slice Ataints9 x.aT.length ctaints9],.bool false]) (by simp [results,Tryz.results50,go_sem, *]) rfl ⟨[.string x.name,.slice Alabels9 x.labels.length clabels9,.int .i64 x.cpu,.int .i64 x.mem,.int .i64 x.slots,.slice Ataints9 x.aT.length ctaints9],G8,by rw [HRN.out];try rfl,?_,?_⟩
 ·rw [HRN.out];refine Own.mono (B:=v2.heap.size) ?_ O';exact Zaa4
 ·exact Zabp):P:=h
theorem Zaes {P:Prop} (h:P:=by
 go_wp2_with fail
 skip
 refine aF _ U' U' (aj _) ?_
 repeat (first
  | (apply aG
     case hw=>rfl
     simp only [Act.put,pz])
  | (apply aH
     case hw=>rfl
     case h =>exact Zaay
     simp only [Act.put,pz]))
 exact Zaan):P:=h
theorem Zaet {P:Prop} (h:P:=by
 try simp only [Bool.and_false,Bool.and_true,Bool.false_and,Bool.and_self] at hp
 have HN:=I' (gq hall.out hp);have Gn:=I' (gq hfresh.out hfr);clear hp;go_wp2_with fail
 clear q0 q1 q2 q3 q4 q5 q6 q7 q8;refine aF _ U' U' (aj _) ?_
 repeat (first
  | (apply aG
     case hw=>rfl
     simp only [Act.put,pz])
  | (apply aH
     case hw=>rfl
     case h =>exact Zaar
     simp only [Act.put,pz]))
 exact Zabh):P:=h
theorem Zaeu {P:Prop} (h:P:=by
 go_wp2_with fail
 skip
 refine aF _ U' U' (aj _) ?_
 repeat (first
  | (apply aG
     case hw=>rfl
     simp only [Act.put,pz])
  | (apply aH
     case hw=>rfl
     case h =>exact Zaa2
     simp only [Act.put,pz]))
 exact Zaas):P:=h
theorem Zaev {P:Prop} (h:P:=by
 exact Zaf0):P:=h
theorem Zaew {P:Prop} (h:P:=by
 have HN:=I' (gq hall.out hp);have Gn:=I' (gq hfresh.out hfr);clear hp;go_wp2_with fail
 clear q0 q1 q2 q3 q4 q5 q6 q7 q8;refine aF _ U' U' (aj _) ?_
 repeat (first
  | (apply aG
     case hw=>rfl
     simp only [Act.put,pz])
  | (apply aH
     case hw=>rfl
     case h =>exact Zaav
     simp only [Act.put,pz]))
 exact Zabk):P:=h
theorem Zaex {P:Prop} (h:P:=by
 clear hs;go_wp2_with fail
 refine aF wr U' U' (aj _) ?_
 repeat (first
  | (apply aG
     case hw=>rfl
     simp only [Act.put,pz])
  | (apply aH
     case hw=>rfl
     case h =>exact Zaad
     simp only [Act.put,pz]))
 exact Zacp):P:=h
theorem Zaey {P:Prop} (h:P:=by
 try dsimp only
 refine Own.mono (B:=w.heap.size+1+1+1) ?_ O'
 exact (by repeat (first | with_reducible exact HOW.out | with_reducible refine Own.setCell ?_ atX _ | with_reducible refine ownNeA ?_ HFG.out))):P:=h
theorem Zaez {P:Prop} (h:P:=by
 refine hK _ _ hb7 ?_;try simp only [Act.put,pz]
 clear hK K;refine bP 12 J' U' J' (fun K hK=>?_);go_simp;refine hK _ _ hb7 ?_;try simp only [Act.put,pz]
 clear hK K;refine nR U' ?_
 exact HK _ _ ⟨g9,p9,_,_,_,_,_,_,_,_,_,_,_,aum,hb7,nK⟩):P:=h
theorem Zae0 {P:Prop} (h:P:=by
 refine hK _ _ hb7 ?_;try simp only [Act.put,pz]
 clear hK K;refine bP 9 J' U' J' (fun K hK=>?_);go_simp;refine hK _ _ hb7 ?_;try simp only [Act.put,pz]
 clear hK K;refine nR U' ?_
 exact HK _ _ ⟨g9,p9,_,_,_,_,_,_,_,_,aum,hb7,nK⟩):P:=h
theorem Zae1 {P:Prop} (h:P:=by
 try simp only [Bool.and_false,Bool.and_true,Bool.false_and,Bool.and_self] at hp
 have HF:=I' (dW hlt hp);clear hp;go_wp2_with fail
 refine aF _ U' U' (aj _) ?_
 repeat (first
  | (apply aG
     case hw=>rfl
     simp only [Act.put,pz])
  | (apply aH
     case hw=>rfl
     case h =>exact Zaaz
     simp only [Act.put,pz]))
 exact Zaan):P:=h
theorem Zae2 {P:Prop} (h:P:=by
 intro wq hq;have hcq:=(aB hq).1;have lJ:=(aB hq).2;go_simp
 first
  | exact ⟨hq,rfl⟩
  | (refine (HC.out y x _ (HU.out.trans (nN.lq _ hq))).mono ?_;rintro e w2 ⟨rfl,hb2⟩;exact ⟨rfl,aI hq hb2⟩)
  | (simp only [↓IntWalk.iteOmega];exact ⟨hq,rfl⟩)):P:=h
theorem Zae3 {P:Prop} (h:P:=by
 intro wq hq;have hcq:=(aB hq).1;have lJ:=(aB hq).2;have hlk:=HLK.out wq hq;go_simp
 first
  | exact ⟨hq,rfl⟩
  | exact ⟨aQ hq _,rfl⟩
  | (first | (refine (wH x.au[j+1].aS _ _ _ (aJ ku atW) hwk).mono ?_;rw [H1.out];rintro e w2 ⟨rfl,hb2⟩;exact ⟨rfl,aI hq hb2⟩) | (refine (jc x.au[j+1].seq 1 (x.next - 1) _).mono ?_;rw [LQ.out];rintro e w2 ⟨rfl,rfl⟩;exact ⟨rfl,hq⟩) | (refine (gK x _ _ x.au[j+1].on _ (aJ h atW) NV.out).mono ?_;rw [Hg.out];rintro e w2 ⟨rfl,hb2⟩;exact ⟨rfl,aI hq hb2⟩))
  | (simp only [↓IntWalk.iteOmega];exact ⟨hq,rfl⟩)):P:=h
theorem Zae4 {P:Prop} (h:P:=by
 intro wq hq;have hcq:=(aB hq).1;have lJ:=(aB hq).2;have hlk:=HLK.out wq hq;go_simp
 first
  | exact ⟨hq,rfl⟩
  | exact ⟨aQ hq _,rfl⟩
  | (first | (refine (wH x.au[0].aS _ _ _ (aJ ku atW) hwk).mono ?_;rw [H1.out];rintro e w2 ⟨rfl,hb2⟩;exact ⟨rfl,aI hq hb2⟩) | (refine (jc x.au[0].seq 1 (x.next - 1) _).mono ?_;rw [LQ.out];rintro e w2 ⟨rfl,rfl⟩;exact ⟨rfl,hq⟩) | (refine (gK x _ _ x.au[0].on _ (aJ h atW) NV.out).mono ?_;rw [Hg.out];rintro e w2 ⟨rfl,hb2⟩;exact ⟨rfl,aI hq hb2⟩))
  | (simp only [↓IntWalk.iteOmega];exact ⟨hq,rfl⟩)):P:=h
theorem Zae5 {P:Prop} (h:P:=by
 intro wq hq;have hcq:=(aB hq).1;have lJ:=(aB hq).2;go_simp
 first
  | exact ⟨hq,rfl⟩
  | exact ⟨aQ hq _,rfl⟩
  | (first | (refine (yT x.au[j+1].aS _ _ _ (aJ ku atW) hwk).mono ?_;rw [H1.out];rintro e w2 ⟨rfl,hb2⟩;exact ⟨rfl,aI hq hb2⟩) | (refine (kH x.au[j+1].seq 1 (x.next - 1) _).mono ?_;rw [LQ.out];rintro e w2 ⟨rfl,rfl⟩;exact ⟨rfl,hq⟩) | (refine (gQ x _ _ x.au[j+1].on _ (aJ h atW) NV.out).mono ?_;rw [Hg.out];rintro e w2 ⟨rfl,hb2⟩;exact ⟨rfl,aI hq hb2⟩))
  | (simp only [↓IntWalk.iteOmega];exact ⟨hq,rfl⟩)):P:=h
theorem Zae6 {P:Prop} (h:P:=by
 intro wq hq;have hcq:=(aB hq).1;have lJ:=(aB hq).2;go_simp
 first
  | exact ⟨hq,rfl⟩
  | exact ⟨aQ hq _,rfl⟩
  | (first | (refine (yT x.au[0].aS _ _ _ (aJ ku atW) hwk).mono ?_;rw [H1.out];rintro e w2 ⟨rfl,hb2⟩;exact ⟨rfl,aI hq hb2⟩) | (refine (kH x.au[0].seq 1 (x.next - 1) _).mono ?_;rw [LQ.out];rintro e w2 ⟨rfl,rfl⟩;exact ⟨rfl,hq⟩) | (refine (gQ x _ _ x.au[0].on _ (aJ h atW) NV.out).mono ?_;rw [Hg.out];rintro e w2 ⟨rfl,hb2⟩;exact ⟨rfl,aI hq hb2⟩))
  | (simp only [↓IntWalk.iteOmega];exact ⟨hq,rfl⟩)):P:=h
theorem Zae7 {P:Prop} (h:P:=by
 refine aN ?_;intro wn hn;replace hn:=hn.out;obtain ⟨hcn,hfn⟩:=ay hn;have hzn:w.heap.size < wn.heap.size:=sq hn.size;have hyn:b' < wn.heap.size:=sq hn.size;try (have hxn:wr.heap.size < wn.heap.size:=sq hn.size)
 exact Zagc):P:=h
theorem Zae8 {P:Prop} (h:P:=by
 refine aN ?_;intro wn hn;replace hn:=hn.out;obtain ⟨hcn,hfn⟩:=ay hn;have hzn:w.heap.size < wn.heap.size:=sq hn.size;have hyn:b < wn.heap.size:=sq hn.size;try (have hxn:wr.heap.size < wn.heap.size:=sq hn.size)
 exact Zagc):P:=h
theorem Zae9 {P:Prop} (h:P:=by
 intro wq hq;have hcq:=(aB hq).1;have lJ:=(aB hq).2;go_simp
 first
  | exact ⟨hq,rfl⟩
  | exact ⟨aQ hq _,rfl⟩
  | (refine (tY x.hosts[j+1] _ _ _ (aJ hr3 atW) hwk).mono ?_;rw [H1.out];rintro e w6 ⟨rfl,hb6⟩;exact ⟨rfl,aI hq hb6⟩)
  | (simp only [↓IntWalk.iteOmega];exact ⟨hq,rfl⟩)):P:=h
theorem Zafa {P:Prop} (h:P:=by
 refine hK _ _ hb7 ?_;try simp only [Act.put,pz]
 clear hK K;refine bP 8 J' U' J' (fun K hK=>?_);go_simp;refine hK _ _ hb7 ?_;try simp only [Act.put,pz]
 clear hK K;refine nR U' ?_
 exact HK _ _ ⟨g9,p9,_,_,_,_,_,_,_,aum,hb7,nK⟩):P:=h
theorem Zafb {P:Prop} (h:P:=by
 intro wq hq;have hcq:=(aB hq).1;have lJ:=(aB hq).2;go_simp
 first
  | exact ⟨hq,rfl⟩
  | exact ⟨aQ hq _,rfl⟩
  | (fail)
  | (simp only [↓IntWalk.iteOmega];exact ⟨hq,rfl⟩)):P:=h
theorem Zafc {P:Prop} (h:P:=by
 intro wq hq;have hcq:=(aB hq).1;have lJ:=(aB hq).2;go_simp
 first
  | exact ⟨hq,rfl⟩
  | exact ⟨aQ hq _,rfl⟩
  | (refine (tY x.hosts[0] _ _ _ (aJ hr3 atW) hwk).mono ?_;rw [H1.out];rintro e w6 ⟨rfl,hb6⟩;exact ⟨rfl,aI hq hb6⟩)
  | (simp only [↓IntWalk.iteOmega];exact ⟨hq,rfl⟩)):P:=h
theorem Zafd {P:Prop} (h:P:=by
 go_wp2_with fail
 refine aF wr U' U' (aj _) ?_
 repeat (first
  | (apply aG
     case hw=>rfl
     simp only [Act.put,pz])
  | (apply aH
     case hw=>rfl
     case h =>exact Zaad
     simp only [Act.put,pz]))
 exact Zabr):P:=h
theorem Zafe {P:Prop} (h:P:=by
 intro wq hq;have hcq:=(aB hq).1;have lJ:=(aB hq).2;go_simp
 first
  | exact ⟨hq,rfl⟩
  | exact ⟨aQ hq _,rfl⟩
  | (refine (tZ x.hosts[j+1] _ _ _ (aJ hr3 atW) hwk).mono ?_;rw [H1.out];rintro e w6 ⟨rfl,hb6⟩;exact ⟨rfl,aI hq hb6⟩)
  | (simp only [↓IntWalk.iteOmega];exact ⟨hq,rfl⟩)):P:=h
theorem Zaff {P:Prop} (h:P:=by
 intro wq hq;have hcq:=(aB hq).1;have lJ:=(aB hq).2;go_simp
 first
  | exact ⟨hq,rfl⟩
  | exact ⟨aQ hq _,rfl⟩
  | (refine (tZ x.hosts[0] _ _ _ (aJ hr3 atW) hwk).mono ?_;rw [H1.out];rintro e w6 ⟨rfl,hb6⟩;exact ⟨rfl,aI hq hb6⟩)
  | (simp only [↓IntWalk.iteOmega];exact ⟨hq,rfl⟩)):P:=h
theorem Zafg {P:Prop} (h:P:=by
 go_enter Tryz.func158,Tryz.ntmps158;go_wp2_with fail
 refine (rX x.key _ hks).mono ?_
 exact Zaau):P:=h
theorem Zafh {P:Prop} (h:P:=by
 go_enter Tryz.func146,Tryz.ntmps146;go_wp2_with fail
 refine (qK x.key _ hks).mono ?_
 exact Zaau):P:=h
theorem Zafi {P:Prop} (h:P:=by
 go_wp2_with fail
 refine aF wr U' U' (aj _) ?_
 repeat (first
  | (apply aG
     case hw=>rfl
     simp only [Act.put,pz])
  | (apply aH
     case hw=>rfl
     case h =>exact Zaa1
     simp only [Act.put,pz]))
 exact Zadv):P:=h
theorem Zafj {P:Prop} (h:P:=by
 go_wp2_with fail
 refine aF wr U' U' (aj _) ?_
 repeat (first
  | (apply aG
     case hw=>rfl
     simp only [Act.put,pz])
  | (apply aH
     case hw=>rfl
     case h =>exact Zaa1
     simp only [Act.put,pz]))
 exact Zadw):P:=h
theorem Zafk {P:Prop} (h:P:=by
 intro v7 w7 nK Ua ab7;rw [show 0+0 = 0 by omega,List.nil_append] at nK;obtain ⟨g9,p9,hv7,hgb,hgp,hgl⟩:=wW nK O';subst hv7;have hb7:Below wn.heap.size wn w7:=Below.grown (hb5) Ua auK (fun q hq=>(hown5.lt q hq).1)
 exact Zaa7):P:=h
theorem Zafl {P:Prop} (h:P:=by
 intro v7 w7 nK Ua ab7;rw [show 0+0 = 0 by omega,List.nil_append] at nK;obtain ⟨g9,p9,hv7,hgb,hgp,hgl⟩:=wW nK O';subst hv7;have hb7:Below wn.heap.size wn w7:=Below.grown (hb5) Ua auK (fun q hq=>(hown5.lt q hq).1)
 exact Zaa6):P:=h
theorem Zafm {P:Prop} (h:P:=by
 exact (by repeat (first | with_reducible exact HO9.out | with_reducible refine Own.setCell ?_ atX _))):P:=h
theorem Zafn {P:Prop} (h:P:=by
 exact ⟨[.slice kM R.hosts.length kN,.slice ny R.au.length nC,.int .i64 R.next,.int .i64 R.weights.pack,.int .i64 R.weights.spread,.int .i64 R.weights.soft],G,rfl,(HO.out.only OB (fun b hb=>by have:=HO.out.base b hb;omega)).mono (B':=w.heap.size) O',ext_only hb2 OB O'⟩):P:=h
theorem Zafo {P:Prop} (h:P:=by
 rw [HRN.out];refine Own.mono (B:=w7.heap.size) ?_ O'
 exact Zaa4):P:=h
theorem Zafp {P:Prop} (h:P:=by
 try simp only [Bool.and_false,Bool.and_true,Bool.false_and,Bool.and_self] at hp
 have HF:=I' (jP hlt hp);clear hp
 exact Zaal):P:=h
theorem Zafq {P:Prop} (h:P:=by
 have HRR:=I' hr;clear hr;go_wp2_with fail
 refine HOK.out.mono ?_
 exact Zabv):P:=h
theorem Zafr {P:Prop} (h:P:=by
 exact (by repeat (first | with_reducible exact HT8.out.below | with_reducible refine aC ?_ atX _))):P:=h
theorem Zafs {P:Prop} (h:P:=by
 refine ⟨⟨k+1,N+1,g8,p8,O',O',N',rfl,I' ?_,?_,?_⟩,by simp [intOf];omega⟩
 ·exact Zacf
 ·exact Zadk
 ·exact Zab4):P:=h
theorem Zaft {P:Prop} (h:P:=by
 refine ⟨⟨k+1,N+1,g8,p8,O',O',N',rfl,I' ?_,?_,?_⟩,by simp [intOf];omega⟩
 ·exact Zacf
 ·exact Zadl
 ·exact Zab4):P:=h
theorem Zafu {P:Prop} (h:P:=by
 refine ⟨⟨k+1,N+1,g8,p8,O',O',N',rfl,I' ?_,?_,?_⟩,by simp [intOf];omega⟩
 ·exact Zacf
 ·exact Zadm
 ·exact Zab4):P:=h
theorem Zafv {P:Prop} (h:P:=by
 refine ⟨⟨k+1,N+1,g8,p8,O',O',N',rfl,I' ?_,?_,?_⟩,by simp [intOf];omega⟩
 ·exact Zacf
 ·exact Zadn
 ·exact Zab4):P:=h
theorem Zafw {P:Prop} (h:P:=by
 refine aN ?_;intro wn hn;replace hn:=hn.out;simp only [HQ.out]
 exact Zaco):P:=h
theorem Zafx {P:Prop} (h:P:=by
 rcases Nat.lt_or_ge j k with h9 | h9
 ·exact HW40.out j hj h9
 ·have:j = k:=by omega
  subst this;exact hv40):P:=h
theorem Zafy {P:Prop} (h:P:=by
 refine (uo x _ _ _ (aZ h atT) HW.out).mono ?_;rintro e w4 ⟨cs9,G9,rfl,SY,hb4⟩;obtain ⟨hc4,hf4⟩:=ay hb4;have hz40:w.heap.size < w4.heap.size:=sq hb4.size;have hz41:w.heap.size+1 < w4.heap.size:=sq hb4.size;have hz42:w.heap.size+1+1 < w4.heap.size:=sq hb4.size;have hR9:=SY.rd;obtain ⟨Pe,Pg,Ph,Vo,Vp,Vq,hck,hG9,Pj,Vr,Vs,zF,wB,zG⟩:=aO hR9;subst hck;clear hG9 hR9;have HO9:=I' (SY.mono (B':=w.heap.size+1+1+1) (by have:=hb3.size;(try simp at this ⊢);omega));clear SY;go_wp2_with fail
 try dsimp only
 iterate 60 (first | go_step | skip)
 refine bodyPost_ret (v:=.tuple #[.agg #[.slice Pe x.hosts.length Pg,.slice Vo x.au.length Vp,.int .i64 x.next,.int .i64 x.weights.pack,.int .i64 x.weights.spread,.int .i64 x.weights.soft],.int .i64 4]) (by simp [results,Tryz.results30,go_sem, *]) rfl ?_
 exact Zaeo):P:=h
theorem Zafz {P:Prop} (h:P:=by
 rw [HF.out];first | refine ⟨[.slice Pe x.hosts.length Pg,.slice Vo x.au.length Vp,.int .i64 x.next,.int .i64 x.weights.pack,.int .i64 x.weights.spread,.int .i64 x.weights.soft],G9,rfl,?_,?_⟩ | refine ⟨[.slice Pe x.hosts.length Pg,.slice Vo x.au.length Vp,.int .i64 x.next,.int .i64 x.weights.pack,.int .i64 x.weights.spread,.int .i64 x.weights.soft],rfl,⟨G9,?_⟩,?_⟩
 ·try dsimp only
  refine Own.mono (B:=w.heap.size+1+1+1) ?_ O';exact Zaa4
 ·exact aui):P:=h
theorem Zaf0 {P:Prop} (h:P:=by
 try dsimp only
 refine Own.mono (B:=w.heap.size+1+1+1) ?_ O'
 exact Zaa4):P:=h
theorem Zaf1 {P:Prop} (h:P:=by
 intro v7 w7 nK Ua ab7;rw [show 0+jj = jj by omega,List.nil_append] at nK;obtain ⟨g9,p9,hv7,hgb,hgp,hgl⟩:=wW nK O';subst hv7;have hb7:Below wn.heap.size wn w7:=Below.grown (hbB) Ua auJ (fun q hq=>(hown5.lt q hq).1)
 exact Zaep):P:=h
theorem Zaf2 {P:Prop} (h:P:=by
 intro v7 w7 nK Ua ab7;rw [show 0+jj = jj by omega,List.nil_append] at nK;obtain ⟨g9,p9,hv7,hgb,hgp,hgl⟩:=wW nK O';subst hv7;have hb7:Below wn.heap.size wn w7:=Below.grown (hbB) Ua auJ (fun q hq=>(hown5.lt q hq).1)
 exact Zaak):P:=h
theorem Zaf3 {P:Prop} (h:P:=by
 intro v7 w7 nK Ua ab7;rw [show 0+jj = jj by omega,List.nil_append] at nK;obtain ⟨g9,p9,hv7,hgb,hgp,hgl⟩:=wW nK O';subst hv7;have hb7:Below wn.heap.size wn w7:=Below.grown (hb5) Ua auK (fun q hq=>(hown5.lt q hq).1)
 exact Zafa):P:=h
theorem Zaf4 {P:Prop} (h:P:=by
 refine hK _ _ hb7 ?_;try simp only [Act.put,pz]
 clear hK K;refine bP 11 J' U' J' (fun K hK=>?_);go_simp;refine hK _ _ hb7 ?_;try simp only [Act.put,pz]
 clear hK K;refine nR U' ?_
 exact HK _ _ ⟨g9,p9,_,_,_,_,_,_,_,_,_,_,aum,hb7,nK⟩):P:=h
theorem Zaf5 {P:Prop} (h:P:=by
 intro v7 w7 nK Ua ab7;rw [show 0+k = k by omega,List.nil_append] at nK;obtain ⟨g9,p9,hv7,hgb,hgp,hgl⟩:=wW nK O';subst hv7;have hb7:Below wn.heap.size wn w7:=Below.grown (hb5) Ua auK (fun q hq=>(hown5.lt q hq).1)
 exact Zaez):P:=h
theorem Zaf6 {P:Prop} (h:P:=by
 intro v7 w7 nK Ua ab7;rw [show 0+k = k by omega,List.nil_append] at nK;obtain ⟨g9,p9,hv7,hgb,hgp,hgl⟩:=wW nK O';subst hv7;have hb7:Below wn.heap.size wn w7:=Below.grown (hb5) Ua auK (fun q hq=>(hown5.lt q hq).1)
 exact Zae0):P:=h
theorem Zaf7 {P:Prop} (h:P:=by
 rw [HF.out];refine ⟨[.slice Pe x.hosts.length Pg,.slice Vo x.au.length Vp,.int .i64 x.next,.int .i64 x.weights.pack,.int .i64 x.weights.spread,.int .i64 x.weights.soft],G9,rfl,?_,?_⟩
 ·exact Zaev
 ·exact aui):P:=h
theorem Zaf8 {P:Prop} (h:P:=by
 rw [HF.out];refine ⟨[.slice dG x.hosts.length bV,.slice dS x.au.length dJ,.int .i64 x.next,.int .i64 x.weights.pack,.int .i64 x.weights.spread,.int .i64 x.weights.soft],G1,rfl,?_,?_⟩
 ·exact Zaev
 ·exact aui):P:=h
theorem Zaf9 {P:Prop} (h:P:=by
 try simp only [Bool.and_false,Bool.and_true,Bool.false_and,Bool.and_self] at hp
 have HF:=I' (jP hlt hp);clear hp
 exact Zaes):P:=h
theorem Zaga {P:Prop} (h:P:=by
 have hk2:k < insIx n.name x.hosts:=by exact Zads
 have hs2:Op.bytesLess x.hosts[k].name.toList n.name.toList = true:=hs
 exact Zaex):P:=h
theorem Zagb {P:Prop} (h:P:=by
 have hk2:k < insPx n.name x.au:=by exact Zadu
 have hs2:Op.bytesLess x.au[k].aS.name.toList n.name.toList = true:=hs
 exact Zaex):P:=h
theorem Zagc {P:Prop} (h:P:=by
 go_wp2;go_ret
 exact ⟨by rw [HF.out];rfl,atS⟩):P:=h
theorem sq {a b:Nat} (hs:a≤b) {P:Prop} (h:a≤b→P:=by intro this;(try simp at this);omega):P:=h hs
theorem pz:(∀{α:Type} (a:List α) (i:Nat) (v:α),a.toArray.setIfInBounds i v = (a.set i v).toArray)∧(∀{α:Type} (x y:α) (l:List α),(x :: l).set 0 y = y :: l)∧(∀{α:Type} (x y:α) (l:List α) (n:Nat),(x :: l).set (n+1) y = x :: l.set n y):=⟨fun _ _ _=>List.setIfInBounds_toArray ..,fun _ _ _=>rfl,fun _ _ _ _=>rfl⟩
theorem atS {P:Prop} (h:P:=by repeat (first | with_reducible exact aj _ | with_reducible assumption | with_reducible refine ak ?_ _ | with_reducible refine ah ?_ (by assumption))) : P := h
theorem atT {P:Prop} (h:P:=by repeat (first | with_reducible exact aj _ | with_reducible assumption | with_reducible refine ak ?_ _ | with_reducible refine aA ?_ | with_reducible refine ah ?_ (by assumption))) : P := h
theorem atU {P:Prop} (h:P:=by have f1:=HF.out;have f2:=hm.out;have f3:=hb.out;have f4:=fJ.out;omega) : P := h
theorem atV {P:Prop} (h:P:=by first | exact hq | exact hq.out) : P := h
theorem atW {P:Prop} (h:P:=by repeat (first | with_reducible exact hq | with_reducible exact hq.out | with_reducible exact aj _ | with_reducible assumption | with_reducible refine ak ?_ _ | with_reducible refine ah ?_ atV | with_reducible refine ah ?_ (by assumption))) : P := h
theorem atX {P:Prop} (h:P:=by dsimp only;omega) : P := h
theorem atY {P:Prop} (h:P:=by first | exact Nat.le_refl _ | (simp;done) | omega | (simp;omega)) : P := h
theorem atZ {P:Prop} (h:P:=by decide +kernel) : P := h
theorem at6 {P:Prop} (h:P:=by unfold maxLen;omega) : P := h
theorem at7 {P:Prop} (h:P:=by simp [hd.out]) : P := h
theorem aua {P:Prop} (h:P:=by simp [World.setCell]) : P := h
theorem aub {P:Prop} (h:P:=by simp [Value.oneCell']) : P := h
theorem auc {P:Prop} (h:P:=by have e1:=HN.out;have e2:=fJ.out;simp only [List.length_append,fU];omega) : P := h
theorem aud {P:Prop} (h:P:=by first | exact hbx | exact aj _) : P := h
theorem aue {P:Prop} (h:P:=by first | rfl | (simp;rfl)) : P := h
theorem auf {P:Prop} (h:P:=by unfold Func.isWrapper;first | (rw [if_pos atZ];kernel_rfl) | (rw [if_neg atZ];exact ⟨rfl,rfl⟩)) : P := h
theorem aui {P:Prop} (h:P:=by repeat (first | with_reducible exact aj _ | with_reducible assumption | with_reducible refine aC ?_ atX _ | with_reducible refine ak ?_ _ | with_reducible refine aA ?_ | with_reducible refine ah ?_ (by assumption))) : P := h
theorem auj {P:Prop} (h:P:=by first | exact aj _ | assumption) : P := h
theorem auk {P:Prop} (h:P:=by have e3:=HKK.out;have e4:=HD.out;have f1:=HF.out;have f2:=hm.out;have f3:=hb.out;have f4:=fJ.out;omega) : P := h
theorem aum {P:Prop} (h:P:=by simp only [Act.put,pz];rfl) : P := h
theorem aun {P:Prop} (h:P:=by show w.heap.size+1+1 < _;omega) : P := h
theorem auo {P:Prop} (h:P:=by obtain ⟨d0,d1,hs⟩:=fF hA;rw [hs];rfl) : P := h
theorem auq {P:Prop} (h:P:=by intro e;have:=hr _ e.symm;omega) : P := h
theorem aut {P:Prop} (h:P:=by first | exact hq | exact ah (ak (aj _) _) hq) : P := h
theorem auu {P:Prop} (h:P:=by have:=ha.out;omega) : P := h
theorem auv {P:Prop} (h:P:=by simpa only [List.append_assoc] using hS1) : P := h
theorem auw {P:Prop} (h:P:=by rw [List.length_append];have f1:=HF.out;have f2:=hm.out;have f3:=hb.out;have f4:=fJ.out;omega) : P := h
theorem auz {P:Prop} (h:P:=by have:=hd.out;omega) : P := h
theorem auA {P:Prop} (h:P:=by rw [iC hlt hlt',Heq.out];simpa [eqStr,Am] using hne) : P := h
theorem auC {P:Prop} (h:P:=by repeat (first | with_reducible exact aj _ | with_reducible assumption | with_reducible refine ak ?_ _ | with_reducible refine aC ?_ atY _ | with_reducible refine ah ?_ (by assumption))) : P := h
theorem auD {P:Prop} (h:P:=by first | omega | (show _ < _;omega) | (simp;done) | (simp;omega)) : P := h
theorem auF {P:Prop} (h:P:=by simp [madeCells]) : P := h
theorem auG {P:Prop} (h:P:=by unfold I64;omega) : P := h
theorem auI {P:Prop} (h:P:=by have:=(Qz).size;omega) : P := h
theorem auJ {P:Prop} (h:P:=by have:=(hbB).size;omega) : P := h
theorem auK {P:Prop} (h:P:=by have:=(hb5).size;omega) : P := h
theorem auL {P:Prop} (h:P:=by have:=HK.out;omega) : P := h
theorem auM {P:Prop} (h:P:=by simpa only [List.append_assoc] using hS3) : P := h
theorem auN {P:Prop} (h:P:=by rw [List.length_append,fU];have f1:=HF.out;have f2:=hm.out;have f3:=hb.out;have f4:=fJ.out;omega) : P := h
theorem auO {P:Prop} (h:P:=by first | (simp;done) | omega | (simp;omega)) : P := h
theorem auP {P:Prop} (h:P:=by rw [List.length_map,HJ.out,Nat.mul_one]) : P := h
theorem auQ {P:Prop} (h:P:=by first | exact Nat.le_refl _ | (dsimp only;omega)) : P := h
theorem auR {P:Prop} (h:P:=by dsimp only;have:=HS.out.lt;omega) : P := h
theorem auV {P:Prop} (h:P:=by rw [List.length_drop];have:=HN.out;omega) : P := h
theorem auX {P:Prop} (h:P:=by rw [Addr.add_lit];exact hgn) : P := h
theorem au2 {P:Prop} (h:P:=by rw [List.take_succ_eq_append_getElem hlt,J3];exact hown5) : P := h
theorem au3 {P:Prop} (h:P:=by have e1:=U3.size;have e2:=hn.size;(try simp at e2);omega) : P := h
theorem au4 {P:Prop} (h:P:=by dsimp only;first | omega | (have:=S2'.lt;omega)) : P := h
theorem au5 {P:Prop} (h:P:=by repeat (first | with_reducible exact HS.out.below | with_reducible refine aC ?_ auQ _)) : P := h
theorem au7 {P:Prop} (h:P:=by rw [lN];omega) : P := h
theorem au9 {P:Prop} (h:P:=by rw [Oi hi];exact hlt) : P := h
theorem ava {P:Prop} (h:P:=by show _ = o+i * 3+0;omega) : P := h
theorem avb {P:Prop} (h:P:=by show _ = o+i * 3+1;omega) : P := h
theorem ave {P:Prop} (h:P:=by first | exact hq | exact hq.out | exact ah (ak (aj _) _) hq) : P := h
theorem avf {P:Prop} (h:P:=by simp [Value.ownBlock]) : P := h
theorem avg {P:Prop} (h:P:=by have:=hF y hy;dsimp only;omega) : P := h
theorem avh {P:Prop} (h:P:=by show _ = o+i * 9+0;omega) : P := h
theorem avi {P:Prop} (h:P:=by show _ = o+i * 9+2;omega) : P := h
theorem avj {P:Prop} (h:P:=by show _ = o+i * 9+3;omega) : P := h
theorem avk {P:Prop} (h:P:=by show _ = o+i * 9+4;omega) : P := h
theorem avl {P:Prop} (h:P:=by show _ = o+i * 9+7;omega) : P := h
theorem avm {P:Prop} (h:P:=by show _ = o+i * 9+8;omega) : P := h
theorem avn {P:Prop} (h:P:=by show _ = o+i * 3+2;omega) : P := h
theorem avp {P:Prop} (h:P:=by simpa using h) : P := h
theorem avq {P:Prop} (h:P:=by first | exact Nat.le_refl _ | (simp [World.setCell];done) | (simp [World.setCell];omega)) : P := h
theorem avr {P:Prop} (h:P:=by dsimp only;first | omega | (have:=S3'.lt;omega)) : P := h
theorem avs {P:Prop} (h:P:=by have:=h.below.size;omega) : P := h
theorem avu {P:Prop} (h:P:=by unfold Cls;with_reducible exact (ak hbx0 _)) : P := h
theorem avv {P:Prop} (h:P:=by simpa using hi) : P := h
theorem avw {P:Prop} (h:P:=by show _ = o+i * 9+1;omega) : P := h
theorem avx {P:Prop} (h:P:=by show _ = o+i * 9+5;omega) : P := h
theorem avy {P:Prop} (h:P:=by show _ = o+i * 9+6;omega) : P := h
theorem avz {P:Prop} (h:P:=by rw [HE.out];simp) : P := h
theorem avF {P:Prop} (h:P:=by have:=HS.out;simpa [List.append_assoc] using this) : P := h
theorem avG {P:Prop} (h:P:=by have:=ha.out;have:=hm.out;omega) : P := h
theorem avI {P:Prop} (h:P:=by rw [List.length_take];omega) : P := h
theorem avJ {P:Prop} (h:P:=by have:=hbl.size;(try simp);omega) : P := h
theorem avK {P:Prop} (h:P:=by have:=hbl.size;simp;omega) : P := h
theorem avM {P:Prop} (h:P:=by show _ = o+i * 6+0;omega) : P := h
theorem avN {P:Prop} (h:P:=by show _ = o+i * 6+2;omega) : P := h
theorem avO {P:Prop} (h:P:=by show _ = o+i * 6+3;omega) : P := h
theorem avP {P:Prop} (h:P:=by show _ = o+i * 6+4;omega) : P := h
theorem avQ {P:Prop} (h:P:=by rw [List.length_map,HJ.out];omega) : P := h
theorem avR {P:Prop} (h:P:=by have:=hb7.size;omega) : P := h
theorem avU {P:Prop} (h:P:=by have:=hg.size;simpa using this) : P := h
theorem avV {P:Prop} (h:P:=by unfold onP;rw [hs1,hs2]) : P := h
theorem avX {P:Prop} (h:P:=by unfold Em;rw [hnx];simp) : P := h
theorem avY {P:Prop} (h:P:=by unfold Em;rw [hwt];simp) : P := h
theorem avZ {P:Prop} (h:P:=by unfold Em;simp [hh2]) : P := h
theorem av1 {P:Prop} (h:P:=by unfold Em;simp [hh1]) : P := h
theorem av2 {P:Prop} (h:P:=by rw [sG hlt,hsn];rfl) : P := h
theorem av3 {P:Prop} (h:P:=by dsimp only;first | omega | (have:=S1'.lt;omega)) : P := h
theorem av4 {P:Prop} (h:P:=by repeat (first | with_reducible exact HO1.out | with_reducible refine Own.setCell ?_ auR _)) : P := h
theorem av5 {P:Prop} (h:P:=by repeat (first | with_reducible exact RZ.out | with_reducible refine Own.setCell ?_ auR _)) : P := h
theorem av6 {P:Prop} (h:P:=by repeat (first | with_reducible exact HO.out | with_reducible refine Own.setCell ?_ atX _)) : P := h
theorem av7 {P:Prop} (h:P:=by simp [Act.eval,Act.put]) : P := h
theorem awh {P:Prop} (h:P:=by unfold KF;rw [hr1]) : P := h
theorem awj {P:Prop} (h:P:=by show _ = o+i * 1+0;omega) : P := h
theorem awk {P:Prop} (h:P:=by show _ = o+i * 6+1;omega) : P := h
theorem awl {P:Prop} (h:P:=by show _ = o+i * 6+5;omega) : P := h
theorem awm {P:Prop} (h:P:=by show _ = o+i * 2+0;omega) : P := h
theorem awn {P:Prop} (h:P:=by show _ = o+i * 2+1;omega) : P := h
theorem awo {P:Prop} (h:P:=by show _ = o+i * 4+0;omega) : P := h
theorem awp {P:Prop} (h:P:=by show _ = o+i * 4+1;omega) : P := h
theorem awq {P:Prop} (h:P:=by show _ = o+i * 4+2;omega) : P := h
theorem awr {P:Prop} (h:P:=by show _ = o+i * 4+3;omega) : P := h
theorem awy {P:Prop} (h:P:=by rw [h] at hr;cases hr) : P := h
theorem awz {P:Prop} (h:P:=by rw [List.length_drop];omega) : P := h
theorem awC {P:Prop} (h:P:=by rw [hu.out,hv.out];exact Nat.le_refl _) : P := h
theorem awD {P:Prop} (h:P:=by have:=hE.out;simpa [List.append_assoc] using this) : P := h
theorem awE {P:Prop} (h:P:=by rw [HR.out,HST.out,List.append_assoc]) : P := h
theorem awF {P:Prop} (h:P:=by rw [List.append_nil];exact hS) : P := h
theorem awG {P:Prop} (h:P:=by rw [cell_of_row _ _ _ _ _ _ (heap_alloc_new wr _)];rfl) : P := h
theorem awH {P:Prop} (h:P:=by rw [List.length_map];exact hl) : P := h
theorem awI {P:Prop} (h:P:=by repeat (first | with_reducible exact jX | with_reducible refine Own.setCell ?_ auD _ | with_reducible refine Own.ext ?_ (by assumption) | with_reducible refine Own.alloc ?_ _)) : P := h
theorem awK {P:Prop} (h:P:=by rw [YC hlt HP.out];exact hcs) : P := h
theorem awM {P:Prop} (h:P:=by intro e;have:=hr _ e.symm;have:=hF y hy;omega) : P := h
theorem awO {P:Prop} (h:P:=by first | exact hbor | (dsimp only;omega)) : P := h
theorem awP {P:Prop} (h:P:=by rw [Addr.add_lit];exact hg5.block (wn.heap.size+1) (by simp) avf) : P := h
theorem awQ {P:Prop} (h:P:=by rw [Addr.add_lit];exact (hg5.block wn.heap.size (by simp;omega) avf).trans (heap_alloc_old _ _ (by simp))) : P := h
theorem awR {P:Prop} (h:P:=by have:=HBN.out.size;have:=hb7.size;omega) : P := h
theorem awS {P:Prop} (h:P:=by rw [List.length_append,HJ.out];rfl) : P := h
theorem awT {P:Prop} (h:P:=by rw [List.length_map,HKL.out,Nat.mul_one]) : P := h
theorem awY {P:Prop} (h:P:=by repeat (first | with_reducible exact fH | with_reducible refine Own.setCell ?_ auD _ | with_reducible refine Own.ext ?_ (by assumption) | with_reducible refine Own.alloc ?_ _)) : P := h
theorem awZ {P:Prop} (h:P:=by have:=HW.out;unfold nI.wt at this;omega) : P := h
theorem ay {W w1:World} (hb:Below W.heap.size W w1):(∀b o,b < W.heap.size→w1.cell? ⟨b,o,none⟩ = W.cell? ⟨b,o,none⟩)∧(∀b o,b < W.heap.size→w1.frozen? ⟨b,o,none⟩ = W.frozen? ⟨b,o,none⟩) :=
 ⟨fun b o h=>hb.cell (p:=⟨b,o,none⟩) h,fun b o h=>hb.frozen (p:=⟨b,o,none⟩) h⟩
theorem aj (w:World):Below w.heap.size w w:=Below.refl _ _
theorem ah {w w1 w2:World} (h:Below w.heap.size w w1) (k:Below w1.heap.size w1 w2):Below w.heap.size w w2:=h.trans (k.mono h.size)
theorem ak {w w1:World} (h:Below w.heap.size w w1) (o:Obj):Below w.heap.size w (w1.alloc o):=h.alloc h.size o
theorem aA {w w1:World} (h:Below w.heap.size w w1):Below w.heap.size w w1.drew:=h.drew
theorem aC {w w1:World} (h:Below w.heap.size w w1) {p:Addr} (hp:w.heap.size≤p.block) (u:Value):Below w.heap.size w (w1.setCell p u):=h.setCell hp u
section
variable {H:Type} {enc:TypeId × Value→H} {P:Program}
theorem Zi {W W':World} (hl:laidOutB P = true) (hb:Below W.heap.size W W'):∀(ts:List TypeId) (vs:List Value) (ds:List (DataW H)) (ps:List MemPlace) (sp:Nat→Bool),
 (∀t∈ts,P.readableRec t = true∧t < P.types.size)→(∀x∈ps,x.block < W.heap.size)→(∀x∈ps,sp x.block = true) →
 DataW.TrodAll enc P W 0 (fun _=>true) true ts vs ds ps→DataW.TrodAll enc P W' 0 sp true ts vs ds ps
 | [],[],[],ps,sp,_,_,_,h=>h
 | t :: ts,v :: vs,d :: ds,ps,sp,ht,hlt,hsp,h=>by
   obtain ⟨p,q,h1,h2,rfl⟩:=h;refine ⟨p,q,?_,Zi hl hb ts vs ds q sp (fun t' h'=>ht t' (List.mem_cons_of_mem _ h')) (fun x hx=>hlt x (List.mem_append_right _ hx)) (fun x hx=>hsp x (List.mem_append_right _ hx)) h2,rfl⟩;obtain ⟨hr,hs⟩:=ht t (List.mem_cons_self ..);exact WideElems.Trod_stays hl hr hs h1 (fun x hx=>hb.same (hlt x (List.mem_append_left _ hx))) (fun x hx=>hsp x (List.mem_append_left _ hx))
 | [],_ :: _,_,_,_,_,_,_,h=>by simp [DataW.TrodAll] at h
 | [],[],_ :: _,_,_,_,_,_,h=>by simp [DataW.TrodAll] at h
 | _ :: _,[],_,_,_,_,_,_,h=>by simp [DataW.TrodAll] at h
 | _ :: _,_ :: _,[],_,_,_,_,_,h=>by simp [DataW.TrodAll] at h
theorem nO {f:Func} {s:ChangeSpec} {apart fresh handsOn:Bool} {W W':World} {args:Array Value} {ds gs:List (DataW H)} {before:List MemPlace} {tb:TypeId}
 (hl:laidOutB P = true) (hr:∀t∈f.params.toList,P.readableRec t = true∧t < P.types.size) (htb:f.resultTypes = #[tb]) (hub:P.underlying tb = some .bool)
 (hvars:s.vars = []) (hfn:s.fn H ds = { results:=[.lit (.bool true)],args:=ds,vars:=[] })
 (hW:DataW.Whole enc P f.params.toList s.vars apart W args.toList ds gs before) (hb:Below W.heap.size W W') :
 s.post enc P f apart fresh handsOn false W args (.bool true) W':=by
 have hlt:∀p∈before,p.block < W.heap.size:=fun p hp=>hW.lt p hp;have hW0:=hW;obtain ⟨p,q,hA,hV,rfl,hz,hn⟩:=hW0;rw [hvars] at hV;obtain ⟨rfl,rfl⟩:=trodVars_none hV;simp only [List.append_nil] at *;have hres:∀(b:Nat) (sp:Nat→Bool) (hd:Bool),DataW.TrodAll enc P W' b sp hd f.resultTypes.toList ((Value.bool true).resultList f.resultTypes.size) (s.fn H (ds++[])).results []:=by intro b sp hd;rw [htb,List.append_nil,hfn];exact trodAll_cons_mk (shut_bool hub _) trodAll_mk0
 have hargs:∀sp:Nat→Bool,(∀x∈p,sp x.block = true)→DataW.TrodAll enc P W' 0 sp true f.params.toList args.toList (s.fn H (ds++[])).args p:=by intro sp hsp;rw [List.append_nil,hfn];exact Zi hl hb _ _ _ _ _ hr hlt hsp hA
 have hvs:∀sp:Nat→Bool,DataW.TrodVars enc P W' sp s.vars (s.fn H (ds++[])).vars []:=by intro sp;rw [List.append_nil,hfn,hvars];rfl
 have hold:∀x∈p,(fun b=>decide (b < W.heap.size)) x.block = true:=fun x hx=>by simpa using hlt x hx
 refine ⟨ds,[],p,[],p,[],hW,hres _ _ _,hargs _ hold,hvs _,World.keptBut_mono (fun x hx=>⟨hx,by simpa using hx⟩) (hb.frame (·∈p)),fun hag=>by cases hag⟩
end
end Go.Proofs.YtkbkikggodlbbaaGreat
