/- The frame of every law's proof: if the call returns true and leaves what was there as it was, the given post holds. No condition. -/
import Derived.Test.YtajbbmembionpaaGreatRows
import Derived.Lib.Hide
import Derived.BigQuiet
import Derived.WalkSpells
import Derived.Deep.AppendLies
import Derived.Deep.Slices
import Derived.Handy
namespace Go.Proofs.YtajbbmembionpaaGreat
open Go.ChangeShapes Go.WideShapes Go.ChangeAt Go.RowKit
set_option maxRecDepth 100000
theorem I {P:Prop} (h:P):Hid P:=Lib.hid h
theorem J {P:Prop} (h:P:=by omega):P:=h
theorem O {P:Prop} (h:P:=by rfl):P:=h
theorem U' {P:Prop} (h:P:=by kernel_rfl):P:=h
theorem S' {P:Prop} (h:P:=by simp):P:=h
theorem N' {P:Prop} (h:P:=by go_num):P:=h
theorem Y' {P:Prop} (h:P:=by assumption):P:=h
theorem DM {P:Prop} (h:P:=by
 have hlh:lo≤hi:=by have:=hm.out;have:=hb.out;have:=HD.out;omega
 have hhd:hi≤d:=by have:=hm.out;have:=HD.out;omega
 have xN:hi≤L.length:=by have:=hm.out;have:=HD.out;omega
 have hld:d≤lo+R.length:=by have:=hm.out;have:=hb.out;have:=HD.out;omega
 have Ij:=I lv;have Ik:=I t6;clear lv t6;go_wp2_with fail
 go_loopw [20,21] (fun i j wr=>∃u v i0 j0:Nat,lo≤u∧u≤v∧v≤hi∧i = .int .i64 (i0:Int)∧j = .int .i64 (j0:Int)∧Hid (a+u = i0)∧Hid (a+v = j0)∧Hid (u = lo∨∃x y,L[u - 1]? = some x∧R[d - u]? = some y∧kS cv y x = false)∧Hid (v = hi∨∃x y,L[v]? = some x∧R[d - 1 - v]? = some y∧kS cv y x = true)∧jJ (fun x=>[Value.string (nm x)]) 1 W0 wr b o (P++(L++(R++Q)))) (fun i j _=>(intOf j - intOf i).toNat)
 case atStart =>have e1:=Ij.out;have e2:=Ik.out;have e3:=HD.out;have e4:=hm.out;have e5:=hb.out;exact ⟨lo,hi,a+lo,a+hi,J,J,J,by first | (congr 1;omega) | (congr 1;push_cast;omega),by first | (congr 1;omega) | (congr 1;push_cast;omega),I rfl,I rfl,I (.inl rfl),I (.inl rfl),h⟩
 case round =>
  obtain ⟨u,v,i0,j0,DO,huv,hv,rfl,rfl,HI,HJ,HP1,vF,hS⟩:=hrel;by_cases aq:u < v
  ·have nE:i0 < j0:=(by have:=HI.out;have:=HJ.out;omega);have DP:j0≤m:=(by have:=HJ.out;have:=hm.out;omega);have LS:a≤i0:=(by have:=HI.out;omega);obtain ⟨t,ht⟩:∃t:Nat,(i0+j0) / 2 = t:=⟨_,rfl⟩;have Tn:i0≤t:=J;have To:t < j0:=J;obtain ⟨k,hk⟩:∃k,a+k = t:=⟨t - a,J⟩;have Tp:u≤k:=(by have:=HI.out;omega);have CA:k < v:=(by have:=HJ.out;omega);have xP:k < L.length:=J;have hkd:k < d:=J;have xR:d - 1 - k < R.length:=J;obtain ⟨q,hq⟩:∃q:Nat,eR+m - 1 - t = q:=⟨_,rfl⟩;have hqm:m≤q:=(by have:=HD.out;omega);have t7:q < bb:=(by have:=HD.out;have:=hb.out;omega);have Tq:eR≤bb:=(by have:=HD.out;have:=hm.out;have:=hb.out;omega);have hqq:q - m = d - 1 - k:=(by have:=HD.out;omega);have qm:L[k]? = some L[k]:=List.getElem?_eq_getElem xP;have cr:R[d - 1 - k]? = some R[d - 1 - k]:=List.getElem?_eq_getElem xR;obtain ⟨x,hx⟩:∃x,L[k] = x:=⟨_,rfl⟩;obtain ⟨y,hy⟩:∃y,R[d - 1 - k] = y:=⟨_,rfl⟩;rw [hx] at qm;rw [hy] at cr;have vG:(P++(L++(R++Q)))[t]? = some x:=by
    rw [List.getElem?_append_right CB,show t - P.length = k by have:=ha.out;omega,List.getElem?_append_left xP,qm]
   have MV:(P++(L++(R++Q)))[q]? = some y:=by rw [List.getElem?_append_right CB,List.getElem?_append_right Tr,show q - P.length - L.length = d - 1 - k by have:=ha.out;have:=hm.out;omega,List.getElem?_append_left xR,cr]
   have qx:wr.cell? ⟨b,o+t,none⟩ = some (.string (nm x)):=(by have:=hS.tab _ x vG 0 _ rfl;simpa using this);have qy:wr.cell? ⟨b,o+q,none⟩ = some (.string (nm y)):=(by have:=hS.tab _ y MV 0 _ rfl;simpa using this);have HU:=I hS.bI;have ax:b < wr.heap.size:=hS.plain.lt;have HS:=I hS;have HK:=I hk;have CC:((i0:Int)+j0) / 2 = t:=J;have hwq:IntKind.i64.wrap ((eR:Int)+m - 1 - t) = (q:Int):=(by rw [IntWalk.i64_in _ J];omega);have LV:=I (And.intro qm cr);clear hS qm cr MV vG ht hk hx hy hq hqq;cases hcv:decide (cv y x < 0) with
   | false =>
     go_wp2_with fail
     refine aF wr U' U' (aj _) ?_
     repeat ((first | refine aG O ?_ | refine aH _ O xS ?_);simp only [Act.put,pz])
     refine aN ?_;intro wn hn;replace hn:=hn.out;go_wp2;refine ⟨⟨k+1,v,t+1,j0,J,J,hv,N',rfl,I LW,HJ,I (.inr ⟨x,y,by rw [Nat.add_sub_cancel];exact LV.out.1,by rw [show d - (k+1) = d - 1 - k by omega];exact LV.out.2,hcv⟩),vF,HS.out.ext hn⟩,by simp [intOf];omega⟩
   | true =>
     go_wp2_with fail
     refine aF wr U' U' (aj _) ?_
     repeat ((first | refine aG O ?_ | refine aH _ O xS ?_);simp only [Act.put,pz])
     refine aN ?_;intro wn hn;replace hn:=hn.out;go_wp2;refine ⟨⟨u,k,i0,t,DO,J,J,rfl,rfl,HI,HK,HP1,I (.inr ⟨x,y,LV.out.1,LV.out.2,hcv⟩),HS.out.ext hn⟩,by simp [intOf];omega⟩
  ·have DQ:v = u:=J;subst DQ;have DS:j0 = i0:=(by have:=HI.out;have:=HJ.out;omega);subst DS;have hvd:v≤d:=J;have hdR:d - v≤R.length:=J
   obtain ⟨l1,l2,r1,r2,Ob,fJ,LJ,HM⟩:∃l1 l2 r1 r2,Hid (L = l1++l2∧R = r1++r2)∧Hid (l1.length = v∧l2.length+v = L.length∧r1.length+v = d∧r1.length+r2.length = R.length)∧Hid (bL (kS cv) l1∧bL (kS cv) l2∧bL (kS cv) r1∧bL (kS cv) r2)∧Hid (fO (kS cv) L R = fO (kS cv) l1 r1++fO (kS cv) l2 r2) :=
    ⟨L.take v,L.drop v,R.take (d - v),R.drop (d - v),I ⟨(List.take_append_drop ..).symm,(List.take_append_drop ..).symm⟩,I ⟨by rw [List.length_take];omega,by rw [List.length_drop];omega,by rw [List.length_take];omega,by rw [List.length_take,List.length_drop];omega⟩,
      I ⟨List.Pairwise.sublist (List.take_sublist ..) cT.out,List.Pairwise.sublist (List.drop_sublist ..) cT.out,List.Pairwise.sublist (List.take_sublist ..) CD.out,List.Pairwise.sublist (List.drop_sublist ..) CD.out⟩,
      I (ali HW.out cT.out CD.out Ts.out Tt.out DO hv J J HP1.out vF.out)⟩
   have fg:jJ (fun x=>[Value.string (nm x)]) 1 W0 wr b o (P++(l1++(l2++(r1++(r2++Q))))):=by have:=hS;rw [Ob.out.1,Ob.out.2] at this;simpa only [List.append_assoc] using this
   obtain ⟨e0,he0⟩:∃e0:Nat,eR+m - j0 = e0:=⟨_,rfl⟩;have HF:=I (show a+v = j0∧j0≤m∧e0+j0 = eR+m∧e0≤bb∧P.length = a∧a+d = eR∧m≤e0 by have f1:=HI.out;have f2:=hm.out;have f3:=hb.out;have f4:=HD.out;have f5:=ha.out;omega);have t8:(eR:Int)+m - j0 = e0:=(by have:=HF.out;omega);have hej:e0≤bb:=HF.out.2.2.2.1;have hjm:j0≤m:=HF.out.2.1;clear he0 HP1 vF hS;rcases Nat.lt_or_ge v d with aoY | aoY
   ·rcases Nat.eq_zero_or_pos v with f9 | f9
    ·rcases Nat.eq_zero_or_pos r2.length with fR | fR
     ·first
       | (exfalso;have e3:=Ij.out;have e4:=Ik.out;have e5:=HD.out;have f1:=HF.out;have f2:=hm.out;have f3:=hb.out;have f4:=fJ.out;omega)
       | (
        have g1:j0 < m:=(by have f1:=HF.out;have f2:=hm.out;have f3:=hb.out;have f4:=fJ.out;omega);have g2:m < e0:=(by have f1:=HF.out;have f2:=hm.out;have f3:=hb.out;have f4:=fJ.out;omega);have g3:j0≤a:=(by have f1:=HF.out;have f2:=hm.out;have f3:=hb.out;have f4:=fJ.out;omega);have g5:eR < e0:=(by have f1:=HF.out;have f2:=hm.out;have f3:=hb.out;have f4:=fJ.out;omega);have g6:bb≤e0:=(by have f1:=HF.out;have f2:=hm.out;have f3:=hb.out;have f4:=fJ.out;omega);go_wp2_with fail
        refine (Ii nm W0 _ b o c N (P++l1) l2 r1 (r2++Q) j0 m e0 _ LX ti BI (I L0) (I ee) (I ee) ee ee).mono ?_;rintro e w2 ⟨rfl,ce⟩;replace ce:jJ (fun x=>[Value.string (nm x)]) 1 W0 w2 b o (P++(l1++(r1++(l2++(r2++Q))))):=(by simpa only [List.append_assoc] using ce);go_wp2_with fail
        have NL:l1 = []:=List.eq_nil_of_length_eq_zero ee;have dx:jJ (fun x=>[Value.string (nm x)]) 1 W0 w2 b o (P++(fO (kS cv) l1 r1++(l2++(r2++Q)))):=(by rw [NL] at ce ⊢;simpa only [ig,List.nil_append] using ce);have NM:r2 = []:=List.eq_nil_of_length_eq_zero ee;have ng:jJ (fun x=>[Value.string (nm x)]) 1 W0 w2 b o (P++(fO (kS cv) l1 r1++(fO (kS cv) l2 r2++Q))):=(by rw [NM] at dx ⊢;simpa only [gZ,List.nil_append] using dx);go_end0
        refine ⟨rfl,?_⟩;rw [HM.out]
        simpa only [List.append_assoc] using ng)
     ·first
       | (exfalso;have e3:=Ij.out;have e4:=Ik.out;have e5:=HD.out;have f1:=HF.out;have f2:=hm.out;have f3:=hb.out;have f4:=fJ.out;omega)
       | (
        have g1:j0 < m:=(by have f1:=HF.out;have f2:=hm.out;have f3:=hb.out;have f4:=fJ.out;omega);have g2:m < e0:=(by have f1:=HF.out;have f2:=hm.out;have f3:=hb.out;have f4:=fJ.out;omega);have g3:j0≤a:=(by have f1:=HF.out;have f2:=hm.out;have f3:=hb.out;have f4:=fJ.out;omega);have g5:eR < e0:=(by have f1:=HF.out;have f2:=hm.out;have f3:=hb.out;have f4:=fJ.out;omega);have g6:e0 < bb:=(by have f1:=HF.out;have f2:=hm.out;have f3:=hb.out;have f4:=fJ.out;omega);go_wp2_with fail
        refine (Ii nm W0 _ b o c N (P++l1) l2 r1 (r2++Q) j0 m e0 _ LX ti BI (I L0) (I ee) (I ee) ee ee).mono ?_;rintro e w2 ⟨rfl,ce⟩;replace ce:jJ (fun x=>[Value.string (nm x)]) 1 W0 w2 b o (P++(l1++(r1++(l2++(r2++Q))))):=(by simpa only [List.append_assoc] using ce);go_wp2_with fail
        have NL:l1 = []:=List.eq_nil_of_length_eq_zero ee;have dx:jJ (fun x=>[Value.string (nm x)]) 1 W0 w2 b o (P++(fO (kS cv) l1 r1++(l2++(r2++Q)))):=(by rw [NL] at ce ⊢;simpa only [ig,List.nil_append] using ce);refine (CE.out W0 _ b o c N (P++fO (kS cv) l1 r1) l2 r2 Q eR e0 bb cv q1 q2 NN ti BI (I NO) (I ee) (I ee) ee ee HW.out LJ.out.2.1 LJ.out.2.2.2 HC.out CF).mono ?_;rintro e w4 ⟨rfl,ng⟩;go_wp2;go_end0
        refine ⟨rfl,?_⟩;rw [HM.out]
        simpa only [List.append_assoc] using ng)
    ·rcases Nat.eq_zero_or_pos l2.length with cK | cK
     ·first
       | (exfalso;have e3:=Ij.out;have e4:=Ik.out;have e5:=HD.out;have f1:=HF.out;have f2:=hm.out;have f3:=hb.out;have f4:=fJ.out;omega)
       | (
        have g1:m≤j0:=(by have f1:=HF.out;have f2:=hm.out;have f3:=hb.out;have f4:=fJ.out;omega);have g3:a < j0:=(by have f1:=HF.out;have f2:=hm.out;have f3:=hb.out;have f4:=fJ.out;omega);have g4:j0 < eR:=(by have f1:=HF.out;have f2:=hm.out;have f3:=hb.out;have f4:=fJ.out;omega);have g5:e0≤eR:=(by have f1:=HF.out;have f2:=hm.out;have f3:=hb.out;have f4:=fJ.out;omega);go_wp2_with fail
        have DT:l2 = []:=List.eq_nil_of_length_eq_zero ee;have ce:jJ (fun x=>[Value.string (nm x)]) 1 W0 wr b o (P++(l1++(r1++(l2++(r2++Q))))):=(by rw [DT] at fg ⊢;simpa only [List.append_assoc,List.nil_append] using fg);refine (CE.out W0 _ b o c N P l1 r1 (l2++(r2++Q)) a j0 eR cv q1 q2 ce ti BI ha (I ee) (I ee) ee ee HW.out LJ.out.1 LJ.out.2.2.1 HC.out CF).mono ?_;rintro e w3 ⟨rfl,dx⟩;go_wp2_with fail
        have ng:jJ (fun x=>[Value.string (nm x)]) 1 W0 w3 b o (P++(fO (kS cv) l1 r1++(fO (kS cv) l2 r2++Q))):=(by rw [DT] at dx ⊢;simpa only [ig,List.nil_append] using dx);go_end0
        refine ⟨rfl,?_⟩;rw [HM.out]
        simpa only [List.append_assoc] using ng)
     ·rcases Nat.eq_zero_or_pos r2.length with fR | fR
      ·first
        | (exfalso;have e3:=Ij.out;have e4:=Ik.out;have e5:=HD.out;have f1:=HF.out;have f2:=hm.out;have f3:=hb.out;have f4:=fJ.out;omega)
        | (
         have g1:j0 < m:=(by have f1:=HF.out;have f2:=hm.out;have f3:=hb.out;have f4:=fJ.out;omega);have g2:m < e0:=(by have f1:=HF.out;have f2:=hm.out;have f3:=hb.out;have f4:=fJ.out;omega);have g3:a < j0:=(by have f1:=HF.out;have f2:=hm.out;have f3:=hb.out;have f4:=fJ.out;omega);have g4:j0 < eR:=(by have f1:=HF.out;have f2:=hm.out;have f3:=hb.out;have f4:=fJ.out;omega);have g5:eR < e0:=(by have f1:=HF.out;have f2:=hm.out;have f3:=hb.out;have f4:=fJ.out;omega);have g6:bb≤e0:=(by have f1:=HF.out;have f2:=hm.out;have f3:=hb.out;have f4:=fJ.out;omega);go_wp2_with fail
         refine (Ii nm W0 _ b o c N (P++l1) l2 r1 (r2++Q) j0 m e0 _ LX ti BI (I L0) (I ee) (I ee) ee ee).mono ?_;rintro e w2 ⟨rfl,ce⟩;replace ce:jJ (fun x=>[Value.string (nm x)]) 1 W0 w2 b o (P++(l1++(r1++(l2++(r2++Q))))):=(by simpa only [List.append_assoc] using ce);go_wp2_with fail
         refine (CE.out W0 _ b o c N P l1 r1 (l2++(r2++Q)) a j0 eR cv q1 q2 ce ti BI ha (I ee) (I ee) ee ee HW.out LJ.out.1 LJ.out.2.2.1 HC.out CF).mono ?_;rintro e w3 ⟨rfl,dx⟩;go_wp2_with fail
         have NM:r2 = []:=List.eq_nil_of_length_eq_zero ee;have ng:jJ (fun x=>[Value.string (nm x)]) 1 W0 w3 b o (P++(fO (kS cv) l1 r1++(fO (kS cv) l2 r2++Q))):=(by rw [NM] at dx ⊢;simpa only [gZ,List.nil_append] using dx);go_end0
         refine ⟨rfl,?_⟩;rw [HM.out]
         simpa only [List.append_assoc] using ng)
      ·first
        | (exfalso;have e3:=Ij.out;have e4:=Ik.out;have e5:=HD.out;have f1:=HF.out;have f2:=hm.out;have f3:=hb.out;have f4:=fJ.out;omega)
        | (
         have g1:j0 < m:=(by have f1:=HF.out;have f2:=hm.out;have f3:=hb.out;have f4:=fJ.out;omega);have g2:m < e0:=(by have f1:=HF.out;have f2:=hm.out;have f3:=hb.out;have f4:=fJ.out;omega);have g3:a < j0:=(by have f1:=HF.out;have f2:=hm.out;have f3:=hb.out;have f4:=fJ.out;omega);have g4:j0 < eR:=(by have f1:=HF.out;have f2:=hm.out;have f3:=hb.out;have f4:=fJ.out;omega);have g5:eR < e0:=(by have f1:=HF.out;have f2:=hm.out;have f3:=hb.out;have f4:=fJ.out;omega);have g6:e0 < bb:=(by have f1:=HF.out;have f2:=hm.out;have f3:=hb.out;have f4:=fJ.out;omega);go_wp2_with fail
         refine (Ii nm W0 _ b o c N (P++l1) l2 r1 (r2++Q) j0 m e0 _ LX ti BI (I L0) (I ee) (I ee) ee ee).mono ?_;rintro e w2 ⟨rfl,ce⟩;replace ce:jJ (fun x=>[Value.string (nm x)]) 1 W0 w2 b o (P++(l1++(r1++(l2++(r2++Q))))):=(by simpa only [List.append_assoc] using ce);go_wp2_with fail
         refine (CE.out W0 _ b o c N P l1 r1 (l2++(r2++Q)) a j0 eR cv q1 q2 ce ti BI ha (I ee) (I ee) ee ee HW.out LJ.out.1 LJ.out.2.2.1 HC.out CF).mono ?_;rintro e w3 ⟨rfl,dx⟩;go_wp2_with fail
         refine (CE.out W0 _ b o c N (P++fO (kS cv) l1 r1) l2 r2 Q eR e0 bb cv q1 q2 NN ti BI (I NO) (I ee) (I ee) ee ee HW.out LJ.out.2.1 LJ.out.2.2.2 HC.out CF).mono ?_;rintro e w4 ⟨rfl,ng⟩;go_wp2;go_end0
         refine ⟨rfl,?_⟩;rw [HM.out]
         simpa only [List.append_assoc] using ng)
   ·rcases Nat.eq_zero_or_pos l2.length with cK | cK
    ·first
      | (exfalso;have e3:=Ij.out;have e4:=Ik.out;have e5:=HD.out;have f1:=HF.out;have f2:=hm.out;have f3:=hb.out;have f4:=fJ.out;omega)
      | (
       have g1:m≤j0:=(by have f1:=HF.out;have f2:=hm.out;have f3:=hb.out;have f4:=fJ.out;omega);have g3:a < j0:=(by have f1:=HF.out;have f2:=hm.out;have f3:=hb.out;have f4:=fJ.out;omega);have g4:eR≤j0:=(by have f1:=HF.out;have f2:=hm.out;have f3:=hb.out;have f4:=fJ.out;omega);have g5:e0≤eR:=(by have f1:=HF.out;have f2:=hm.out;have f3:=hb.out;have f4:=fJ.out;omega);go_wp2_with fail
       have DT:l2 = []:=List.eq_nil_of_length_eq_zero ee;have ce:jJ (fun x=>[Value.string (nm x)]) 1 W0 wr b o (P++(l1++(r1++(l2++(r2++Q))))):=(by rw [DT] at fg ⊢;simpa only [List.append_assoc,List.nil_append] using fg);have L4:r1 = []:=List.eq_nil_of_length_eq_zero ee;have dx:jJ (fun x=>[Value.string (nm x)]) 1 W0 wr b o (P++(fO (kS cv) l1 r1++(l2++(r2++Q)))):=(by rw [L4] at ce ⊢;simpa only [gZ,List.nil_append] using ce);have ng:jJ (fun x=>[Value.string (nm x)]) 1 W0 wr b o (P++(fO (kS cv) l1 r1++(fO (kS cv) l2 r2++Q))):=(by rw [DT] at dx ⊢;simpa only [ig,List.nil_append] using dx);go_end0
       refine ⟨rfl,?_⟩;rw [HM.out]
       simpa only [List.append_assoc] using ng)
    ·first
      | (exfalso;have e3:=Ij.out;have e4:=Ik.out;have e5:=HD.out;have f1:=HF.out;have f2:=hm.out;have f3:=hb.out;have f4:=fJ.out;omega)
      | (
       have g1:j0 < m:=(by have f1:=HF.out;have f2:=hm.out;have f3:=hb.out;have f4:=fJ.out;omega);have g2:e0≤m:=(by have f1:=HF.out;have f2:=hm.out;have f3:=hb.out;have f4:=fJ.out;omega);have g3:a < j0:=(by have f1:=HF.out;have f2:=hm.out;have f3:=hb.out;have f4:=fJ.out;omega);have g4:eR≤j0:=(by have f1:=HF.out;have f2:=hm.out;have f3:=hb.out;have f4:=fJ.out;omega);have g5:eR < e0:=(by have f1:=HF.out;have f2:=hm.out;have f3:=hb.out;have f4:=fJ.out;omega);have g6:e0 < bb:=(by have f1:=HF.out;have f2:=hm.out;have f3:=hb.out;have f4:=fJ.out;omega);go_wp2_with fail
       have L4:r1 = []:=List.eq_nil_of_length_eq_zero ee;have ce:jJ (fun x=>[Value.string (nm x)]) 1 W0 wr b o (P++(l1++(r1++(l2++(r2++Q))))):=(by rw [L4] at fg ⊢;simpa only [List.append_assoc,List.nil_append] using fg);have dx:jJ (fun x=>[Value.string (nm x)]) 1 W0 wr b o (P++(fO (kS cv) l1 r1++(l2++(r2++Q)))):=(by rw [L4] at ce ⊢;simpa only [gZ,List.nil_append] using ce);refine (CE.out W0 _ b o c N (P++fO (kS cv) l1 r1) l2 r2 Q eR e0 bb cv q1 q2 NN ti BI (I NO) (I ee) (I ee) ee ee HW.out LJ.out.2.1 LJ.out.2.2.2 HC.out CF).mono ?_;rintro e w4 ⟨rfl,ng⟩;go_wp2;go_end0
       refine ⟨rfl,?_⟩;rw [HM.out]
       simpa only [List.append_assoc] using ng)):P:=h
theorem xT {P:Prop} (h:P:=by
 intro HK;have aE:Below wn.heap.size wn wn.drew:=aA (aj _);refine aX 1 _ O U' H' aE W' ?_;try simp only [Act.put,pz]
 refine aX 2 _ O U' H' aE W' ?_;try simp only [Act.put,pz]
 refine aX 3 _ O U' H' aE W' ?_;try simp only [Act.put,pz]
 refine aX 5 _ O U' H' aE W' ?_;try simp only [Act.put,pz]
 refine aX 6 _ O U' H' aE W' ?_;try simp only [Act.put,pz]
 refine aX 7 _ O U' H' aE W' ?_;try simp only [Act.put,pz]
 refine aX 8 _ O U' H' aE W' ?_;try simp only [Act.put,pz]
 refine D7 0 9 O O U' O O (fun K hK=>?_) (fun K hK=>?_)
 ·go_simp;refine hK _ _ (ak aE (.cells #[] 9)) ?_;try simp only [Act.put,pz]
  clear hK K;have Qz:=ak aE (.cells #[] 9);have KI:=D9 wn.drew 9 1 wn.heap.size rfl;refine D7 4 9 O O U' O O (fun K hK=>?_) (fun K hK=>?_)
  ·refine qQ qw _ _ O (wn.drew.alloc (.cells #[] 9)) wn.heap.size _ 0 [] KI O ⟨g,0,none⟩ jj cap ((s1.map Value.string)) O vI (fun q u hu=>(Qz.cell (p:=(⟨g,0,none⟩:Addr).add q) jn).trans (ey.out q u hu)) (fun u hu=>by obtain ⟨z0,_,rfl⟩:=List.mem_map.1 hu;rfl) J J fy ?_;intro v5 w5 az cc fG;have br:Below wn.heap.size wn w5:=Below.grown (Qz) cc fy (fun q hq=>(KI.lt q hq).1);refine hK _ _ br ?_;try simp only [Act.put,pz]
   clear hK K;refine bP 9 O U' O (fun K hK=>?_);go_simp;refine hK _ _ (ak br (.cells #[.string y] 9)) ?_;try simp only [Act.put,pz]
   clear hK K;have cD:=ak br (.cells #[.string y] 9);refine bP 10 O U' O (fun K hK=>?_);refine qQ qw _ _ O (w5.alloc (.cells #[.string y] 9)) wn.heap.size v5 _ _ (mG az (ak (aj _) _)) O ⟨w5.heap.size,0,none⟩ 1 1 [.string y] O O (DI w5 9 [.string y] w5.heap.size rfl) (fun u hu=>by rw [List.mem_singleton.1 hu];rfl) J J fS ?_;intro v7 w7 nK Ua lX;rw [show 0+jj = jj by omega,List.nil_append] at nK;obtain ⟨g9,p9,hv7,fm,lw,ki⟩:=wW nK J;subst hv7;have bz:Below wn.heap.size wn w7:=Below.grown (cD) Ua fS (fun q hq=>(az.lt q hq).1);exact xU
  ·go_simp;refine hK _ _ (ak Qz (.cells #[.string y] 9)) ?_;try simp only [Act.put,pz]
   clear hK K;have cD:=ak Qz (.cells #[.string y] 9);replace KI:=mG KI (ak (aj _) (.cells #[.string y] 9));refine bP 4 O U' O (fun K hK=>?_);refine qQ qw _ _ O ((wn.drew.alloc (.cells #[] 9)).alloc (.cells #[.string y] 9)) wn.heap.size _ 0 [] KI O ⟨g,0,none⟩ jj cap ((s1.map Value.string)) O vI (fun q u hu=>(cD.cell (p:=(⟨g,0,none⟩:Addr).add q) jn).trans (ey.out q u hu)) (fun u hu=>by obtain ⟨z0,_,rfl⟩:=List.mem_map.1 hu;rfl) J J fS ?_;intro v5 w5 az cc fG;have br:Below wn.heap.size wn w5:=Below.grown (cD) cc fS (fun q hq=>(KI.lt q hq).1);refine hK _ _ br ?_;try simp only [Act.put,pz]
   clear hK K;refine bP 10 O U' O (fun K hK=>?_);refine qQ qw _ _ O w5 wn.heap.size v5 _ _ az O ⟨wn.heap.size+1,0,none⟩ 1 1 [.string y] O O (fun q u hu=>(World.cell?_of_block tj).trans ((DI (wn.drew.alloc (.cells #[] 9)) 9 [.string y] (wn.heap.size+1) S') q u hu)) (fun u hu=>by rw [List.mem_singleton.1 hu];rfl) J J iB ?_;exact xV
 ·go_simp;refine hK _ _ (ak aE (.cells #[.string y] 9)) ?_;try simp only [Act.put,pz]
  clear hK K;have cD:=ak aE (.cells #[.string y] 9);refine bP 0 O U' O (fun K hK=>?_);go_simp;refine hK _ _ (ak cD (.cells #[] 9)) ?_;try simp only [Act.put,pz]
  clear hK K;have Qz:=ak cD (.cells #[] 9);have KI:=vP (D9 (wn.drew.alloc (.cells #[.string y] 9)) 9 1 (wn.heap.size+1) S') (B':=wn.heap.size) J;refine bP 4 O U' O (fun K hK=>?_);refine qQ qw _ _ O ((wn.drew.alloc (.cells #[.string y] 9)).alloc (.cells #[] 9)) wn.heap.size _ 0 [] KI O ⟨g,0,none⟩ jj cap ((s1.map Value.string)) O vI (fun q u hu=>(Qz.cell (p:=(⟨g,0,none⟩:Addr).add q) jn).trans (ey.out q u hu)) (fun u hu=>by obtain ⟨z0,_,rfl⟩:=List.mem_map.1 hu;rfl) J J fy ?_;intro v5 w5 az cc fG;have br:Below wn.heap.size wn w5:=Below.grown (Qz) cc fy (fun q hq=>(KI.lt q hq).1);refine hK _ _ br ?_;try simp only [Act.put,pz]
  clear hK K;refine bP 10 O U' O (fun K hK=>?_);refine qQ qw _ _ O w5 wn.heap.size v5 _ _ az O ⟨wn.heap.size,0,none⟩ 1 1 [.string y] O O (fun q u hu=>(World.cell?_of_block tk).trans ((DI wn.drew 9 [.string y] wn.heap.size rfl) q u hu)) (fun u hu=>by rw [List.mem_singleton.1 hu];rfl) J J iB ?_
  exact xV):P:=h
theorem mr {P:Prop} (h:P:=by
 exact xV):P:=h
theorem NP {P:Prop} (h:P:=by
 exact xU):P:=h
theorem DU {P:Prop} (h:P:=by
 intro HK;have aE:Below wn.heap.size wn wn.drew:=aA (aj _);refine aX 1 _ O U' H' aE W' ?_;try simp only [Act.put,pz]
 refine aX 2 _ O U' H' aE W' ?_;try simp only [Act.put,pz]
 refine aX 3 _ O U' H' aE W' ?_;try simp only [Act.put,pz]
 refine aX 4 _ O U' H' aE W' ?_;try simp only [Act.put,pz]
 refine aX 6 _ O U' H' aE W' ?_;try simp only [Act.put,pz]
 refine aX 7 _ O U' H' aE W' ?_;try simp only [Act.put,pz]
 refine aX 8 _ O U' H' aE W' ?_;try simp only [Act.put,pz]
 refine aX 9 _ O U' H' aE W' ?_;try simp only [Act.put,pz]
 refine D7 0 10 O O U' O O (fun K hK=>?_) (fun K hK=>?_)
 ·go_simp;refine hK _ _ (ak aE (.cells #[] 53)) ?_;try simp only [Act.put,pz]
  clear hK K;have Qz:=ak aE (.cells #[] 53);have KI:=D9 wn.drew 53 9 wn.heap.size rfl;refine D7 5 10 O O U' O O (fun K hK=>?_) (fun K hK=>?_)
  ·refine qQ nF _ _ O (wn.drew.alloc (.cells #[] 53)) wn.heap.size _ 0 [] KI O ⟨g,0,none⟩ k dJ ((ds.take (k * 9))) O CH (fun q u hu=>(Qz.cell (p:=(⟨g,0,none⟩:Addr).add q) jn).trans (ey.out q u hu)) (fun u hu=>jG.out u (List.mem_of_mem_take hu)) J J fy ?_;intro v5 w5 az cc fG;have br:Below wn.heap.size wn w5:=Below.grown (Qz) cc fy (fun q hq=>(KI.lt q hq).1);refine hK _ _ br ?_;try simp only [Act.put,pz]
   clear hK K;refine bP 10 O U' O (fun K hK=>?_);go_simp;refine hK _ _ (ak br (.cells #[.string n.name,.slice bY n.labels.length bZ,.int .i64 n.av,.int .i64 n.mem,.int .i64 n.ar,.slice eU n.ag.length eX,.slice bg n.ae.length bn,.string ⟨#[]⟩,.int .i64 x.next] 53)) ?_;try simp only [Act.put,pz]
   clear hK K;have cD:=ak br (.cells #[.string n.name,.slice bY n.labels.length bZ,.int .i64 n.av,.int .i64 n.mem,.int .i64 n.ar,.slice eU n.ag.length eX,.slice bg n.ae.length bn,.string ⟨#[]⟩,.int .i64 x.next] 53);refine bP 11 O U' O (fun K hK=>?_);refine qQ nF _ _ O (w5.alloc (.cells #[.string n.name,.slice bY n.labels.length bZ,.int .i64 n.av,.int .i64 n.mem,.int .i64 n.ar,.slice eU n.ag.length eX,.slice bg n.ae.length bn,.string ⟨#[]⟩,.int .i64 x.next] 53)) wn.heap.size v5 _ _ (mG az (ak (aj _) _)) O ⟨w5.heap.size,0,none⟩ 1 1 [.string n.name,.slice bY n.labels.length bZ,.int .i64 n.av,.int .i64 n.mem,.int .i64 n.ar,.slice eU n.ag.length eX,.slice bg n.ae.length bn,.string ⟨#[]⟩,.int .i64 x.next] O O (DI w5 53 [.string n.name,.slice bY n.labels.length bZ,.int .i64 n.av,.int .i64 n.mem,.int .i64 n.ar,.slice eU n.ag.length eX,.slice bg n.ae.length bn,.string ⟨#[]⟩,.int .i64 x.next] w5.heap.size rfl) kj.out J J fS ?_;intro v7 w7 nK Ua lX;rw [show 0+k = k by omega,List.nil_append] at nK;obtain ⟨g9,p9,hv7,fm,lw,ki⟩:=wW nK J;subst hv7;have bz:Below wn.heap.size wn w7:=Below.grown (cD) Ua fS (fun q hq=>(az.lt q hq).1);exact xX
  ·go_simp;refine hK _ _ (ak Qz (.cells #[.string n.name,.slice bY n.labels.length bZ,.int .i64 n.av,.int .i64 n.mem,.int .i64 n.ar,.slice eU n.ag.length eX,.slice bg n.ae.length bn,.string ⟨#[]⟩,.int .i64 x.next] 53)) ?_;try simp only [Act.put,pz]
   clear hK K;have cD:=ak Qz (.cells #[.string n.name,.slice bY n.labels.length bZ,.int .i64 n.av,.int .i64 n.mem,.int .i64 n.ar,.slice eU n.ag.length eX,.slice bg n.ae.length bn,.string ⟨#[]⟩,.int .i64 x.next] 53);replace KI:=mG KI (ak (aj _) (.cells #[.string n.name,.slice bY n.labels.length bZ,.int .i64 n.av,.int .i64 n.mem,.int .i64 n.ar,.slice eU n.ag.length eX,.slice bg n.ae.length bn,.string ⟨#[]⟩,.int .i64 x.next] 53));refine bP 5 O U' O (fun K hK=>?_);refine qQ nF _ _ O ((wn.drew.alloc (.cells #[] 53)).alloc (.cells #[.string n.name,.slice bY n.labels.length bZ,.int .i64 n.av,.int .i64 n.mem,.int .i64 n.ar,.slice eU n.ag.length eX,.slice bg n.ae.length bn,.string ⟨#[]⟩,.int .i64 x.next] 53)) wn.heap.size _ 0 [] KI O ⟨g,0,none⟩ k dJ ((ds.take (k * 9))) O CH (fun q u hu=>(cD.cell (p:=(⟨g,0,none⟩:Addr).add q) jn).trans (ey.out q u hu)) (fun u hu=>jG.out u (List.mem_of_mem_take hu)) J J fS ?_;intro v5 w5 az cc fG;have br:Below wn.heap.size wn w5:=Below.grown (cD) cc fS (fun q hq=>(KI.lt q hq).1);refine hK _ _ br ?_;try simp only [Act.put,pz]
   clear hK K;refine bP 11 O U' O (fun K hK=>?_);refine qQ nF _ _ O w5 wn.heap.size v5 _ _ az O ⟨wn.heap.size+1,0,none⟩ 1 1 [.string n.name,.slice bY n.labels.length bZ,.int .i64 n.av,.int .i64 n.mem,.int .i64 n.ar,.slice eU n.ag.length eX,.slice bg n.ae.length bn,.string ⟨#[]⟩,.int .i64 x.next] O O (fun q u hu=>(World.cell?_of_block tj).trans ((DI (wn.drew.alloc (.cells #[] 53)) 53 [.string n.name,.slice bY n.labels.length bZ,.int .i64 n.av,.int .i64 n.mem,.int .i64 n.ar,.slice eU n.ag.length eX,.slice bg n.ae.length bn,.string ⟨#[]⟩,.int .i64 x.next] (wn.heap.size+1) S') q u hu)) kj.out J J iB ?_;exact DW
 ·go_simp;refine hK _ _ (ak aE (.cells #[.string n.name,.slice bY n.labels.length bZ,.int .i64 n.av,.int .i64 n.mem,.int .i64 n.ar,.slice eU n.ag.length eX,.slice bg n.ae.length bn,.string ⟨#[]⟩,.int .i64 x.next] 53)) ?_;try simp only [Act.put,pz]
  clear hK K;have cD:=ak aE (.cells #[.string n.name,.slice bY n.labels.length bZ,.int .i64 n.av,.int .i64 n.mem,.int .i64 n.ar,.slice eU n.ag.length eX,.slice bg n.ae.length bn,.string ⟨#[]⟩,.int .i64 x.next] 53);refine bP 0 O U' O (fun K hK=>?_);go_simp;refine hK _ _ (ak cD (.cells #[] 53)) ?_;try simp only [Act.put,pz]
  clear hK K;have Qz:=ak cD (.cells #[] 53);have KI:=vP (D9 (wn.drew.alloc (.cells #[.string n.name,.slice bY n.labels.length bZ,.int .i64 n.av,.int .i64 n.mem,.int .i64 n.ar,.slice eU n.ag.length eX,.slice bg n.ae.length bn,.string ⟨#[]⟩,.int .i64 x.next] 53)) 53 9 (wn.heap.size+1) S') (B':=wn.heap.size) J;refine bP 5 O U' O (fun K hK=>?_);refine qQ nF _ _ O ((wn.drew.alloc (.cells #[.string n.name,.slice bY n.labels.length bZ,.int .i64 n.av,.int .i64 n.mem,.int .i64 n.ar,.slice eU n.ag.length eX,.slice bg n.ae.length bn,.string ⟨#[]⟩,.int .i64 x.next] 53)).alloc (.cells #[] 53)) wn.heap.size _ 0 [] KI O ⟨g,0,none⟩ k dJ ((ds.take (k * 9))) O CH (fun q u hu=>(Qz.cell (p:=(⟨g,0,none⟩:Addr).add q) jn).trans (ey.out q u hu)) (fun u hu=>jG.out u (List.mem_of_mem_take hu)) J J fy ?_;intro v5 w5 az cc fG;have br:Below wn.heap.size wn w5:=Below.grown (Qz) cc fy (fun q hq=>(KI.lt q hq).1);refine hK _ _ br ?_;try simp only [Act.put,pz]
  clear hK K;refine bP 11 O U' O (fun K hK=>?_);refine qQ nF _ _ O w5 wn.heap.size v5 _ _ az O ⟨wn.heap.size,0,none⟩ 1 1 [.string n.name,.slice bY n.labels.length bZ,.int .i64 n.av,.int .i64 n.mem,.int .i64 n.ar,.slice eU n.ag.length eX,.slice bg n.ae.length bn,.string ⟨#[]⟩,.int .i64 x.next] O O (fun q u hu=>(World.cell?_of_block tk).trans ((DI wn.drew 53 [.string n.name,.slice bY n.labels.length bZ,.int .i64 n.av,.int .i64 n.mem,.int .i64 n.ar,.slice eU n.ag.length eX,.slice bg n.ae.length bn,.string ⟨#[]⟩,.int .i64 x.next] wn.heap.size rfl) q u hu)) kj.out J J iB ?_
  exact DW):P:=h
theorem DX {P:Prop} (h:P:=by
 try simp only [Bool.and_false,Bool.and_true,Bool.false_and,Bool.and_self] at hp
 have HN:=I (gq hall.out hp);clear hp;go_wp2_with fail
 skip
 refine aF _ U' U' (aj _) ?_
 repeat ((first | refine aG O ?_ | refine aH _ O DY ?_);simp only [Act.put,pz])
 refine aN ?_;intro wn hn;replace hn:=hn.out;obtain ⟨kO,lZ⟩:=ay hn;have km:w.heap.size < wn.heap.size:=sq hn.size;have tm:b' < wn.heap.size:=sq hn.size;try (have ua:wr.heap.size < wn.heap.size:=sq hn.size)
 have NQ:Below wr.heap.size wr wn:=bx;have DZ:wn.cell? ⟨wr.heap.size,8,none⟩ = some (.int .i64 x.au[j+1].seq):=by rw [kO _ _ S',cell_of_row _ _ _ _ _ _ (heap_alloc_new wr _)];rfl
 have anN:(j+1:Nat) < 12:=by omega
 obtain ⟨wo,hwo⟩:∃wo,wo = wr:=⟨_,rfl⟩;subst hwo;go_wp2_with fail
 go_loopw [5] (fun i2 wi=>∃q:Nat,q≤j+1∧i2 = .int .i64 q∧Hid (∀u∈x.au.take q,(u.seq == x.au[j+1].seq) = false)∧Below wn.heap.size wn wi) (fun i2 _=>j+1 - (intOf i2).toNat)
 case atStart=>exact ⟨0,Nat.zero_le _,rfl,by show ∀_,_;simp,aj _⟩
 case round =>
  obtain ⟨q,hq,rfl,HQ,hbi⟩:=hrel;have Fp:Below wo.heap.size wo wr:=ah NQ hbi;have NX:Below w.heap.size w wr:=ah b5 Fp;have ci0:=(ay Fp).1 _ 0 tX |>.trans c0;have ci1:=(ay Fp).1 _ 1 tX |>.trans c1;have ci2:=(ay Fp).1 _ 2 tX |>.trans c2;have ci3:=(ay Fp).1 _ 3 tX |>.trans c3;have ci4:=(ay Fp).1 _ 4 tX |>.trans c4;have ci5:=(ay Fp).1 _ 5 tX |>.trans c5;replace DZ:=r' hbi DZ J;have xY:w.heap.size < wr.heap.size:=by have:=Fp.size;omega
  have hxi:wo.heap.size < wr.heap.size:=by have:=hbi.size;omega
  by_cases hqk:q < j+1
  ·obtain ⟨b6,o6,ck6,Fk6,e,hbF6,LU,xZ,aqC,CI⟩:=Sl.get (α:=af) (c:=bW) dM (show q < x.au.length by omega);have Tu:=xZ;obtain ⟨Ho,Hq,Xm,JK,JL,aan,AL,AO,Oz,anO,anP,acM,Xn,afj,afk,acN,aao,OA,hon6,aqD⟩:=kE Tu;subst anO;obtain ⟨rfl,rfl⟩:b6 = b'∧o6 = o':=by simpa using e.symm
   clear e;obtain ⟨m0,m1,m2,m3,m4,m5,m6,m7,m8⟩:=x2 9 CI;clear CI Tu anP;replace m8:=r' NX m8 LU;have hyi:b6 < wr.heap.size:=(by have:=NX.size;omega);have hqi:(q:Int) < ((j+1:Nat):Int):=J;have pq:q < x.au.length:=J;cases hse:(x.au[q].seq == x.au[j+1].seq) with
   | true =>
     have tp:seenIn (x.au.take (j+1)) x.au[j+1].seq = true:=by unfold seenIn;rw [List.any_eq_true];exact ⟨x.au[q],by rw [List.mem_take_iff_getElem];exact ⟨q,J,rfl⟩,hse⟩
     have HF:=I (DR aq av2);go_wp2_with fail
     refine aF _ U' U' (aj _) ?_
     repeat ((first | refine aG O ?_ | refine aH _ O x3 ?_);simp only [Act.put,pz])
     refine aN ?_;intro wz hz;replace hz:=hz.out;exact ub
   | false =>
     have HQ2:=I (yQ (p:=fun u:af=>u.seq == x.au[j+1].seq) pq HQ.out hse);go_wp2_with fail
     refine aF _ U' U' (aj _) ?_
     repeat ((first | refine aG O ?_ | refine aH _ O x3 ?_);simp only [Act.put,pz])
     refine aN ?_;intro wz hz;replace hz:=hz.out;go_wp2;exact ⟨⟨q+1,J,N',HQ2.out,bx⟩,by simp [intOf];omega⟩
  ·obtain rfl:q = j+1:=by omega
   have tp:seenIn (x.au.take (j+1)) x.au[j+1].seq = false:=by exact D0
   have Gn:=I (gq hfresh.out (show DN x.au (j+1) = true by rw [sG aq,tp];rfl));clear tp;go_wp2
   exact ⟨⟨j+1+1,J,N',HN.out,Gn.out,ah ax Fp⟩,by simp [intOf];omega⟩):P:=h
theorem D1 {P:Prop} (h:P:=by
 have CK:=I fg;have NY:=I ce;have H1:=I he1;have H2:=I he2;clear fg ce he1 he2;go_enter Tryz.func100,Tryz.ntmps100;go_wp2_with fail
 refine (gQ x _ _ nm _ (aJ h bx) bR).mono ?_;rw [HI.out];rintro e w2 ⟨rfl,ap⟩;obtain ⟨bX,cG⟩:=ay ap;have cj:w.heap.size < w2.heap.size:=(sq ap.size);have kn:w.heap.size+1 < w2.heap.size:=(sq ap.size);have eg:Below w.heap.size w w2:=bx;go_wp2_with fail
 refine (jm x _ _ nm _ (aJ h bx) vk).mono ?_;rw [HU.out];rintro e w3 ⟨rfl,aR⟩;obtain ⟨dk,hf3⟩:=ay aR;have cW:w.heap.size < w3.heap.size:=(sq aR.size);have uc:w.heap.size+1 < w3.heap.size:=(sq aR.size);have di:Below w.heap.size w w3:=ah eg aR;replace q0:=r' di q0 bc;replace q1:=r' di q1 bc;replace q2:=r' di q2 bc;replace q3:=r' di q3 bc;replace q4:=r' di q4 bc;replace q5:=r' di q5 bc;have jd:bh < w3.heap.size:=by have:=di.size;omega
 go_wp2_with fail
 refine (oQ a p.av _ ha kQ).mono ?_;rw [H1.out];rintro e w4 ⟨rfl,bu⟩;obtain ⟨fh,hf4⟩:=ay bu;have Wy:w.heap.size < w4.heap.size:=(sq bu.size);have CL:w.heap.size+1 < w4.heap.size:=(sq bu.size);go_wp2_with fail
 refine (oQ b p.mem _ hb lg).mono ?_;rw [H2.out];rintro e w5 ⟨rfl,br⟩;obtain ⟨qX,pr⟩:=ay br;have Es:w.heap.size < w5.heap.size:=(sq br.size);have IV:w.heap.size+1 < w5.heap.size:=(sq br.size);have Dc:Below w3.heap.size w3 w5:=ah bu br;replace q0:=r' Dc q0 jd;replace q1:=r' Dc q1 jd;replace q2:=r' Dc q2 jd;replace q3:=r' Dc q3 jd;replace q4:=r' Dc q4 jd;replace q5:=r' Dc q5 jd;have afO:bh < w5.heap.size:=by have:=Dc.size;omega
 go_wp2_with fail
 refine aF w5 U' U' (aj _) ?_
 repeat (first
  | (apply aG
     case hw=>rfl
     simp only [Act.put,pz])
  | (apply aH
     case hw=>rfl
     case h =>
      intro wq hq;have dC:=(aB hq).1;have lJ:=(aB hq).2;go_simp
      first
       | exact ⟨hq,rfl⟩
       | exact ⟨aQ hq _,rfl⟩
       | ((refine (IB _ _ _ tt tt).mono ?_;(first | rw [CK.out] | rw [NY.out]);rintro e wz ⟨rfl,nV⟩;exact ⟨rfl,aI hq nV⟩))
       | (simp only [↓IntWalk.iteOmega];exact ⟨hq,rfl⟩)
     simp only [Act.put,pz]))
 refine aN ?_;intro wn hn;replace hn:=hn.out;go_wp2;go_ret
 exact ⟨by rw [HF.out];first | rfl | (simp;exact vK.out),ah di (ah Dc hn)⟩):P:=h
theorem dE {P:Prop} (h:P:=by
 exact x3):P:=h
theorem D2 {P:Prop} (h:P:=by
 intro HK;have aE:Below wn.heap.size wn wn.drew:=aA (aj _);refine aX 1 _ O U' H' aE W' ?_;try simp only [Act.put,pz]
 refine aX 2 _ O U' H' aE W' ?_;try simp only [Act.put,pz]
 refine aX 3 _ O U' H' aE W' ?_;try simp only [Act.put,pz]
 refine aX 4 _ O U' H' aE W' ?_;try simp only [Act.put,pz]
 refine aX 6 _ O U' H' aE W' ?_;try simp only [Act.put,pz]
 refine D7 0 7 O O U' O O (fun K hK=>?_) (fun K hK=>?_)
 ·go_simp;refine hK _ _ (ak aE (.cells #[] 47)) ?_;try simp only [Act.put,pz]
  clear hK K;have Qz:=ak aE (.cells #[] 47);have KI:=D9 wn.drew 47 6 wn.heap.size rfl;refine D7 5 7 O O U' O O (fun K hK=>?_) (fun K hK=>?_)
  ·refine qQ nG _ _ O (wn.drew.alloc (.cells #[] 47)) wn.heap.size _ 0 [] KI O ⟨g,0,none⟩ k bV ((ds.take (k * 6))) O CH (fun q u hu=>(Qz.cell (p:=(⟨g,0,none⟩:Addr).add q) jn).trans (ey.out q u hu)) (fun u hu=>jG.out u (List.mem_of_mem_take hu)) J J fy ?_;intro v5 w5 az cc fG;have br:Below wn.heap.size wn w5:=Below.grown (Qz) cc fy (fun q hq=>(KI.lt q hq).1);refine hK _ _ br ?_;try simp only [Act.put,pz]
   clear hK K;refine bP 7 O U' O (fun K hK=>?_);go_simp;refine hK _ _ (ak br (.cells #[.string n.name,.slice bY n.labels.length bZ,.int .i64 n.av,.int .i64 n.mem,.int .i64 n.slots,.slice wP n.aT.length wQ] 47)) ?_;try simp only [Act.put,pz]
   clear hK K;have cD:=ak br (.cells #[.string n.name,.slice bY n.labels.length bZ,.int .i64 n.av,.int .i64 n.mem,.int .i64 n.slots,.slice wP n.aT.length wQ] 47);refine bP 8 O U' O (fun K hK=>?_);refine qQ nG _ _ O (w5.alloc (.cells #[.string n.name,.slice bY n.labels.length bZ,.int .i64 n.av,.int .i64 n.mem,.int .i64 n.slots,.slice wP n.aT.length wQ] 47)) wn.heap.size v5 _ _ (mG az (ak (aj _) _)) O ⟨w5.heap.size,0,none⟩ 1 1 [.string n.name,.slice bY n.labels.length bZ,.int .i64 n.av,.int .i64 n.mem,.int .i64 n.slots,.slice wP n.aT.length wQ] O O (DI w5 47 [.string n.name,.slice bY n.labels.length bZ,.int .i64 n.av,.int .i64 n.mem,.int .i64 n.slots,.slice wP n.aT.length wQ] w5.heap.size rfl) kj.out J J fS ?_;intro v7 w7 nK Ua lX;rw [show 0+k = k by omega,List.nil_append] at nK;obtain ⟨g9,p9,hv7,fm,lw,ki⟩:=wW nK J;subst hv7;have bz:Below wn.heap.size wn w7:=Below.grown (cD) Ua fS (fun q hq=>(az.lt q hq).1);exact x4
  ·go_simp;refine hK _ _ (ak Qz (.cells #[.string n.name,.slice bY n.labels.length bZ,.int .i64 n.av,.int .i64 n.mem,.int .i64 n.slots,.slice wP n.aT.length wQ] 47)) ?_;try simp only [Act.put,pz]
   clear hK K;have cD:=ak Qz (.cells #[.string n.name,.slice bY n.labels.length bZ,.int .i64 n.av,.int .i64 n.mem,.int .i64 n.slots,.slice wP n.aT.length wQ] 47);replace KI:=mG KI (ak (aj _) (.cells #[.string n.name,.slice bY n.labels.length bZ,.int .i64 n.av,.int .i64 n.mem,.int .i64 n.slots,.slice wP n.aT.length wQ] 47));refine bP 5 O U' O (fun K hK=>?_);refine qQ nG _ _ O ((wn.drew.alloc (.cells #[] 47)).alloc (.cells #[.string n.name,.slice bY n.labels.length bZ,.int .i64 n.av,.int .i64 n.mem,.int .i64 n.slots,.slice wP n.aT.length wQ] 47)) wn.heap.size _ 0 [] KI O ⟨g,0,none⟩ k bV ((ds.take (k * 6))) O CH (fun q u hu=>(cD.cell (p:=(⟨g,0,none⟩:Addr).add q) jn).trans (ey.out q u hu)) (fun u hu=>jG.out u (List.mem_of_mem_take hu)) J J fS ?_;intro v5 w5 az cc fG;have br:Below wn.heap.size wn w5:=Below.grown (cD) cc fS (fun q hq=>(KI.lt q hq).1);refine hK _ _ br ?_;try simp only [Act.put,pz]
   clear hK K;refine bP 8 O U' O (fun K hK=>?_);refine qQ nG _ _ O w5 wn.heap.size v5 _ _ az O ⟨wn.heap.size+1,0,none⟩ 1 1 [.string n.name,.slice bY n.labels.length bZ,.int .i64 n.av,.int .i64 n.mem,.int .i64 n.slots,.slice wP n.aT.length wQ] O O (fun q u hu=>(World.cell?_of_block tj).trans ((DI (wn.drew.alloc (.cells #[] 47)) 47 [.string n.name,.slice bY n.labels.length bZ,.int .i64 n.av,.int .i64 n.mem,.int .i64 n.slots,.slice wP n.aT.length wQ] (wn.heap.size+1) S') q u hu)) kj.out J J iB ?_;exact D3
 ·go_simp;refine hK _ _ (ak aE (.cells #[.string n.name,.slice bY n.labels.length bZ,.int .i64 n.av,.int .i64 n.mem,.int .i64 n.slots,.slice wP n.aT.length wQ] 47)) ?_;try simp only [Act.put,pz]
  clear hK K;have cD:=ak aE (.cells #[.string n.name,.slice bY n.labels.length bZ,.int .i64 n.av,.int .i64 n.mem,.int .i64 n.slots,.slice wP n.aT.length wQ] 47);refine bP 0 O U' O (fun K hK=>?_);go_simp;refine hK _ _ (ak cD (.cells #[] 47)) ?_;try simp only [Act.put,pz]
  clear hK K;have Qz:=ak cD (.cells #[] 47);have KI:=vP (D9 (wn.drew.alloc (.cells #[.string n.name,.slice bY n.labels.length bZ,.int .i64 n.av,.int .i64 n.mem,.int .i64 n.slots,.slice wP n.aT.length wQ] 47)) 47 6 (wn.heap.size+1) S') (B':=wn.heap.size) J;refine bP 5 O U' O (fun K hK=>?_);refine qQ nG _ _ O ((wn.drew.alloc (.cells #[.string n.name,.slice bY n.labels.length bZ,.int .i64 n.av,.int .i64 n.mem,.int .i64 n.slots,.slice wP n.aT.length wQ] 47)).alloc (.cells #[] 47)) wn.heap.size _ 0 [] KI O ⟨g,0,none⟩ k bV ((ds.take (k * 6))) O CH (fun q u hu=>(Qz.cell (p:=(⟨g,0,none⟩:Addr).add q) jn).trans (ey.out q u hu)) (fun u hu=>jG.out u (List.mem_of_mem_take hu)) J J fy ?_;intro v5 w5 az cc fG;have br:Below wn.heap.size wn w5:=Below.grown (Qz) cc fy (fun q hq=>(KI.lt q hq).1);refine hK _ _ br ?_;try simp only [Act.put,pz]
  clear hK K;refine bP 8 O U' O (fun K hK=>?_);refine qQ nG _ _ O w5 wn.heap.size v5 _ _ az O ⟨wn.heap.size,0,none⟩ 1 1 [.string n.name,.slice bY n.labels.length bZ,.int .i64 n.av,.int .i64 n.mem,.int .i64 n.slots,.slice wP n.aT.length wQ] O O (fun q u hu=>(World.cell?_of_block tk).trans ((DI wn.drew 47 [.string n.name,.slice bY n.labels.length bZ,.int .i64 n.av,.int .i64 n.mem,.int .i64 n.slots,.slice wP n.aT.length wQ] wn.heap.size rfl) q u hu)) kj.out J J iB ?_
  exact D3):P:=h
theorem D4 {P:Prop} (h:P:=by
 intro HK;have aE:Below wn.heap.size wn wn.drew:=aA (aj _);refine aX 1 _ O U' H' aE W' ?_;try simp only [Act.put,pz]
 refine aX 2 _ O U' H' aE W' ?_;try simp only [Act.put,pz]
 refine aX 3 _ O U' H' aE W' ?_;try simp only [Act.put,pz]
 refine aX 5 _ O U' H' aE W' ?_;try simp only [Act.put,pz]
 refine D7 0 6 O O U' O O (fun K hK=>?_) (fun K hK=>?_)
 ·go_simp;refine hK _ _ (ak aE (.cells #[] 70)) ?_;try simp only [Act.put,pz]
  clear hK K;have Qz:=ak aE (.cells #[] 70);have KI:=D9 wn.drew 70 3 wn.heap.size rfl;refine D7 4 6 O O U' O O (fun K hK=>?_) (fun K hK=>?_)
  ·refine qQ pu _ _ O (wn.drew.alloc (.cells #[] 70)) wn.heap.size _ 0 [] KI O ⟨g,0,none⟩ jj cap ((ds.take (jj * 3))) O N0 (fun q u hu=>(Qz.cell (p:=(⟨g,0,none⟩:Addr).add q) jn).trans (ey.out q u hu)) (fun u hu=>jG.out u (List.mem_of_mem_take hu)) J J fy ?_;intro v5 w5 az cc fG;have br:Below wn.heap.size wn w5:=Below.grown (Qz) cc fy (fun q hq=>(KI.lt q hq).1);refine hK _ _ br ?_;try simp only [Act.put,pz]
   clear hK K;refine bP 6 O U' O (fun K hK=>?_);go_simp;refine hK _ _ (ak br (.cells #[.string y.key,.int .i64 y.op,.slice Ay y.values.length cy] 70)) ?_;try simp only [Act.put,pz]
   clear hK K;have cD:=ak br (.cells #[.string y.key,.int .i64 y.op,.slice Ay y.values.length cy] 70);refine bP 7 O U' O (fun K hK=>?_);refine qQ pu _ _ O (w5.alloc (.cells #[.string y.key,.int .i64 y.op,.slice Ay y.values.length cy] 70)) wn.heap.size v5 _ _ (mG az (ak (aj _) _)) O ⟨w5.heap.size,0,none⟩ 1 1 [.string y.key,.int .i64 y.op,.slice Ay y.values.length cy] O O (DI w5 70 [.string y.key,.int .i64 y.op,.slice Ay y.values.length cy] w5.heap.size rfl) kj.out J J fS ?_;intro v7 w7 nK Ua lX;rw [show 0+jj = jj by omega,List.nil_append] at nK;obtain ⟨g9,p9,hv7,fm,lw,ki⟩:=wW nK J;subst hv7;have bz:Below wn.heap.size wn w7:=Below.grown (cD) Ua fS (fun q hq=>(az.lt q hq).1);exact D5
  ·go_simp;refine hK _ _ (ak Qz (.cells #[.string y.key,.int .i64 y.op,.slice Ay y.values.length cy] 70)) ?_;try simp only [Act.put,pz]
   clear hK K;have cD:=ak Qz (.cells #[.string y.key,.int .i64 y.op,.slice Ay y.values.length cy] 70);replace KI:=mG KI (ak (aj _) (.cells #[.string y.key,.int .i64 y.op,.slice Ay y.values.length cy] 70));refine bP 4 O U' O (fun K hK=>?_);refine qQ pu _ _ O ((wn.drew.alloc (.cells #[] 70)).alloc (.cells #[.string y.key,.int .i64 y.op,.slice Ay y.values.length cy] 70)) wn.heap.size _ 0 [] KI O ⟨g,0,none⟩ jj cap ((ds.take (jj * 3))) O N0 (fun q u hu=>(cD.cell (p:=(⟨g,0,none⟩:Addr).add q) jn).trans (ey.out q u hu)) (fun u hu=>jG.out u (List.mem_of_mem_take hu)) J J fS ?_;intro v5 w5 az cc fG;have br:Below wn.heap.size wn w5:=Below.grown (cD) cc fS (fun q hq=>(KI.lt q hq).1);refine hK _ _ br ?_;try simp only [Act.put,pz]
   clear hK K;refine bP 7 O U' O (fun K hK=>?_);refine qQ pu _ _ O w5 wn.heap.size v5 _ _ az O ⟨wn.heap.size+1,0,none⟩ 1 1 [.string y.key,.int .i64 y.op,.slice Ay y.values.length cy] O O (fun q u hu=>(World.cell?_of_block tj).trans ((DI (wn.drew.alloc (.cells #[] 70)) 70 [.string y.key,.int .i64 y.op,.slice Ay y.values.length cy] (wn.heap.size+1) S') q u hu)) kj.out J J iB ?_;exact D6
 ·go_simp;refine hK _ _ (ak aE (.cells #[.string y.key,.int .i64 y.op,.slice Ay y.values.length cy] 70)) ?_;try simp only [Act.put,pz]
  clear hK K;have cD:=ak aE (.cells #[.string y.key,.int .i64 y.op,.slice Ay y.values.length cy] 70);refine bP 0 O U' O (fun K hK=>?_);go_simp;refine hK _ _ (ak cD (.cells #[] 70)) ?_;try simp only [Act.put,pz]
  clear hK K;have Qz:=ak cD (.cells #[] 70);have KI:=vP (D9 (wn.drew.alloc (.cells #[.string y.key,.int .i64 y.op,.slice Ay y.values.length cy] 70)) 70 3 (wn.heap.size+1) S') (B':=wn.heap.size) J;refine bP 4 O U' O (fun K hK=>?_);refine qQ pu _ _ O ((wn.drew.alloc (.cells #[.string y.key,.int .i64 y.op,.slice Ay y.values.length cy] 70)).alloc (.cells #[] 70)) wn.heap.size _ 0 [] KI O ⟨g,0,none⟩ jj cap ((ds.take (jj * 3))) O N0 (fun q u hu=>(Qz.cell (p:=(⟨g,0,none⟩:Addr).add q) jn).trans (ey.out q u hu)) (fun u hu=>jG.out u (List.mem_of_mem_take hu)) J J fy ?_;intro v5 w5 az cc fG;have br:Below wn.heap.size wn w5:=Below.grown (Qz) cc fy (fun q hq=>(KI.lt q hq).1);refine hK _ _ br ?_;try simp only [Act.put,pz]
  clear hK K;refine bP 7 O U' O (fun K hK=>?_);refine qQ pu _ _ O w5 wn.heap.size v5 _ _ az O ⟨wn.heap.size,0,none⟩ 1 1 [.string y.key,.int .i64 y.op,.slice Ay y.values.length cy] O O (fun q u hu=>(World.cell?_of_block tk).trans ((DI wn.drew 70 [.string y.key,.int .i64 y.op,.slice Ay y.values.length cy] wn.heap.size rfl) q u hu)) kj.out J J iB ?_
  exact D6):P:=h
theorem ud {P:Prop} (h:P:=by
 try simp only [Bool.and_false,Bool.and_true,Bool.false_and,Bool.and_self] at hp
 have HF:=I (dW aq hp);clear hp;go_wp2_with fail
 refine aF _ U' U' (aj _) ?_
 repeat ((first | refine aG O ?_ | refine aH _ O D8 ?_);simp only [Act.put,pz])
 refine aN ?_;intro wn hn;replace hn:=hn.out;obtain ⟨kO,lZ⟩:=ay hn;have km:w.heap.size < wn.heap.size:=sq hn.size;have tm:b' < wn.heap.size:=sq hn.size;try (have ua:wr.heap.size < wn.heap.size:=sq hn.size)
 go_wp2_with (go_at_call 52;refine (jm x _ _ x.aa[j+1].name _ (aJ h bx) Ji.out).mono ?_;rw [HU.out];rintro e w5 ⟨rfl,br⟩;obtain ⟨qX,pr⟩:=ay br;have Es:w.heap.size < w5.heap.size:=(sq br.size);have IV:b' < w5.heap.size:=(sq br.size);(try have vL:wr.heap.size < w5.heap.size:=(sq br.size)))
 go_ret
 exact ⟨by rw [HF.out];rfl,bx⟩):P:=h
theorem ue {P:Prop} (h:P:=by
 have HF:=I (dW aq hp);clear hp;go_wp2_with fail
 refine aF _ U' U' (aj _) ?_
 repeat ((first | refine aG O ?_ | refine aH _ O D' ?_);simp only [Act.put,pz])
 refine aN ?_;intro wn hn;replace hn:=hn.out;obtain ⟨kO,lZ⟩:=ay hn;have km:w.heap.size < wn.heap.size:=sq hn.size;have tm:b < wn.heap.size:=sq hn.size;try (have ua:wr.heap.size < wn.heap.size:=sq hn.size)
 go_wp2_with (go_at_call 52;refine (jm x _ _ x.aa[0].name _ (aJ h bx) Ji.out).mono ?_;rw [HU.out];rintro e w5 ⟨rfl,br⟩;obtain ⟨qX,pr⟩:=ay br;have Es:w.heap.size < w5.heap.size:=(sq br.size);have IV:b < w5.heap.size:=(sq br.size);(try have vL:wr.heap.size < w5.heap.size:=(sq br.size)))
 go_ret
 exact ⟨by rw [HF.out];rfl,bx⟩):P:=h
theorem x5 {P:Prop} (h:P:=by
 rintro e w1 ⟨ds,G,rfl,hO,bo⟩;have hR:=hO.rd;obtain ⟨kM,kN,ND,ny,nC,TD,aw,hGr,NG,TF,TG,xI,uD,xJ⟩:=aO hR;subst aw;clear hGr hR;have cg:=bo.size;simp at cg;have XB:oG w1 (w.heap.size+1+1) [.slice none 0 0,.slice none 0 0,.int .i64 0,.int .i64 0,.int .i64 0,.int .i64 0]:=oG.ext (oG.vM w _ _ [.slice none 0 0,.slice none 0 0,.int .i64 0,.int .i64 0,.int .i64 0,.int .i64 0] 29) bo;have HO:=I (hO.mono (B':=w.heap.size+1+1+1) S');have ap:Below w.heap.size w w1:=ah bS bo;clear hO bo h;try dsimp only
 iterate 8 go_step
 refine ly 29 _ _ rfl (w.heap.size+1+1) 0 [.slice kM R.aa.length kN,.slice ny R.au.length nC,.int .i64 R.next,.int .i64 R.weights.pack,.int .i64 R.weights.spread,.int .i64 R.weights.soft] [.slice none 0 0,.slice none 0 0,.int .i64 0,.int .i64 0,.int .i64 0,.int .i64 0] rfl rfl XB S' U' eC ?_;intro w2 YB OB;replace YB:oG w2 (w.heap.size+1+1) [.slice kM R.aa.length kN,.slice ny R.au.length nC,.int .i64 R.next,.int .i64 R.weights.pack,.int .i64 R.weights.spread,.int .i64 R.weights.soft]:=YB;try dsimp only [Act.put]
 go_wp2;refine bodyPost_ret (v:=.tuple #[.agg #[.slice kM R.aa.length kN,.slice ny R.au.length nC,.int .i64 R.next,.int .i64 R.weights.pack,.int .i64 R.weights.spread,.int .i64 R.weights.soft],.int .i64 cd]) (x6 Tryz.results66 _ (w.heap.size+1+1) [.slice kM R.aa.length kN,.slice ny R.au.length nC,.int .i64 R.next,.int .i64 R.weights.pack,.int .i64 R.weights.spread,.int .i64 R.weights.soft] _ _ rfl rfl YB Tryz.underlying29 rfl U') rfl ?_
 exact Ea):P:=h
theorem x7 {P:Prop} (h:P:=by
 go_wp2_with fail
 refine (gK x _ _ nm _ (aJ h bx) bR).mono ?_;rw [HI.out];rintro e w2 ⟨rfl,ap⟩;obtain ⟨bX,cG⟩:=ay ap;have cj:w.heap.size < w2.heap.size:=(sq ap.size);have kn:w.heap.size+1 < w2.heap.size:=(sq ap.size);have eg:Below w.heap.size w w2:=bx;go_wp2_with fail
 refine (iQ x _ _ nm _ (aJ h bx) vk).mono ?_
 exact Ef):P:=h
theorem x8 {P:Prop} (h:P:=by
 go_wp2_with fail
 refine (gQ x _ _ nm _ (aJ h bx) bR).mono ?_;rw [HI.out];rintro e w2 ⟨rfl,ap⟩;obtain ⟨bX,cG⟩:=ay ap;have cj:w.heap.size < w2.heap.size:=(sq ap.size);have kn:w.heap.size+1 < w2.heap.size:=(sq ap.size);have eg:Below w.heap.size w w2:=bx;go_wp2_with fail
 refine (jm x _ _ nm _ (aJ h bx) vk).mono ?_
 exact Ef):P:=h
theorem x9 {P:Prop} (h:P:=by
 go_wp2_with fail
 skip
 refine aF _ U' U' (aj _) ?_
 repeat ((first | refine aG O ?_ | refine aH _ O DY ?_);simp only [Act.put,pz])
 refine aN ?_;intro wn hn;replace hn:=hn.out;obtain ⟨kO,lZ⟩:=ay hn;have km:w.heap.size < wn.heap.size:=sq hn.size;have tm:b' < wn.heap.size:=sq hn.size;try (have ua:wr.heap.size < wn.heap.size:=sq hn.size)
 exact ub):P:=h
theorem ya {P:Prop} (h:P:=by
 have HS:=I hS;clear hS;have H1:=I he1;clear he1;have H2:=I he2;clear he2;go_wp2_with fail
 refine (yb.out _ bx).mono ?_;rw [HS.out];rintro e w4 ⟨rfl,bu⟩;obtain ⟨fh,hf4⟩:=ay bu;have Wy:w.heap.size < w4.heap.size:=(sq bu.size);have CL:w.heap.size+1 < w4.heap.size:=(sq bu.size);have Eg:w3.heap.size < w4.heap.size:=(sq bu.size);go_wp2_with fail
 refine (vN.out _ bx).mono ?_;rintro e w5 ⟨rfl,br⟩;obtain ⟨qX,pr⟩:=ay br;have Es:w.heap.size < w5.heap.size:=(sq br.size);have IV:w.heap.size+1 < w5.heap.size:=(sq br.size);have vL:w3.heap.size < w5.heap.size:=(sq br.size);go_wp2_with fail
 refine (oQ a p.av _ ha kQ).mono ?_;rw [H1.out];rintro e w6 ⟨rfl,cw⟩;obtain ⟨CI,Xe⟩:=ay cw;have mu:w.heap.size < w6.heap.size:=(sq cw.size);have N1:w.heap.size+1 < w6.heap.size:=(sq cw.size);have N2:w3.heap.size < w6.heap.size:=(sq cw.size);go_wp2_with fail
 refine (oQ b p.mem _ hb lg).mono ?_
 exact Eh):P:=h
theorem Ei {P:Prop} (h:P:=by
 have HN:=I (gq hall.out hp);clear hp;go_wp2_with fail
 skip
 refine aF _ U' U' (aj _) ?_
 repeat ((first | refine aG O ?_ | refine aH _ O Ej ?_);simp only [Act.put,pz])
 refine aN ?_;intro wn hn;replace hn:=hn.out;obtain ⟨kO,lZ⟩:=ay hn;have km:w.heap.size < wn.heap.size:=sq hn.size;have tm:b < wn.heap.size:=sq hn.size;try (have ua:wr.heap.size < wn.heap.size:=sq hn.size)
 have NQ:Below wr.heap.size wr wn:=bx;have DZ:wn.cell? ⟨wr.heap.size,8,none⟩ = some (.int .i64 x.au[0].seq):=by rw [kO _ _ S',cell_of_row _ _ _ _ _ _ (heap_alloc_new wr _)];rfl
 have anN:(0:Nat) < 12:=by omega
 obtain ⟨wo,hwo⟩:∃wo,wo = wr:=⟨_,rfl⟩;subst hwo;go_wp2_with fail
 go_loopw [5] (fun i2 wi=>∃q:Nat,q≤0∧i2 = .int .i64 q∧Hid (∀u∈x.au.take q,(u.seq == x.au[0].seq) = false)∧Below wn.heap.size wn wi) (fun i2 _=>0 - (intOf i2).toNat)
 case atStart=>exact ⟨0,Nat.zero_le _,rfl,by show ∀_,_;simp,aj _⟩
 case round =>
  obtain ⟨q,hq,rfl,HQ,hbi⟩:=hrel;have Fp:Below wo.heap.size wo wr:=ah NQ hbi;have NX:Below w.heap.size w wr:=ah b5 Fp;have ci0:=(ay Fp).1 _ 0 tX |>.trans c0;have ci1:=(ay Fp).1 _ 1 tX |>.trans c1;have ci2:=(ay Fp).1 _ 2 tX |>.trans c2;have ci3:=(ay Fp).1 _ 3 tX |>.trans c3;have ci4:=(ay Fp).1 _ 4 tX |>.trans c4;have ci5:=(ay Fp).1 _ 5 tX |>.trans c5;replace DZ:=r' hbi DZ J;have xY:w.heap.size < wr.heap.size:=by have:=Fp.size;omega
  have hxi:wo.heap.size < wr.heap.size:=by have:=hbi.size;omega
  by_cases hqk:q < 0
  ·exact absurd hqk J
  ·obtain rfl:q = 0:=by omega
   have tp:seenIn (x.au.take (0)) x.au[0].seq = false:=by exact D0
   have Gn:=I (gq hfresh.out (show DN x.au (0) = true by rw [sG aq,tp];rfl));clear tp;go_wp2
   exact ⟨⟨0+1,J,N',HN.out,Gn.out,ah ax Fp⟩,by simp [intOf];omega⟩):P:=h
theorem Ek {P:Prop} (h:P:=by
 rw [HK.out];rintro e w2 ⟨rfl,ap⟩;obtain ⟨bX,cG⟩:=ay ap;have cj:w.heap.size < w2.heap.size:=by have:=ap.size;simp at this;omega
 have et:w2.cell? ⟨w.heap.size,1,none⟩ = some (.int .i64 x.op):=by rw [bX _ _ S',cell_of_row _ _ _ _ _ _ (heap_alloc_new w _)];rfl
 have ni:w2.cell? ⟨w.heap.size,2,none⟩ = some (.slice jy x.values.length ji):=by rw [bX _ _ S',cell_of_row _ _ _ _ _ _ (heap_alloc_new w _)];rfl
 have eg:Below w.heap.size w w2:=bx;clear bX cG;go_wp2;go_ret
 exact ⟨by rw [HF.out];first | rfl | simp_all,eg⟩):P:=h
theorem yd {P:Prop} (h:P:=by
 have h1:jo w6 ls.tail CM []:=by have e:=ye (fun h=>(vO h).2.1) ui;subst e;exact ui.frame (fun b hb=>by cases hb) (by have:=ia.size;have:=fi.size;simp only [World.size_alloc] at *;omega)
 have h2:jo w6 [ls[0]] CN []:=by have e:=ye (fun h=>(vO h).2.1) mv;subst e;exact mv.frame (fun b hb=>by cases hb) fi.size
 have h3:=h1.append h2;obtain ⟨A4,c4,F4,hv6,hS6,hF6⟩:=Sl.q' (xs:=ls.tail++[ls[0]]) (e:=67) (v:=v6) (B:=w3.heap.size) (by have:=R6;simp only [Nat.zero_add,List.nil_append] at this;rw [List.length_append];exact this) h3;have cw:∀y∈F4,w3.heap.size≤y:=fun y hy=>by
  rcases hF6 y hy with h | h
  ·cases h
  ·exact (R6.lt y h).1
 have xZ:rd w6 (ls.tail++[ls[0]]) [.slice A4 (ls.tail++[ls[0]]).length c4] F4:=hS6;rw [tw] at hv6 xZ;subst hv6;have Y6:=kp.out.ext iX;have k6:=Y6.cell (i:=1) (u:=.slice (some ⟨bl,ol,none⟩) ls.length cl) rfl;have f6:=Y6.fz 1;refine hK _ _ iX ?_;try simp only [Act.put,pz]
 clear hK K;refine cq 11 O U' O (fun K hK=>?_);go_simp;refine hK _ _ iX ?_;try simp only [Act.put,pz]
 clear hK K;refine kR U' ?_;refine bP 12 O U' O (fun K hK=>?_);go_simp;refine hK _ _ trivial ?_;try simp only [Act.put,pz]
 clear hK K;refine nR U' ?_
 exact HK _ _ ⟨A4,c4,F4,_,_,_,_,_,_,_,_,_,_,_,_,vQ,(nN.lq _ iX).setCell (p:=⟨w2.heap.size,1,none⟩) (List.mem_singleton.2 rfl) _,Y6.put 1 _,⟨ba.frame xZ (fun b hb=>Below.heap_setCell _ _ _ _ (by have:=cw b hb;dsimp only;omega)) eI,fun b _=>Nat.zero_le b⟩,fun b hb=>by have:=cw b hb;omega⟩):P:=h
theorem yf {P:Prop} (h:P:=by
 go_wp2_with fail
 skip
 refine aF _ U' U' (aj _) ?_
 repeat ((first | refine aG O ?_ | refine aH _ O Ej ?_);simp only [Act.put,pz])
 refine aN ?_;intro wn hn;replace hn:=hn.out;obtain ⟨kO,lZ⟩:=ay hn;have km:w.heap.size < wn.heap.size:=sq hn.size;have tm:b < wn.heap.size:=sq hn.size;try (have ua:wr.heap.size < wn.heap.size:=sq hn.size)
 exact ub):P:=h
theorem El {P:Prop} (h:P:=by
 exact D8):P:=h
theorem yh {P:Prop} (h:P:=by
 have HS:=I hS;clear hS;have H1:=I eS;have H2:=I cG;clear eS cG;go_wp2_with fail
 refine (yb.out _ bx).mono ?_;rw [HS.out];rintro e w4 ⟨rfl,bu⟩;obtain ⟨fh,hf4⟩:=ay bu;have Wy:w.heap.size < w4.heap.size:=(sq bu.size);have CL:w.heap.size+1 < w4.heap.size:=(sq bu.size);have Eg:w3.heap.size < w4.heap.size:=(sq bu.size);go_wp2_with fail
 refine (vN.out _ bx).mono ?_;rintro e w5 ⟨rfl,br⟩;obtain ⟨qX,pr⟩:=ay br;have Es:w.heap.size < w5.heap.size:=(sq br.size);have IV:w.heap.size+1 < w5.heap.size:=(sq br.size);have vL:w3.heap.size < w5.heap.size:=(sq br.size);go_wp2_with fail
 refine (LZ a p.av x.aa[k].av _ ha kQ).mono ?_;rw [H1.out];rintro e w6 ⟨rfl,cw⟩;obtain ⟨CI,Xe⟩:=ay cw;have mu:w.heap.size < w6.heap.size:=(sq cw.size);have N1:w.heap.size+1 < w6.heap.size:=(sq cw.size);have N2:w3.heap.size < w6.heap.size:=(sq cw.size);go_wp2_with fail
 refine (LZ b p.mem x.aa[k].mem _ hb lg).mono ?_
 exact Eh):P:=h
theorem uk {P:Prop} (h:P:=by
 exact xS):P:=h
theorem En {P:Prop} (h:P:=by
 have HC:=I hc;have HN:=I hn;clear hc hn;go_wp2_with fail
 refine (ul x _ _ _ (aZ h bS) HW.out).mono ?_;rintro e w1 ⟨l0,G1,rfl,jX,bo,hRM⟩;obtain ⟨cU,eS⟩:=ay bo;have yi:w.heap.size < w1.heap.size:=sq bo.size;have yj:w.heap.size+1 < w1.heap.size:=sq bo.size;have yk:w.heap.size+1+1 < w1.heap.size:=sq bo.size;have cr:=jX.rd;obtain ⟨dG,bV,xq,dS,dJ,Bz,aw,hG1,oO,tq,wI,iV,gI,iW⟩:=aO cr;subst aw;clear hG1 cr;go_wp2_with fail
 refine (L5 u _ _ _ (aZ h' bS) HU.out).mono ?_;rw [HN.out];rintro e w2 ⟨yl,G2,rfl,bE,ap⟩;obtain ⟨bX,cG⟩:=ay ap;have ym:w.heap.size < w2.heap.size:=sq ap.size;have yn:w.heap.size+1 < w2.heap.size:=sq ap.size;have yo:w.heap.size+1+1 < w2.heap.size:=sq ap.size;have yp:w1.heap.size < w2.heap.size:=sq ap.size;have jH:=bE.rd;obtain ⟨bY,bZ,iq,eU,eX,jV,bg,bn,dK,aw,hG2,jW,dA,kQ,lg,lG,iO,bK⟩:=dL jH;subst aw;clear hG2 jH;go_wp2_with fail
 refine (qM x _ _ _ (aZ h bS) HW.out).mono ?_;rw [HC.out];rintro e w3 ⟨rfl,aR⟩;obtain ⟨dk,hf3⟩:=ay aR;have yq:w.heap.size < w3.heap.size:=sq aR.size;have yr:w.heap.size+1 < w3.heap.size:=sq aR.size;have yt:w.heap.size+1+1 < w3.heap.size:=sq aR.size;have yv:w1.heap.size < w3.heap.size:=sq aR.size;have yz:w2.heap.size < w3.heap.size:=sq aR.size;have HI:=I fj;clear fj;go_wp2_with fail
 refine (CP x _ _ n.name _ (aZ h bS) Ji.out).mono ?_;rw [HI.out];rintro e w4 ⟨rfl,bu⟩;obtain ⟨fh,hf4⟩:=ay bu;have Ep:w.heap.size < w4.heap.size:=sq bu.size;have Er:w.heap.size+1 < w4.heap.size:=sq bu.size;have Eu:w.heap.size+1+1 < w4.heap.size:=sq bu.size;have Ev:w1.heap.size < w4.heap.size:=sq bu.size;have Ew:w2.heap.size < w4.heap.size:=sq bu.size;have nH:Hid (am w4 (w.heap.size+1+1+1) x [.slice dG x.aa.length bV,.slice dS x.au.length dJ,.int .i64 x.next,.int .i64 x.weights.pack,.int .i64 x.weights.spread,.int .i64 x.weights.soft] G1):=I ((((((jX.mono S').alloc _).ext ap).alloc _).ext aR).ext bu);clear jX bE hRM;go_wp2_with fail
 try dsimp only
 iterate 60 (first | go_step | skip)
 refine bodyPost_ret (v:=.tuple #[.agg #[.slice dG x.aa.length bV,.slice dS x.au.length dJ,.int .i64 x.next,.int .i64 x.weights.pack,.int .i64 x.weights.spread,.int .i64 x.weights.soft],.int .i64 4]) (by simp [results,Tryz.results18,go_sem, *]) rfl ?_
 exact yI):P:=h
theorem dr {P:Prop} (h:P:=by
 exact ub):P:=h
theorem Ex {P:Prop} (h:P:=by
 exact D'):P:=h
theorem yJ {P:Prop} (h:P:=by
 have rr:=HS.out.box.lt;go_wp2_with fail
 refine (N3 x _ _ v3 (L6 HX.out HS.out.below) iY cK tx hv).mono ?_;rintro e w8 ⟨N4,G8,rfl,sV,gM⟩;have T8:=HS.out.ext gM;have SY:=sV;obtain ⟨rc,aHA,aJp,aIC,aID,aBA,aHF,aHG,aJF,ayd,hF9,aye,aJq,aAR,aAS,aDs,aBB,aJG⟩:=dL sV.rd;subst ayd;clear hF9 sV;obtain ⟨r0,r1,r2,r3,r4,r5,r6⟩:=re T8.rb;have rf:=T8.rb.fz;have rl:=T8.rb.lt;have nH:=I SY;have CR:=I T8;have N5:w.heap.size+1 < v3.heap.size:=HS.out.rb.lt;clear SY T8 gM;go_wp2_with fail
 try dsimp only
 iterate 60 (first | go_step | skip)
 refine bodyPost_ret (v:=.tuple #[.agg #[.string x.name,.slice rc x.labels.length aHA,.int .i64 x.av,.int .i64 x.mem,.int .i64 x.ar,.slice aIC x.ag.length aID,.slice aHF x.ae.length aHG],.bool false]) (by simp [results,Tryz.results9,go_sem, *]) rfl ⟨[.string x.name,.slice rc x.labels.length aHA,.int .i64 x.av,.int .i64 x.mem,.int .i64 x.ar,.slice aIC x.ag.length aID,.slice aHF x.ae.length aHG],G8,by rw [oF.out];try rfl,?_,?_⟩
 ·rw [oF.out];refine am.mono (B:=v3.heap.size) ?_ J;exact CS
 ·exact L7):P:=h
theorem Ey {P:Prop} (h:P:=by
 have HC:=I hc;have HN:=I hn;clear hc hn;go_wp2_with fail
 refine (ul x _ _ _ (aZ h bS) HW.out).mono ?_;rintro e w1 ⟨l0,G1,rfl,jX,bo,hRM⟩;obtain ⟨cU,eS⟩:=ay bo;have yi:w.heap.size < w1.heap.size:=sq bo.size;have yj:w.heap.size+1 < w1.heap.size:=sq bo.size;have yk:w.heap.size+1+1 < w1.heap.size:=sq bo.size;have cr:=jX.rd;obtain ⟨dG,bV,xq,dS,dJ,Bz,aw,hG1,oO,tq,wI,iV,gI,iW⟩:=aO cr;subst aw;clear hG1 cr;go_wp2_with fail
 refine (L5 u _ _ _ (aZ h' bS) HU.out).mono ?_;rw [HN.out];rintro e w2 ⟨yl,G2,rfl,bE,ap⟩;obtain ⟨bX,cG⟩:=ay ap;have ym:w.heap.size < w2.heap.size:=sq ap.size;have yn:w.heap.size+1 < w2.heap.size:=sq ap.size;have yo:w.heap.size+1+1 < w2.heap.size:=sq ap.size;have yp:w1.heap.size < w2.heap.size:=sq ap.size;have jH:=bE.rd;obtain ⟨bY,bZ,iq,eU,eX,jV,bg,bn,dK,aw,hG2,jW,dA,kQ,lg,lG,iO,bK⟩:=dL jH;subst aw;clear hG2 jH;go_wp2_with fail
 refine (qM x _ _ _ (aZ h bS) HW.out).mono ?_;rw [HC.out];rintro e w3 ⟨rfl,aR⟩;obtain ⟨dk,hf3⟩:=ay aR;have yq:w.heap.size < w3.heap.size:=sq aR.size;have yr:w.heap.size+1 < w3.heap.size:=sq aR.size;have yt:w.heap.size+1+1 < w3.heap.size:=sq aR.size;have yv:w1.heap.size < w3.heap.size:=sq aR.size;have yz:w2.heap.size < w3.heap.size:=sq aR.size;have nH:Hid (am w3 (w.heap.size+1+1+1) x [.slice dG x.aa.length bV,.slice dS x.au.length dJ,.int .i64 x.next,.int .i64 x.weights.pack,.int .i64 x.weights.spread,.int .i64 x.weights.soft] G1):=I (((((jX.mono S').alloc _).ext ap).alloc _).ext aR);clear jX bE hRM;go_wp2_with fail
 try dsimp only
 iterate 60 (first | go_step | skip)
 refine bodyPost_ret (v:=.tuple #[.agg #[.slice dG x.aa.length bV,.slice dS x.au.length dJ,.int .i64 x.next,.int .i64 x.weights.pack,.int .i64 x.weights.spread,.int .i64 x.weights.soft],.int .i64 1]) (by simp [results,Tryz.results18,go_sem, *]) rfl ?_
 exact yI):P:=h
theorem Ez {P:Prop} (h:P:=by
 exact xX):P:=h
theorem EA {P:Prop} (h:P:=by
 exact x4):P:=h
theorem EB {P:Prop} (h:P:=by
 have HC:=I hc;have HN:=I hn;clear hc hn;go_wp2_with fail
 refine (ul x _ _ _ (aZ h bS) HW.out).mono ?_;rintro e w1 ⟨l0,G1,rfl,jX,bo,hRM⟩;obtain ⟨cU,eS⟩:=ay bo;have yi:w.heap.size < w1.heap.size:=sq bo.size;have yj:w.heap.size+1 < w1.heap.size:=sq bo.size;have yk:w.heap.size+1+1 < w1.heap.size:=sq bo.size;have cr:=jX.rd;obtain ⟨dG,bV,xq,dS,dJ,Bz,aw,hG1,oO,tq,wI,iV,gI,iW⟩:=aO cr;subst aw;clear hG1 cr;go_wp2_with fail
 refine (L8 u _ _ _ (aZ h' bS) HU.out).mono ?_;rw [HN.out];rintro e w2 ⟨yl,G2,rfl,bE,ap⟩;obtain ⟨bX,cG⟩:=ay ap;have ym:w.heap.size < w2.heap.size:=sq ap.size;have yn:w.heap.size+1 < w2.heap.size:=sq ap.size;have yo:w.heap.size+1+1 < w2.heap.size:=sq ap.size;have yp:w1.heap.size < w2.heap.size:=sq ap.size;have jH:=bE.rd;obtain ⟨bY,bZ,iq,wP,wQ,Qe,aw,hG2,jW,dA,kQ,lg,Nh,Bd⟩:=iy jH;subst aw;clear hG2 jH;go_wp2_with fail
 refine (qM x _ _ _ (aZ h bS) HW.out).mono ?_;rw [HC.out];rintro e w3 ⟨rfl,aR⟩;obtain ⟨dk,hf3⟩:=ay aR;have yq:w.heap.size < w3.heap.size:=sq aR.size;have yr:w.heap.size+1 < w3.heap.size:=sq aR.size;have yt:w.heap.size+1+1 < w3.heap.size:=sq aR.size;have yv:w1.heap.size < w3.heap.size:=sq aR.size;have yz:w2.heap.size < w3.heap.size:=sq aR.size;have nH:Hid (am w3 (w.heap.size+1+1+1) x [.slice dG x.aa.length bV,.slice dS x.au.length dJ,.int .i64 x.next,.int .i64 x.weights.pack,.int .i64 x.weights.spread,.int .i64 x.weights.soft] G1):=I (((((jX.mono S').alloc _).ext ap).alloc _).ext aR);clear jX bE hRM;go_wp2_with fail
 try dsimp only
 iterate 60 (first | go_step | skip)
 refine bodyPost_ret (v:=.tuple #[.agg #[.slice dG x.aa.length bV,.slice dS x.au.length dJ,.int .i64 x.next,.int .i64 x.weights.pack,.int .i64 x.weights.spread,.int .i64 x.weights.soft],.int .i64 1]) (by simp [results,Tryz.results145,go_sem, *]) rfl ?_
 exact EC):P:=h
theorem EE {P:Prop} (h:P:=by
 have bR:(f' k (d' x n) x.au).length = x.au.length+1:=by rw [yK]
 obtain ⟨A9,c9,F9,hv9,SY,hF9⟩:=am.L9 (xs:=f' k (d' x n) x.au) L' (l4.out.keep (fun y hy=>pv.out y (kq.out y hy).1) J) (fun q hq hm=>by have:=(l5.out.lt q hq).1;have:=(kq.out q hm).1;omega);rw [bR] at hv9 SY;simp only [Value.slice.injEq,true_and] at hv9;obtain ⟨rfl,rfl⟩:=hv9
 have vR:=I (am.Ma (uo.out.keep (fun y hy=>pv.out y (by have:=pw.out y hy;omega)) J) SY (fun y hm hy=>by
  rcases hF9 y hy with h9 | h9
  ·exact (kq.out y h9).2.2 hm
  ·have:=(l5.out.lt y h9).1;have:=pw.out y hm;omega) (show bp (x.next+1) by unfold bp;omega) iV gI iW)
 have px:=I (show ∀y∈Gh++F9,y≠w1.heap.size from fun y hy=>by
  rcases List.mem_append.1 hy with hy | hy
  ·have:=pw.out y hy;omega
  ·rcases hF9 y hy with h9 | h9
   ·exact (kq.out y h9).2.1
   ·have:=(l5.out.lt y h9).1;omega)
 have XA:=qn.out;clear SY hF9;try dsimp only
 iterate 90 (first | go_step | skip)
 refine bodyPost_ret (v:=.tuple #[.agg #[.slice dG x.aa.length bV,.slice (some ⟨g8,0,none⟩) (x.au.length+1) p8,.int .i64 (x.next+1),.int .i64 x.weights.pack,.int .i64 x.weights.spread,.int .i64 x.weights.soft],.int .i64 0]) (by simp [results,Tryz.results18,go_sem, *]) rfl ?_;rw [HF.out,← ur.out];first | refine ⟨[.slice dG x.aa.length bV,.slice (some ⟨g8,0,none⟩) (x.au.length+1) p8,.int .i64 (x.next+1),.int .i64 x.weights.pack,.int .i64 x.weights.spread,.int .i64 x.weights.soft],Gh++F9,rfl,?_,?_⟩ | refine ⟨[.slice dG x.aa.length bV,.slice (some ⟨g8,0,none⟩) (x.au.length+1) p8,.int .i64 (x.next+1),.int .i64 x.weights.pack,.int .i64 x.weights.spread,.int .i64 x.weights.soft],rfl,⟨Gh++F9,?_⟩,?_⟩
 ·exact ut
 ·exact rh):P:=h
theorem EG {P:Prop} (h:P:=by
 have HF:=I (show setW x u = (x,1) by unfold setW;rw [hc,iZ];simp);have HC:=I hc;have Du:=I iZ;clear hc iZ;go_enter Tryz.func109,Tryz.ntmps109;go_wp2_with fail
 refine (BO x _ _ _ (aZ h bS) HW.out).mono ?_;rintro e w1 ⟨l0,G1,rfl,jX,bo⟩;have cr:=jX.rd;obtain ⟨dG,bV,xq,dS,dJ,Bz,aw,hG1,oO,tq,wI,iV,gI,iW⟩:=aO cr;subst aw;clear hG1 cr;obtain ⟨cU,eS⟩:=ay bo;have VQ:w.heap.size < w1.heap.size:=sq bo.size;have mw:w.heap.size+1 < w1.heap.size:=sq bo.size;have Tv:w.heap.size+1+1 < w1.heap.size:=sq bo.size;have fT:=jX.lt;go_wp2_with fail
 refine (qM x _ _ _ (aZ h bS) HW.out).mono ?_;rw [HC.out];rintro e w2 ⟨rfl,ap⟩;obtain ⟨bX,cG⟩:=ay ap;have VR:w.heap.size < w2.heap.size:=sq ap.size;have mx:w.heap.size+1 < w2.heap.size:=sq ap.size;have Tw:w.heap.size+1+1 < w2.heap.size:=sq ap.size;have VT:w1.heap.size < w2.heap.size:=sq ap.size;have bE:am w2 (w.heap.size+1+1+1) x [.slice dG x.aa.length bV,.slice dS x.au.length dJ,.int .i64 x.next,.int .i64 x.weights.pack,.int .i64 x.weights.spread,.int .i64 x.weights.soft] G1:=((jX.mono S').alloc _).ext ap
 exact EH):P:=h
theorem EL {P:Prop} (h:P:=by
 have h2:jo w6 [ns[0]] CN G6:=mv.frame (fun b hb=>fi.block b (mv.lt b hb) (fun hv=>by
  have h4:=et b hv.symm;rcases N6 b hb with h | h
  ·simp only [World.size_alloc] at *;omega
  ·have:=CT.out.lt b h;omega)) fi.size
 have h3:=h1.append h2;have hl6:(ns.tail++[ns[0]]).length = ns.length - 1+[ns[0]].length:=by simp
 obtain ⟨A6,c6,F6,hv6,hS6,hF6⟩:=Sl.q' (xs:=ns.tail++[ns[0]]) (e:=70) (v:=v6) (by rw [hl6];exact R6) h3;have cw:∀y∈F6,y≠w.heap.size∧y≠w2.heap.size:=fun y hy=>by
  rcases hF6 y hy with h | h
  ·rcases List.mem_append.1 h with h | h
   ·have:=vW.out.base y h;omega
   ·rcases N6 y h with h | h
    ·simp only [World.size_alloc] at *;omega
    ·exact BN.out y h
  ·have:=(R6.lt y h).1;omega
 have xZ:rd w6 (ns.tail++[ns[0]]) [.slice A6 (ns.tail++[ns[0]]).length c6] F6:=hS6;rw [tw] at hv6 xZ;subst hv6;have Y6:=kW.out.ext iX;have k6:=Y6.cell (i:=5) (u:=.slice (some ⟨bl,ol,none⟩) ns.length cn) rfl;have f6:=Y6.fz 5;refine hK _ _ iX ?_;try simp only [Act.put,pz]
 clear hK K;refine cq 10 O U' O (fun K hK=>?_);go_simp;refine hK _ _ iX ?_;try simp only [Act.put,pz]
 clear hK K;refine kR U' ?_;refine bP 11 O U' O (fun K hK=>?_);go_simp;refine hK _ _ trivial ?_;try simp only [Act.put,pz]
 clear hK K;refine nR U' ?_
 exact HK _ _ ⟨A6,c6,F6,_,_,_,_,_,_,_,_,_,_,_,vQ,(nN.lq _ iX).setCell (p:=⟨w2.heap.size,5,none⟩) (List.mem_singleton.2 rfl) _,Y6.put 5 _,⟨ba.frame xZ (fun b hb=>Below.heap_setCell _ _ _ _ (by have:=cw b hb;dsimp only;omega)) eI,fun b _=>Nat.zero_le b⟩,cw⟩):P:=h
theorem EM {P:Prop} (h:P:=by
 rintro e w1 ⟨ds,G,rfl,hO,bo⟩;have hR:=hO.rd;obtain ⟨kM,kN,ND,ny,nC,TD,aw,hGr,NG,TF,TG,xI,uD,xJ⟩:=aO hR;subst aw;clear hGr hR;have cg:=bo.size;simp at cg;have XB:oG w1 (w.heap.size+1+1) [.slice none 0 0,.slice none 0 0,.int .i64 0,.int .i64 0,.int .i64 0,.int .i64 0]:=oG.ext (oG.vM w _ _ [.slice none 0 0,.slice none 0 0,.int .i64 0,.int .i64 0,.int .i64 0,.int .i64 0] 29) bo;have HO:=I (hO.mono (B':=w.heap.size+1+1+1) S');have ap:Below w.heap.size w w1:=ah bS bo;clear hO bo h;try dsimp only
 iterate 8 go_step
 refine ly 29 _ _ rfl (w.heap.size+1+1) 0 [.slice kM R.aa.length kN,.slice ny R.au.length nC,.int .i64 R.next,.int .i64 R.weights.pack,.int .i64 R.weights.spread,.int .i64 R.weights.soft] [.slice none 0 0,.slice none 0 0,.int .i64 0,.int .i64 0,.int .i64 0,.int .i64 0] rfl rfl XB S' U' eC ?_;intro w2 YB OB;replace YB:oG w2 (w.heap.size+1+1) [.slice kM R.aa.length kN,.slice ny R.au.length nC,.int .i64 R.next,.int .i64 R.weights.pack,.int .i64 R.weights.spread,.int .i64 R.weights.soft]:=YB;try dsimp only [Act.put]
 go_wp2;refine bodyPost_ret (v:=.tuple #[.agg #[.slice kM R.aa.length kN,.slice ny R.au.length nC,.int .i64 R.next,.int .i64 R.weights.pack,.int .i64 R.weights.spread,.int .i64 R.weights.soft],.int .i64 cd]) (x6 Tryz.results104 _ (w.heap.size+1+1) [.slice kM R.aa.length kN,.slice ny R.au.length nC,.int .i64 R.next,.int .i64 R.weights.pack,.int .i64 R.weights.spread,.int .i64 R.weights.soft] _ _ rfl rfl YB Tryz.underlying29 rfl U') rfl ?_
 exact Ea):P:=h
theorem EN {P:Prop} (h:P:=by
 have bR:(f' k n x.aa).length = x.aa.length+1:=by rw [yK]
 obtain ⟨A9,c9,F9,hv9,SY,hF9⟩:=am.L9 (xs:=f' k n x.aa) L' (l4.out.keep (fun y hy=>pv.out y (kq.out y hy).1) J) (fun q hq hm=>by have:=(l5.out.lt q hq).1;have:=(kq.out q hm).1;omega);rw [bR] at hv9 SY;simp only [Value.slice.injEq,true_and] at hv9;obtain ⟨rfl,rfl⟩:=hv9
 have vR:=I (am.Ma SY (uo.out.keep (fun y hy=>pv.out y (by have:=nJ.out y hy;omega)) J) (fun y hy=>by
  rcases hF9 y hy with h9 | h9
  ·exact (kq.out y h9).2.2
  ·have:=(l5.out.lt y h9).1;exact fun hm=>by have:=nJ.out y hm;omega) wI iV gI iW)
 have px:=I (show ∀y∈F9++Gp,y≠w1.heap.size from fun y hy=>by
  rcases List.mem_append.1 hy with hy | hy
  ·rcases hF9 y hy with h9 | h9
   ·exact (kq.out y h9).2.1
   ·have:=(l5.out.lt y h9).1;omega
  ·have:=nJ.out y hy;omega)
 have XA:=qn.out;clear SY hF9;try dsimp only
 iterate 60 (first | go_step | skip)
 refine bodyPost_ret (v:=.tuple #[.agg #[.slice (some ⟨g8,0,none⟩) (x.aa.length+1) p8,.slice dS x.au.length dJ,.int .i64 x.next,.int .i64 x.weights.pack,.int .i64 x.weights.spread,.int .i64 x.weights.soft],.int .i64 0]) (by simp [results,Tryz.results145,go_sem, *]) rfl ?_;rw [HF.out,← ur.out];refine ⟨[.slice (some ⟨g8,0,none⟩) (x.aa.length+1) p8,.slice dS x.au.length dJ,.int .i64 x.next,.int .i64 x.weights.pack,.int .i64 x.weights.spread,.int .i64 x.weights.soft],F9++Gp,rfl,?_,?_⟩
 ·exact ut
 ·exact rh):P:=h
theorem uu {P:Prop} (h:P:=by
 refine aN ?_;intro wn hn;replace hn:=hn.out;go_wp2;refine ⟨⟨s1++[z],s2,jj+1,I yL,N',I Tx,I (fun z' hz=>?_),ah bF hn⟩,by simp [intOf];omega⟩;rcases List.mem_append.1 hz with hz | hz
 ·exact HN.out z' hz
 ·rw [List.mem_singleton.1 hz];exact HL.out):P:=h
theorem uv {P:Prop} (h:P:=by
 rw [HF.out]
 first
  | refine ⟨[.slice dG x.aa.length bV,.slice dS x.au.length dJ,.int .i64 x.next,.int .i64 x.weights.pack,.int .i64 x.weights.spread,.int .i64 x.weights.soft],G1,rfl,?_,?_⟩
  | refine ⟨[.slice dG x.aa.length bV,.slice dS x.au.length dJ,.int .i64 x.next,.int .i64 x.weights.pack,.int .i64 x.weights.spread,.int .i64 x.weights.soft],rfl,⟨G1,?_⟩,?_⟩
 ·try dsimp only
  refine am.mono (B:=w.heap.size+1+1) ?_ J;have hO:=HO.out;exact Ty
 ·have hB:=HB.out
  exact TA):P:=h
theorem ux {P:Prop} (h:P:=by
 go_enter Tryz.func20,Tryz.ntmps20;go_wp2_with fail
 rw [ri.out]
 go_wp2_with (first
  | (go_at_call 48;refine (kH x.next 1 1000000000 _).mono ?_;rw [Jf.out];rintro e w1 ⟨rfl,oI⟩;simp only [← oI];clear oI w1)
  | (go_at_call 49;refine (pW x.weights.pack x.weights.spread x.weights.soft _).mono ?_;rw [Du.out];rintro e w2 ⟨rfl,ap⟩;obtain ⟨bX,cG⟩:=ay ap;have cj:w.heap.size < w2.heap.size:=(sq ap.size)))
 go_ret
 exact ⟨by rw [HF.out];rfl,bx⟩):P:=h
theorem uy {P:Prop} (h:P:=by
 rw [HF.out]
 first
  | refine ⟨[.slice dG x.aa.length bV,.slice dS x.au.length dJ,.int .i64 x.next,.int .i64 x.weights.pack,.int .i64 x.weights.spread,.int .i64 x.weights.soft],G1,rfl,?_,?_⟩
  | refine ⟨[.slice dG x.aa.length bV,.slice dS x.au.length dJ,.int .i64 x.next,.int .i64 x.weights.pack,.int .i64 x.weights.spread,.int .i64 x.weights.soft],rfl,⟨G1,?_⟩,?_⟩
 ·try dsimp only
  refine am.mono (B:=w.heap.size+1+1) ?_ J;exact TB
 ·exact rh):P:=h
theorem EO {P:Prop} (h:P:=by
 try dsimp only [Act.put]
 iterate 5 go_step
 refine ly 29 _ _ rfl (w.heap.size+1+1) 0 [.slice kM R.aa.length kN,.slice ny R.au.length nC,.int .i64 R.next,.int .i64 R.weights.pack,.int .i64 R.weights.spread,.int .i64 R.weights.soft] [.slice none 0 0,.slice none 0 0,.int .i64 0,.int .i64 0,.int .i64 0,.int .i64 0] rfl rfl TC S' U' eC ?_;intro w3 ZB OZ;replace ZB:oG w3 (w.heap.size+1+1) [.slice kM R.aa.length kN,.slice ny R.au.length nC,.int .i64 R.next,.int .i64 R.weights.pack,.int .i64 R.weights.spread,.int .i64 R.weights.soft]:=ZB;try dsimp only [Act.put]
 go_wp2;refine bodyPost_ret (v:=.tuple #[.agg #[.slice kM R.aa.length kN,.slice ny R.au.length nC,.int .i64 R.next,.int .i64 R.weights.pack,.int .i64 R.weights.spread,.int .i64 R.weights.soft],.int .i64 cd]) (x6 Tryz.results66 _ (w.heap.size+1+1) [.slice kM R.aa.length kN,.slice ny R.au.length nC,.int .i64 R.next,.int .i64 R.weights.pack,.int .i64 R.weights.spread,.int .i64 R.weights.soft] _ _ rfl rfl ZB Tryz.underlying29 rfl U') rfl ?_
 exact ⟨[.slice kM R.aa.length kN,.slice ny R.au.length nC,.int .i64 R.next,.int .i64 R.weights.pack,.int .i64 R.weights.spread,.int .i64 R.weights.soft],G,rfl,(((HO.out.only OB (fun b hb=>by have:=yM.out b hb;omega))).only OZ (fun b hb=>by have:=HO.out.base b hb;omega)).mono (B':=w.heap.size) J,CU (CU HB.out OB J) OZ J⟩):P:=h
theorem yN {P:Prop} (h:P:=by
 intro wq hq;have dC:=(aB hq).1;have lJ:=(aB hq).2;go_simp
 first
  | exact ⟨hq,rfl⟩
  | (refine (Kq x p _ _ _ _ z _ (aJ TE.out (ah qq.out hq)) (aJ TH.out (ah qq.out hq)) HW.out Uc.out).mono ?_;rintro e wz ⟨rfl,ga⟩;rw [EP.out];exact ⟨rfl,aI hq ga⟩)
  | (simp only [↓IntWalk.iteOmega];exact ⟨hq,rfl⟩)):P:=h
theorem EQ {P:Prop} (h:P:=by
 have HF:=I (show oH nm x p = 3 by rw [rj.out,if_neg (by simp [hS]),if_neg hu,if_pos eS]);have HS:=I hS;clear hS;have H1:=I he1;clear he1;go_wp2_with fail
 refine (yb.out _ bx).mono ?_;rw [HS.out];rintro e w4 ⟨rfl,bu⟩;obtain ⟨fh,hf4⟩:=ay bu;have Wy:w.heap.size < w4.heap.size:=(sq bu.size);have CL:w.heap.size+1 < w4.heap.size:=(sq bu.size);have Eg:w3.heap.size < w4.heap.size:=(sq bu.size);go_wp2_with fail
 refine (vN.out _ bx).mono ?_;rintro e w5 ⟨rfl,br⟩;obtain ⟨qX,pr⟩:=ay br;have Es:w.heap.size < w5.heap.size:=(sq br.size);have IV:w.heap.size+1 < w5.heap.size:=(sq br.size);have vL:w3.heap.size < w5.heap.size:=(sq br.size);go_wp2_with fail
 refine (oQ a p.av _ ha kQ).mono ?_;rw [H1.out];rintro e w6 ⟨rfl,cw⟩;obtain ⟨CI,Xe⟩:=ay cw;have mu:w.heap.size < w6.heap.size:=(sq cw.size);have N1:w.heap.size+1 < w6.heap.size:=(sq cw.size);have N2:w3.heap.size < w6.heap.size:=(sq cw.size)
 exact yP):P:=h
theorem yU {P:Prop} (h:P:=by
 obtain ⟨u,b⟩:=R;rintro e w5 ⟨A6,c6,G6,rfl,iD,cw,Jg⟩;have fI:=I (fk.out.ext cw);have nj:=I (lz.out.ext cw);have TI:=I (ER.out.ext cw);replace Jg:=I Jg;have jp:=I (iC.out.jt cw J);replace iD:=I (iD.mono (B':=w.heap.size) J);have N8:(k:Int)+1≤2:=by omega
 exact ES):P:=h
theorem ET {P:Prop} (h:P:=by
 have eT:∀y,y < wn.heap.size→w8.heap[y]? = wn.heap[y]?:=fun y hy=>(cN.block y J (fun e=>by have:=(nK.lt y e.symm).1;omega)).trans (bz.block y hy);have rm:=cN.size;obtain ⟨FI,hOI,hFI⟩:=yV.out.ins yW.out HDJ.out jj (by have:=cT.out;omega);have EU:∀y∈FI,y < wn.heap.size:=fun y hy=>by
  rcases hFI y hy with h9 | h9
  ·exact yV.out.lt y h9
  ·exact yW.out.lt y h9
 refine ⟨⟨k+1,N+1,g8,p8,_,FI,J,J,N',rfl,I ?_,I ?_,I (vP Le (B':=w.heap.size) ka.out.size),I ?_,I ?_,?_⟩,by simp [intOf];omega⟩
 ·rw [Jf.out,HI.out,yK,cT.out]
 ·intro j hj oL;exact EV
 ·rw [Jf.out,HI.out];exact hOI.keep (fun y hy=>eT y (EU y hy)) J
 ·exact fun hm=>by have:=EU g8 hm;omega
 ·exact Below.grown (ka.out.trans (bz.mono ka.out.size)) cN (by have:=ka.out.size;omega) (fun q hq=>by have:=(nK.lt q hq).1;have:=ka.out.size;omega)):P:=h
theorem EX {P:Prop} (h:P:=by
 have rr:=HS.out.box.lt;go_wp2_with fail
 refine (Oc x _ _ v2 (L6 HX.out HS.out.below) iY cK).mono ?_;rintro e w8 ⟨N4,G8,rfl,sV,gM⟩;have T8:=HS.out.ext gM;have SY:=sV;obtain ⟨rc,aHA,aJp,aIQ,aIR,aCm,ayd,hF9,aye,aJq,aAR,aAS,aDQ,aCn⟩:=iy sV.rd;subst ayd;clear hF9 sV;obtain ⟨r0,r1,r2,r3,r4,r5⟩:=dp T8.rb;have rf:=T8.rb.fz;have rl:=T8.rb.lt;have nH:=I SY;have CR:=I T8;have N5:w.heap.size+1 < v2.heap.size:=HS.out.rb.lt;clear SY T8 gM;go_wp2_with fail
 try dsimp only
 iterate 60 (first | go_step | skip)
 refine bodyPost_ret (v:=.tuple #[.agg #[.string x.name,.slice rc x.labels.length aHA,.int .i64 x.av,.int .i64 x.mem,.int .i64 x.slots,.slice aIQ x.aT.length aIR],.bool false]) (by simp [results,Tryz.results159,go_sem, *]) rfl ⟨[.string x.name,.slice rc x.labels.length aHA,.int .i64 x.av,.int .i64 x.mem,.int .i64 x.slots,.slice aIQ x.aT.length aIR],G8,by rw [oF.out];try rfl,?_,?_⟩
 ·rw [oF.out];refine am.mono (B:=v2.heap.size) ?_ J;exact CS
 ·exact L7):P:=h
theorem E0 {P:Prop} (h:P:=by
 rcases h0 with ⟨hl,⟨rfl,hn⟩ | ⟨g,cap,dy,rfl,hb,hh,eM,hm,cA,ht⟩⟩
 ·obtain rfl:xs = []:=List.eq_nil_of_length_eq_zero hn;exact ⟨none,0,[],rfl,⟨Sl.nil w none 0 (Nat.zero_le _),List.nodup_nil,(fun b hb=>by cases hb),(fun b hb=>by cases hb)⟩,(fun b hb=>by cases hb)⟩
 ·have hg:g < w.heap.size:=by
   exact E4
  refine ⟨_,cap,g :: F,rfl,⟨⟨_,cap,F,ds,rfl,eM,hm,h.rd,.inr ⟨g,0,rfl,rfl,hg,fun j u hu=>?_⟩⟩,?_,?_,?_⟩,fun y hy=>?_⟩
  ·rw [Nat.zero_add,cell_of_row w g j dy e (0,0) hh];exact yX
  ·rw [List.nodup_cons];exact ⟨bN g rfl,h.nodup⟩
  ·intro b ei;rcases List.mem_cons.1 ei with rfl | ei
   ·exact hb
   ·exact h.base b ei
  ·exact E6
  ·rcases List.mem_cons.1 hy with rfl | hy
   ·exact .inr rfl
   ·exact .inl hy):P:=h
theorem yZ {P:Prop} (h:P:=by
 rw [HF.out]
 first
  | refine ⟨[.slice dG x.aa.length bV,.slice dS x.au.length dJ,.int .i64 x.next,.int .i64 x.weights.pack,.int .i64 x.weights.spread,.int .i64 x.weights.soft],G1,rfl,?_,?_⟩
  | refine ⟨[.slice dG x.aa.length bV,.slice dS x.au.length dJ,.int .i64 x.next,.int .i64 x.weights.pack,.int .i64 x.weights.spread,.int .i64 x.weights.soft],rfl,⟨G1,?_⟩,?_⟩
 ·try dsimp only
  refine am.mono (B:=w.heap.size+1+1) ?_ J;have hO:=gb.out;exact TJ
 ·have hB:=Od.out
  exact TK):P:=h
theorem rp {P:Prop} (h:P:=by
 exact yP):P:=h
theorem y8 {P:Prop} (h:P:=by
 simp only [Value.slice.injEq,true_and] at kX;obtain ⟨Oe,dk⟩:=kX;subst Oe dk;have gz:=I hO3;clear hO3;go_wp2_with fail
 refine kr.out.mono ?_;rw [oM.out];rintro e w4 ⟨rfl,bu⟩;have iF:=I bu;clear bu;go_wp2;go_ret2
 exact ⟨A2,c2,G3,by rw [HR.out];try rfl,by rw [HR.out];exact (gz.out.ext CW.out).ext iF.out,py.out.trans (iF.out.mono py.out.size),fun hh=>absurd hh E7⟩):P:=h
theorem E9 {P:Prop} (h:P:=by
 have bB:k = x.aa.length:=by omega
 subst bB;rw [List.take_length] at bd cA;have b5:Below w.heap.size w wr:=ah l6 ax;obtain ⟨Al,cl,Gl,rfl,ju⟩:=am.oJ bd ((aY.keep cA (fun b hb=>by cases hb) b5.size)) (fun _ _ hb=>by cases hb);have y9:=LY x p x.aa;clear bd cA;have hK:=(ay ax).1;replace c0:=(hK _ _ cL).trans c0;replace c1:=(hK _ _ cL).trans c1;replace c2:=(hK _ _ cL).trans c2;replace c3:=(hK _ _ cL).trans c3;replace c4:=(hK _ _ cL).trans c4;replace c5:=(hK _ _ cL).trans c5;replace d0:=(hK _ _ cg).trans d0;replace d1:=(hK _ _ cg).trans d1;replace d2:=(hK _ _ cg).trans d2;replace d3:=(hK _ _ cg).trans d3;replace d4:=(hK _ _ cg).trans d4;replace d5:=(hK _ _ cg).trans d5;replace d6:=(hK _ _ cg).trans d6;clear hK;go_wp2;go_ret
 exact ⟨Al,cl,Gl,rfl,ju.mono J,b5⟩):P:=h
theorem rq {P:Prop} (h:P:=by
 exact Below.grown (ah l7.out bz) cN awR (fun q hq=>by have:=(nK.lt q hq).1;have:=l7.out.size;omega)):P:=h
theorem E' {P:Prop} (h:P:=by
 rw [oM.out];rintro e w4 ⟨rfl,bu⟩;have iF:=I bu;clear bu;go_wp2;go_ret2
 exact ⟨some ⟨g,0,none⟩,cap,G4,by rw [HR.out,cT.out];try rfl,by rw [HR.out];exact lz.out.ext iF.out,py.out.trans (iF.out.mono py.out.size),fun _=>l8.out.ext iF.out⟩):P:=h
theorem Fc {P:Prop} (h:P:=by
 exact EC):P:=h
theorem uz {P:Prop} (h:P:=by
 exact ⟨[.slice kM x.aa.length kN,.slice ny x.au.length nC,.int .i64 x.next,.int .i64 x.weights.pack,.int .i64 x.weights.spread,.int .i64 x.weights.soft],G,rfl,(HO.out.only OB (fun b hb=>by have:=HO.out.base b hb;omega)).mono (B':=w.heap.size) J,CU ap OB J⟩):P:=h
theorem Fe {P:Prop} (h:P:=by
 obtain ⟨k,hk,rfl,HN,ax⟩:=hrel;by_cases aq:k < xs.length
 ·obtain ⟨b,o,ck,Fk,rfl,o9,bc,hr,bv,hc⟩:=(Sl.ext (w':=wr) (A:=A) (c:=c) h ax).get aq;obtain ⟨aw,su,b8,kP⟩:=vO hr;subst aw;obtain ⟨q0,q1⟩:=Mb 2 hc;clear hc;cases hp:JO key xs[k] with
  | true =>
    have HF:=I (adM aq HN.out hp);unfold JO at hp;go_wp2;go_returns
    exact ⟨by rw [HF.out];rfl,bx⟩
  | false =>have Gn:=I (yQ aq HN.out hp);unfold JO at hp;go_wp2;exact ⟨⟨k+1,J,N',Gn.out,bx⟩,by simp [intOf];omega⟩
 ·have bB:k = xs.length:=by omega
  subst bB;have hn:=HN.out;rw [List.take_length] at hn;have HF:=I (agB hn);clear hn;go_wp2;go_returns
  exact ⟨by rw [HF.out];rfl,bx⟩):P:=h
theorem Ff {P:Prop} (h:P:=by
 rw [HK.out];rintro e w2 ⟨rfl,ap⟩;obtain ⟨bX,cG⟩:=ay ap;have cj:w.heap.size < w2.heap.size:=by have:=ap.size;simp at this;omega
 have et:w2.cell? ⟨w.heap.size,1,none⟩ = some (.int .i64 x.op):=by rw [bX _ _ S',cell_of_row _ _ _ _ _ _ (heap_alloc_new w _)];rfl
 have ni:w2.cell? ⟨w.heap.size,2,none⟩ = some (.slice jy x.values.length ji):=by rw [bX _ _ S',cell_of_row _ _ _ _ _ _ (heap_alloc_new w _)];rfl
 have eg:Below w.heap.size w w2:=bx;clear bX cG;have TL:((x.values.length:Int) == 0) = true:=by simp [H0.out]
 go_wp2;go_ret
 exact ⟨by rw [HF.out];first | rfl | simp_all,eg⟩):P:=h
theorem za {P:Prop} (h:P:=by
 rw [Nat.zero_add,cell_of_row w g j dy e (0,0) hh]
 exact yX):P:=h
theorem zb {P:Prop} (h:P:=by
 refine ⟨⟨c1,c2,F1,F2,rfl,rfl,h1.rd,h2.rd⟩,?_,?_,?_⟩
 ·rw [List.nodup_append];exact ⟨h1.nodup,h2.nodup,fun a ha b hb e=>hd a ha (e ▸ hb)⟩
 ·intro b hb;rcases List.mem_append.1 hb with hb | hb
  ·exact h1.base b hb
  ·exact h2.base b hb
 ·intro b hb;rcases List.mem_append.1 hb with hb | hb
  ·exact h1.plain b hb
  ·exact h2.plain b hb):P:=h
theorem zd {P:Prop} (h:P:=by
 simpa only [List.map_append,List.map_cons,List.map_nil,List.append_assoc,List.cons_append,List.nil_append] using this):P:=h
theorem Fg {P:Prop} (h:P:=by
 intro wq hq;have dC:=(aB hq).1;have lJ:=(aB hq).2;go_simp
 first
  | exact ⟨hq,rfl⟩
  | exact ⟨aQ hq _,rfl⟩
  | ((refine (TN y z _ _ _ _ wq (aJ ze.out (ah qq.out hq)) (aJ TO.out (ah qq.out hq)) TP.out TQ.out).mono ?_;rw [HL.out];rintro e wz ⟨rfl,ga⟩;exact ⟨rfl,aI hq ga⟩))
  | (simp only [↓IntWalk.iteOmega];exact ⟨hq,rfl⟩)):P:=h
theorem Fh {P:Prop} (h:P:=by
 intro wq hq;have dC:=(aB hq).1;have lJ:=(aB hq).2;go_simp
 first
  | exact ⟨hq,rfl⟩
  | exact ⟨aQ hq _,rfl⟩
  | ((refine (TN z y _ _ _ _ wq (aJ TO.out (ah qq.out hq)) (aJ ze.out (ah qq.out hq)) TQ.out TP.out).mono ?_;rw [HL.out];rintro e wz ⟨rfl,ga⟩;exact ⟨rfl,aI hq ga⟩))
  | (simp only [↓IntWalk.iteOmega];exact ⟨hq,rfl⟩)):P:=h
theorem my {P:Prop} (h:P:=by
 go_wp2
 all_goals
  go_ret
  exact ⟨by first | rfl | simp_all,bx⟩):P:=h
theorem Fi {P:Prop} (h:P:=by
 have aq:(0:Nat) < (y :: ys).length:=by simp
 obtain ⟨b,o,ck,Fk,hA,hbG,bc,aJe,_,hcells⟩:=Sl.get hO.rd aq;subst hA;obtain ⟨aw,su,gg⟩:=aJe;subst aw;have nL:w1.cell? ⟨b,o,none⟩ = some (.string y):=by have:=hcells 0 _ rfl;simpa using this
 have bN:(((y :: ys).length:Int) == 0) = false:=by simp;omega
 clear hcells hO gg;obtain ⟨n,hn⟩:∃n,(y :: ys).length = n:=⟨_,rfl⟩;rw [hn] at aq bN ⊢;clear hn;go_wp2;go_ret2
 exact ⟨by rw [HL.out.1,HL.out.2];rfl,oR⟩):P:=h
theorem Fo {P:Prop} (h:P:=by
 intro wq hq;have dC:=(aB hq).1;have lJ:=(aB hq).2;go_simp
 first
  | exact ⟨hq,rfl⟩
  | exact ⟨aQ hq _,rfl⟩
  | ((refine (TS z y _ _ _ _ wq (Of ru.out Mc.out wq) (Of ru.out Md.out wq)).mono ?_;rw [HL.out];rintro e wz ⟨rfl,ga⟩;exact ⟨rfl,aI hq ga⟩))
  | (simp only [↓IntWalk.iteOmega];exact ⟨hq,rfl⟩)):P:=h
theorem Fs {P:Prop} (h:P:=by
 intro wq hq;have dC:=(aB hq).1;have lJ:=(aB hq).2;go_simp
 first
  | exact ⟨hq,rfl⟩
  | exact ⟨aQ hq _,rfl⟩
  | ((refine (TT z y _ _ _ _ wq (Og ru.out Mc.out wq) (Og ru.out Md.out wq)).mono ?_;rw [HL.out];rintro e wz ⟨rfl,ga⟩;exact ⟨rfl,aI hq ga⟩))
  | (simp only [↓IntWalk.iteOmega];exact ⟨hq,rfl⟩)):P:=h
theorem Fw {P:Prop} (h:P:=by
 intro wq hq;have dC:=(aB hq).1;have lJ:=(aB hq).2;go_simp
 first
  | exact ⟨hq,rfl⟩
  | exact ⟨aQ hq _,rfl⟩
  | (refine (N9 x p _ _ _ _ x.aa[k].name _ (aJ h Me) (aJ h' Me) HW.out Uc.out).mono ?_;rw [uA.out];rintro e w2 ⟨rfl,ap⟩;exact ⟨rfl,aI hq ap⟩)
  | (simp only [↓IntWalk.iteOmega];exact ⟨hq,rfl⟩)):P:=h
theorem Fy {P:Prop} (h:P:=by
 intro wq hq;have dC:=(aB hq).1;have lJ:=(aB hq).2;go_simp
 first
  | exact ⟨hq,rfl⟩
  | exact ⟨aQ hq _,rfl⟩
  | (refine (Oa x p _ _ _ _ x.aa[k].name _ (aJ h Me) (aJ h' Me) HW.out Uc.out).mono ?_;rw [uA.out];rintro e w2 ⟨rfl,ap⟩;exact ⟨rfl,aI hq ap⟩)
  | (simp only [↓IntWalk.iteOmega];exact ⟨hq,rfl⟩)):P:=h
theorem FA {P:Prop} (h:P:=by
 intro wq hq;have dC:=(aB hq).1;have lJ:=(aB hq).2;go_simp
 first
  | exact ⟨hq,rfl⟩
  | exact ⟨aQ hq _,rfl⟩
  | (first | (refine (TU.out _ CX).mono ?_;rintro e w2 ⟨rfl,ap⟩;exact ⟨rfl,aI hq ap⟩) | (refine (zf.out _ CX).mono ?_;rintro e w2 ⟨rfl,ap⟩;exact ⟨rfl,aI hq ap⟩))
  | (simp only [↓IntWalk.iteOmega];exact ⟨hq,rfl⟩)):P:=h
theorem FC {P:Prop} (h:P:=by
 intro wq hq;have dC:=(aB hq).1;have lJ:=(aB hq).2;go_simp
 first
  | exact ⟨hq,rfl⟩
  | exact ⟨aQ hq _,rfl⟩
  | (refine TX (v:=.bool (Aq z y)) ?_ hq;unfold Aq;repeat' split;all_goals simp [*])
  | (simp only [↓IntWalk.iteOmega];exact ⟨hq,rfl⟩)):P:=h
theorem FD {P:Prop} (h:P:=by
 intro wq hq;have dC:=(aB hq).1;have lJ:=(aB hq).2;go_simp
 first
  | exact ⟨hq,rfl⟩
  | exact ⟨aQ hq _,rfl⟩
  | (refine TX (v:=.bool (oP z y)) ?_ hq;unfold oP;repeat' split;all_goals simp [*])
  | (simp only [↓IntWalk.iteOmega];exact ⟨hq,rfl⟩)):P:=h
theorem zg {P:Prop} (h:P:=by
 simp only [Value.slice.injEq,true_and] at kX;obtain ⟨Oe,dk⟩:=kX;subst Oe dk;have HO:=I hO3;clear hO3 bd dq qt;go_wp2;go_ret2
 exact ⟨A2,c2,G3,by rw [HR.out];try rfl,by rw [HR.out];exact HO.out,ap,fun hh=>absurd hh E7⟩):P:=h
theorem uB {P:Prop} (h:P:=by
 rw [Jf.out,HI.out,List.length_append,List.length_cons,HJ.out];have:=im.out;omega):P:=h
theorem FE {P:Prop} (h:P:=by
 intro wq hq;have dC:=(aB hq).1;have lJ:=(aB hq).2;go_simp
 first
  | exact ⟨hq,rfl⟩
  | exact ⟨aQ hq _,rfl⟩
  | (first | (refine (FF.out _ (ah eg hq)).mono ?_;rintro e w3 ⟨rfl,aR⟩;exact ⟨rfl,aI hq aR⟩) | (refine (acy _ _ J J).mono ?_;rw [HM.out];rintro e w3 ⟨rfl,rfl⟩;exact ⟨rfl,hq⟩))
  | (simp only [↓IntWalk.iteOmega];exact ⟨hq,rfl⟩)):P:=h
theorem zh {P:Prop} (h:P:=by
 intro j u hu;rw [Addr.add];have hc:=cell_of_row (w.alloc (.cells cs.toArray e)) w.heap.size j cs.toArray e (0,0) (heap_alloc_new w _);split
 ·rename_i hj;subst hj;rw [hc];simpa using hu
 ·simp only [Nat.zero_add];rw [hc];simpa using hu):P:=h
theorem FG {P:Prop} (h:P:=by
 obtain ⟨kO,lZ⟩:=ay hn
 first
  | have km:wr.heap.size < wn.heap.size:=(sq hn.size)
  | have km:wr.heap.size≤wn.heap.size:=(sq hn.size)
 have bw:Below w0.heap.size w0 wn:=by first | exact ah ax hn | exact ah (ak ax _) hn
 first | have zq:=mG bd hn | have zq:=mG (bd.alloc _) hn
 go_wp2
 exact ⟨⟨k+1,_,J,N',(by rw [TZ aq HP.out];exact zq),(by rw [TZ aq HP.out];exact cA),bw⟩,by simp [intOf];omega⟩):P:=h
theorem FH {P:Prop} (h:P:=by
 refine ⟨0,[],[],Nat.zero_le _,rfl,?_,⟨rfl,rfl⟩,?_,ak (ak (aj _) _) _⟩
 ·have:=World.ownsRow_made (base:=w.heap.size+1) (e:=35) (size:=7) (w.alloc (.cells #[.slice bG x.aa.length bD,.slice dn x.au.length bW,.int .i64 x.next,.int .i64 x.weights.pack,.int .i64 x.weights.spread,.int .i64 x.weights.soft] 29)) #[] 0 S' lA rfl;simpa [F7] using this
 ·exact zj):P:=h
theorem FJ {P:Prop} (h:P:=by
 intro wq hq;have dC:=(aB hq).1;have lJ:=(aB hq).2;go_simp
 first
  | exact ⟨hq,rfl⟩
  | (refine (ajp y r _).mono ?_;rw [HL.out];rintro e wz ⟨rfl,ga⟩;exact ⟨rfl,aI hq ga⟩)
  | (simp only [↓IntWalk.iteOmega];exact ⟨hq,rfl⟩)):P:=h
theorem zk {P:Prop} (h:P:=by
 exact E4):P:=h
theorem FK {P:Prop} (h:P:=by
 exact ((((((((((((((U3.out.new (Nat.le_refl _) 0 _).new (Nat.le_refl _) 1 _).new (Nat.le_refl _) 2 _).new (Nat.le_refl _) 3 _).new (Nat.le_refl _) 4 _).new (Nat.le_refl _) 5 _).new (Nat.le_refl _) 6 _).new (Nat.le_refl _) 7 _).new (Nat.le_refl _) 8 _).new (Nat.le_refl _) 9 _).new (Nat.le_refl _) 10 _).new (Nat.le_refl _) 11 _).new (Nat.le_refl _) 12 _).new (Nat.le_refl _) 13 _)):P:=h
theorem FL {P:Prop} (h:P:=by
 intro wq hq;have dC:=(aB hq).1;have lJ:=(aB hq).2;go_simp
 first
  | exact ⟨hq,rfl⟩
  | exact ⟨aQ hq _,rfl⟩
  | (refine (FF.out _ (ah eg hq)).mono ?_;rintro e w3 ⟨rfl,aR⟩;exact ⟨rfl,aI hq aR⟩)
  | (simp only [↓IntWalk.iteOmega];exact ⟨hq,rfl⟩)):P:=h
theorem FM {P:Prop} (h:P:=by
 go_wp2
 exact ⟨⟨k+1,N,g,cap,J,J,N',rfl,I T0,by rw [Jf.out,HI.out];exact mG ir.out (ah bF hn),ah e'.out (ah bF hn)⟩,by simp [intOf];omega⟩):P:=h
theorem FN {P:Prop} (h:P:=by
 have hl7:yR.length = 7:=ba.len kG;have h2:List.take 7 (yR++don) = yR:=by rw [List.take_append_of_le_length J,List.take_of_length_le J]
 have h3:=congrArg (List.take 7) hdc;rw [h2] at h3;rw [← h3] at kG
 exact kG):P:=h
theorem zl {P:Prop} (h:P:=by
 go_wp2
 exact ⟨⟨k+1,J,N',Gn.out,bx⟩,by simp [intOf];omega⟩):P:=h
theorem FO {P:Prop} (h:P:=by
 intro wq hq;have dC:=(aB hq).1;have lJ:=(aB hq).2;go_simp
 first
  | exact ⟨hq,rfl⟩
  | fail
  | (simp only [↓IntWalk.iteOmega];exact ⟨hq,rfl⟩)):P:=h
theorem FP {P:Prop} (h:P:=by
 rcases List.mem_append.1 hz with hz | hz
 ·exact HIS.out z (by rw [HE.out];exact List.mem_append_left _ hz)
 ·rcases List.mem_cons.1 hz with rfl | hz
  ·exact aq
  ·exact HIS.out z (by rw [HE.out];exact List.mem_append_right _ hz)):P:=h
theorem FR {P:Prop} (h:P:=by
 have cY:(xs++[y]).length = xs.length+1:=by simp
 exact ⟨⟨xs++[y],_,_,A6,c6,k+1,by rw [cY],N',J,by rw [cY];omega,I ⟨⟨by rw [cY];exact dl,kt,by rw [cY];exact hne6⟩,by rw [ez];have:=qu.out;omega,fk.out.below cw J,iC.out.jt cw J⟩⟩,by simp only [intOf];omega⟩):P:=h
theorem FT {P:Prop} (h:P:=by
 refine ⟨0,Nat.zero_le _,rfl,?_,?_,?_,ak (ak (aj _) _) _⟩
 ·exact (World.ownsRow_made w #[] 0 (Nat.le_refl _) lA rfl).alloc _
 ·have:=World.ownsRow_made (base:=w.heap.size) (e:=3) (size:=1) (w.alloc (.cells #[] 3)) #[] 0 S' lA rfl;simpa [iv] using this
 ·right;simp [Value.ownBlock]):P:=h
theorem FU {P:Prop} (h:P:=by
 go_wp2;go_ret
 exact ⟨_,rfl,hb.size,⟨⟨0,q,_,heap_alloc_new _ _,J,by unfold bp;omega⟩,fun k hk=>(by
  obtain ⟨g,o,v,e,hg,hv,f9⟩:=cE k hk
  exact ⟨g,o,v,e,Nat.lt_of_lt_of_le hg hb.size,((ak hb _).cell (p:=⟨g,o+k,none⟩) hg).trans hv,f9⟩),hn⟩,ak hb _⟩):P:=h
theorem zm {P:Prop} (h:P:=by
 refine am.up (B':=B) (fun x:rZ=>(x.pack,x.spread,x.soft)) ?_ (Nat.le_refl _)
 exact am.cons (jL w p hp) (am.cons (jL w q hq) (am.flat (jL w f hf)))):P:=h
theorem rv {P:Prop} (h:P:=by
 rw [Bool.eq_iff_iff,decide_eq_true_eq,Wx,ByteArray.toList_eq,ByteArray.toList_eq]):P:=h
theorem zn {P:Prop} (h:P:=by
 have e:GX a b = none:=by unfold GX;rw [if_pos J]
 rw [e];go_enter Tryz.func130,Tryz.ntmps130;go_wp2;go_returns
 exact ⟨rfl,aj _⟩):P:=h
theorem F0 {P:Prop} (h:P:=by
 go_wp2
 all_goals
  go_ret
  refine ⟨?_,rfl⟩;refine congrArg (fun b=>Ending.returned (Value.bool b)) ?_;show (_:Bool) = _;unfold GL;rw [Bool.eq_iff_iff];simp only [Bool.or_eq_true,Bool.and_eq_true,decide_eq_true_eq,Bool.false_eq_true,true_iff,false_iff]
  omega):P:=h
theorem zp {P:Prop} (h:P:=by
 have e:GX a b = none:=by unfold GX;rw [if_pos J]
 rw [e];go_enter Tryz.func90,Tryz.ntmps90;go_wp2;go_returns
 exact ⟨rfl,aj _⟩):P:=h
theorem ry {P:Prop} (h:P:=by
 rw [J5,← ByteArray.toList_eq,← ByteArray.toList_eq] at e
 simp [e] at h):P:=h
theorem Ga {P:Prop} (h:P:=by
 have ap:Below w0.heap.size w0 w2:=lS (B:=w0.heap.size) zq ev bw (by have:=bw.size;omega)
 exact ⟨⟨k+1,_,J,N',(by rw [YM aq HP.out,List.length_append];exact ej),(by rw [YM aq HP.out];exact cA.Oh (rV zM)),ap⟩,by simp [intOf];omega⟩):P:=h
theorem uC {P:Prop} (h:P:=by
 rintro (h1 | h1 | h1)
 ·exact .inr (.inl h1)
 ·exact .inl h1
 ·exact .inr (.inr h1)):P:=h
theorem zr {P:Prop} (h:P:=by
 obtain ⟨g,o,v,e,hg,hc,hv⟩:=h3 k hk
 exact ⟨g,o,v,e,hg,(World.cell?_of_block (Below.heap_setCell _ _ _ _ bA)).trans hc,hv⟩):P:=h
theorem uE {P:Prop} (h:P:=by
 go_wp2;go_ret
 exact ⟨by rw [HF.out];first | rfl | simp_all,ax⟩):P:=h
theorem uF {P:Prop} (h:P:=by
 exact ⟨⟨g,0,none⟩,by simp [hc],rfl,fun q u hu=>by simp at hu⟩):P:=h
theorem pA {P:Prop} (h:P:=by
 rw [List.length_eq_zero_iff.1 h0] at hu
 simp at hu):P:=h
theorem uG {P:Prop} (h:P:=by
 go_wp2;go_ret
 exact ⟨xs,A',c',G,rfl,gb.out,Du.out,dz.out,gA.out,qv.out⟩):P:=h
theorem Gb {P:Prop} (h:P:=by
 have h1:=hall e he hb;have h0:=(mem_ready.1 hr).1;rw [zt] at h1;rcases Nat.lt_or_ge i ai.size with h' | h'
 ·simp [h'] at h0 h1;rw [h0] at h1;cases h1
 ·simp [Array.getElem?_eq_none h'] at h1):P:=h
theorem Oi {P:Prop} (h:P:=by
 rw [Jf.out,HI.out];have:=vP Le (B':=w2.heap.size) l7.out.size
 simpa only [List.flatMap_append,List.flatMap_cons,List.append_assoc,List.cons_append,List.nil_append,gN] using this):P:=h
theorem Oj {P:Prop} (h:P:=by
 rw [Jf.out,HI.out];have:=vP Le (B':=w2.heap.size) l7.out.size
 simpa only [List.flatMap_append,List.flatMap_cons,List.append_assoc,List.cons_append,List.nil_append,gC] using this):P:=h
theorem Gc {P:Prop} (h:P:=by
 exact ((((((((((((((cO.out.bj aq 0 _).bj aq 1 _).bj aq 2 _).bj aq 3 _).bj aq 4 _).bj aq 5 _).bj aq 6 _).bj aq 7 _).bj aq 8 _).bj aq 9 _).bj aq 10 _).bj aq 11 _).bj aq 12 _).bj aq 13 _)):P:=h
theorem Ol {P:Prop} (h:P:=by
 rw [Jf.out,HI.out];have:=vP Le (B':=w2.heap.size) l7.out.size
 simpa only [List.flatMap_append,List.flatMap_cons,List.append_assoc,List.cons_append,List.nil_append,ib] using this):P:=h
theorem Ge {P:Prop} (h:P:=by
 have bB:k = xs.length:=by omega
 subst bB;have hf:GZ xs 0 = some s:=by rw [HS.out,List.drop_length];rfl
 have HF:=I hf;clear hf;go_wp2;go_returns
 exact ⟨by rw [HF.out];rfl,ax⟩):P:=h
theorem pB {P:Prop} (h:P:=by
 go_wp2;go_ret
 exact ⟨by rw [hs.out];rfl,aj _⟩):P:=h
theorem Gg {P:Prop} (h:P:=by
 rw [Jf.out,← HMAP.out,HE.out,List.map_append,List.map_append,List.map_cons,Om.out]
 exact (PY _ _ (fun z hz=>by obtain ⟨z0,cL,rfl⟩:=List.mem_map.1 hz;exact HN.out z0 cL) T4.out).symm):P:=h
theorem zv {P:Prop} (h:P:=by
 rcases Nat.lt_or_ge g w.heap.size with h5 | h5
 ·exact h5
 ·rw [Array.getElem?_eq_none h5] at h3;cases h3):P:=h
theorem zw {P:Prop} (h:P:=by
 unfold Lib.compareInt;rw [Bool.eq_iff_iff,decide_eq_true_eq,decide_eq_true_eq];repeat' split
 all_goals omega):P:=h
theorem Gi {P:Prop} (h:P:=by
 rw [ze.out,HN.out];refine am.mono (B:=w.heap.size+1+1+1) ?_ J
 exact (by repeat (first | with_reducible exact Mf.out | with_reducible refine am.setCell ?_ bA _))):P:=h
theorem On {P:Prop} (h:P:=by
 refine aN ?_;intro wn hn;replace hn:=hn.out;go_wp2
 refine ⟨⟨k+1,v,t+1,j0,J,hv,N',rfl,I LW,HJ,I (eJ.out hcv),HN,HS.out.ext hn⟩,by simp [intOf];omega⟩):P:=h
theorem Gj {P:Prop} (h:P:=by
 rw [List.pairwise_append,List.pairwise_cons];refine ⟨h0.1,⟨hb,h0.2.1⟩,fun a Gk b ei=>?_⟩;rcases List.mem_cons.1 ei with rfl | ei
 ·exact ha a Gk
 ·exact h0.2.2 a Gk b ei):P:=h
theorem Gq {P:Prop} (h:P:=by
 simp only [Bool.not_eq_true] at hp;simp only [hp,Bool.false_or,if_neg (show ¬false = true by simp)];rw [Bool.eq_iff_iff,decide_eq_true_eq,decide_eq_true_eq]
 split <;> omega):P:=h
theorem Gs {P:Prop} (h:P:=by
 refine ⟨0,[],Nat.zero_le _,rfl,?_,aY.nil _ _,ak (aj _) _⟩;rw [← T5.out];have:=World.ownsRow_made (base:=w0.heap.size) (e:=9) (size:=1) w0 #[] 0 S' lA rfl
 simpa [Ar] using this):P:=h
theorem Oo {P:Prop} (h:P:=by
 refine aN ?_;intro wn hn;replace hn:=hn.out;go_wp2
 refine ⟨⟨u,k,i0,t,J,J,rfl,rfl,HI,HK,HY,I (Gn.out hcv),HS.out.ext hn⟩,by simp [intOf];omega⟩):P:=h
theorem Gx {P:Prop} (h:P:=by
 go_wp2;refine bodyPost_ret (results_none rfl _ _ _) rfl ?_;refine ⟨rfl,?_⟩;rw [HM.out]
 simpa only [List.append_assoc,List.cons_append] using ce):P:=h
theorem zx {P:Prop} (h:P:=by
 have h8:=pw.out y (Ie.out y h9)
 exact ⟨J,J,fun hm=>Oq.out y (Ie.out y h9) hm⟩):P:=h
theorem zy {P:Prop} (h:P:=by
 have h8:=nJ.out y (Ie.out y h9)
 exact ⟨J,J,fun hm=>Oq.out y hm (Ie.out y h9)⟩):P:=h
theorem zA {P:Prop} (h:P:=by
 split
 ·rename_i h2;first | exact h2 | exact h2.2
 ·rename_i h2;rw [if_neg h2] at h;cases h):P:=h
theorem Gz {P:Prop} (h:P:=by
 have gO:k = 0∨k = 1∨k = 2∨k = 3∨k = 4∨k = 5:=by omega
 rcases gO with rfl | rfl | rfl | rfl | rfl | rfl <;> exact ⟨_,qz _ _ _ _ _ rfl,by decide⟩):P:=h
theorem uK {P:Prop} (h:P:=by
 exact (bw.cell (p:=⟨g,q,none⟩) bA).trans (tz.out q u hu)):P:=h
theorem zB {P:Prop} (h:P:=by
 go_wp2;go_ret
 exact ⟨by rw [HG.out];first | rfl | simp_all,ax⟩):P:=h
theorem zC {P:Prop} (h:P:=by
 go_enter Tryz.func63,Tryz.ntmps63;go_wp2;go_ret
 exact ⟨rfl,rfl⟩):P:=h
theorem GA {P:Prop} (h:P:=by
 have hn:=Hn.out;rw [bB,List.take_length] at hn;have HI:=I (F5 hn);clear hn bB;go_wp2;go_ret
 exact ⟨by rw [HI.out];rfl,bx⟩):P:=h
theorem GB {P:Prop} (h:P:=by
 refine aN ?_;intro wn hn;replace hn:=hn.out;go_wp2;go_ret
 exact ⟨by rw [HF.out,HM.out] <;> first | rfl | (simp;omega),ah eg hn⟩):P:=h
theorem GC {P:Prop} (h:P:=by
 split
 ·rename_i hw;rw [if_pos hw] at h;exact .inl (Oper.wp_mono next h)
 ·rename_i hw;rw [if_neg hw] at h
  exact next _ _ h):P:=h
theorem Ow {P:Prop} (h:P:=by
 refine aN ?_;intro wn hn;replace hn:=hn.out;go_wp2
 exact ⟨⟨k+1,T6,N',ah bF hn⟩,by simp [intOf];omega⟩):P:=h
theorem GD {P:Prop} (h:P:=by
 have h1:=rM (f:=aM.wt) hk;have h2:aM.wt x.aa[k] = x.aa[k].name.size+kL ao.wt x.aa[k].labels+kL iU.wt x.aa[k].aT:=rfl
 omega):P:=h
theorem uL {P:Prop} (h:P:=by
 simp only [Bool.and_eq_true,decide_eq_true_eq] at h
 omega):P:=h
theorem GF {P:Prop} (h:P:=by
 have gO:k = 0∨k = 1∨k = 2:=by omega
 rcases gO with rfl | rfl | rfl <;> exact ⟨_,qz _ _ _ _ _ rfl,by unfold bp;omega⟩):P:=h
theorem qV {P:Prop} (h:P:=by
 simp only [List.map_cons,List.sum_cons];omega):P:=h
theorem GG {P:Prop} (h:P:=by
 obtain ⟨g,o,v,e,hg,hv,f9⟩:=HS.out k hk
 exact ⟨g,o,v,e,by simp;omega,((ak (aj w) _).cell (p:=⟨g,o+k,none⟩) hg).trans hv,f9⟩):P:=h
theorem GH {P:Prop} (h:P:=by
 rintro e w2 ⟨rfl,hw⟩;rw [hw];clear hw w2;go_wp2;go_ret
 exact ⟨by rw [HF.out];rfl,aj _⟩):P:=h
theorem GJ {P:Prop} (h:P:=by
 rw [xK] at h;rcases MK h with h | h
 ·exact .inl h
 ·rw [List.mem_singleton.1 h];exact .inr (List.mem_cons_self ..)):P:=h
theorem GK {P:Prop} (h:P:=by
 rcases h0 with ⟨rfl,rfl⟩ | ⟨b,o',_,rfl,_⟩
 ·rw [hc.2];intro b hb;cases hb
 ·intro x hx;exact List.mem_cons_of_mem _ hx):P:=h
theorem GM {P:Prop} (h:P:=by
 rw [CK.out];rintro e wn ⟨rfl,hn⟩;go_wp2;go_ret
 exact ⟨by rw [HF.out];first | rfl | simp,ah di hn⟩):P:=h
theorem GO {P:Prop} (h:P:=by
 refine ⟨⟨k+1,J,N',by rw [T7 _ _ _ aq];exact bt,by rw [T7 _ _ _ aq];exact kX,GP.symm,aR⟩,by simp [intOf];omega⟩):P:=h
theorem GQ {P:Prop} (h:P:=by
 refine aN ?_;intro wn hn;replace hn:=hn.out;go_wp2;go_ret
 exact ⟨by rw [HF.out,HM.out];rfl,ah eg hn⟩):P:=h
theorem GS {P:Prop} (h:P:=by
 clear hp;have HI:=I (Fj aq Hn.out HP.out);go_wp2;go_ret
 exact ⟨by rw [HI.out];rfl,bx⟩):P:=h
theorem zD {P:Prop} (h:P:=by
 refine Or.inl ⟨rfl,fun wq hq=>?_⟩;go_simp
 try rfl):P:=h
theorem GV {P:Prop} (h:P:=by
 rw [show (⟨b,o',none⟩:Addr).add j = ⟨b,o'+j,none⟩ from by unfold Addr.add;split <;> simp_all]
 exact bC j u hu):P:=h
theorem GW {P:Prop} (h:P:=by
 obtain ⟨j,GY,rfl⟩:=List.getElem_of_mem hz;rw [List.getElem_take];rw [List.length_take] at GY
 exact hN j J J):P:=h
theorem zE {P:Prop} (h:P:=by
 simp only [List.map_nil,List.sum_nil,List.length_nil] at h hl;omega):P:=h
theorem G9 {P:Prop} (h:P:=by
 exact am.oJ h ⟨dq D hr,List.nodup_nil,(fun b hb=>by cases hb),(fun b hb=>by cases hb)⟩ (fun g hg hm=>by cases hm)):P:=h
theorem Hb {P:Prop} (h:P:=by
 have bB:k = xs.length:=by omega
 subst bB;go_wp2;go_ret
 exact ⟨by rw [List.take_length];rfl,ax⟩):P:=h
theorem Hc {P:Prop} (h:P:=by
 have h3:s.data.toList.length = 0:=by rw [← ByteArray.toList_eq,h1];rfl
 rw [Array.length_toList] at h3
 exact h3):P:=h
theorem zF {P:Prop} (h:P:=by
 rw [h,if_neg J,hs,Int.toNat_natCast,List.getElem?_eq_getElem hk]):P:=h
theorem Hd {P:Prop} (h:P:=by
 rcases Nat.lt_or_ge g w.heap.size with aq | oS
 ·exact aq
 ·rw [Array.getElem?_eq_none oS] at h3;cases h3):P:=h
theorem Hh {P:Prop} (h:P:=by
 cases j with
 | zero=>rwa [cC hj] at this
 | succ i=>rw [yS hj,Bool.and_eq_true] at this;exact this.1):P:=h
theorem Hi {P:Prop} (h:P:=by
 simp only [List.length_nil] at hO ⊢;go_wp2;go_ret2
 exact ⟨by rw [HL.out.1,HL.out.2];rfl,oR⟩):P:=h
theorem Hj {P:Prop} (h:P:=by
 intro HK;have aE:Below wn.heap.size wn wn.drew:=aA (aj _);refine aX 1 _ O U' H' aE W' ?_;try simp only [Act.put,pz]
 refine aX 2 _ O U' H' aE W' ?_;try simp only [Act.put,pz]
 refine aX 3 _ O U' H' aE W' ?_;try simp only [Act.put,pz]
 refine aX 5 _ O U' H' aE W' ?_;try simp only [Act.put,pz]
 refine aX 6 _ O U' H' aE W' ?_;try simp only [Act.put,pz]
 refine aX 7 _ O U' H' aE W' ?_;try simp only [Act.put,pz]
 refine aX 8 _ O U' H' aE W' ?_;try simp only [Act.put,pz]
 refine D7 0 9 O O U' O O (fun K hK=>?_) (fun K hK=>?_)
 ·go_simp;refine hK _ _ (ak aE (.cells #[] 117)) ?_;try simp only [Act.put,pz]
  clear hK K;have Qz:=ak aE (.cells #[] 117);have KI:=D9 wn.drew 117 4 wn.heap.size rfl;refine D7 4 9 O O U' O O (fun K hK=>?_) (fun K hK=>?_)
  ·refine qQ pC _ _ O (wn.drew.alloc (.cells #[] 117)) wn.heap.size _ 0 [] KI O ⟨g,0,none⟩ jj cap ((s1.flatMap gC)) O Ox (fun q u hu=>(Qz.cell (p:=(⟨g,0,none⟩:Addr).add q) jn).trans (ey.out q u hu)) (nP vX s1) J J fy ?_;intro v5 w5 az cc fG;have br:Below wn.heap.size wn w5:=Below.grown (Qz) cc fy (fun q hq=>(KI.lt q hq).1);refine hK _ _ br ?_;try simp only [Act.put,pz]
   clear hK K;refine bP 9 O U' O (fun K hK=>?_);go_simp;refine hK _ _ (ak br (.cells #[.string y.key,.bool y.equal,.string y.value,.int .i64 y.effect] 117)) ?_;try simp only [Act.put,pz]
   clear hK K;have cD:=ak br (.cells #[.string y.key,.bool y.equal,.string y.value,.int .i64 y.effect] 117);refine bP 10 O U' O (fun K hK=>?_);refine qQ pC _ _ O (w5.alloc (.cells #[.string y.key,.bool y.equal,.string y.value,.int .i64 y.effect] 117)) wn.heap.size v5 _ _ (mG az (ak (aj _) _)) O ⟨w5.heap.size,0,none⟩ 1 1 [.string y.key,.bool y.equal,.string y.value,.int .i64 y.effect] O O (DI w5 117 [.string y.key,.bool y.equal,.string y.value,.int .i64 y.effect] w5.heap.size rfl) (vX y) J J fS ?_;exact uM
  ·go_simp;refine hK _ _ (ak Qz (.cells #[.string y.key,.bool y.equal,.string y.value,.int .i64 y.effect] 117)) ?_;try simp only [Act.put,pz]
   clear hK K;have cD:=ak Qz (.cells #[.string y.key,.bool y.equal,.string y.value,.int .i64 y.effect] 117);replace KI:=mG KI (ak (aj _) (.cells #[.string y.key,.bool y.equal,.string y.value,.int .i64 y.effect] 117));refine bP 4 O U' O (fun K hK=>?_);refine qQ pC _ _ O ((wn.drew.alloc (.cells #[] 117)).alloc (.cells #[.string y.key,.bool y.equal,.string y.value,.int .i64 y.effect] 117)) wn.heap.size _ 0 [] KI O ⟨g,0,none⟩ jj cap ((s1.flatMap gC)) O Ox (fun q u hu=>(cD.cell (p:=(⟨g,0,none⟩:Addr).add q) jn).trans (ey.out q u hu)) (nP vX s1) J J fS ?_;intro v5 w5 az cc fG;have br:Below wn.heap.size wn w5:=Below.grown (cD) cc fS (fun q hq=>(KI.lt q hq).1);refine hK _ _ br ?_;try simp only [Act.put,pz]
   clear hK K;refine bP 10 O U' O (fun K hK=>?_);refine qQ pC _ _ O w5 wn.heap.size v5 _ _ az O ⟨wn.heap.size+1,0,none⟩ 1 1 [.string y.key,.bool y.equal,.string y.value,.int .i64 y.effect] O O (fun q u hu=>(World.cell?_of_block tj).trans ((DI (wn.drew.alloc (.cells #[] 117)) 117 [.string y.key,.bool y.equal,.string y.value,.int .i64 y.effect] (wn.heap.size+1) S') q u hu)) (vX y) J J iB ?_;exact mr
 ·go_simp;refine hK _ _ (ak aE (.cells #[.string y.key,.bool y.equal,.string y.value,.int .i64 y.effect] 117)) ?_;try simp only [Act.put,pz]
  clear hK K;have cD:=ak aE (.cells #[.string y.key,.bool y.equal,.string y.value,.int .i64 y.effect] 117);refine bP 0 O U' O (fun K hK=>?_);go_simp;refine hK _ _ (ak cD (.cells #[] 117)) ?_;try simp only [Act.put,pz]
  clear hK K;have Qz:=ak cD (.cells #[] 117);have KI:=vP (D9 (wn.drew.alloc (.cells #[.string y.key,.bool y.equal,.string y.value,.int .i64 y.effect] 117)) 117 4 (wn.heap.size+1) S') (B':=wn.heap.size) J;refine bP 4 O U' O (fun K hK=>?_);refine qQ pC _ _ O ((wn.drew.alloc (.cells #[.string y.key,.bool y.equal,.string y.value,.int .i64 y.effect] 117)).alloc (.cells #[] 117)) wn.heap.size _ 0 [] KI O ⟨g,0,none⟩ jj cap ((s1.flatMap gC)) O Ox (fun q u hu=>(Qz.cell (p:=(⟨g,0,none⟩:Addr).add q) jn).trans (ey.out q u hu)) (nP vX s1) J J fy ?_;intro v5 w5 az cc fG;have br:Below wn.heap.size wn w5:=Below.grown (Qz) cc fy (fun q hq=>(KI.lt q hq).1);refine hK _ _ br ?_;try simp only [Act.put,pz]
  clear hK K;refine bP 10 O U' O (fun K hK=>?_);refine qQ pC _ _ O w5 wn.heap.size v5 _ _ az O ⟨wn.heap.size,0,none⟩ 1 1 [.string y.key,.bool y.equal,.string y.value,.int .i64 y.effect] O O (fun q u hu=>(World.cell?_of_block tk).trans ((DI wn.drew 117 [.string y.key,.bool y.equal,.string y.value,.int .i64 y.effect] wn.heap.size rfl) q u hu)) (vX y) J J iB ?_
  exact mr):P:=h
theorem Hk {P:Prop} (h:P:=by
 intro HK;have aE:Below wn.heap.size wn wn.drew:=aA (aj _);refine aX 1 _ O U' H' aE W' ?_;try simp only [Act.put,pz]
 refine aX 2 _ O U' H' aE W' ?_;try simp only [Act.put,pz]
 refine aX 3 _ O U' H' aE W' ?_;try simp only [Act.put,pz]
 refine aX 5 _ O U' H' aE W' ?_;try simp only [Act.put,pz]
 refine aX 6 _ O U' H' aE W' ?_;try simp only [Act.put,pz]
 refine aX 7 _ O U' H' aE W' ?_;try simp only [Act.put,pz]
 refine aX 8 _ O U' H' aE W' ?_;try simp only [Act.put,pz]
 refine D7 0 9 O O U' O O (fun K hK=>?_) (fun K hK=>?_)
 ·go_simp;refine hK _ _ (ak aE (.cells #[] 126)) ?_;try simp only [Act.put,pz]
  clear hK K;have Qz:=ak aE (.cells #[] 126);have KI:=D9 wn.drew 126 3 wn.heap.size rfl;refine D7 4 9 O O U' O O (fun K hK=>?_) (fun K hK=>?_)
  ·refine qQ rz _ _ O (wn.drew.alloc (.cells #[] 126)) wn.heap.size _ 0 [] KI O ⟨g,0,none⟩ jj cap ((s1.flatMap gN)) O Oy (fun q u hu=>(Qz.cell (p:=(⟨g,0,none⟩:Addr).add q) jn).trans (ey.out q u hu)) (nP vZ s1) J J fy ?_;intro v5 w5 az cc fG;have br:Below wn.heap.size wn w5:=Below.grown (Qz) cc fy (fun q hq=>(KI.lt q hq).1);refine hK _ _ br ?_;try simp only [Act.put,pz]
   clear hK K;refine bP 9 O U' O (fun K hK=>?_);go_simp;refine hK _ _ (ak br (.cells #[.string y.key,.string y.value,.int .i64 y.effect] 126)) ?_;try simp only [Act.put,pz]
   clear hK K;have cD:=ak br (.cells #[.string y.key,.string y.value,.int .i64 y.effect] 126);refine bP 10 O U' O (fun K hK=>?_);refine qQ rz _ _ O (w5.alloc (.cells #[.string y.key,.string y.value,.int .i64 y.effect] 126)) wn.heap.size v5 _ _ (mG az (ak (aj _) _)) O ⟨w5.heap.size,0,none⟩ 1 1 [.string y.key,.string y.value,.int .i64 y.effect] O O (DI w5 126 [.string y.key,.string y.value,.int .i64 y.effect] w5.heap.size rfl) (vZ y) J J fS ?_;exact uM
  ·go_simp;refine hK _ _ (ak Qz (.cells #[.string y.key,.string y.value,.int .i64 y.effect] 126)) ?_;try simp only [Act.put,pz]
   clear hK K;have cD:=ak Qz (.cells #[.string y.key,.string y.value,.int .i64 y.effect] 126);replace KI:=mG KI (ak (aj _) (.cells #[.string y.key,.string y.value,.int .i64 y.effect] 126));refine bP 4 O U' O (fun K hK=>?_);refine qQ rz _ _ O ((wn.drew.alloc (.cells #[] 126)).alloc (.cells #[.string y.key,.string y.value,.int .i64 y.effect] 126)) wn.heap.size _ 0 [] KI O ⟨g,0,none⟩ jj cap ((s1.flatMap gN)) O Oy (fun q u hu=>(cD.cell (p:=(⟨g,0,none⟩:Addr).add q) jn).trans (ey.out q u hu)) (nP vZ s1) J J fS ?_;intro v5 w5 az cc fG;have br:Below wn.heap.size wn w5:=Below.grown (cD) cc fS (fun q hq=>(KI.lt q hq).1);refine hK _ _ br ?_;try simp only [Act.put,pz]
   clear hK K;refine bP 10 O U' O (fun K hK=>?_);refine qQ rz _ _ O w5 wn.heap.size v5 _ _ az O ⟨wn.heap.size+1,0,none⟩ 1 1 [.string y.key,.string y.value,.int .i64 y.effect] O O (fun q u hu=>(World.cell?_of_block tj).trans ((DI (wn.drew.alloc (.cells #[] 126)) 126 [.string y.key,.string y.value,.int .i64 y.effect] (wn.heap.size+1) S') q u hu)) (vZ y) J J iB ?_;exact mr
 ·go_simp;refine hK _ _ (ak aE (.cells #[.string y.key,.string y.value,.int .i64 y.effect] 126)) ?_;try simp only [Act.put,pz]
  clear hK K;have cD:=ak aE (.cells #[.string y.key,.string y.value,.int .i64 y.effect] 126);refine bP 0 O U' O (fun K hK=>?_);go_simp;refine hK _ _ (ak cD (.cells #[] 126)) ?_;try simp only [Act.put,pz]
  clear hK K;have Qz:=ak cD (.cells #[] 126);have KI:=vP (D9 (wn.drew.alloc (.cells #[.string y.key,.string y.value,.int .i64 y.effect] 126)) 126 3 (wn.heap.size+1) S') (B':=wn.heap.size) J;refine bP 4 O U' O (fun K hK=>?_);refine qQ rz _ _ O ((wn.drew.alloc (.cells #[.string y.key,.string y.value,.int .i64 y.effect] 126)).alloc (.cells #[] 126)) wn.heap.size _ 0 [] KI O ⟨g,0,none⟩ jj cap ((s1.flatMap gN)) O Oy (fun q u hu=>(Qz.cell (p:=(⟨g,0,none⟩:Addr).add q) jn).trans (ey.out q u hu)) (nP vZ s1) J J fy ?_;intro v5 w5 az cc fG;have br:Below wn.heap.size wn w5:=Below.grown (Qz) cc fy (fun q hq=>(KI.lt q hq).1);refine hK _ _ br ?_;try simp only [Act.put,pz]
  clear hK K;refine bP 10 O U' O (fun K hK=>?_);refine qQ rz _ _ O w5 wn.heap.size v5 _ _ az O ⟨wn.heap.size,0,none⟩ 1 1 [.string y.key,.string y.value,.int .i64 y.effect] O O (fun q u hu=>(World.cell?_of_block tk).trans ((DI wn.drew 126 [.string y.key,.string y.value,.int .i64 y.effect] wn.heap.size rfl) q u hu)) (vZ y) J J iB ?_
  exact mr):P:=h
theorem Hm {P:Prop} (h:P:=by
 intro HK;have aE:Below wn.heap.size wn wn.drew:=aA (aj _);refine aX 1 _ O U' H' aE W' ?_;try simp only [Act.put,pz]
 refine aX 2 _ O U' H' aE W' ?_;try simp only [Act.put,pz]
 refine aX 3 _ O U' H' aE W' ?_;try simp only [Act.put,pz]
 refine aX 5 _ O U' H' aE W' ?_;try simp only [Act.put,pz]
 refine aX 6 _ O U' H' aE W' ?_;try simp only [Act.put,pz]
 refine aX 7 _ O U' H' aE W' ?_;try simp only [Act.put,pz]
 refine aX 8 _ O U' H' aE W' ?_;try simp only [Act.put,pz]
 refine D7 0 9 O O U' O O (fun K hK=>?_) (fun K hK=>?_)
 ·go_simp;refine hK _ _ (ak aE (.cells #[] 67)) ?_;try simp only [Act.put,pz]
  clear hK K;have Qz:=ak aE (.cells #[] 67);have KI:=D9 wn.drew 67 2 wn.heap.size rfl;refine D7 4 9 O O U' O O (fun K hK=>?_) (fun K hK=>?_)
  ·refine qQ k9 _ _ O (wn.drew.alloc (.cells #[] 67)) wn.heap.size _ 0 [] KI O ⟨g,0,none⟩ jj cap ((s1.flatMap ib)) O OE (fun q u hu=>(Qz.cell (p:=(⟨g,0,none⟩:Addr).add q) jn).trans (ey.out q u hu)) (nP we s1) J J fy ?_;intro v5 w5 az cc fG;have br:Below wn.heap.size wn w5:=Below.grown (Qz) cc fy (fun q hq=>(KI.lt q hq).1);refine hK _ _ br ?_;try simp only [Act.put,pz]
   clear hK K;refine bP 9 O U' O (fun K hK=>?_);go_simp;refine hK _ _ (ak br (.cells #[.string y.key,.string y.value] 67)) ?_;try simp only [Act.put,pz]
   clear hK K;have cD:=ak br (.cells #[.string y.key,.string y.value] 67);refine bP 10 O U' O (fun K hK=>?_);refine qQ k9 _ _ O (w5.alloc (.cells #[.string y.key,.string y.value] 67)) wn.heap.size v5 _ _ (mG az (ak (aj _) _)) O ⟨w5.heap.size,0,none⟩ 1 1 [.string y.key,.string y.value] O O (DI w5 67 [.string y.key,.string y.value] w5.heap.size rfl) (we y) J J fS ?_;exact uM
  ·go_simp;refine hK _ _ (ak Qz (.cells #[.string y.key,.string y.value] 67)) ?_;try simp only [Act.put,pz]
   clear hK K;have cD:=ak Qz (.cells #[.string y.key,.string y.value] 67);replace KI:=mG KI (ak (aj _) (.cells #[.string y.key,.string y.value] 67));refine bP 4 O U' O (fun K hK=>?_);refine qQ k9 _ _ O ((wn.drew.alloc (.cells #[] 67)).alloc (.cells #[.string y.key,.string y.value] 67)) wn.heap.size _ 0 [] KI O ⟨g,0,none⟩ jj cap ((s1.flatMap ib)) O OE (fun q u hu=>(cD.cell (p:=(⟨g,0,none⟩:Addr).add q) jn).trans (ey.out q u hu)) (nP we s1) J J fS ?_;intro v5 w5 az cc fG;have br:Below wn.heap.size wn w5:=Below.grown (cD) cc fS (fun q hq=>(KI.lt q hq).1);refine hK _ _ br ?_;try simp only [Act.put,pz]
   clear hK K;refine bP 10 O U' O (fun K hK=>?_);refine qQ k9 _ _ O w5 wn.heap.size v5 _ _ az O ⟨wn.heap.size+1,0,none⟩ 1 1 [.string y.key,.string y.value] O O (fun q u hu=>(World.cell?_of_block tj).trans ((DI (wn.drew.alloc (.cells #[] 67)) 67 [.string y.key,.string y.value] (wn.heap.size+1) S') q u hu)) (we y) J J iB ?_;exact mr
 ·go_simp;refine hK _ _ (ak aE (.cells #[.string y.key,.string y.value] 67)) ?_;try simp only [Act.put,pz]
  clear hK K;have cD:=ak aE (.cells #[.string y.key,.string y.value] 67);refine bP 0 O U' O (fun K hK=>?_);go_simp;refine hK _ _ (ak cD (.cells #[] 67)) ?_;try simp only [Act.put,pz]
  clear hK K;have Qz:=ak cD (.cells #[] 67);have KI:=vP (D9 (wn.drew.alloc (.cells #[.string y.key,.string y.value] 67)) 67 2 (wn.heap.size+1) S') (B':=wn.heap.size) J;refine bP 4 O U' O (fun K hK=>?_);refine qQ k9 _ _ O ((wn.drew.alloc (.cells #[.string y.key,.string y.value] 67)).alloc (.cells #[] 67)) wn.heap.size _ 0 [] KI O ⟨g,0,none⟩ jj cap ((s1.flatMap ib)) O OE (fun q u hu=>(Qz.cell (p:=(⟨g,0,none⟩:Addr).add q) jn).trans (ey.out q u hu)) (nP we s1) J J fy ?_;intro v5 w5 az cc fG;have br:Below wn.heap.size wn w5:=Below.grown (Qz) cc fy (fun q hq=>(KI.lt q hq).1);refine hK _ _ br ?_;try simp only [Act.put,pz]
  clear hK K;refine bP 10 O U' O (fun K hK=>?_);refine qQ k9 _ _ O w5 wn.heap.size v5 _ _ az O ⟨wn.heap.size,0,none⟩ 1 1 [.string y.key,.string y.value] O O (fun q u hu=>(World.cell?_of_block tk).trans ((DI wn.drew 67 [.string y.key,.string y.value] wn.heap.size rfl) q u hu)) (we y) J J iB ?_
  exact mr):P:=h
theorem Hp {P:Prop} (h:P:=by
 intro HK;have aE:Below wn.heap.size wn wn.drew:=aA (aj _);refine aX 1 _ O U' H' aE W' ?_;try simp only [Act.put,pz]
 refine aX 2 _ O U' H' aE W' ?_;try simp only [Act.put,pz]
 refine aX 3 _ O U' H' aE W' ?_;try simp only [Act.put,pz]
 refine aX 5 _ O U' H' aE W' ?_;try simp only [Act.put,pz]
 refine aX 6 _ O U' H' aE W' ?_;try simp only [Act.put,pz]
 refine aX 7 _ O U' H' aE W' ?_;try simp only [Act.put,pz]
 refine aX 8 _ O U' H' aE W' ?_;try simp only [Act.put,pz]
 refine D7 0 9 O O U' O O (fun K hK=>?_) (fun K hK=>?_)
 ·go_simp;refine hK _ _ (ak aE (.cells #[] 9)) ?_;try simp only [Act.put,pz]
  clear hK K;have Qz:=ak aE (.cells #[] 9);have KI:=D9 wn.drew 9 1 wn.heap.size rfl;refine D7 4 9 O O U' O O (fun K hK=>?_) (fun K hK=>?_)
  ·refine qQ qw _ _ O (wn.drew.alloc (.cells #[] 9)) wn.heap.size _ 0 [] KI O ⟨g,0,none⟩ jj cap (((s1).map Value.string)) O vI (fun q u hu=>(Qz.cell (p:=(⟨g,0,none⟩:Addr).add q) jn).trans (ey.out q u hu)) (fun u hu=>by obtain ⟨z0,_,rfl⟩:=List.mem_map.1 hu;rfl) J J fy ?_;intro v5 w5 az cc fG;have br:Below wn.heap.size wn w5:=Below.grown (Qz) cc fy (fun q hq=>(KI.lt q hq).1);refine hK _ _ br ?_;try simp only [Act.put,pz]
   clear hK K;refine bP 9 O U' O (fun K hK=>?_);go_simp;refine hK _ _ (ak br (.cells #[.string y] 9)) ?_;try simp only [Act.put,pz]
   clear hK K;have cD:=ak br (.cells #[.string y] 9);refine bP 10 O U' O (fun K hK=>?_);refine qQ qw _ _ O (w5.alloc (.cells #[.string y] 9)) wn.heap.size v5 _ _ (mG az (ak (aj _) _)) O ⟨w5.heap.size,0,none⟩ 1 1 [.string y] O O (DI w5 9 [.string y] w5.heap.size rfl) (fun u hu=>by rw [List.mem_singleton.1 hu];rfl) J J fS ?_;exact uM
  ·go_simp;refine hK _ _ (ak Qz (.cells #[.string y] 9)) ?_;try simp only [Act.put,pz]
   clear hK K;have cD:=ak Qz (.cells #[.string y] 9);replace KI:=mG KI (ak (aj _) (.cells #[.string y] 9));refine bP 4 O U' O (fun K hK=>?_);refine qQ qw _ _ O ((wn.drew.alloc (.cells #[] 9)).alloc (.cells #[.string y] 9)) wn.heap.size _ 0 [] KI O ⟨g,0,none⟩ jj cap (((s1).map Value.string)) O vI (fun q u hu=>(cD.cell (p:=(⟨g,0,none⟩:Addr).add q) jn).trans (ey.out q u hu)) (fun u hu=>by obtain ⟨z0,_,rfl⟩:=List.mem_map.1 hu;rfl) J J fS ?_;intro v5 w5 az cc fG;have br:Below wn.heap.size wn w5:=Below.grown (cD) cc fS (fun q hq=>(KI.lt q hq).1);refine hK _ _ br ?_;try simp only [Act.put,pz]
   clear hK K;refine bP 10 O U' O (fun K hK=>?_);refine qQ qw _ _ O w5 wn.heap.size v5 _ _ az O ⟨wn.heap.size+1,0,none⟩ 1 1 [.string y] O O (fun q u hu=>(World.cell?_of_block tj).trans ((DI (wn.drew.alloc (.cells #[] 9)) 9 [.string y] (wn.heap.size+1) S') q u hu)) (fun u hu=>by rw [List.mem_singleton.1 hu];rfl) J J iB ?_;exact mr
 ·go_simp;refine hK _ _ (ak aE (.cells #[.string y] 9)) ?_;try simp only [Act.put,pz]
  clear hK K;have cD:=ak aE (.cells #[.string y] 9);refine bP 0 O U' O (fun K hK=>?_);go_simp;refine hK _ _ (ak cD (.cells #[] 9)) ?_;try simp only [Act.put,pz]
  clear hK K;have Qz:=ak cD (.cells #[] 9);have KI:=vP (D9 (wn.drew.alloc (.cells #[.string y] 9)) 9 1 (wn.heap.size+1) S') (B':=wn.heap.size) J;refine bP 4 O U' O (fun K hK=>?_);refine qQ qw _ _ O ((wn.drew.alloc (.cells #[.string y] 9)).alloc (.cells #[] 9)) wn.heap.size _ 0 [] KI O ⟨g,0,none⟩ jj cap (((s1).map Value.string)) O vI (fun q u hu=>(Qz.cell (p:=(⟨g,0,none⟩:Addr).add q) jn).trans (ey.out q u hu)) (fun u hu=>by obtain ⟨z0,_,rfl⟩:=List.mem_map.1 hu;rfl) J J fy ?_;intro v5 w5 az cc fG;have br:Below wn.heap.size wn w5:=Below.grown (Qz) cc fy (fun q hq=>(KI.lt q hq).1);refine hK _ _ br ?_;try simp only [Act.put,pz]
  clear hK K;refine bP 10 O U' O (fun K hK=>?_);refine qQ qw _ _ O w5 wn.heap.size v5 _ _ az O ⟨wn.heap.size,0,none⟩ 1 1 [.string y] O O (fun q u hu=>(World.cell?_of_block tk).trans ((DI wn.drew 9 [.string y] wn.heap.size rfl) q u hu)) (fun u hu=>by rw [List.mem_singleton.1 hu];rfl) J J iB ?_
  exact mr):P:=h
theorem Hs {P:Prop} (h:P:=by
 try simp only [Bool.and_false,Bool.and_true,Bool.false_and,Bool.and_self] at hp
 have HF:=I (dW aq hp);clear hp;go_wp2_with fail
 refine aF _ U' U' (aj _) ?_
 repeat ((first | refine aG O ?_ | refine aH _ O El ?_);simp only [Act.put,pz])
 refine aN ?_;intro wn hn;replace hn:=hn.out;obtain ⟨kO,lZ⟩:=ay hn;have km:w.heap.size < wn.heap.size:=sq hn.size;have tm:b' < wn.heap.size:=sq hn.size;try (have ua:wr.heap.size < wn.heap.size:=sq hn.size)
 exact dr):P:=h
theorem xU {P:Prop} (h:P:=by
 refine hK _ _ bz ?_;try simp only [Act.put,pz]
 clear hK K;refine bP 11 O U' O (fun K hK=>?_);go_simp;refine hK _ _ bz ?_;try simp only [Act.put,pz]
 clear hK K;refine nR U' ?_
 exact HK _ _ ⟨g9,p9,_,_,_,_,_,_,_,_,_,_,vQ,bz,nK⟩):P:=h
theorem yI {P:Prop} (h:P:=by
 rw [HF.out];first | refine ⟨[.slice dG x.aa.length bV,.slice dS x.au.length dJ,.int .i64 x.next,.int .i64 x.weights.pack,.int .i64 x.weights.spread,.int .i64 x.weights.soft],G1,rfl,?_,?_⟩ | refine ⟨[.slice dG x.aa.length bV,.slice dS x.au.length dJ,.int .i64 x.next,.int .i64 x.weights.pack,.int .i64 x.weights.spread,.int .i64 x.weights.soft],rfl,⟨G1,?_⟩,?_⟩
 ·try dsimp only
  refine am.mono (B:=w.heap.size+1+1+1) ?_ J;exact CS
 ·exact rh):P:=h
theorem EH {P:Prop} (h:P:=by
 have RZ:=I bE;clear jX bE h h';go_wp2_with fail
 try dsimp only
 iterate 60 (first | go_step | skip)
 refine bodyPost_ret (v:=.tuple #[.agg #[.slice dG x.aa.length bV,.slice dS x.au.length dJ,.int .i64 x.next,.int .i64 x.weights.pack,.int .i64 x.weights.spread,.int .i64 x.weights.soft],.int .i64 1]) (by simp [results,Tryz.results109,go_sem, *]) rfl ?_;rw [HF.out]
 first
  | refine ⟨[.slice dG x.aa.length bV,.slice dS x.au.length dJ,.int .i64 x.next,.int .i64 x.weights.pack,.int .i64 x.weights.spread,.int .i64 x.weights.soft],G1,rfl,?_,?_⟩
  | refine ⟨[.slice dG x.aa.length bV,.slice dS x.au.length dJ,.int .i64 x.next,.int .i64 x.weights.pack,.int .i64 x.weights.spread,.int .i64 x.weights.soft],rfl,⟨G1,?_⟩,?_⟩
 ·try dsimp only
  refine am.mono (B:=w.heap.size+1+1+1) ?_ J;exact TB
 ·exact rh):P:=h
theorem xX {P:Prop} (h:P:=by
 refine hK _ _ bz ?_;try simp only [Act.put,pz]
 clear hK K;refine bP 12 O U' O (fun K hK=>?_);go_simp;refine hK _ _ bz ?_;try simp only [Act.put,pz]
 clear hK K;refine nR U' ?_
 exact HK _ _ ⟨g9,p9,_,_,_,_,_,_,_,_,_,_,_,vQ,bz,nK⟩):P:=h
theorem Hu {P:Prop} (h:P:=by
 have HF:=I (show oH nm x p = 2 by rw [rj.out,if_neg (by simp [hS]),if_pos hu]);have HS:=I hS;clear hS;go_wp2_with fail
 refine (yb.out _ bx).mono ?_;rw [HS.out];rintro e w4 ⟨rfl,bu⟩;obtain ⟨fh,hf4⟩:=ay bu;have Wy:w.heap.size < w4.heap.size:=(sq bu.size);have CL:w.heap.size+1 < w4.heap.size:=(sq bu.size);have Eg:w3.heap.size < w4.heap.size:=(sq bu.size);go_wp2_with fail
 refine (vN.out _ bx).mono ?_;rintro e w5 ⟨rfl,br⟩;obtain ⟨qX,pr⟩:=ay br;have Es:w.heap.size < w5.heap.size:=(sq br.size);have IV:w.heap.size+1 < w5.heap.size:=(sq br.size);have vL:w3.heap.size < w5.heap.size:=(sq br.size)
 exact rp):P:=h
theorem x4 {P:Prop} (h:P:=by
 refine hK _ _ bz ?_;try simp only [Act.put,pz]
 clear hK K;refine bP 9 O U' O (fun K hK=>?_);go_simp;refine hK _ _ bz ?_;try simp only [Act.put,pz]
 clear hK K;refine nR U' ?_
 exact HK _ _ ⟨g9,p9,_,_,_,_,_,_,_,_,vQ,bz,nK⟩):P:=h
theorem DY {P:Prop} (h:P:=by
 intro wq hq;have dC:=(aB hq).1;have lJ:=(aB hq).2;go_simp
 first
  | exact ⟨hq,rfl⟩
  | exact ⟨aQ hq _,rfl⟩
  | (first | (refine (wM x.au[j+1].aS _ _ _ (aJ ku CY) fo.ns fo.ll fo.ls fo.nl fo.T9 fo.tl fo.ts).mono ?_;rw [H1.out];rintro e w2 ⟨rfl,ap⟩;exact ⟨rfl,aI hq ap⟩) | (refine (kH x.au[j+1].seq 1 (x.next - 1) _).mono ?_;rw [LQ.out];rintro e w2 ⟨rfl,rfl⟩;exact ⟨rfl,hq⟩) | (refine (gQ x _ _ x.au[j+1].on _ (aJ h CY) NV.out).mono ?_;rw [Hg.out];rintro e w2 ⟨rfl,ap⟩;exact ⟨rfl,aI hq ap⟩))
  | (simp only [↓IntWalk.iteOmega];exact ⟨hq,rfl⟩)):P:=h
theorem Ej {P:Prop} (h:P:=by
 intro wq hq;have dC:=(aB hq).1;have lJ:=(aB hq).2;go_simp
 first
  | exact ⟨hq,rfl⟩
  | exact ⟨aQ hq _,rfl⟩
  | (first | (refine (wM x.au[0].aS _ _ _ (aJ ku CY) fo.ns fo.ll fo.ls fo.nl fo.T9 fo.tl fo.ts).mono ?_;rw [H1.out];rintro e w2 ⟨rfl,ap⟩;exact ⟨rfl,aI hq ap⟩) | (refine (kH x.au[0].seq 1 (x.next - 1) _).mono ?_;rw [LQ.out];rintro e w2 ⟨rfl,rfl⟩;exact ⟨rfl,hq⟩) | (refine (gQ x _ _ x.au[0].on _ (aJ h CY) NV.out).mono ?_;rw [Hg.out];rintro e w2 ⟨rfl,ap⟩;exact ⟨rfl,aI hq ap⟩))
  | (simp only [↓IntWalk.iteOmega];exact ⟨hq,rfl⟩)):P:=h
theorem xS {P:Prop} (h:P:=by
 intro wq hq;have dC:=(aB hq).1;have lJ:=(aB hq).2;go_simp
 first
  | exact ⟨hq,rfl⟩
  | (refine (HC.out y x _ (HU.out.trans (nN.lq _ hq))).mono ?_;rintro e w2 ⟨rfl,ap⟩;exact ⟨rfl,aI hq ap⟩)
  | (simp only [↓IntWalk.iteOmega];exact ⟨hq,rfl⟩)):P:=h
theorem D5 {P:Prop} (h:P:=by
 refine hK _ _ bz ?_;try simp only [Act.put,pz]
 clear hK K;refine bP 8 O U' O (fun K hK=>?_);go_simp;refine hK _ _ bz ?_;try simp only [Act.put,pz]
 clear hK K;refine nR U' ?_
 exact HK _ _ ⟨g9,p9,_,_,_,_,_,_,_,vQ,bz,nK⟩):P:=h
theorem x3 {P:Prop} (h:P:=by
 intro wq hq;have dC:=(aB hq).1;have lJ:=(aB hq).2;go_simp
 first
  | exact ⟨hq,rfl⟩
  | exact ⟨aQ hq _,rfl⟩
  | (fail)
  | (simp only [↓IntWalk.iteOmega];exact ⟨hq,rfl⟩)):P:=h
theorem Hv {P:Prop} (h:P:=by
 have HF:=I (show oH nm x p = 1 by rw [rj.out,if_pos hS]);have HS:=I hS;clear hS;go_wp2_with fail
 refine (yb.out _ bx).mono ?_;rw [HS.out];rintro e w4 ⟨rfl,bu⟩;obtain ⟨fh,hf4⟩:=ay bu;have Wy:w.heap.size < w4.heap.size:=(sq bu.size);have CL:w.heap.size+1 < w4.heap.size:=(sq bu.size);have Eg:w3.heap.size < w4.heap.size:=(sq bu.size)
 exact rp):P:=h
theorem Hy {P:Prop} (h:P:=by
 go_wp2_with fail
 refine aF wr U' U' (aj _) ?_
 repeat ((first | refine aG O ?_ | refine aH _ O yN ?_);simp only [Act.put,pz])
 exact uu):P:=h
theorem zG {P:Prop} (h:P:=by
 refine ⟨⟨k+1,g8,p8,J,N',rfl,?_,?_⟩,by simp [intOf];omega⟩
 ·rw [Jf.out,HI.out];have:=vP Le (B':=w1.heap.size) l7.out.size;exact zd
 ·exact rq):P:=h
theorem Hz {P:Prop} (h:P:=by
 go_wp2_with fail
 refine aF wr U' U' (aj _) ?_
 repeat ((first | refine aG O ?_ | refine aH _ O dE ?_);simp only [Act.put,pz])
 exact uu):P:=h
theorem D8 {P:Prop} (h:P:=by
 intro wq hq;have dC:=(aB hq).1;have lJ:=(aB hq).2;go_simp
 first
  | exact ⟨hq,rfl⟩
  | exact ⟨aQ hq _,rfl⟩
  | (refine (rO x.aa[j+1] _ _ _ (aJ hr3 CY) fo.ns fo.ll fo.ls fo.tl fo.ts).mono ?_;rw [H1.out];rintro e w6 ⟨rfl,cw⟩;exact ⟨rfl,aI hq cw⟩)
  | (simp only [↓IntWalk.iteOmega];exact ⟨hq,rfl⟩)):P:=h
theorem D' {P:Prop} (h:P:=by
 intro wq hq;have dC:=(aB hq).1;have lJ:=(aB hq).2;go_simp
 first
  | exact ⟨hq,rfl⟩
  | exact ⟨aQ hq _,rfl⟩
  | (refine (rO x.aa[0] _ _ _ (aJ hr3 CY) fo.ns fo.ll fo.ls fo.tl fo.ts).mono ?_;rw [H1.out];rintro e w6 ⟨rfl,cw⟩;exact ⟨rfl,aI hq cw⟩)
  | (simp only [↓IntWalk.iteOmega];exact ⟨hq,rfl⟩)):P:=h
theorem H9 {P:Prop} (h:P:=by
 clear hs;go_wp2_with fail
 refine aF wr U' U' (aj _) ?_
 repeat ((first | refine aG O ?_ | refine aH _ O dE ?_);simp only [Act.put,pz])
 exact Ow):P:=h
theorem ES {P:Prop} (h:P:=by
 clear cw fk lz iC;dsimp only at *;cases b
 ·go_wp2;exact ⟨⟨xs,A',c',G,k+1,rfl,N',J,nj.out,Du,fI.out,jp.out,TI⟩,by simp only [intOf];omega⟩
 ·go_wp2
  exact ⟨⟨u,A6,c6,G6,k+1,rfl,N',J,iD.out,I (kr.out rfl),fI.out,jp.out,I ((Jg.out rfl).mono J)⟩,by simp only [intOf];omega⟩):P:=h
theorem uN {P:Prop} (h:P:=by
 go_enter Tryz.func132,Tryz.ntmps132;go_wp2_with fail
 refine (rX x.key _ eV).mono ?_
 exact Ek):P:=h
theorem uP {P:Prop} (h:P:=by
 go_enter Tryz.func125,Tryz.ntmps125;go_wp2_with fail
 refine (qK x.key _ eV).mono ?_
 exact Ek):P:=h
theorem Ia {P:Prop} (h:P:=by
 go_wp2_with fail
 refine aF wr U' U' (aj _) ?_
 repeat ((first | refine aG O ?_ | refine aH _ O uk ?_);simp only [Act.put,pz])
 exact On):P:=h
theorem Ib {P:Prop} (h:P:=by
 go_wp2_with fail
 refine aF wr U' U' (aj _) ?_
 repeat ((first | refine aG O ?_ | refine aH _ O uk ?_);simp only [Act.put,pz])
 exact Oo):P:=h
theorem uQ {P:Prop} (h:P:=by
 go_wp2_with fail
 refine (J9 a b _ ha hb).mono ?_;rw [HA.out];rintro e w2 ⟨rfl,ap⟩
 exact dr):P:=h
theorem Eh {P:Prop} (h:P:=by
 rw [H2.out];rintro e w7 ⟨rfl,bz⟩;obtain ⟨hc7,hf7⟩:=ay bz;have mz:w.heap.size < w7.heap.size:=(sq bz.size);have hy7:w.heap.size+1 < w7.heap.size:=(sq bz.size);have hx7:w3.heap.size < w7.heap.size:=(sq bz.size)
 exact yP):P:=h
theorem EC {P:Prop} (h:P:=by
 rw [HF.out];refine ⟨[.slice dG x.aa.length bV,.slice dS x.au.length dJ,.int .i64 x.next,.int .i64 x.weights.pack,.int .i64 x.weights.spread,.int .i64 x.weights.soft],G1,rfl,?_,?_⟩
 ·try dsimp only
  refine am.mono (B:=w.heap.size+1+1+1) ?_ J;exact CS
 ·exact rh):P:=h
theorem Ic {P:Prop} (h:P:=by
 intro v7 w7 nK Ua lX;rw [show 0+0 = 0 by omega,List.nil_append] at nK;obtain ⟨g9,p9,hv7,fm,lw,ki⟩:=wW nK J;subst hv7;have bz:Below wn.heap.size wn w7:=Below.grown (br) Ua iB (fun q hq=>(az.lt q hq).1)
 exact EA):P:=h
theorem If {P:Prop} (h:P:=by
 intro v7 w7 nK Ua lX;rw [show 0+0 = 0 by omega,List.nil_append] at nK;obtain ⟨g9,p9,hv7,fm,lw,ki⟩:=wW nK J;subst hv7;have bz:Below wn.heap.size wn w7:=Below.grown (br) Ua iB (fun q hq=>(az.lt q hq).1)
 exact Ez):P:=h
theorem Ig {P:Prop} (h:P:=by
 cases he2:GX b p.mem with
 | none =>rw [show qG b p.mem = 9223372036854775807 by unfold qG;rw [he2];rfl] at ce nQ;exact D1
 | some s2 =>
   rw [show qG b p.mem = s2 by unfold qG;rw [he2];rfl] at ce nQ
   exact D1):P:=h
theorem Ef {P:Prop} (h:P:=by
 rw [HU.out];rintro e w3 ⟨rfl,aR⟩;obtain ⟨dk,hf3⟩:=ay aR;have cW:w.heap.size < w3.heap.size:=(sq aR.size);have uc:w.heap.size+1 < w3.heap.size:=(sq aR.size);have di:Below w.heap.size w w3:=ah eg aR;go_wp2;go_ret
 exact ⟨by rw [HF.out];rfl,bx⟩):P:=h
theorem Ea {P:Prop} (h:P:=by
 exact ⟨[.slice kM R.aa.length kN,.slice ny R.au.length nC,.int .i64 R.next,.int .i64 R.weights.pack,.int .i64 R.weights.spread,.int .i64 R.weights.soft],G,rfl,(HO.out.only OB (fun b hb=>by have:=HO.out.base b hb;omega)).mono (B':=w.heap.size) J,CU ap OB J⟩):P:=h
theorem yX {P:Prop} (h:P:=by
 have hj:=(List.getElem?_eq_some_iff.1 hu).1;rw [← ht,List.getElem?_take] at hu;split at hu
 ·simpa using hu
 ·cases hu):P:=h
theorem Ih {P:Prop} (h:P:=by
 refine ⟨⟨k+1,N+1,g8,p8,J,J,N',rfl,I ?_,?_,?_⟩,by simp [intOf];omega⟩
 ·exact uB
 ·rw [Jf.out,HI.out];have:=vP Le (B':=w.heap.size) l7.out.size;exact zd
 ·exact rq):P:=h
theorem ub {P:Prop} (h:P:=by
 go_wp2;go_ret
 exact ⟨by rw [HF.out];rfl,bx⟩):P:=h
theorem Il {P:Prop} (h:P:=by
 try simp only [Bool.and_false,Bool.and_true,Bool.false_and,Bool.and_self] at hp
 have HF:=I (jP aq hp);clear hp
 exact x9):P:=h
theorem ut {P:Prop} (h:P:=by
 try dsimp only
 refine am.mono (B:=w.heap.size+1+1+1) ?_ J
 exact aG0):P:=h
theorem zH {P:Prop} (h:P:=by
 have oM:=I hr;clear hr;go_wp2_with fail
 refine kr.out.mono ?_
 exact E'):P:=h
theorem zj {P:Prop} (h:P:=by
 rw [World.cell?_of_block (heap_alloc_old _ _ S'),cell_of_row _ _ _ _ _ _ (heap_alloc_new w _)];rfl):P:=h
theorem Im {P:Prop} (h:P:=by
 have wg:(s.toList == xs[k].toList) = false:=by rw [BEq.comm];exact hp
 have Gn:=I (yQ (p:=fun v:ByteArray=>v.toList == s.toList) aq HN.out hp)
 exact zl):P:=h
theorem Ip {P:Prop} (h:P:=by
 refine ⟨⟨k+1,N+1,g8,p8,J,J,N',rfl,I ?_,?_,?_⟩,by simp [intOf];omega⟩
 ·exact uB
 ·exact Oi
 ·exact rq):P:=h
theorem Iq {P:Prop} (h:P:=by
 refine ⟨⟨k+1,N+1,g8,p8,J,J,N',rfl,I ?_,?_,?_⟩,by simp [intOf];omega⟩
 ·exact uB
 ·exact Oj
 ·exact rq):P:=h
theorem Ir {P:Prop} (h:P:=by
 refine ⟨⟨k+1,N+1,g8,p8,J,J,N',rfl,I ?_,?_,?_⟩,by simp [intOf];omega⟩
 ·exact uB
 ·exact Ol
 ·exact rq):P:=h
theorem Is {P:Prop} (h:P:=by
 obtain ⟨R,cd⟩:=RR;dsimp only at HS ⊢;go_enter Tryz.func66,Tryz.ntmps66;go_wp2_with fail
 refine (HS.out _ _ _ (aZ h bS)).mono ?_
 exact x5):P:=h
theorem It {P:Prop} (h:P:=by
 refine aN ?_;intro wn hn;replace hn:=hn.out;simp only [HQ.out]
 exact FM):P:=h
theorem Iu {P:Prop} (h:P:=by
 have bB:k = xs.length:=by omega
 subst bB;have hn:=HN.out;rw [List.take_length] at hn;have HF:=I (acv hn);clear hn
 exact dr):P:=h
theorem Iv {P:Prop} (h:P:=by
 have HF:=I (show oH nm x p = 4 by rw [rj.out,if_neg (by simp [hS]),if_neg hu,if_neg (by simp [eS]),if_pos cG])
 exact ya):P:=h
theorem EV {P:Prop} (h:P:=by
 rcases Nat.lt_or_ge j k with h9 | h9
 ·exact HW40.out j hj h9
 ·have:j = k:=by omega
  subst this;exact hv40):P:=h
theorem Iw {P:Prop} (h:P:=by
 rw [CZ.out];have:=vP Le (B':=w.heap.size+1) (by have:=e'.out.size;have:=ka.out.size;omega)
 exact zd):P:=h
theorem Ix {P:Prop} (h:P:=by
 by_cases hc:cap = jj
 ·exact uF
 ·exact ⟨⟨g,jj,none⟩,by simp [hc],rfl,fun q u hu=>by simp at hu⟩):P:=h
theorem E4 {P:Prop} (h:P:=by
 rcases Nat.lt_or_ge g w.heap.size with aq | oS
 ·exact aq
 ·rw [Array.getElem?_eq_none oS] at hh;cases hh):P:=h
theorem zI {P:Prop} (h:P:=by
 clear hs;go_enter Tryz.func100,Tryz.ntmps100
 exact x8):P:=h
theorem zK {P:Prop} (h:P:=by
 clear hs;go_enter Tryz.func101,Tryz.ntmps101
 exact x8):P:=h
theorem Iy {P:Prop} (h:P:=by
 have h4:(x.equal == y.equal) = true:=by simp [h3]
 go_enter Tryz.func79,Tryz.ntmps79
 exact my):P:=h
theorem E6 {P:Prop} (h:P:=by
 intro b ei;rcases List.mem_cons.1 ei with rfl | ei
 ·exact ⟨dy,e,hh⟩
 ·exact h.plain b ei):P:=h
theorem zN {P:Prop} (h:P:=by
 clear hs;go_enter Tryz.func24,Tryz.ntmps24
 exact x7):P:=h
theorem zP {P:Prop} (h:P:=by
 clear hs;go_enter Tryz.func25,Tryz.ntmps25
 exact x7):P:=h
theorem zR {P:Prop} (h:P:=by
 clear hs;go_enter Tryz.func16,Tryz.ntmps16
 exact x7):P:=h
theorem zV {P:Prop} (h:P:=by
 clear hs;go_enter Tryz.func82,Tryz.ntmps82
 exact x8):P:=h
theorem D0 {P:Prop} (h:P:=by
 unfold seenIn;rw [List.any_eq_false];intro u hu;have:=HQ.out u hu
 simp [this]):P:=h
theorem uM {P:Prop} (h:P:=by
 intro v7 w7 nK Ua lX;rw [show 0+jj = jj by omega,List.nil_append] at nK;obtain ⟨g9,p9,hv7,fm,lw,ki⟩:=wW nK J;subst hv7;have bz:Below wn.heap.size wn w7:=Below.grown (cD) Ua fS (fun q hq=>(az.lt q hq).1)
 exact NP):P:=h
theorem xV {P:Prop} (h:P:=by
 intro v7 w7 nK Ua lX;rw [show 0+jj = jj by omega,List.nil_append] at nK;obtain ⟨g9,p9,hv7,fm,lw,ki⟩:=wW nK J;subst hv7;have bz:Below wn.heap.size wn w7:=Below.grown (br) Ua iB (fun q hq=>(az.lt q hq).1)
 exact xU):P:=h
theorem D6 {P:Prop} (h:P:=by
 intro v7 w7 nK Ua lX;rw [show 0+jj = jj by omega,List.nil_append] at nK;obtain ⟨g9,p9,hv7,fm,lw,ki⟩:=wW nK J;subst hv7;have bz:Below wn.heap.size wn w7:=Below.grown (br) Ua iB (fun q hq=>(az.lt q hq).1)
 exact D5):P:=h
theorem DW {P:Prop} (h:P:=by
 intro v7 w7 nK Ua lX;rw [show 0+k = k by omega,List.nil_append] at nK;obtain ⟨g9,p9,hv7,fm,lw,ki⟩:=wW nK J;subst hv7;have bz:Below wn.heap.size wn w7:=Below.grown (br) Ua iB (fun q hq=>(az.lt q hq).1)
 exact xX):P:=h
theorem D3 {P:Prop} (h:P:=by
 intro v7 w7 nK Ua lX;rw [show 0+k = k by omega,List.nil_append] at nK;obtain ⟨g9,p9,hv7,fm,lw,ki⟩:=wW nK J;subst hv7;have bz:Below wn.heap.size wn w7:=Below.grown (br) Ua iB (fun q hq=>(az.lt q hq).1)
 exact x4):P:=h
theorem yP {P:Prop} (h:P:=by
 go_wp2;go_ret
 exact ⟨by rw [HF.out];first | rfl | simp,bx⟩):P:=h
theorem Mb (S:Nat) {w:World} {b o k:Nat} {a0 a1:Value} {r:List Value} (h:∀(j:Nat) (u:Value),(a0::a1::r)[j]? = some u→w.cell? ⟨b,o+(k * S+j),none⟩ = some u):w.cell? ⟨b,o+k * S,none⟩ = some a0∧w.cell? ⟨b,o+k * S+1,none⟩ = some a1:=⟨h 0 _ rfl,by rw [Nat.add_assoc];exact h 1 _ rfl⟩
theorem qB (S:Nat) {w:World} {b o k:Nat} {a0 a1 a2:Value} {r:List Value} (h:∀(j:Nat) (u:Value),(a0::a1::a2::r)[j]? = some u→w.cell? ⟨b,o+(k * S+j),none⟩ = some u):w.cell? ⟨b,o+k * S,none⟩ = some a0∧w.cell? ⟨b,o+k * S+1,none⟩ = some a1∧w.cell? ⟨b,o+k * S+2,none⟩ = some a2:=⟨h 0 _ rfl,by rw [Nat.add_assoc];exact h 1 _ rfl,by rw [Nat.add_assoc];exact h 2 _ rfl⟩
theorem IA (S:Nat) {w:World} {b o k:Nat} {a0 a1 a2 a3:Value} {r:List Value} (h:∀(j:Nat) (u:Value),(a0::a1::a2::a3::r)[j]? = some u→w.cell? ⟨b,o+(k * S+j),none⟩ = some u):w.cell? ⟨b,o+k * S,none⟩ = some a0∧w.cell? ⟨b,o+k * S+1,none⟩ = some a1∧w.cell? ⟨b,o+k * S+2,none⟩ = some a2∧w.cell? ⟨b,o+k * S+3,none⟩ = some a3:=⟨h 0 _ rfl,by rw [Nat.add_assoc];exact h 1 _ rfl,by rw [Nat.add_assoc];exact h 2 _ rfl,by rw [Nat.add_assoc];exact h 3 _ rfl⟩
theorem nU (S:Nat) {w:World} {b o k:Nat} {a0 a1 a2 a3 a4 a5:Value} {r:List Value} (h:∀(j:Nat) (u:Value),(a0::a1::a2::a3::a4::a5::r)[j]? = some u→w.cell? ⟨b,o+(k * S+j),none⟩ = some u):w.cell? ⟨b,o+k * S,none⟩ = some a0∧w.cell? ⟨b,o+k * S+1,none⟩ = some a1∧w.cell? ⟨b,o+k * S+2,none⟩ = some a2∧w.cell? ⟨b,o+k * S+3,none⟩ = some a3∧w.cell? ⟨b,o+k * S+4,none⟩ = some a4∧w.cell? ⟨b,o+k * S+5,none⟩ = some a5:=⟨h 0 _ rfl,by rw [Nat.add_assoc];exact h 1 _ rfl,by rw [Nat.add_assoc];exact h 2 _ rfl,by rw [Nat.add_assoc];exact h 3 _ rfl,by rw [Nat.add_assoc];exact h 4 _ rfl,by rw [Nat.add_assoc];exact h 5 _ rfl⟩
theorem T' (S:Nat) {w:World} {b o k:Nat} {a0 a1 a2 a3 a4 a5 a6:Value} {r:List Value} (h:∀(j:Nat) (u:Value),(a0::a1::a2::a3::a4::a5::a6::r)[j]? = some u→w.cell? ⟨b,o+(k * S+j),none⟩ = some u):w.cell? ⟨b,o+k * S,none⟩ = some a0∧w.cell? ⟨b,o+k * S+1,none⟩ = some a1∧w.cell? ⟨b,o+k * S+2,none⟩ = some a2∧w.cell? ⟨b,o+k * S+3,none⟩ = some a3∧w.cell? ⟨b,o+k * S+4,none⟩ = some a4∧w.cell? ⟨b,o+k * S+5,none⟩ = some a5∧w.cell? ⟨b,o+k * S+6,none⟩ = some a6:=⟨h 0 _ rfl,by rw [Nat.add_assoc];exact h 1 _ rfl,by rw [Nat.add_assoc];exact h 2 _ rfl,by rw [Nat.add_assoc];exact h 3 _ rfl,by rw [Nat.add_assoc];exact h 4 _ rfl,by rw [Nat.add_assoc];exact h 5 _ rfl,by rw [Nat.add_assoc];exact h 6 _ rfl⟩
theorem x2 (S:Nat) {w:World} {b o k:Nat} {a0 a1 a2 a3 a4 a5 a6 a7 a8:Value} {r:List Value} (h:∀(j:Nat) (u:Value),(a0::a1::a2::a3::a4::a5::a6::a7::a8::r)[j]? = some u→w.cell? ⟨b,o+(k * S+j),none⟩ = some u):w.cell? ⟨b,o+k * S,none⟩ = some a0∧w.cell? ⟨b,o+k * S+1,none⟩ = some a1∧w.cell? ⟨b,o+k * S+2,none⟩ = some a2∧w.cell? ⟨b,o+k * S+3,none⟩ = some a3∧w.cell? ⟨b,o+k * S+4,none⟩ = some a4∧w.cell? ⟨b,o+k * S+5,none⟩ = some a5∧w.cell? ⟨b,o+k * S+6,none⟩ = some a6∧w.cell? ⟨b,o+k * S+7,none⟩ = some a7∧w.cell? ⟨b,o+k * S+8,none⟩ = some a8:=⟨h 0 _ rfl,by rw [Nat.add_assoc];exact h 1 _ rfl,by rw [Nat.add_assoc];exact h 2 _ rfl,by rw [Nat.add_assoc];exact h 3 _ rfl,by rw [Nat.add_assoc];exact h 4 _ rfl,by rw [Nat.add_assoc];exact h 5 _ rfl,by rw [Nat.add_assoc];exact h 6 _ rfl,by rw [Nat.add_assoc];exact h 7 _ rfl,by rw [Nat.add_assoc];exact h 8 _ rfl⟩
theorem r' {n:Nat} {w w':World} {p:Addr} {u:Value} (h:Below n w w') (k:w.cell? p = some u) (hp:p.block < n):w'.cell? p = some u:=(h.cell hp).trans k
theorem H' {P:Prop} (h:P:=by exact fun _ _ d _ _ h=>by cases d <;> exact h):P:=h
theorem W' {P:Prop} (h:P:=by refine Or.inl ⟨rfl,fun wq hq=>?_⟩;have dC:=(aB hq).1;go_simp;try rfl):P:=h
theorem sq {a b:Nat} (hs:a≤b) {P:Prop} (h:a≤b→P:=by intro this;(try simp at this);omega):P:=h hs
theorem pz:(∀{α:Type} (a:List α) (i:Nat) (v:α),a.toArray.setIfInBounds i v = (a.set i v).toArray)∧(∀{α:Type} (x y:α) (l:List α),(x :: l).set 0 y = y :: l)∧(∀{α:Type} (x y:α) (l:List α) (n:Nat),(x :: l).set (n+1) y = x :: l.set n y):=⟨fun _ _ _=>List.setIfInBounds_toArray ..,fun _ _ _=>rfl,fun _ _ _ _=>rfl⟩
theorem bx {P:Prop} (h:P:=by repeat (first | with_reducible exact aj _ | with_reducible assumption | with_reducible refine ak ?_ _ | with_reducible refine ah ?_ (by assumption))) : P := h
theorem bS {P:Prop} (h:P:=by repeat (first | with_reducible exact aj _ | with_reducible assumption | with_reducible refine ak ?_ _ | with_reducible refine aA ?_ | with_reducible refine ah ?_ (by assumption))) : P := h
theorem ee {P:Prop} (h:P:=by have f1:=HF.out;have f2:=hm.out;have f3:=hb.out;have f4:=fJ.out;omega) : P := h
theorem Uh {P:Prop} (h:P:=by first | exact hq | exact hq.out) : P := h
theorem CY {P:Prop} (h:P:=by repeat (first | with_reducible exact hq | with_reducible exact hq.out | with_reducible exact aj _ | with_reducible assumption | with_reducible refine ak ?_ _ | with_reducible refine ah ?_ Uh | with_reducible refine ah ?_ (by assumption))) : P := h
theorem bA {P:Prop} (h:P:=by dsimp only;omega) : P := h
theorem Ui {P:Prop} (h:P:=by decide +kernel) : P := h
theorem lA {P:Prop} (h:P:=by unfold maxLen;omega) : P := h
theorem eI {P:Prop} (h:P:=by simp [World.setCell]) : P := h
theorem eC {P:Prop} (h:P:=by simp [Value.oneCell']) : P := h
theorem ti {P:Prop} (h:P:=by have e1:=HN.out;have e2:=fJ.out;simp only [List.length_append,fU];omega) : P := h
theorem pD {P:Prop} (h:P:=by first | exact aE | exact aj _) : P := h
theorem jI {P:Prop} (h:P:=by first | rfl | (simp;rfl)) : P := h
theorem auf {P:Prop} (h:P:=by unfold Func.isWrapper;first | (rw [if_pos Ui];kernel_rfl) | (rw [if_neg Ui];exact ⟨rfl,rfl⟩)) : P := h
theorem tt {P:Prop} (h:P:=by first | assumption | (unfold bp;omega)) : P := h
theorem rh {P:Prop} (h:P:=by repeat (first | with_reducible exact aj _ | with_reducible assumption | with_reducible refine aC ?_ bA _ | with_reducible refine ak ?_ _ | with_reducible refine aA ?_ | with_reducible refine ah ?_ (by assumption))) : P := h
theorem CF {P:Prop} (h:P:=by have e3:=Om.out;have e4:=HD.out;have f1:=HF.out;have f2:=hm.out;have f3:=hb.out;have f4:=fJ.out;omega) : P := h
theorem vQ {P:Prop} (h:P:=by simp only [Act.put,pz];rfl) : P := h
theorem OG {P:Prop} (h:P:=by show w.heap.size+1+1 < _;omega) : P := h
theorem Mg {P:Prop} (h:P:=by intro e;have:=hr _ e.symm;omega) : P := h
theorem nk {P:Prop} (h:P:=by have:=ic.out;omega) : P := h
theorem TB {P:Prop} (h:P:=by repeat (first | with_reducible exact RZ.out | with_reducible refine am.setCell ?_ bA _)) : P := h
theorem CX {P:Prop} (h:P:=by first | exact hq | exact ah (ak (aj _) _) hq) : P := h
theorem CB {P:Prop} (h:P:=by have:=ha.out;omega) : P := h
theorem LX {P:Prop} (h:P:=by simpa only [List.append_assoc] using fg) : P := h
theorem L0 {P:Prop} (h:P:=by rw [List.length_append];have f1:=HF.out;have f2:=hm.out;have f3:=hb.out;have f4:=fJ.out;omega) : P := h
theorem nW {P:Prop} (h:P:=by unfold bp;omega) : P := h
theorem fy {P:Prop} (h:P:=by have:=(Qz).size;omega) : P := h
theorem fS {P:Prop} (h:P:=by have:=(cD).size;omega) : P := h
theorem iB {P:Prop} (h:P:=by have:=(br).size;omega) : P := h
theorem LW {P:Prop} (h:P:=by have:=HK.out;omega) : P := h
theorem NN {P:Prop} (h:P:=by simpa only [List.append_assoc] using dx) : P := h
theorem NO {P:Prop} (h:P:=by rw [List.length_append,fU];have f1:=HF.out;have f2:=hm.out;have f3:=hb.out;have f4:=fJ.out;omega) : P := h
theorem vI {P:Prop} (h:P:=by rw [List.length_map,HJ.out,Nat.mul_one]) : P := h
theorem auQ {P:Prop} (h:P:=by first | exact Nat.le_refl _ | (dsimp only;omega)) : P := h
theorem OH {P:Prop} (h:P:=by dsimp only;have:=HS.out.lt;omega) : P := h
theorem wh {P:Prop} (h:P:=by repeat (first | with_reducible exact b5 | with_reducible exact aj _ | with_reducible assumption | with_reducible refine ak ?_ _ | with_reducible refine ah ?_ (by assumption))) : P := h
theorem Me {P:Prop} (h:P:=by first | exact ah b5 hq | exact ah (ak b5 _) hq | exact ah b5 hq.out | exact ah (ak b5 _) hq.out) : P := h
theorem IC {P:Prop} (h:P:=by rw [List.length_drop];have:=HN.out;omega) : P := h
theorem auW {P:Prop} (h:P:=by obtain ⟨d0,hs⟩:=fF hA;rw [hs];rfl) : P := h
theorem jn {P:Prop} (h:P:=by rw [Addr.add_lit];exact fa) : P := h
theorem au0 {P:Prop} (h:P:=by first | rfl | go_num) : P := h
theorem Mh {P:Prop} (h:P:=by dsimp only;first | omega | (have:=oT.lt;omega)) : P := h
theorem OI {P:Prop} (h:P:=by repeat (first | with_reducible exact HS.out.below | with_reducible refine aC ?_ auQ _)) : P := h
theorem Mi {P:Prop} (h:P:=by first | exact hq | exact hq.out | exact ah (ak (aj _) _) hq) : P := h
theorem OJ {P:Prop} (h:P:=by simp [Value.ownBlock]) : P := h
theorem zW {P:Prop} (h:P:=by have:=hF y hy;dsimp only;omega) : P := h
theorem avp {P:Prop} (h:P:=by simpa using h) : P := h
theorem avq {P:Prop} (h:P:=by first | exact Nat.le_refl _ | (simp [World.setCell];done) | (simp [World.setCell];omega)) : P := h
theorem OK {P:Prop} (h:P:=by dsimp only;first | omega | (have:=zZ.lt;omega)) : P := h
theorem avs {P:Prop} (h:P:=by have:=h.below.size;omega) : P := h
theorem ON {P:Prop} (h:P:=by unfold iu;with_reducible exact (ak mA _)) : P := h
theorem avv {P:Prop} (h:P:=by simpa using hi) : P := h
theorem yL {P:Prop} (h:P:=by rw [HE.out];simp) : P := h
theorem OP {P:Prop} (h:P:=by have:=HS.out;simpa [List.append_assoc] using this) : P := h
theorem Tr {P:Prop} (h:P:=by have:=ha.out;have:=hm.out;omega) : P := h
theorem OR {P:Prop} (h:P:=by rw [List.length_take];omega) : P := h
theorem Uj {P:Prop} (h:P:=by have:=ax.size;(try simp);omega) : P := h
theorem Mj {P:Prop} (h:P:=by have:=ax.size;simp;omega) : P := h
theorem z6 {P:Prop} (h:P:=by rw [List.length_map,HJ.out];omega) : P := h
theorem lB {P:Prop} (h:P:=by have:=bz.size;omega) : P := h
theorem Uk {P:Prop} (h:P:=by have:=hg.size;simpa using this) : P := h
theorem Ul {P:Prop} (h:P:=by unfold kv;rw [cX,cM]) : P := h
theorem avX {P:Prop} (h:P:=by unfold Em;rw [fb];simp) : P := h
theorem avY {P:Prop} (h:P:=by unfold Em;rw [iZ];simp) : P := h
theorem avZ {P:Prop} (h:P:=by unfold Em;simp [hh2]) : P := h
theorem av1 {P:Prop} (h:P:=by unfold Em;simp [hh1]) : P := h
theorem av2 {P:Prop} (h:P:=by rw [sG aq,tp];rfl) : P := h
theorem Um {P:Prop} (h:P:=by dsimp only;first | omega | (have:=oV.lt;omega)) : P := h
theorem Un {P:Prop} (h:P:=by repeat (first | with_reducible exact gb.out | with_reducible refine am.setCell ?_ OH _)) : P := h
theorem Uo {P:Prop} (h:P:=by repeat (first | with_reducible exact RZ.out | with_reducible refine am.setCell ?_ OH _)) : P := h
theorem av6 {P:Prop} (h:P:=by repeat (first | with_reducible exact HO.out | with_reducible refine am.setCell ?_ bA _)) : P := h
theorem Mk {P:Prop} (h:P:=by rw [HT.out,HM.out];exact rA.out) : P := h
theorem Ml {P:Prop} (h:P:=by rw [HT.out,HM.out];have:=rA.out;omega) : P := h
theorem OS {P:Prop} (h:P:=by unfold KF;rw [dj]) : P := h
theorem Mm {P:Prop} (h:P:=by rw [h] at hr;cases hr) : P := h
theorem Mn {P:Prop} (h:P:=by rw [List.length_drop];omega) : P := h
theorem Up {P:Prop} (h:P:=by rw [hu.out,hv.out];exact Nat.le_refl _) : P := h
theorem Uq {P:Prop} (h:P:=by have:=hE.out;simpa [List.append_assoc] using this) : P := h
theorem Ur {P:Prop} (h:P:=by rw [HR.out,oW.out,List.append_assoc]) : P := h
theorem Us {P:Prop} (h:P:=by rw [List.append_nil];exact hS) : P := h
theorem Mo {P:Prop} (h:P:=by rw [cell_of_row _ _ _ _ _ _ (heap_alloc_new wr _)];rfl) : P := h
theorem Mp {P:Prop} (h:P:=by rw [List.length_map];exact hl) : P := h
theorem Mq {P:Prop} (h:P:=by rw [YC aq HP.out];exact cA) : P := h
theorem Mr {P:Prop} (h:P:=by have:=br.size;simp;omega) : P := h
theorem awM {P:Prop} (h:P:=by intro e;have:=hr _ e.symm;have:=hF y hy;omega) : P := h
theorem Uu {P:Prop} (h:P:=by have:=ax.size;have:=bw.size;(try simp);omega) : P := h
theorem ew {P:Prop} (h:P:=by first | exact nX | (dsimp only;omega)) : P := h
theorem tj {P:Prop} (h:P:=by rw [Addr.add_lit];exact cc.block (wn.heap.size+1) (by simp) OJ) : P := h
theorem tk {P:Prop} (h:P:=by rw [Addr.add_lit];exact (cc.block wn.heap.size (by simp;omega) OJ).trans (heap_alloc_old _ _ (by simp))) : P := h
theorem awR {P:Prop} (h:P:=by have:=l7.out.size;have:=bz.size;omega) : P := h
theorem Tx {P:Prop} (h:P:=by rw [List.length_append,HJ.out];rfl) : P := h
theorem Ms {P:Prop} (h:P:=by rw [List.length_map,l'.out,Nat.mul_one]) : P := h
theorem CS {P:Prop} (h:P:=by repeat (first | with_reducible exact nH.out | with_reducible refine am.setCell ?_ bA _)) : P := h
theorem CH {P:Prop} (h:P:=by rw [List.length_take,gD];omega) : P := h
theorem Uv {P:Prop} (h:P:=by have:=HJ.out;omega) : P := h
theorem rB {P:Prop} (h:P:=by first | exact mB | (dsimp only;omega)) : P := h
theorem Mt {P:Prop} (h:P:=by simpa using hk) : P := h
theorem Ty {P:Prop} (h:P:=by repeat (first | with_reducible exact hO | with_reducible refine am.setCell ?_ bA _)) : P := h
theorem TA {P:Prop} (h:P:=by repeat (first | with_reducible exact hB | with_reducible refine aC ?_ bA _)) : P := h
theorem E7 {P:Prop} (h:P:=by rw [HR.out];simp) : P := h
theorem uR {P:Prop} (h:P:=by rw [List.getElem?_append_right Uv,show jj - s1.length = 0 by have:=HJ.out;omega];rfl) : P := h
theorem TJ {P:Prop} (h:P:=by repeat (first | with_reducible exact hO | with_reducible refine am.setCell ?_ bA _ | with_reducible refine am.alloc ?_ _)) : P := h
theorem TK {P:Prop} (h:P:=by repeat (first | with_reducible exact hB | with_reducible refine aC ?_ bA _ | with_reducible refine ak ?_ _)) : P := h
theorem L7 {P:Prop} (h:P:=by repeat (first | with_reducible exact CR.out.below | with_reducible refine aC ?_ bA _)) : P := h
theorem Mu {P:Prop} (h:P:=by unfold bp;dsimp only;omega) : P := h
theorem L' {P:Prop} (h:P:=by rw [bR];exact vP l5.out (B':=w.heap.size+1+1+1) (by omega)) : P := h
theorem aG0 {P:Prop} (h:P:=by repeat (first | with_reducible exact vR.out | with_reducible refine am.setCell ?_ bA _ | with_reducible refine ax7 ?_ px.out)) : P := h
theorem OE {P:Prop} (h:P:=by rw [lE (row:=ib) (S:=2) (fun _=>rfl),HJ.out]) : P := h
theorem N0 {P:Prop} (h:P:=by rw [List.length_take,Mv.out];omega) : P := h
theorem Oy {P:Prop} (h:P:=by rw [lE (row:=gN) (S:=3) (fun _=>rfl),HJ.out]) : P := h
theorem Ox {P:Prop} (h:P:=by rw [lE (row:=gC) (S:=4) (fun _=>rfl),HJ.out]) : P := h
theorem LL {P:Prop} (h:P:=by simpa using h2) : P := h
theorem Mw {P:Prop} (h:P:=by rw [cY];exact cZ) : P := h
theorem Mx {P:Prop} (h:P:=by have:=Uw.out;rw [HN.out] at this;exact this) : P := h
theorem My {P:Prop} (h:P:=by rw [List.length_drop,gD];omega) : P := h
theorem T0 {P:Prop} (h:P:=by rw [Jf.out,HI.out];exact cT.out) : P := h
theorem Uy {P:Prop} (h:P:=by simp [World.setCell,Array.getElem?_modify,h]) : P := h
theorem OY {P:Prop} (h:P:=by unfold iu;with_reducible exact (aC (p:=⟨wr.heap.size,5,none⟩) (aC (p:=⟨wr.heap.size,4,none⟩) (aC (p:=⟨wr.heap.size,3,none⟩) (aC (p:=⟨wr.heap.size,2,none⟩) (aC (p:=⟨wr.heap.size,1,none⟩) (aC (p:=⟨wr.heap.size,0,none⟩) aE nr (.slice Nj r.aa.length Nk)) nr (.slice SB r.au.length SC)) nr (.int .i64 r.next)) nr (.int .i64 r.weights.pack)) nr (.int .i64 r.weights.spread)) nr (.int .i64 r.weights.soft))) : P := h
theorem O0 {P:Prop} (h:P:=by rw [HE.out,List.getElem?_map,List.getElem?_append_right Uv,show jj - s1.length = 0 by have:=HJ.out;omega];rfl) : P := h
theorem ay {W w1:World} (hb:Below W.heap.size W w1):(∀b o,b < W.heap.size→w1.cell? ⟨b,o,none⟩ = W.cell? ⟨b,o,none⟩)∧(∀b o,b < W.heap.size→w1.frozen? ⟨b,o,none⟩ = W.frozen? ⟨b,o,none⟩) :=
 ⟨fun b o h=>hb.cell (p:=⟨b,o,none⟩) h,fun b o h=>hb.frozen (p:=⟨b,o,none⟩) h⟩
theorem aj (w:World):Below w.heap.size w w:=Below.refl _ _
theorem ah {w w1 w2:World} (h:Below w.heap.size w w1) (k:Below w1.heap.size w1 w2):Below w.heap.size w w2:=h.trans (k.mono h.size)
theorem ak {w w1:World} (h:Below w.heap.size w w1) (o:Obj):Below w.heap.size w (w1.alloc o):=h.alloc h.size o
theorem aA {w w1:World} (h:Below w.heap.size w w1):Below w.heap.size w w1.drew:=h.drew
theorem aC {w w1:World} (h:Below w.heap.size w w1) {p:Addr} (hp:w.heap.size≤p.block) (u:Value):Below w.heap.size w (w1.setCell p u):=h.setCell hp u
section
variable {H:Type} {enc:TypeId × Value→H} {P:Program}
theorem Zi {W W':World} (hl:laidOutB P = true) (hb:Below W.heap.size W W'):∀(ts:List TypeId) (vs:List Value) (ds:List (DataW H)) (ps:List MemPlace) (sp:Nat→Bool),
 (∀t∈ts,P.readableRec t = true∧t < P.types.size)→(∀x∈ps,x.block < W.heap.size)→(∀x∈ps,sp x.block = true) →
 DataW.TrodAll enc P W 0 (fun _=>true) true ts vs ds ps→DataW.TrodAll enc P W' 0 sp true ts vs ds ps
 | [],[],[],ps,sp,_,_,_,h=>h
 | t :: ts,v :: vs,d :: ds,ps,sp,ht,aq,lb,h=>by
   obtain ⟨p,q,h1,h2,rfl⟩:=h;refine ⟨p,q,?_,Zi hl hb ts vs ds q sp (fun t' h'=>ht t' (List.mem_cons_of_mem _ h')) (fun x hx=>aq x (List.mem_append_right _ hx)) (fun x hx=>lb x (List.mem_append_right _ hx)) h2,rfl⟩;obtain ⟨hr,hs⟩:=ht t (List.mem_cons_self ..);exact WideElems.Trod_stays hl hr hs h1 (fun x hx=>hb.same (aq x (List.mem_append_left _ hx))) (fun x hx=>lb x (List.mem_append_left _ hx))
 | [],_ :: _,_,_,_,_,_,_,h=>by simp [DataW.TrodAll] at h
 | [],[],_ :: _,_,_,_,_,_,h=>by simp [DataW.TrodAll] at h
 | _ :: _,[],_,_,_,_,_,_,h=>by simp [DataW.TrodAll] at h
 | _ :: _,_ :: _,[],_,_,_,_,_,h=>by simp [DataW.TrodAll] at h
theorem nO {f:Func} {s:ChangeSpec} {apart fresh handsOn:Bool} {W W':World} {args:Array Value} {ds gs:List (DataW H)} {before:List MemPlace} {tb:TypeId}
 (hl:laidOutB P = true) (hr:∀t∈f.params.toList,P.readableRec t = true∧t < P.types.size) (htb:f.resultTypes = #[tb]) (Mz:P.underlying tb = some .bool)
 (wj:s.vars = []) (lZ:s.fn H ds = { results:=[.lit (.bool true)],args:=ds,vars:=[] })
 (hW:DataW.Whole enc P f.params.toList s.vars apart W args.toList ds gs before) (hb:Below W.heap.size W W') :
 s.post enc P f apart fresh handsOn false W args (.bool true) W':=by
 have aq:∀p∈before,p.block < W.heap.size:=fun p hp=>hW.lt p hp;have rC:=hW;obtain ⟨p,q,hA,hV,rfl,hz,hn⟩:=rC;rw [wj] at hV;obtain ⟨rfl,rfl⟩:=trodVars_none hV;simp only [List.append_nil] at *;have O1:∀(b:Nat) (sp:Nat→Bool) (hd:Bool),DataW.TrodAll enc P W' b sp hd f.resultTypes.toList ((Value.bool true).resultList f.resultTypes.size) (s.fn H (ds++[])).results []:=by intro b sp hd;rw [htb,List.append_nil,lZ];exact trodAll_cons_mk (shut_bool Mz _) trodAll_mk0
 have wu:∀sp:Nat→Bool,(∀x∈p,sp x.block = true)→DataW.TrodAll enc P W' 0 sp true f.params.toList args.toList (s.fn H (ds++[])).args p:=by intro sp lb;rw [List.append_nil,lZ];exact Zi hl hb _ _ _ _ _ hr aq lb hA
 have nZ:∀sp:Nat→Bool,DataW.TrodVars enc P W' sp s.vars (s.fn H (ds++[])).vars []:=by intro sp;rw [List.append_nil,lZ,wj];rfl
 have hold:∀x∈p,(fun b=>decide (b < W.heap.size)) x.block = true:=fun x hx=>by simpa using aq x hx
 refine ⟨ds,[],p,[],p,[],hW,O1 _ _ _,wu _ hold,nZ _,World.keptBut_mono (fun x hx=>⟨hx,by simpa using hx⟩) (hb.frame (·∈p)),fun hag=>by cases hag⟩
end
end Go.Proofs.YtajbbmembionpaaGreat
