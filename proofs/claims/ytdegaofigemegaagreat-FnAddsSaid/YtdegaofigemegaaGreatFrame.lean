/- The frame of every law's proof: if the call returns true and leaves what was there as it was, the given post holds. No condition. -/
import Derived.Test.YtdegaofigemegaaGreatRows
import Derived.Lib.Hide
import Derived.BigQuiet
import Derived.WalkSpells
import Derived.Deep.AppendLies
import Derived.Deep.Slices
import Derived.Handy
namespace Go.Proofs.YtdegaofigemegaaGreat
open Go.ChangeShapes Go.WideShapes Go.ChangeAt Go.RowKit
set_option maxRecDepth 100000
theorem I {P:Prop} (h:P):Hid P:=Lib.hid h
theorem J {P:Prop} (h:P:=by omega):P:=h
theorem J' {P:Prop} (h:P:=by rfl):P:=h
theorem U' {P:Prop} (h:P:=by kernel_rfl):P:=h
theorem S' {P:Prop} (h:P:=by simp):P:=h
theorem N' {P:Prop} (h:P:=by go_num):P:=h
theorem Y' {P:Prop} (h:P:=by assumption):P:=h
theorem Jc {P:Prop} (h:P:=by
 have hlh:lo<=hi:=by have:=hm.out;have:=hb.out;have:=HD.out;omega
 have hhd:hi<=d:=by have:=hm.out;have:=HD.out;omega
 have Jd:hi<=L.length:=by have:=hm.out;have:=HD.out;omega
 have hld:d<=lo+R.length:=by have:=hm.out;have:=hb.out;have:=HD.out;omega
 have Ij:=I mU;have Ik:=I Cs;clear mU Cs;go_wp2_with fail
 go_loopw [20,21] (λi j wr=>∃u v i0 j0:Nat,lo<=u/\u<=v/\v<=hi/\i = .int .i64 (i0:Int)/\j = .int .i64 (j0:Int)/\Hid (a+u = i0)/\Hid (a+v = j0)/\Hid (u = lo∨∃x y,L[u - 1]? = some x/\R[d - u]? = some y/\kS cv y x = false)/\Hid (v = hi∨∃x y,L[v]? = some x/\R[d - 1 - v]? = some y/\kS cv y x = true)/\jJ cE 2 W0 wr b o (P++(L++(R++Q)))) (λi j _=>(intOf j - intOf i).toNat)
 case atStart =>have e1:=Ij.out;have e2:=Ik.out;have e3:=HD.out;have e4:=hm.out;have e5:=hb.out;exact ⟨lo,hi,a+lo,a+hi,J,J,J,by first | (congr 1;omega) | (congr 1;push_cast;omega),by first | (congr 1;omega) | (congr 1;push_cast;omega),I rfl,I rfl,I (.inl rfl),I (.inl rfl),h⟩
 case round =>
  obtain ⟨u,v,i0,j0,tO,huv,hv,rfl,rfl,HI,HJ,HP1,Am,hS⟩:=hrel;by_cases ap:u < v
  ·have mW:i0 < j0:=(by have:=HI.out;have:=HJ.out;omega);have Je:j0<=m:=(by have:=HJ.out;have:=hm.out;omega);have QV:a<=i0:=(by have:=HI.out;omega);obtain ⟨t,ht⟩:∃t:Nat,(i0+j0) / 2 = t:=⟨_,rfl⟩;have Zw:i0<=t:=J;have Zx:t < j0:=J;obtain ⟨k,hk⟩:∃k,a+k = t:=⟨t - a,J⟩;have Zy:u<=k:=(by have:=HI.out;omega);have Hj:k < v:=(by have:=HJ.out;omega);have Ct:k < L.length:=J;have hkd:k < d:=J;have Cu:d - 1 - k < R.length:=J;obtain ⟨q,hq⟩:∃q:Nat,fl+m - 1 - t = q:=⟨_,rfl⟩;have hqm:m<=q:=(by have:=HD.out;omega);have hqb:q < bb:=(by have:=HD.out;have:=hb.out;omega);have hmd:fl<=bb:=(by have:=HD.out;have:=hm.out;have:=hb.out;omega);have hqq:q - m = d - 1 - k:=(by have:=HD.out;omega);have rh:L[k]? = some L[k]:=List.getElem?_eq_getElem Ct;have bO:R[d - 1 - k]? = some R[d - 1 - k]:=List.getElem?_eq_getElem Cu;obtain ⟨x,hx⟩:∃x,L[k] = x:=⟨_,rfl⟩;obtain ⟨y,hy⟩:∃y,R[d - 1 - k] = y:=⟨_,rfl⟩;rw [hx] at rh;rw [hy] at bO;have tP:(P++(L++(R++Q)))[t]? = some x:=by
    rw [List.getElem?_append_right Hk,show t - P.length = k by have:=ha.out;omega,List.getElem?_append_left Ct,rh]
   have MV:(P++(L++(R++Q)))[q]? = some y:=by rw [List.getElem?_append_right Hk,List.getElem?_append_right ZA,show q - P.length - L.length = d - 1 - k by have:=ha.out;have:=hm.out;omega,List.getElem?_append_left Cu,bO]
   have Ao:wr.cell? ⟨b,o+t * 2,none⟩ = some (.string x.key):=hS.tab _ x tP 0 _ rfl;have Aw:wr.cell? ⟨b,o+t * 2+1,none⟩ = some (.string x.value):=hS.tab _ x tP 1 _ rfl;have tQ:wr.cell? ⟨b,o+q * 2,none⟩ = some (.string y.key):=hS.tab _ y MV 0 _ rfl;have tR:wr.cell? ⟨b,o+q * 2+1,none⟩ = some (.string y.value):=hS.tab _ y MV 1 _ rfl;have HU:=I hS.ce;have aM:b < wr.heap.size:=hS.plain.lt;have HS:=I hS;have HK:=I hk;have Hm:((i0:Int)+j0) / 2 = t:=J;have hwq:IntKind.i64.wrap ((fl:Int)+m - 1 - t) = (q:Int):=(by rw [IntWalk.i64_in _ J];omega);have QY:=I (And.intro rh bO);clear hS rh bO MV tP ht hk hx hy hq hqq;cases nP:decide (cv y x < 0) with
   | false =>
     go_wp2_with fail
     refine aF wr U' U' (aj _) ?_
     repeat ((first | refine aG J' ?_ | refine aH _ J' Cv ?_);simp only [Act.put,pz])
     refine aN ?_;intro wn hn;replace hn:=hn.out;go_wp2;refine ⟨⟨k+1,v,t+1,j0,J,J,hv,N',rfl,I QZ,HJ,I (.inr ⟨x,y,by rw [Nat.add_sub_cancel];exact QY.out.1,by rw [show d - (k+1) = d - 1 - k by omega];exact QY.out.2,nP⟩),Am,HS.out.ext hn⟩,by simp [intOf];omega⟩
   | true =>
     go_wp2_with fail
     refine aF wr U' U' (aj _) ?_
     repeat ((first | refine aG J' ?_ | refine aH _ J' Cv ?_);simp only [Act.put,pz])
     refine aN ?_;intro wn hn;replace hn:=hn.out;go_wp2;refine ⟨⟨u,k,i0,t,tO,J,J,rfl,rfl,HI,HK,HP1,I (.inr ⟨x,y,QY.out.1,QY.out.2,nP⟩),HS.out.ext hn⟩,by simp [intOf];omega⟩
  ·have Jn:v = u:=J;subst Jn;have Jp:j0 = i0:=(by have:=HI.out;have:=HJ.out;omega);subst Jp;have hvd:v<=d:=J;have hdR:d - v<=R.length:=J
   obtain ⟨l1,l2,r1,r2,Ob,fJ,LJ,HM⟩:∃l1 l2 r1 r2,Hid (L = l1++l2/\R = r1++r2)/\Hid (l1.length = v/\l2.length+v = L.length/\r1.length+v = d/\r1.length+r2.length = R.length)/\Hid (b4 (kS cv) l1/\b4 (kS cv) l2/\b4 (kS cv) r1/\b4 (kS cv) r2)/\Hid (fO (kS cv) L R = fO (kS cv) l1 r1++fO (kS cv) l2 r2) :=
    ⟨L.take v,L.drop v,R.take (d - v),R.drop (d - v),I ⟨(List.take_append_drop ..).symm,(List.take_append_drop ..).symm⟩,I ⟨by rw [List.length_take];omega,by rw [List.length_drop];omega,by rw [List.length_take];omega,by rw [List.length_take,List.length_drop];omega⟩,
      I ⟨List.Pairwise.sublist (List.take_sublist ..) cW.out,List.Pairwise.sublist (List.drop_sublist ..) cW.out,List.Pairwise.sublist (List.take_sublist ..) Hs.out,List.Pairwise.sublist (List.drop_sublist ..) Hs.out⟩,
      I (ali HW.out cW.out Hs.out ZC.out ZD.out tO hv J J HP1.out Am.out)⟩
   have me:jJ cE 2 W0 wr b o (P++(l1++(l2++(r1++(r2++Q))))):=by have:=hS;rw [Ob.out.1,Ob.out.2] at this;simpa only [List.append_assoc] using this
   obtain ⟨e0,he0⟩:∃e0:Nat,fl+m - j0 = e0:=⟨_,rfl⟩;have HF:=I (show a+v = j0/\j0<=m/\e0+j0 = fl+m/\e0<=bb/\P.length = a/\a+d = fl/\m<=e0 by have f1:=HI.out;have f2:=hm.out;have f3:=hb.out;have f4:=HD.out;have f5:=ha.out;omega);have ri:(fl:Int)+m - j0 = e0:=(by have:=HF.out;omega);have hej:e0<=bb:=HF.out.2.2.2.1;have hjm:j0<=m:=HF.out.2.1;clear he0 HP1 Am hS;rcases Nat.lt_or_ge v d with aoY | aoY
   ·rcases Nat.eq_zero_or_pos v with ic | ic
    ·rcases Nat.eq_zero_or_pos r2.length with eT | eT
     ·first
       | (exfalso;have e3:=Ij.out;have e4:=Ik.out;have e5:=HD.out;have f1:=HF.out;have f2:=hm.out;have f3:=hb.out;have f4:=fJ.out;omega)
       | (
        have g1:j0 < m:=(by have f1:=HF.out;have f2:=hm.out;have f3:=hb.out;have f4:=fJ.out;omega);have g2:m < e0:=(by have f1:=HF.out;have f2:=hm.out;have f3:=hb.out;have f4:=fJ.out;omega);have g3:j0<=a:=(by have f1:=HF.out;have f2:=hm.out;have f3:=hb.out;have f4:=fJ.out;omega);have g5:fl < e0:=(by have f1:=HF.out;have f2:=hm.out;have f3:=hb.out;have f4:=fJ.out;omega);have g6:bb<=e0:=(by have f1:=HF.out;have f2:=hm.out;have f3:=hb.out;have f4:=fJ.out;omega);go_wp2_with fail
        refine (eJ W0 _ b o c N (P++l1) l2 r1 (r2++Q) j0 m e0 _ Q0 wV BI (I Q1) (I er) (I er) er er).mono ?_;rintro e w2 ⟨rfl,bS⟩;replace bS:jJ cE 2 W0 w2 b o (P++(l1++(r1++(l2++(r2++Q))))):=(by simpa only [List.append_assoc] using bS);go_wp2_with fail
        have S5:l1 = []:=List.eq_nil_of_length_eq_zero er;have cG:jJ cE 2 W0 w2 b o (P++(fO (kS cv) l1 r1++(l2++(r2++Q)))):=(by rw [S5] at bS |-;simpa only [ig,List.nil_append] using bS);have S6:r2 = []:=List.eq_nil_of_length_eq_zero er;have ph:jJ cE 2 W0 w2 b o (P++(fO (kS cv) l1 r1++(fO (kS cv) l2 r2++Q))):=(by rw [S6] at cG |-;simpa only [gZ,List.nil_append] using cG);go_end0
        refine ⟨rfl,?_⟩;rw [HM.out]
        simpa only [List.append_assoc] using ph)
     ·first
       | (exfalso;have e3:=Ij.out;have e4:=Ik.out;have e5:=HD.out;have f1:=HF.out;have f2:=hm.out;have f3:=hb.out;have f4:=fJ.out;omega)
       | (
        have g1:j0 < m:=(by have f1:=HF.out;have f2:=hm.out;have f3:=hb.out;have f4:=fJ.out;omega);have g2:m < e0:=(by have f1:=HF.out;have f2:=hm.out;have f3:=hb.out;have f4:=fJ.out;omega);have g3:j0<=a:=(by have f1:=HF.out;have f2:=hm.out;have f3:=hb.out;have f4:=fJ.out;omega);have g5:fl < e0:=(by have f1:=HF.out;have f2:=hm.out;have f3:=hb.out;have f4:=fJ.out;omega);have g6:e0 < bb:=(by have f1:=HF.out;have f2:=hm.out;have f3:=hb.out;have f4:=fJ.out;omega);go_wp2_with fail
        refine (eJ W0 _ b o c N (P++l1) l2 r1 (r2++Q) j0 m e0 _ Q0 wV BI (I Q1) (I er) (I er) er er).mono ?_;rintro e w2 ⟨rfl,bS⟩;replace bS:jJ cE 2 W0 w2 b o (P++(l1++(r1++(l2++(r2++Q))))):=(by simpa only [List.append_assoc] using bS);go_wp2_with fail
        have S5:l1 = []:=List.eq_nil_of_length_eq_zero er;have cG:jJ cE 2 W0 w2 b o (P++(fO (kS cv) l1 r1++(l2++(r2++Q)))):=(by rw [S5] at bS |-;simpa only [ig,List.nil_append] using bS);refine (Hu.out W0 _ b o c N (P++fO (kS cv) l1 r1) l2 r2 Q fl e0 bb cv S7 wV BI (I S9) (I er) (I er) er er HW.out LJ.out.2.1 LJ.out.2.2.2 HC.out Hv).mono ?_;rintro e w4 ⟨rfl,ph⟩;go_wp2;go_end0
        refine ⟨rfl,?_⟩;rw [HM.out]
        simpa only [List.append_assoc] using ph)
    ·rcases Nat.eq_zero_or_pos l2.length with cA | cA
     ·first
       | (exfalso;have e3:=Ij.out;have e4:=Ik.out;have e5:=HD.out;have f1:=HF.out;have f2:=hm.out;have f3:=hb.out;have f4:=fJ.out;omega)
       | (
        have g1:m<=j0:=(by have f1:=HF.out;have f2:=hm.out;have f3:=hb.out;have f4:=fJ.out;omega);have g3:a < j0:=(by have f1:=HF.out;have f2:=hm.out;have f3:=hb.out;have f4:=fJ.out;omega);have g4:j0 < fl:=(by have f1:=HF.out;have f2:=hm.out;have f3:=hb.out;have f4:=fJ.out;omega);have g5:e0<=fl:=(by have f1:=HF.out;have f2:=hm.out;have f3:=hb.out;have f4:=fJ.out;omega);go_wp2_with fail
        have Jq:l2 = []:=List.eq_nil_of_length_eq_zero er;have bS:jJ cE 2 W0 wr b o (P++(l1++(r1++(l2++(r2++Q))))):=(by rw [Jq] at me |-;simpa only [List.append_assoc,List.nil_append] using me);refine (Hu.out W0 _ b o c N P l1 r1 (l2++(r2++Q)) a j0 fl cv bS wV BI ha (I er) (I er) er er HW.out LJ.out.1 LJ.out.2.2.1 HC.out Hv).mono ?_;rintro e w3 ⟨rfl,cG⟩;go_wp2_with fail
        have ph:jJ cE 2 W0 w3 b o (P++(fO (kS cv) l1 r1++(fO (kS cv) l2 r2++Q))):=(by rw [Jq] at cG |-;simpa only [ig,List.nil_append] using cG);go_end0
        refine ⟨rfl,?_⟩;rw [HM.out]
        simpa only [List.append_assoc] using ph)
     ·rcases Nat.eq_zero_or_pos r2.length with eT | eT
      ·first
        | (exfalso;have e3:=Ij.out;have e4:=Ik.out;have e5:=HD.out;have f1:=HF.out;have f2:=hm.out;have f3:=hb.out;have f4:=fJ.out;omega)
        | (
         have g1:j0 < m:=(by have f1:=HF.out;have f2:=hm.out;have f3:=hb.out;have f4:=fJ.out;omega);have g2:m < e0:=(by have f1:=HF.out;have f2:=hm.out;have f3:=hb.out;have f4:=fJ.out;omega);have g3:a < j0:=(by have f1:=HF.out;have f2:=hm.out;have f3:=hb.out;have f4:=fJ.out;omega);have g4:j0 < fl:=(by have f1:=HF.out;have f2:=hm.out;have f3:=hb.out;have f4:=fJ.out;omega);have g5:fl < e0:=(by have f1:=HF.out;have f2:=hm.out;have f3:=hb.out;have f4:=fJ.out;omega);have g6:bb<=e0:=(by have f1:=HF.out;have f2:=hm.out;have f3:=hb.out;have f4:=fJ.out;omega);go_wp2_with fail
         refine (eJ W0 _ b o c N (P++l1) l2 r1 (r2++Q) j0 m e0 _ Q0 wV BI (I Q1) (I er) (I er) er er).mono ?_;rintro e w2 ⟨rfl,bS⟩;replace bS:jJ cE 2 W0 w2 b o (P++(l1++(r1++(l2++(r2++Q))))):=(by simpa only [List.append_assoc] using bS);go_wp2_with fail
         refine (Hu.out W0 _ b o c N P l1 r1 (l2++(r2++Q)) a j0 fl cv bS wV BI ha (I er) (I er) er er HW.out LJ.out.1 LJ.out.2.2.1 HC.out Hv).mono ?_;rintro e w3 ⟨rfl,cG⟩;go_wp2_with fail
         have S6:r2 = []:=List.eq_nil_of_length_eq_zero er;have ph:jJ cE 2 W0 w3 b o (P++(fO (kS cv) l1 r1++(fO (kS cv) l2 r2++Q))):=(by rw [S6] at cG |-;simpa only [gZ,List.nil_append] using cG);go_end0
         refine ⟨rfl,?_⟩;rw [HM.out]
         simpa only [List.append_assoc] using ph)
      ·first
        | (exfalso;have e3:=Ij.out;have e4:=Ik.out;have e5:=HD.out;have f1:=HF.out;have f2:=hm.out;have f3:=hb.out;have f4:=fJ.out;omega)
        | (
         have g1:j0 < m:=(by have f1:=HF.out;have f2:=hm.out;have f3:=hb.out;have f4:=fJ.out;omega);have g2:m < e0:=(by have f1:=HF.out;have f2:=hm.out;have f3:=hb.out;have f4:=fJ.out;omega);have g3:a < j0:=(by have f1:=HF.out;have f2:=hm.out;have f3:=hb.out;have f4:=fJ.out;omega);have g4:j0 < fl:=(by have f1:=HF.out;have f2:=hm.out;have f3:=hb.out;have f4:=fJ.out;omega);have g5:fl < e0:=(by have f1:=HF.out;have f2:=hm.out;have f3:=hb.out;have f4:=fJ.out;omega);have g6:e0 < bb:=(by have f1:=HF.out;have f2:=hm.out;have f3:=hb.out;have f4:=fJ.out;omega);go_wp2_with fail
         refine (eJ W0 _ b o c N (P++l1) l2 r1 (r2++Q) j0 m e0 _ Q0 wV BI (I Q1) (I er) (I er) er er).mono ?_;rintro e w2 ⟨rfl,bS⟩;replace bS:jJ cE 2 W0 w2 b o (P++(l1++(r1++(l2++(r2++Q))))):=(by simpa only [List.append_assoc] using bS);go_wp2_with fail
         refine (Hu.out W0 _ b o c N P l1 r1 (l2++(r2++Q)) a j0 fl cv bS wV BI ha (I er) (I er) er er HW.out LJ.out.1 LJ.out.2.2.1 HC.out Hv).mono ?_;rintro e w3 ⟨rfl,cG⟩;go_wp2_with fail
         refine (Hu.out W0 _ b o c N (P++fO (kS cv) l1 r1) l2 r2 Q fl e0 bb cv S7 wV BI (I S9) (I er) (I er) er er HW.out LJ.out.2.1 LJ.out.2.2.2 HC.out Hv).mono ?_;rintro e w4 ⟨rfl,ph⟩;go_wp2;go_end0
         refine ⟨rfl,?_⟩;rw [HM.out]
         simpa only [List.append_assoc] using ph)
   ·rcases Nat.eq_zero_or_pos l2.length with cA | cA
    ·first
      | (exfalso;have e3:=Ij.out;have e4:=Ik.out;have e5:=HD.out;have f1:=HF.out;have f2:=hm.out;have f3:=hb.out;have f4:=fJ.out;omega)
      | (
       have g1:m<=j0:=(by have f1:=HF.out;have f2:=hm.out;have f3:=hb.out;have f4:=fJ.out;omega);have g3:a < j0:=(by have f1:=HF.out;have f2:=hm.out;have f3:=hb.out;have f4:=fJ.out;omega);have g4:fl<=j0:=(by have f1:=HF.out;have f2:=hm.out;have f3:=hb.out;have f4:=fJ.out;omega);have g5:e0<=fl:=(by have f1:=HF.out;have f2:=hm.out;have f3:=hb.out;have f4:=fJ.out;omega);go_wp2_with fail
       have Jq:l2 = []:=List.eq_nil_of_length_eq_zero er;have bS:jJ cE 2 W0 wr b o (P++(l1++(r1++(l2++(r2++Q))))):=(by rw [Jq] at me |-;simpa only [List.append_assoc,List.nil_append] using me);have Q2:r1 = []:=List.eq_nil_of_length_eq_zero er;have cG:jJ cE 2 W0 wr b o (P++(fO (kS cv) l1 r1++(l2++(r2++Q)))):=(by rw [Q2] at bS |-;simpa only [gZ,List.nil_append] using bS);have ph:jJ cE 2 W0 wr b o (P++(fO (kS cv) l1 r1++(fO (kS cv) l2 r2++Q))):=(by rw [Jq] at cG |-;simpa only [ig,List.nil_append] using cG);go_end0
       refine ⟨rfl,?_⟩;rw [HM.out]
       simpa only [List.append_assoc] using ph)
    ·first
      | (exfalso;have e3:=Ij.out;have e4:=Ik.out;have e5:=HD.out;have f1:=HF.out;have f2:=hm.out;have f3:=hb.out;have f4:=fJ.out;omega)
      | (
       have g1:j0 < m:=(by have f1:=HF.out;have f2:=hm.out;have f3:=hb.out;have f4:=fJ.out;omega);have g2:e0<=m:=(by have f1:=HF.out;have f2:=hm.out;have f3:=hb.out;have f4:=fJ.out;omega);have g3:a < j0:=(by have f1:=HF.out;have f2:=hm.out;have f3:=hb.out;have f4:=fJ.out;omega);have g4:fl<=j0:=(by have f1:=HF.out;have f2:=hm.out;have f3:=hb.out;have f4:=fJ.out;omega);have g5:fl < e0:=(by have f1:=HF.out;have f2:=hm.out;have f3:=hb.out;have f4:=fJ.out;omega);have g6:e0 < bb:=(by have f1:=HF.out;have f2:=hm.out;have f3:=hb.out;have f4:=fJ.out;omega);go_wp2_with fail
       have Q2:r1 = []:=List.eq_nil_of_length_eq_zero er;have bS:jJ cE 2 W0 wr b o (P++(l1++(r1++(l2++(r2++Q))))):=(by rw [Q2] at me |-;simpa only [List.append_assoc,List.nil_append] using me);have cG:jJ cE 2 W0 wr b o (P++(fO (kS cv) l1 r1++(l2++(r2++Q)))):=(by rw [Q2] at bS |-;simpa only [gZ,List.nil_append] using bS);refine (Hu.out W0 _ b o c N (P++fO (kS cv) l1 r1) l2 r2 Q fl e0 bb cv S7 wV BI (I S9) (I er) (I er) er er HW.out LJ.out.2.1 LJ.out.2.2.2 HC.out Hv).mono ?_;rintro e w4 ⟨rfl,ph⟩;go_wp2;go_end0
       refine ⟨rfl,?_⟩;rw [HM.out]
       simpa only [List.append_assoc] using ph)):P:=h
theorem Cw {P:Prop} (h:P:=by
 intro HK;have bo:Below wn.heap.size wn wn.drew:=aA (aj _);refine aX 1 _ J' U' H' bo W' ?_;try simp only [Act.put,pz]
 refine aX 2 _ J' U' H' bo W' ?_;try simp only [Act.put,pz]
 refine aX 3 _ J' U' H' bo W' ?_;try simp only [Act.put,pz]
 refine aX 5 _ J' U' H' bo W' ?_;try simp only [Act.put,pz]
 refine aX 6 _ J' U' H' bo W' ?_;try simp only [Act.put,pz]
 refine aX 7 _ J' U' H' bo W' ?_;try simp only [Act.put,pz]
 refine aX 8 _ J' U' H' bo W' ?_;try simp only [Act.put,pz]
 refine D7 0 9 J' J' U' J' J' (λK hK=>?_) (λK hK=>?_)
 ·go_simp;refine hK _ _ (ak bo (.cells #[] 9)) ?_;try simp only [Act.put,pz]
  clear hK K;have Qz:=ak bo (.cells #[] 9);have KI:=D9 wn.drew 9 1 wn.heap.size rfl;refine D7 4 9 J' J' U' J' J' (λK hK=>?_) (λK hK=>?_)
  ·refine qQ qw _ _ J' (wn.drew.alloc (.cells #[] 9)) wn.heap.size _ 0 [] KI J' ⟨g,0,none⟩ jj cap ((s1.map Value.string)) J' AD (λq u hu=>(Qz.cell (p:=(⟨g,0,none⟩:Addr).add q) li).trans (eK.out q u hu)) (λu hu=>by obtain ⟨z0,_,rfl⟩:=List.mem_map.1 hu;rfl) J J gb ?_;intro v5 w5 bc cg gd;have bu:Below wn.heap.size wn w5:=Below.grown (Qz) cg gb (λq hq=>(KI.lt q hq).1);refine hK _ _ bu ?_;try simp only [Act.put,pz]
   clear hK K;refine bP 9 J' U' J' (λK hK=>?_);go_simp;refine hK _ _ (ak bu (.cells #[.string y] 9)) ?_;try simp only [Act.put,pz]
   clear hK K;have cL:=ak bu (.cells #[.string y] 9);refine bP 10 J' U' J' (λK hK=>?_);refine qQ qw _ _ J' (w5.alloc (.cells #[.string y] 9)) wn.heap.size v5 _ _ (mG bc (ak (aj _) _)) J' ⟨w5.heap.size,0,none⟩ 1 1 [.string y] J' J' (DI w5 9 [.string y] w5.heap.size rfl) (λu hu=>by rw [List.mem_singleton.1 hu];rfl) J J gn ?_;intro v7 w7 nK Ua nQ;rw [show 0+jj = jj by omega,List.nil_append] at nK;obtain ⟨g9,p9,hv7,pj,kp,iJ⟩:=wW nK J;subst hv7;have bw:Below wn.heap.size wn w7:=Below.grown (cL) Ua gn (λq hq=>(bc.lt q hq).1);exact Cx
  ·go_simp;refine hK _ _ (ak Qz (.cells #[.string y] 9)) ?_;try simp only [Act.put,pz]
   clear hK K;have cL:=ak Qz (.cells #[.string y] 9);replace KI:=mG KI (ak (aj _) (.cells #[.string y] 9));refine bP 4 J' U' J' (λK hK=>?_);refine qQ qw _ _ J' ((wn.drew.alloc (.cells #[] 9)).alloc (.cells #[.string y] 9)) wn.heap.size _ 0 [] KI J' ⟨g,0,none⟩ jj cap ((s1.map Value.string)) J' AD (λq u hu=>(cL.cell (p:=(⟨g,0,none⟩:Addr).add q) li).trans (eK.out q u hu)) (λu hu=>by obtain ⟨z0,_,rfl⟩:=List.mem_map.1 hu;rfl) J J gn ?_;intro v5 w5 bc cg gd;have bu:Below wn.heap.size wn w5:=Below.grown (cL) cg gn (λq hq=>(KI.lt q hq).1);refine hK _ _ bu ?_;try simp only [Act.put,pz]
   clear hK K;refine bP 10 J' U' J' (λK hK=>?_);refine qQ qw _ _ J' w5 wn.heap.size v5 _ _ bc J' ⟨wn.heap.size+1,0,none⟩ 1 1 [.string y] J' J' (λq u hu=>(World.cell?_of_block wX).trans ((DI (wn.drew.alloc (.cells #[] 9)) 9 [.string y] (wn.heap.size+1) S') q u hu)) (λu hu=>by rw [List.mem_singleton.1 hu];rfl) J J j6 ?_;exact Cy
 ·go_simp;refine hK _ _ (ak bo (.cells #[.string y] 9)) ?_;try simp only [Act.put,pz]
  clear hK K;have cL:=ak bo (.cells #[.string y] 9);refine bP 0 J' U' J' (λK hK=>?_);go_simp;refine hK _ _ (ak cL (.cells #[] 9)) ?_;try simp only [Act.put,pz]
  clear hK K;have Qz:=ak cL (.cells #[] 9);have KI:=vP (D9 (wn.drew.alloc (.cells #[.string y] 9)) 9 1 (wn.heap.size+1) S') (B':=wn.heap.size) J;refine bP 4 J' U' J' (λK hK=>?_);refine qQ qw _ _ J' ((wn.drew.alloc (.cells #[.string y] 9)).alloc (.cells #[] 9)) wn.heap.size _ 0 [] KI J' ⟨g,0,none⟩ jj cap ((s1.map Value.string)) J' AD (λq u hu=>(Qz.cell (p:=(⟨g,0,none⟩:Addr).add q) li).trans (eK.out q u hu)) (λu hu=>by obtain ⟨z0,_,rfl⟩:=List.mem_map.1 hu;rfl) J J gb ?_;intro v5 w5 bc cg gd;have bu:Below wn.heap.size wn w5:=Below.grown (Qz) cg gb (λq hq=>(KI.lt q hq).1);refine hK _ _ bu ?_;try simp only [Act.put,pz]
  clear hK K;refine bP 10 J' U' J' (λK hK=>?_);refine qQ qw _ _ J' w5 wn.heap.size v5 _ _ bc J' ⟨wn.heap.size,0,none⟩ 1 1 [.string y] J' J' (λq u hu=>(World.cell?_of_block xa).trans ((DI wn.drew 9 [.string y] wn.heap.size rfl) q u hu)) (λu hu=>by rw [List.mem_singleton.1 hu];rfl) J J j6 ?_
  exact Cy):P:=h
theorem ou {P:Prop} (h:P:=by
 exact Cy):P:=h
theorem Ta {P:Prop} (h:P:=by
 exact Cx):P:=h
theorem cZ {P:Prop} (h:P:=by
 intro wq hq;have et:=(aB hq).1;have lJ:=(aB hq).2;go_simp
 first
  | exact ⟨hq,rfl⟩
  | exact ⟨aQ hq _,rfl⟩
  | (fail)
  | (simp only [↓IntWalk.iteOmega];exact ⟨hq,rfl⟩)):P:=h
theorem Jr {P:Prop} (h:P:=by
 intro HK;have bo:Below wn.heap.size wn wn.drew:=aA (aj _);refine aX 1 _ J' U' H' bo W' ?_;try simp only [Act.put,pz]
 refine aX 2 _ J' U' H' bo W' ?_;try simp only [Act.put,pz]
 refine aX 3 _ J' U' H' bo W' ?_;try simp only [Act.put,pz]
 refine aX 4 _ J' U' H' bo W' ?_;try simp only [Act.put,pz]
 refine aX 6 _ J' U' H' bo W' ?_;try simp only [Act.put,pz]
 refine aX 7 _ J' U' H' bo W' ?_;try simp only [Act.put,pz]
 refine aX 8 _ J' U' H' bo W' ?_;try simp only [Act.put,pz]
 refine aX 9 _ J' U' H' bo W' ?_;try simp only [Act.put,pz]
 refine D7 0 10 J' J' U' J' J' (λK hK=>?_) (λK hK=>?_)
 ·go_simp;refine hK _ _ (ak bo (.cells #[] 47)) ?_;try simp only [Act.put,pz]
  clear hK K;have Qz:=ak bo (.cells #[] 47);have KI:=D9 wn.drew 47 9 wn.heap.size rfl;refine D7 5 10 J' J' U' J' J' (λK hK=>?_) (λK hK=>?_)
  ·refine qQ ov _ _ J' (wn.drew.alloc (.cells #[] 47)) wn.heap.size _ 0 [] KI J' ⟨g,0,none⟩ k dJ ((ds.take (k * 9))) J' Cz (λq u hu=>(Qz.cell (p:=(⟨g,0,none⟩:Addr).add q) li).trans (eK.out q u hu)) (λu hu=>lw.out u (List.mem_of_mem_take hu)) J J gb ?_;intro v5 w5 bc cg gd;have bu:Below wn.heap.size wn w5:=Below.grown (Qz) cg gb (λq hq=>(KI.lt q hq).1);refine hK _ _ bu ?_;try simp only [Act.put,pz]
   clear hK K;refine bP 10 J' U' J' (λK hK=>?_);go_simp;refine hK _ _ (ak bu (.cells #[.string n.name,.slice bY n.labels.length bZ,.int .i64 n.aq,.int .i64 n.mem,.int .i64 n.av,.slice eU n.af.length eX,.slice bg n.ae.length bn,.string ⟨#[]⟩,.int .i64 x.next] 47)) ?_;try simp only [Act.put,pz]
   clear hK K;have cL:=ak bu (.cells #[.string n.name,.slice bY n.labels.length bZ,.int .i64 n.aq,.int .i64 n.mem,.int .i64 n.av,.slice eU n.af.length eX,.slice bg n.ae.length bn,.string ⟨#[]⟩,.int .i64 x.next] 47);refine bP 11 J' U' J' (λK hK=>?_);refine qQ ov _ _ J' (w5.alloc (.cells #[.string n.name,.slice bY n.labels.length bZ,.int .i64 n.aq,.int .i64 n.mem,.int .i64 n.av,.slice eU n.af.length eX,.slice bg n.ae.length bn,.string ⟨#[]⟩,.int .i64 x.next] 47)) wn.heap.size v5 _ _ (mG bc (ak (aj _) _)) J' ⟨w5.heap.size,0,none⟩ 1 1 [.string n.name,.slice bY n.labels.length bZ,.int .i64 n.aq,.int .i64 n.mem,.int .i64 n.av,.slice eU n.af.length eX,.slice bg n.ae.length bn,.string ⟨#[]⟩,.int .i64 x.next] J' J' (DI w5 47 [.string n.name,.slice bY n.labels.length bZ,.int .i64 n.aq,.int .i64 n.mem,.int .i64 n.av,.slice eU n.af.length eX,.slice bg n.ae.length bn,.string ⟨#[]⟩,.int .i64 x.next] w5.heap.size rfl) mj.out J J gn ?_;intro v7 w7 nK Ua nQ;rw [show 0+k = k by omega,List.nil_append] at nK;obtain ⟨g9,p9,hv7,pj,kp,iJ⟩:=wW nK J;subst hv7;have bw:Below wn.heap.size wn w7:=Below.grown (cL) Ua gn (λq hq=>(bc.lt q hq).1);exact CA
  ·go_simp;refine hK _ _ (ak Qz (.cells #[.string n.name,.slice bY n.labels.length bZ,.int .i64 n.aq,.int .i64 n.mem,.int .i64 n.av,.slice eU n.af.length eX,.slice bg n.ae.length bn,.string ⟨#[]⟩,.int .i64 x.next] 47)) ?_;try simp only [Act.put,pz]
   clear hK K;have cL:=ak Qz (.cells #[.string n.name,.slice bY n.labels.length bZ,.int .i64 n.aq,.int .i64 n.mem,.int .i64 n.av,.slice eU n.af.length eX,.slice bg n.ae.length bn,.string ⟨#[]⟩,.int .i64 x.next] 47);replace KI:=mG KI (ak (aj _) (.cells #[.string n.name,.slice bY n.labels.length bZ,.int .i64 n.aq,.int .i64 n.mem,.int .i64 n.av,.slice eU n.af.length eX,.slice bg n.ae.length bn,.string ⟨#[]⟩,.int .i64 x.next] 47));refine bP 5 J' U' J' (λK hK=>?_);refine qQ ov _ _ J' ((wn.drew.alloc (.cells #[] 47)).alloc (.cells #[.string n.name,.slice bY n.labels.length bZ,.int .i64 n.aq,.int .i64 n.mem,.int .i64 n.av,.slice eU n.af.length eX,.slice bg n.ae.length bn,.string ⟨#[]⟩,.int .i64 x.next] 47)) wn.heap.size _ 0 [] KI J' ⟨g,0,none⟩ k dJ ((ds.take (k * 9))) J' Cz (λq u hu=>(cL.cell (p:=(⟨g,0,none⟩:Addr).add q) li).trans (eK.out q u hu)) (λu hu=>lw.out u (List.mem_of_mem_take hu)) J J gn ?_;intro v5 w5 bc cg gd;have bu:Below wn.heap.size wn w5:=Below.grown (cL) cg gn (λq hq=>(KI.lt q hq).1);refine hK _ _ bu ?_;try simp only [Act.put,pz]
   clear hK K;refine bP 11 J' U' J' (λK hK=>?_);refine qQ ov _ _ J' w5 wn.heap.size v5 _ _ bc J' ⟨wn.heap.size+1,0,none⟩ 1 1 [.string n.name,.slice bY n.labels.length bZ,.int .i64 n.aq,.int .i64 n.mem,.int .i64 n.av,.slice eU n.af.length eX,.slice bg n.ae.length bn,.string ⟨#[]⟩,.int .i64 x.next] J' J' (λq u hu=>(World.cell?_of_block wX).trans ((DI (wn.drew.alloc (.cells #[] 47)) 47 [.string n.name,.slice bY n.labels.length bZ,.int .i64 n.aq,.int .i64 n.mem,.int .i64 n.av,.slice eU n.af.length eX,.slice bg n.ae.length bn,.string ⟨#[]⟩,.int .i64 x.next] (wn.heap.size+1) S') q u hu)) mj.out J J j6 ?_;exact Js
 ·go_simp;refine hK _ _ (ak bo (.cells #[.string n.name,.slice bY n.labels.length bZ,.int .i64 n.aq,.int .i64 n.mem,.int .i64 n.av,.slice eU n.af.length eX,.slice bg n.ae.length bn,.string ⟨#[]⟩,.int .i64 x.next] 47)) ?_;try simp only [Act.put,pz]
  clear hK K;have cL:=ak bo (.cells #[.string n.name,.slice bY n.labels.length bZ,.int .i64 n.aq,.int .i64 n.mem,.int .i64 n.av,.slice eU n.af.length eX,.slice bg n.ae.length bn,.string ⟨#[]⟩,.int .i64 x.next] 47);refine bP 0 J' U' J' (λK hK=>?_);go_simp;refine hK _ _ (ak cL (.cells #[] 47)) ?_;try simp only [Act.put,pz]
  clear hK K;have Qz:=ak cL (.cells #[] 47);have KI:=vP (D9 (wn.drew.alloc (.cells #[.string n.name,.slice bY n.labels.length bZ,.int .i64 n.aq,.int .i64 n.mem,.int .i64 n.av,.slice eU n.af.length eX,.slice bg n.ae.length bn,.string ⟨#[]⟩,.int .i64 x.next] 47)) 47 9 (wn.heap.size+1) S') (B':=wn.heap.size) J;refine bP 5 J' U' J' (λK hK=>?_);refine qQ ov _ _ J' ((wn.drew.alloc (.cells #[.string n.name,.slice bY n.labels.length bZ,.int .i64 n.aq,.int .i64 n.mem,.int .i64 n.av,.slice eU n.af.length eX,.slice bg n.ae.length bn,.string ⟨#[]⟩,.int .i64 x.next] 47)).alloc (.cells #[] 47)) wn.heap.size _ 0 [] KI J' ⟨g,0,none⟩ k dJ ((ds.take (k * 9))) J' Cz (λq u hu=>(Qz.cell (p:=(⟨g,0,none⟩:Addr).add q) li).trans (eK.out q u hu)) (λu hu=>lw.out u (List.mem_of_mem_take hu)) J J gb ?_;intro v5 w5 bc cg gd;have bu:Below wn.heap.size wn w5:=Below.grown (Qz) cg gb (λq hq=>(KI.lt q hq).1);refine hK _ _ bu ?_;try simp only [Act.put,pz]
  clear hK K;refine bP 11 J' U' J' (λK hK=>?_);refine qQ ov _ _ J' w5 wn.heap.size v5 _ _ bc J' ⟨wn.heap.size,0,none⟩ 1 1 [.string n.name,.slice bY n.labels.length bZ,.int .i64 n.aq,.int .i64 n.mem,.int .i64 n.av,.slice eU n.af.length eX,.slice bg n.ae.length bn,.string ⟨#[]⟩,.int .i64 x.next] J' J' (λq u hu=>(World.cell?_of_block xa).trans ((DI wn.drew 47 [.string n.name,.slice bY n.labels.length bZ,.int .i64 n.aq,.int .i64 n.mem,.int .i64 n.av,.slice eU n.af.length eX,.slice bg n.ae.length bn,.string ⟨#[]⟩,.int .i64 x.next] wn.heap.size rfl) q u hu)) mj.out J J j6 ?_
  exact Js):P:=h
theorem se {P:Prop} (h:P:=by
 try simp only [Bool.and_false,Bool.and_true,Bool.false_and,Bool.and_self] at hp
 have HF:=I (dW ap hp);clear hp;go_wp2_with (go_at_call 33;refine (iQ x _ _ x.O[j+1].name _ (aJ h bJ) Ji.out).mono ?_;rw [HU.out];rintro e w5 ⟨rfl,bu⟩;obtain ⟨pA,ow⟩:=ay bu;have Es:w.heap.size < w5.heap.size:=(sq bu.size);have IV:b' < w5.heap.size:=(sq bu.size);(try have xb:wr.heap.size < w5.heap.size:=(sq bu.size)))
 clear q0 q1 q2 q3 q4 q5;refine aF _ U' U' (aj _) ?_
 repeat ((first | refine aG J' ?_ | refine aH _ J' Jt ?_);simp only [Act.put,pz])
 exact CB):P:=h
theorem Ju {P:Prop} (h:P:=by
 have Tb:=I me;have HS2:=I bS;have H1:=I he1;have H2:=I he2;clear me bS he1 he2;go_enter Tryz.func215,Tryz.ntmps215;go_wp2_with fail
 refine (gQ x _ _ nm _ (aJ h bJ) bE).mono ?_;rw [HI.out];rintro e w2 ⟨rfl,am⟩;obtain ⟨bM,cB⟩:=ay am;have ca:w.heap.size < w2.heap.size:=(sq am.size);have rj:w.heap.size+1 < w2.heap.size:=(sq am.size);have gL:Below w.heap.size w w2:=bJ;go_wp2_with fail
 refine (jm x _ _ nm _ (aJ h bJ) vk).mono ?_;rw [HU.out];rintro e w3 ⟨rfl,az⟩;obtain ⟨cw,hf3⟩:=ay az;have eB:w.heap.size < w3.heap.size:=(sq az.size);have Jx:w.heap.size+1 < w3.heap.size:=(sq az.size);have gT:Below w.heap.size w w3:=ah gL az;replace q0:=r' gT q0 hbs;replace q1:=r' gT q1 hbs;replace q2:=r' gT q2 hbs;replace q3:=r' gT q3 hbs;replace q4:=r' gT q4 hbs;replace q5:=r' gT q5 hbs;have jd:bh < w3.heap.size:=by have:=gT.size;omega
 go_wp2_with fail
 refine (oQ a p.aq _ ha kQ).mono ?_;rw [H1.out];rintro e w4 ⟨rfl,bm⟩;obtain ⟨ee,hf4⟩:=ay bm;have Wy:w.heap.size < w4.heap.size:=(sq bm.size);have Q3:w.heap.size+1 < w4.heap.size:=(sq bm.size);go_wp2_with fail
 refine (oQ b p.mem _ hb lg).mono ?_;rw [H2.out];rintro e w5 ⟨rfl,bu⟩;obtain ⟨pA,ow⟩:=ay bu;have Es:w.heap.size < w5.heap.size:=(sq bu.size);have IV:w.heap.size+1 < w5.heap.size:=(sq bu.size);have Dc:Below w3.heap.size w3 w5:=ah bm bu;replace q0:=r' Dc q0 jd;replace q1:=r' Dc q1 jd;replace q2:=r' Dc q2 jd;replace q3:=r' Dc q3 jd;replace q4:=r' Dc q4 jd;replace q5:=r' Dc q5 jd;have afO:bh < w5.heap.size:=by have:=Dc.size;omega
 go_wp2_with fail
 refine aF w5 U' U' (aj _) ?_
 repeat (first
  | (apply aG
     case hw=>rfl
     simp only [Act.put,pz])
  | (apply aH
     case hw=>rfl
     case h =>
      intro wq hq;have et:=(aB hq).1;have lJ:=(aB hq).2;go_simp
      first
       | exact ⟨hq,rfl⟩
       | exact ⟨aQ hq _,rfl⟩
       | ((refine (IB _ _ _ Q4 Q4).mono ?_;(first | rw [Tb.out] | rw [HS2.out]);rintro e wz ⟨rfl,nV⟩;exact ⟨rfl,aI hq nV⟩))
       | (simp only [↓IntWalk.iteOmega];exact ⟨hq,rfl⟩)
     simp only [Act.put,pz]))
 refine aN ?_;intro wn hn;replace hn:=hn.out;go_wp2;go_ret
 exact ⟨by rw [HF.out];first | rfl | (simp;exact HW2.out),ah gT (ah Dc hn)⟩):P:=h
theorem JB {P:Prop} (h:P:=by
 intro HK;have bo:Below wn.heap.size wn wn.drew:=aA (aj _);refine aX 1 _ J' U' H' bo W' ?_;try simp only [Act.put,pz]
 refine aX 2 _ J' U' H' bo W' ?_;try simp only [Act.put,pz]
 refine aX 3 _ J' U' H' bo W' ?_;try simp only [Act.put,pz]
 refine aX 4 _ J' U' H' bo W' ?_;try simp only [Act.put,pz]
 refine aX 6 _ J' U' H' bo W' ?_;try simp only [Act.put,pz]
 refine D7 0 7 J' J' U' J' J' (λK hK=>?_) (λK hK=>?_)
 ·go_simp;refine hK _ _ (ak bo (.cells #[] 38)) ?_;try simp only [Act.put,pz]
  clear hK K;have Qz:=ak bo (.cells #[] 38);have KI:=D9 wn.drew 38 6 wn.heap.size rfl;refine D7 5 7 J' J' U' J' J' (λK hK=>?_) (λK hK=>?_)
  ·refine qQ ox _ _ J' (wn.drew.alloc (.cells #[] 38)) wn.heap.size _ 0 [] KI J' ⟨g,0,none⟩ k bV ((ds.take (k * 6))) J' Cz (λq u hu=>(Qz.cell (p:=(⟨g,0,none⟩:Addr).add q) li).trans (eK.out q u hu)) (λu hu=>lw.out u (List.mem_of_mem_take hu)) J J gb ?_;intro v5 w5 bc cg gd;have bu:Below wn.heap.size wn w5:=Below.grown (Qz) cg gb (λq hq=>(KI.lt q hq).1);refine hK _ _ bu ?_;try simp only [Act.put,pz]
   clear hK K;refine bP 7 J' U' J' (λK hK=>?_);go_simp;refine hK _ _ (ak bu (.cells #[.string n.name,.slice bY n.labels.length bZ,.int .i64 n.aq,.int .i64 n.mem,.int .i64 n.slots,.slice wP n.aT.length wQ] 38)) ?_;try simp only [Act.put,pz]
   clear hK K;have cL:=ak bu (.cells #[.string n.name,.slice bY n.labels.length bZ,.int .i64 n.aq,.int .i64 n.mem,.int .i64 n.slots,.slice wP n.aT.length wQ] 38);refine bP 8 J' U' J' (λK hK=>?_);refine qQ ox _ _ J' (w5.alloc (.cells #[.string n.name,.slice bY n.labels.length bZ,.int .i64 n.aq,.int .i64 n.mem,.int .i64 n.slots,.slice wP n.aT.length wQ] 38)) wn.heap.size v5 _ _ (mG bc (ak (aj _) _)) J' ⟨w5.heap.size,0,none⟩ 1 1 [.string n.name,.slice bY n.labels.length bZ,.int .i64 n.aq,.int .i64 n.mem,.int .i64 n.slots,.slice wP n.aT.length wQ] J' J' (DI w5 38 [.string n.name,.slice bY n.labels.length bZ,.int .i64 n.aq,.int .i64 n.mem,.int .i64 n.slots,.slice wP n.aT.length wQ] w5.heap.size rfl) mj.out J J gn ?_;intro v7 w7 nK Ua nQ;rw [show 0+k = k by omega,List.nil_append] at nK;obtain ⟨g9,p9,hv7,pj,kp,iJ⟩:=wW nK J;subst hv7;have bw:Below wn.heap.size wn w7:=Below.grown (cL) Ua gn (λq hq=>(bc.lt q hq).1);exact CC
  ·go_simp;refine hK _ _ (ak Qz (.cells #[.string n.name,.slice bY n.labels.length bZ,.int .i64 n.aq,.int .i64 n.mem,.int .i64 n.slots,.slice wP n.aT.length wQ] 38)) ?_;try simp only [Act.put,pz]
   clear hK K;have cL:=ak Qz (.cells #[.string n.name,.slice bY n.labels.length bZ,.int .i64 n.aq,.int .i64 n.mem,.int .i64 n.slots,.slice wP n.aT.length wQ] 38);replace KI:=mG KI (ak (aj _) (.cells #[.string n.name,.slice bY n.labels.length bZ,.int .i64 n.aq,.int .i64 n.mem,.int .i64 n.slots,.slice wP n.aT.length wQ] 38));refine bP 5 J' U' J' (λK hK=>?_);refine qQ ox _ _ J' ((wn.drew.alloc (.cells #[] 38)).alloc (.cells #[.string n.name,.slice bY n.labels.length bZ,.int .i64 n.aq,.int .i64 n.mem,.int .i64 n.slots,.slice wP n.aT.length wQ] 38)) wn.heap.size _ 0 [] KI J' ⟨g,0,none⟩ k bV ((ds.take (k * 6))) J' Cz (λq u hu=>(cL.cell (p:=(⟨g,0,none⟩:Addr).add q) li).trans (eK.out q u hu)) (λu hu=>lw.out u (List.mem_of_mem_take hu)) J J gn ?_;intro v5 w5 bc cg gd;have bu:Below wn.heap.size wn w5:=Below.grown (cL) cg gn (λq hq=>(KI.lt q hq).1);refine hK _ _ bu ?_;try simp only [Act.put,pz]
   clear hK K;refine bP 8 J' U' J' (λK hK=>?_);refine qQ ox _ _ J' w5 wn.heap.size v5 _ _ bc J' ⟨wn.heap.size+1,0,none⟩ 1 1 [.string n.name,.slice bY n.labels.length bZ,.int .i64 n.aq,.int .i64 n.mem,.int .i64 n.slots,.slice wP n.aT.length wQ] J' J' (λq u hu=>(World.cell?_of_block wX).trans ((DI (wn.drew.alloc (.cells #[] 38)) 38 [.string n.name,.slice bY n.labels.length bZ,.int .i64 n.aq,.int .i64 n.mem,.int .i64 n.slots,.slice wP n.aT.length wQ] (wn.heap.size+1) S') q u hu)) mj.out J J j6 ?_;exact JC
 ·go_simp;refine hK _ _ (ak bo (.cells #[.string n.name,.slice bY n.labels.length bZ,.int .i64 n.aq,.int .i64 n.mem,.int .i64 n.slots,.slice wP n.aT.length wQ] 38)) ?_;try simp only [Act.put,pz]
  clear hK K;have cL:=ak bo (.cells #[.string n.name,.slice bY n.labels.length bZ,.int .i64 n.aq,.int .i64 n.mem,.int .i64 n.slots,.slice wP n.aT.length wQ] 38);refine bP 0 J' U' J' (λK hK=>?_);go_simp;refine hK _ _ (ak cL (.cells #[] 38)) ?_;try simp only [Act.put,pz]
  clear hK K;have Qz:=ak cL (.cells #[] 38);have KI:=vP (D9 (wn.drew.alloc (.cells #[.string n.name,.slice bY n.labels.length bZ,.int .i64 n.aq,.int .i64 n.mem,.int .i64 n.slots,.slice wP n.aT.length wQ] 38)) 38 6 (wn.heap.size+1) S') (B':=wn.heap.size) J;refine bP 5 J' U' J' (λK hK=>?_);refine qQ ox _ _ J' ((wn.drew.alloc (.cells #[.string n.name,.slice bY n.labels.length bZ,.int .i64 n.aq,.int .i64 n.mem,.int .i64 n.slots,.slice wP n.aT.length wQ] 38)).alloc (.cells #[] 38)) wn.heap.size _ 0 [] KI J' ⟨g,0,none⟩ k bV ((ds.take (k * 6))) J' Cz (λq u hu=>(Qz.cell (p:=(⟨g,0,none⟩:Addr).add q) li).trans (eK.out q u hu)) (λu hu=>lw.out u (List.mem_of_mem_take hu)) J J gb ?_;intro v5 w5 bc cg gd;have bu:Below wn.heap.size wn w5:=Below.grown (Qz) cg gb (λq hq=>(KI.lt q hq).1);refine hK _ _ bu ?_;try simp only [Act.put,pz]
  clear hK K;refine bP 8 J' U' J' (λK hK=>?_);refine qQ ox _ _ J' w5 wn.heap.size v5 _ _ bc J' ⟨wn.heap.size,0,none⟩ 1 1 [.string n.name,.slice bY n.labels.length bZ,.int .i64 n.aq,.int .i64 n.mem,.int .i64 n.slots,.slice wP n.aT.length wQ] J' J' (λq u hu=>(World.cell?_of_block xa).trans ((DI wn.drew 38 [.string n.name,.slice bY n.labels.length bZ,.int .i64 n.aq,.int .i64 n.mem,.int .i64 n.slots,.slice wP n.aT.length wQ] wn.heap.size rfl) q u hu)) mj.out J J j6 ?_
  exact JC):P:=h
theorem JE {P:Prop} (h:P:=by
 intro HK;have bo:Below wn.heap.size wn wn.drew:=aA (aj _);refine aX 1 _ J' U' H' bo W' ?_;try simp only [Act.put,pz]
 refine aX 2 _ J' U' H' bo W' ?_;try simp only [Act.put,pz]
 refine aX 3 _ J' U' H' bo W' ?_;try simp only [Act.put,pz]
 refine aX 5 _ J' U' H' bo W' ?_;try simp only [Act.put,pz]
 refine D7 0 6 J' J' U' J' J' (λK hK=>?_) (λK hK=>?_)
 ·go_simp;refine hK _ _ (ak bo (.cells #[] 138)) ?_;try simp only [Act.put,pz]
  clear hK K;have Qz:=ak bo (.cells #[] 138);have KI:=D9 wn.drew 138 3 wn.heap.size rfl;refine D7 4 6 J' J' U' J' J' (λK hK=>?_) (λK hK=>?_)
  ·refine qQ xU _ _ J' (wn.drew.alloc (.cells #[] 138)) wn.heap.size _ 0 [] KI J' ⟨g,0,none⟩ jj cap ((ds.take (jj * 3))) J' Tc (λq u hu=>(Qz.cell (p:=(⟨g,0,none⟩:Addr).add q) li).trans (eK.out q u hu)) (λu hu=>lw.out u (List.mem_of_mem_take hu)) J J gb ?_;intro v5 w5 bc cg gd;have bu:Below wn.heap.size wn w5:=Below.grown (Qz) cg gb (λq hq=>(KI.lt q hq).1);refine hK _ _ bu ?_;try simp only [Act.put,pz]
   clear hK K;refine bP 6 J' U' J' (λK hK=>?_);go_simp;refine hK _ _ (ak bu (.cells #[.string y.key,.int .i64 y.op,.slice Ay y.values.length cy] 138)) ?_;try simp only [Act.put,pz]
   clear hK K;have cL:=ak bu (.cells #[.string y.key,.int .i64 y.op,.slice Ay y.values.length cy] 138);refine bP 7 J' U' J' (λK hK=>?_);refine qQ xU _ _ J' (w5.alloc (.cells #[.string y.key,.int .i64 y.op,.slice Ay y.values.length cy] 138)) wn.heap.size v5 _ _ (mG bc (ak (aj _) _)) J' ⟨w5.heap.size,0,none⟩ 1 1 [.string y.key,.int .i64 y.op,.slice Ay y.values.length cy] J' J' (DI w5 138 [.string y.key,.int .i64 y.op,.slice Ay y.values.length cy] w5.heap.size rfl) mj.out J J gn ?_;intro v7 w7 nK Ua nQ;rw [show 0+jj = jj by omega,List.nil_append] at nK;obtain ⟨g9,p9,hv7,pj,kp,iJ⟩:=wW nK J;subst hv7;have bw:Below wn.heap.size wn w7:=Below.grown (cL) Ua gn (λq hq=>(bc.lt q hq).1);exact JF
  ·go_simp;refine hK _ _ (ak Qz (.cells #[.string y.key,.int .i64 y.op,.slice Ay y.values.length cy] 138)) ?_;try simp only [Act.put,pz]
   clear hK K;have cL:=ak Qz (.cells #[.string y.key,.int .i64 y.op,.slice Ay y.values.length cy] 138);replace KI:=mG KI (ak (aj _) (.cells #[.string y.key,.int .i64 y.op,.slice Ay y.values.length cy] 138));refine bP 4 J' U' J' (λK hK=>?_);refine qQ xU _ _ J' ((wn.drew.alloc (.cells #[] 138)).alloc (.cells #[.string y.key,.int .i64 y.op,.slice Ay y.values.length cy] 138)) wn.heap.size _ 0 [] KI J' ⟨g,0,none⟩ jj cap ((ds.take (jj * 3))) J' Tc (λq u hu=>(cL.cell (p:=(⟨g,0,none⟩:Addr).add q) li).trans (eK.out q u hu)) (λu hu=>lw.out u (List.mem_of_mem_take hu)) J J gn ?_;intro v5 w5 bc cg gd;have bu:Below wn.heap.size wn w5:=Below.grown (cL) cg gn (λq hq=>(KI.lt q hq).1);refine hK _ _ bu ?_;try simp only [Act.put,pz]
   clear hK K;refine bP 7 J' U' J' (λK hK=>?_);refine qQ xU _ _ J' w5 wn.heap.size v5 _ _ bc J' ⟨wn.heap.size+1,0,none⟩ 1 1 [.string y.key,.int .i64 y.op,.slice Ay y.values.length cy] J' J' (λq u hu=>(World.cell?_of_block wX).trans ((DI (wn.drew.alloc (.cells #[] 138)) 138 [.string y.key,.int .i64 y.op,.slice Ay y.values.length cy] (wn.heap.size+1) S') q u hu)) mj.out J J j6 ?_;exact JN
 ·go_simp;refine hK _ _ (ak bo (.cells #[.string y.key,.int .i64 y.op,.slice Ay y.values.length cy] 138)) ?_;try simp only [Act.put,pz]
  clear hK K;have cL:=ak bo (.cells #[.string y.key,.int .i64 y.op,.slice Ay y.values.length cy] 138);refine bP 0 J' U' J' (λK hK=>?_);go_simp;refine hK _ _ (ak cL (.cells #[] 138)) ?_;try simp only [Act.put,pz]
  clear hK K;have Qz:=ak cL (.cells #[] 138);have KI:=vP (D9 (wn.drew.alloc (.cells #[.string y.key,.int .i64 y.op,.slice Ay y.values.length cy] 138)) 138 3 (wn.heap.size+1) S') (B':=wn.heap.size) J;refine bP 4 J' U' J' (λK hK=>?_);refine qQ xU _ _ J' ((wn.drew.alloc (.cells #[.string y.key,.int .i64 y.op,.slice Ay y.values.length cy] 138)).alloc (.cells #[] 138)) wn.heap.size _ 0 [] KI J' ⟨g,0,none⟩ jj cap ((ds.take (jj * 3))) J' Tc (λq u hu=>(Qz.cell (p:=(⟨g,0,none⟩:Addr).add q) li).trans (eK.out q u hu)) (λu hu=>lw.out u (List.mem_of_mem_take hu)) J J gb ?_;intro v5 w5 bc cg gd;have bu:Below wn.heap.size wn w5:=Below.grown (Qz) cg gb (λq hq=>(KI.lt q hq).1);refine hK _ _ bu ?_;try simp only [Act.put,pz]
  clear hK K;refine bP 7 J' U' J' (λK hK=>?_);refine qQ xU _ _ J' w5 wn.heap.size v5 _ _ bc J' ⟨wn.heap.size,0,none⟩ 1 1 [.string y.key,.int .i64 y.op,.slice Ay y.values.length cy] J' J' (λq u hu=>(World.cell?_of_block xa).trans ((DI wn.drew 138 [.string y.key,.int .i64 y.op,.slice Ay y.values.length cy] wn.heap.size rfl) q u hu)) mj.out J J j6 ?_
  exact JN):P:=h
theorem xV {P:Prop} (h:P:=by
 go_wp2_with fail
 clear q0 q1 q2 q3 q4 q5 q6 q7 q8;refine aF _ U' U' (aj _) ?_
 repeat ((first | refine aG J' ?_ | refine aH _ J' JP ?_);simp only [Act.put,pz])
 exact CB):P:=h
theorem tS {P:Prop} (h:P:=by
 have HF:=I (dW ap hp);clear hp;go_wp2_with (go_at_call 33;refine (iQ x _ _ x.O[0].name _ (aJ h bJ) Ji.out).mono ?_;rw [HU.out];rintro e w5 ⟨rfl,bu⟩;obtain ⟨pA,ow⟩:=ay bu;have Es:w.heap.size < w5.heap.size:=(sq bu.size);have IV:b < w5.heap.size:=(sq bu.size);(try have xb:wr.heap.size < w5.heap.size:=(sq bu.size)))
 clear q0 q1 q2 q3 q4 q5;refine aF _ U' U' (aj _) ?_
 repeat ((first | refine aG J' ?_ | refine aH _ J' JQ ?_);simp only [Act.put,pz])
 exact CD):P:=h
theorem JR {P:Prop} (h:P:=by
 exact CB):P:=h
theorem xX {P:Prop} (h:P:=by
 try simp only [Bool.and_false,Bool.and_true,Bool.false_and,Bool.and_self] at hp
 have HF:=I (dW ap hp);clear hp;go_wp2_with fail
 refine aF _ U' U' (aj _) ?_
 repeat ((first | refine aG J' ?_ | refine aH _ J' JS ?_);simp only [Act.put,pz])
 refine aN ?_;intro wn hn;replace hn:=hn.out;obtain ⟨kq,mZ⟩:=ay hn;have kr:w.heap.size < wn.heap.size:=sq hn.size;have te:b' < wn.heap.size:=sq hn.size;try (have tT:wr.heap.size < wn.heap.size:=sq hn.size)
 go_wp2_with (go_at_call 89;refine (jm x _ _ x.O[j+1].name _ (aJ h bJ) Ji.out).mono ?_;rw [HU.out];rintro e w5 ⟨rfl,bu⟩;obtain ⟨pA,ow⟩:=ay bu;have Es:w.heap.size < w5.heap.size:=(sq bu.size);have IV:b' < w5.heap.size:=(sq bu.size);(try have xb:wr.heap.size < w5.heap.size:=(sq bu.size)))
 go_ret
 exact ⟨by rw [HF.out];rfl,bJ⟩):P:=h
theorem xY {P:Prop} (h:P:=by
 have HF:=I (dW ap hp);clear hp;go_wp2_with fail
 refine aF _ U' U' (aj _) ?_
 repeat ((first | refine aG J' ?_ | refine aH _ J' JT ?_);simp only [Act.put,pz])
 refine aN ?_;intro wn hn;replace hn:=hn.out;obtain ⟨kq,mZ⟩:=ay hn;have kr:w.heap.size < wn.heap.size:=sq hn.size;have te:b < wn.heap.size:=sq hn.size;try (have tT:wr.heap.size < wn.heap.size:=sq hn.size)
 go_wp2_with (go_at_call 89;refine (jm x _ _ x.O[0].name _ (aJ h bJ) Ji.out).mono ?_;rw [HU.out];rintro e w5 ⟨rfl,bu⟩;obtain ⟨pA,ow⟩:=ay bu;have Es:w.heap.size < w5.heap.size:=(sq bu.size);have IV:b < w5.heap.size:=(sq bu.size);(try have xb:wr.heap.size < w5.heap.size:=(sq bu.size)))
 go_ret
 exact ⟨by rw [HF.out];rfl,bJ⟩):P:=h
theorem xZ {P:Prop} (h:P:=by
 go_wp2_with fail
 clear q0 q1 q2 q3 q4 q5 q6 q7 q8;refine aF _ U' U' (aj _) ?_
 repeat ((first | refine aG J' ?_ | refine aH _ J' JU ?_);simp only [Act.put,pz])
 exact CD):P:=h
theorem CE {P:Prop} (h:P:=by
 rintro e w1 ⟨ds,G,rfl,hO,aR⟩;have hR:=hO.rd;obtain ⟨kM,kN,ND,ny,nC,TD,ar,hGr,NG,TF,TG,xI,uD,xJ⟩:=aO hR;subst ar;clear hGr hR;have cI:=aR.size;simp at cI;have XB:oG w1 (w.heap.size+1+1) [.slice none 0 0,.slice none 0 0,.int .i64 0,.int .i64 0,.int .i64 0,.int .i64 0]:=oG.ext (oG.tf w _ _ [.slice none 0 0,.slice none 0 0,.int .i64 0,.int .i64 0,.int .i64 0,.int .i64 0] 29) aR;have HO:=I (hO.mono (B':=w.heap.size+1+1+1) S');have am:Below w.heap.size w w1:=ah bA aR;clear hO aR h;try dsimp only
 iterate 8 go_step
 refine ly 29 _ _ rfl (w.heap.size+1+1) 0 [.slice kM R.O.length kN,.slice ny R.M.length nC,.int .i64 R.next,.int .i64 R.weights.pack,.int .i64 R.weights.spread,.int .i64 R.weights.soft] [.slice none 0 0,.slice none 0 0,.int .i64 0,.int .i64 0,.int .i64 0,.int .i64 0] rfl rfl XB S' U' fm ?_;intro w2 YB OB;replace YB:oG w2 (w.heap.size+1+1) [.slice kM R.O.length kN,.slice ny R.M.length nC,.int .i64 R.next,.int .i64 R.weights.pack,.int .i64 R.weights.spread,.int .i64 R.weights.soft]:=YB;try dsimp only [Act.put]
 go_wp2;refine bodyPost_ret (v:=.tuple #[.agg #[.slice kM R.O.length kN,.slice ny R.M.length nC,.int .i64 R.next,.int .i64 R.weights.pack,.int .i64 R.weights.spread,.int .i64 R.weights.soft],.int .i64 cd]) (xc Tryz.results25 _ (w.heap.size+1+1) [.slice kM R.O.length kN,.slice ny R.M.length nC,.int .i64 R.next,.int .i64 R.weights.pack,.int .i64 R.weights.spread,.int .i64 R.weights.soft] _ _ rfl rfl YB Tryz.underlying29 rfl U') rfl ?_
 exact CF):P:=h
theorem CH {P:Prop} (h:P:=by
 go_wp2_with fail
 refine (gQ x _ _ nm _ (aJ h bJ) bE).mono ?_;rw [HI.out];rintro e w2 ⟨rfl,am⟩;obtain ⟨bM,cB⟩:=ay am;have ca:w.heap.size < w2.heap.size:=(sq am.size);have rj:w.heap.size+1 < w2.heap.size:=(sq am.size);have gL:Below w.heap.size w w2:=bJ;go_wp2_with fail
 refine (jm x _ _ nm _ (aJ h bJ) vk).mono ?_;rw [HU.out];rintro e w3 ⟨rfl,az⟩;obtain ⟨cw,hf3⟩:=ay az;have eB:w.heap.size < w3.heap.size:=(sq az.size);have Jx:w.heap.size+1 < w3.heap.size:=(sq az.size);have gT:Below w.heap.size w w3:=ah gL az
 exact x2):P:=h
theorem Te {P:Prop} (h:P:=by
 exact JP):P:=h
theorem CI {P:Prop} (h:P:=by
 have HS:=I hS;clear hS;have H1:=I he1;clear he1;have H2:=I he2;clear he2;go_wp2_with fail
 refine (Q6.out _ bJ).mono ?_;rw [HS.out];rintro e w4 ⟨rfl,bm⟩;obtain ⟨ee,hf4⟩:=ay bm;have Wy:w.heap.size < w4.heap.size:=(sq bm.size);have Q3:w.heap.size+1 < w4.heap.size:=(sq bm.size);have Tf:w3.heap.size < w4.heap.size:=(sq bm.size);go_wp2_with fail
 refine (Ra.out _ bJ).mono ?_;rintro e w5 ⟨rfl,bu⟩;obtain ⟨pA,ow⟩:=ay bu;have Es:w.heap.size < w5.heap.size:=(sq bu.size);have IV:w.heap.size+1 < w5.heap.size:=(sq bu.size);have xb:w3.heap.size < w5.heap.size:=(sq bu.size);go_wp2_with fail
 refine (oQ a p.aq _ ha kQ).mono ?_;rw [H1.out];rintro e w6 ⟨rfl,ev⟩;obtain ⟨Rb,Xe⟩:=ay ev;have tg:w.heap.size < w6.heap.size:=(sq ev.size);have hy6:w.heap.size+1 < w6.heap.size:=(sq ev.size);have hx6:w3.heap.size < w6.heap.size:=(sq ev.size);go_wp2_with fail
 refine (oQ b p.mem _ hb lg).mono ?_;rw [H2.out];rintro e w7 ⟨rfl,bw⟩;obtain ⟨hc7,hf7⟩:=ay bw;have rm:w.heap.size < w7.heap.size:=(sq bw.size);have hy7:w.heap.size+1 < w7.heap.size:=(sq bw.size);have hx7:w3.heap.size < w7.heap.size:=(sq bw.size)
 exact CK):P:=h
theorem J0 {P:Prop} (h:P:=by
 exact CD):P:=h
theorem J7 {P:Prop} (h:P:=by
 have HN:=I (gq hall.out hp);clear hp;go_wp2_with fail
 skip
 refine aF _ U' U' (aj _) ?_
 repeat ((first | refine aG J' ?_ | refine aH _ J' J8 ?_);simp only [Act.put,pz])
 refine aN ?_;intro wn hn;replace hn:=hn.out;obtain ⟨kq,mZ⟩:=ay hn;have kr:w.heap.size < wn.heap.size:=sq hn.size;have te:b < wn.heap.size:=sq hn.size;try (have tT:wr.heap.size < wn.heap.size:=sq hn.size)
 have Tg:Below wr.heap.size wr wn:=bJ;have Ka:wn.cell? ⟨wr.heap.size,8,none⟩ = some (.int .i64 x.M[0].seq):=by rw [kq _ _ S',cell_of_row _ _ _ _ _ _ (heap_alloc_new wr _)];rfl
 have anN:(0:Nat) < 12:=by omega
 obtain ⟨wo,hwo⟩:∃wo,wo = wr:=⟨_,rfl⟩;subst hwo;go_wp2_with fail
 go_loopw [5] (λi2 wi=>∃q:Nat,q<=0/\i2 = .int .i64 q/\Hid (∀u∈x.M.take q,(u.seq == x.M[0].seq) = false)/\Below wn.heap.size wn wi) (λi2 _=>0 - (intOf i2).toNat)
 case atStart=>exact ⟨0,Nat.zero_le _,rfl,by show ∀_,_;simp,aj _⟩
 case round =>
  obtain ⟨q,hq,rfl,HQ,hbi⟩:=hrel;have Fp:Below wo.heap.size wo wr:=ah Tg hbi;have Th:Below w.heap.size w wr:=ah bF Fp;have ci0:=(ay Fp).1 _ 0 tX |>.trans c0;have ci1:=(ay Fp).1 _ 1 tX |>.trans c1;have ci2:=(ay Fp).1 _ 2 tX |>.trans c2;have ci3:=(ay Fp).1 _ 3 tX |>.trans c3;have ci4:=(ay Fp).1 _ 4 tX |>.trans c4;have ci5:=(ay Fp).1 _ 5 tX |>.trans c5;replace Ka:=r' hbi Ka J;have hzi:w.heap.size < wr.heap.size:=by have:=Fp.size;omega
  have hxi:wo.heap.size < wr.heap.size:=by have:=hbi.size;omega
  by_cases hqk:q < 0
  ·exact absurd hqk J
  ·obtain rfl:q = 0:=by omega
   have xd:seenIn (x.M.take (0)) x.M[0].seq = false:=by exact Kb
   have Gn:=I (gq hfresh.out (show DN x.M (0) = true by rw [sG ap,xd];rfl));clear xd;go_wp2
   exact ⟨⟨0+1,J,N',HN.out,Gn.out,ah aM Fp⟩,by simp [intOf];omega⟩):P:=h
theorem Ti {P:Prop} (h:P:=by
 exact JU):P:=h
theorem Kc {P:Prop} (h:P:=by
 rw [HK.out];rintro e w2 ⟨rfl,am⟩;obtain ⟨bM,cB⟩:=ay am;have ca:w.heap.size < w2.heap.size:=by have:=am.size;simp at this;omega
 have x3:w2.cell? ⟨w.heap.size,1,none⟩ = some (.int .i64 x.op):=by rw [bM _ _ S',cell_of_row _ _ _ _ _ _ (heap_alloc_new w _)];rfl
 have pB:w2.cell? ⟨w.heap.size,2,none⟩ = some (.slice jy x.values.length ji):=by rw [bM _ _ S',cell_of_row _ _ _ _ _ _ (heap_alloc_new w _)];rfl
 have gL:Below w.heap.size w w2:=bJ;clear bM cB;go_wp2;go_ret
 exact ⟨by rw [HF.out];first | rfl | simp_all,gL⟩):P:=h
theorem Kd {P:Prop} (h:P:=by
 intro wq hq;have et:=(aB hq).1;have lJ:=(aB hq).2;go_simp
 first
  | exact ⟨hq,rfl⟩
  | exact ⟨aQ hq _,rfl⟩
  | (first | (refine (wM x.M[j+1].aS _ _ _ (aJ ku th) cV.ns cV.ll cV.ls cV.nl cV.Rc cV.tl cV.ts).mono ?_;rw [H1.out];rintro e w2 ⟨rfl,am⟩;exact ⟨rfl,aI hq am⟩) | (refine (kH x.M[j+1].seq 1 (x.next - 1) _).mono ?_;rw [LQ.out];rintro e w2 ⟨rfl,rfl⟩;exact ⟨rfl,hq⟩) | (refine (gQ x _ _ x.M[j+1].on _ (aJ h th) NV.out).mono ?_;rw [Hg.out];rintro e w2 ⟨rfl,am⟩;exact ⟨rfl,aI hq am⟩))
  | (simp only [↓IntWalk.iteOmega];exact ⟨hq,rfl⟩)):P:=h
theorem fg {P:Prop} (h:P:=by
 exact x2):P:=h
theorem oy {P:Prop} (h:P:=by
 rw [HF.out]
 first
  | refine ⟨[.slice dG x.O.length bV,.slice dS x.M.length dJ,.int .i64 x.next,.int .i64 x.weights.pack,.int .i64 x.weights.spread,.int .i64 x.weights.soft],G1,rfl,?_,?_⟩
  | refine ⟨[.slice dG x.O.length bV,.slice dS x.M.length dJ,.int .i64 x.next,.int .i64 x.weights.pack,.int .i64 x.weights.spread,.int .i64 x.weights.soft],rfl,⟨G1,?_⟩,?_⟩
 ·try dsimp only
  refine ai.mono (B:=w.heap.size+1+1) ?_ J;exact ZE
 ·exact m'):P:=h
theorem Ke {P:Prop} (h:P:=by
 exact JS):P:=h
theorem Tj {P:Prop} (h:P:=by
 exact J8):P:=h
theorem x4 {P:Prop} (h:P:=by
 exact Cv):P:=h
theorem Kf {P:Prop} (h:P:=by
 have HC:=I hc;have HN:=I hn;clear hc hn;go_wp2_with fail
 refine (x5 x _ _ _ (aZ h bA) HW.out).mono ?_;rintro e w1 ⟨gM,G1,rfl,jX,aR,hRM⟩;obtain ⟨cU,ek⟩:=ay aR;have CL:w.heap.size < w1.heap.size:=sq aR.size;have CM:w.heap.size+1 < w1.heap.size:=sq aR.size;have CN:w.heap.size+1+1 < w1.heap.size:=sq aR.size;have bO:=jX.rd;obtain ⟨dG,bV,xq,dS,dJ,Bz,ar,hG1,oO,tq,wI,iV,gI,iW⟩:=aO bO;subst ar;clear hG1 bO;go_wp2_with fail
 refine (Re u _ _ _ (aZ h' bA) HU.out).mono ?_;rw [HN.out];rintro e w2 ⟨CP,G2,rfl,bj,am⟩;obtain ⟨bM,cB⟩:=ay am;have CR:w.heap.size < w2.heap.size:=sq am.size;have CS:w.heap.size+1 < w2.heap.size:=sq am.size;have CT:w.heap.size+1+1 < w2.heap.size:=sq am.size;have CU:w1.heap.size < w2.heap.size:=sq am.size;have lz:=bj.rd;obtain ⟨bY,bZ,iq,eU,eX,jV,bg,bn,dK,ar,hG2,jW,dA,kQ,lg,lG,iO,bK⟩:=dL lz;subst ar;clear hG2 lz;go_wp2_with fail
 refine (qM x _ _ _ (aZ h bA) HW.out).mono ?_;rw [HC.out];rintro e w3 ⟨rfl,az⟩;obtain ⟨cw,hf3⟩:=ay az;have CW:w.heap.size < w3.heap.size:=sq az.size;have CX:w.heap.size+1 < w3.heap.size:=sq az.size;have CY:w.heap.size+1+1 < w3.heap.size:=sq az.size;have CZ:w1.heap.size < w3.heap.size:=sq az.size;have C0:w2.heap.size < w3.heap.size:=sq az.size;have HI:=I cJ;clear cJ;go_wp2_with fail
 refine (AE x _ _ n.name _ (aZ h bA) Ji.out).mono ?_;rw [HI.out];rintro e w4 ⟨rfl,bm⟩;obtain ⟨ee,hf4⟩:=ay bm;have Kg:w.heap.size < w4.heap.size:=sq bm.size;have Kh:w.heap.size+1 < w4.heap.size:=sq bm.size;have Ki:w.heap.size+1+1 < w4.heap.size:=sq bm.size;have Kj:w1.heap.size < w4.heap.size:=sq bm.size;have Kk:w2.heap.size < w4.heap.size:=sq bm.size;have lj:Hid (ai w4 (w.heap.size+1+1+1) x [.slice dG x.O.length bV,.slice dS x.M.length dJ,.int .i64 x.next,.int .i64 x.weights.pack,.int .i64 x.weights.spread,.int .i64 x.weights.soft] G1):=I ((((((jX.mono S').alloc _).ext am).alloc _).ext az).ext bm);clear jX bj hRM;go_wp2_with fail
 try dsimp only
 iterate 60 (first | go_step | skip)
 refine bodyPost_ret (v:=.tuple #[.agg #[.slice dG x.O.length bV,.slice dS x.M.length dJ,.int .i64 x.next,.int .i64 x.weights.pack,.int .i64 x.weights.spread,.int .i64 x.weights.soft],.int .i64 4]) (by simp [results,Tryz.results81,go_sem, *]) rfl ?_
 exact Kl):P:=h
theorem Km {P:Prop} (h:P:=by
 exact JT):P:=h
theorem C1 {P:Prop} (h:P:=by
 have rr:=HS.out.box.lt;go_wp2_with fail
 refine (Tk x _ _ v3 (AF HX.out HS.out.below) fu cA nU hv).mono ?_;rintro e w8 ⟨C3,G8,rfl,sV,d8⟩;have T8:=HS.out.ext d8;have SY:=sV;obtain ⟨lA,aHA,aJp,aIC,aID,aBA,aHF,aHG,aJF,ayd,hF9,aye,aJq,aAR,aAS,aDs,aBB,aJG⟩:=dL sV.rd;subst ayd;clear hF9 sV;obtain ⟨r0,r1,r2,r3,r4,r5,r6⟩:=lB T8.rb;have rf:=T8.rb.fz;have rl:=T8.rb.lt;have lj:=I SY;have xe:=I T8;have C4:w.heap.size+1 < v3.heap.size:=HS.out.rb.lt;clear SY T8 d8;go_wp2_with fail
 try dsimp only
 iterate 60 (first | go_step | skip)
 refine bodyPost_ret (v:=.tuple #[.agg #[.string x.name,.slice lA x.labels.length aHA,.int .i64 x.aq,.int .i64 x.mem,.int .i64 x.av,.slice aIC x.af.length aID,.slice aHF x.ae.length aHG],.bool false]) (by simp [results,Tryz.results132,go_sem, *]) rfl ⟨[.string x.name,.slice lA x.labels.length aHA,.int .i64 x.aq,.int .i64 x.mem,.int .i64 x.av,.slice aIC x.af.length aID,.slice aHF x.ae.length aHG],G8,by rw [j7.out];try rfl,?_,?_⟩
 ·rw [j7.out];refine ai.mono (B:=v3.heap.size) ?_ J;exact Hy
 ·exact AG):P:=h
theorem C5 {P:Prop} (h:P:=by
 have rr:=HS.out.box.lt;go_wp2_with fail
 refine (Tl x _ _ v3 (AF HX.out HS.out.below) fu cA nU hv).mono ?_;rintro e w8 ⟨C3,G8,rfl,sV,d8⟩;have T8:=HS.out.ext d8;have SY:=sV;obtain ⟨lA,aHA,aJp,aIC,aID,aBA,aHF,aHG,aJF,ayd,hF9,aye,aJq,aAR,aAS,aDs,aBB,aJG⟩:=dL sV.rd;subst ayd;clear hF9 sV;obtain ⟨r0,r1,r2,r3,r4,r5,r6⟩:=lB T8.rb;have rf:=T8.rb.fz;have rl:=T8.rb.lt;have lj:=I SY;have xe:=I T8;have C4:w.heap.size+1 < v3.heap.size:=HS.out.rb.lt;clear SY T8 d8;go_wp2_with fail
 try dsimp only
 iterate 60 (first | go_step | skip)
 refine bodyPost_ret (v:=.tuple #[.agg #[.string x.name,.slice lA x.labels.length aHA,.int .i64 x.aq,.int .i64 x.mem,.int .i64 x.av,.slice aIC x.af.length aID,.slice aHF x.ae.length aHG],.bool false]) (by simp [results,Tryz.results38,go_sem, *]) rfl ⟨[.string x.name,.slice lA x.labels.length aHA,.int .i64 x.aq,.int .i64 x.mem,.int .i64 x.av,.slice aIC x.af.length aID,.slice aHF x.ae.length aHG],G8,by rw [j7.out];try rfl,?_,?_⟩
 ·rw [j7.out];refine ai.mono (B:=v3.heap.size) ?_ J;exact Hy
 ·exact AG):P:=h
theorem Kn {P:Prop} (h:P:=by
 have HC:=I hc;have HN:=I hn;clear hc hn;go_wp2_with fail
 refine (x5 x _ _ _ (aZ h bA) HW.out).mono ?_;rintro e w1 ⟨gM,G1,rfl,jX,aR,hRM⟩;obtain ⟨cU,ek⟩:=ay aR;have CL:w.heap.size < w1.heap.size:=sq aR.size;have CM:w.heap.size+1 < w1.heap.size:=sq aR.size;have CN:w.heap.size+1+1 < w1.heap.size:=sq aR.size;have bO:=jX.rd;obtain ⟨dG,bV,xq,dS,dJ,Bz,ar,hG1,oO,tq,wI,iV,gI,iW⟩:=aO bO;subst ar;clear hG1 bO;go_wp2_with fail
 refine (Re u _ _ _ (aZ h' bA) HU.out).mono ?_;rw [HN.out];rintro e w2 ⟨CP,G2,rfl,bj,am⟩;obtain ⟨bM,cB⟩:=ay am;have CR:w.heap.size < w2.heap.size:=sq am.size;have CS:w.heap.size+1 < w2.heap.size:=sq am.size;have CT:w.heap.size+1+1 < w2.heap.size:=sq am.size;have CU:w1.heap.size < w2.heap.size:=sq am.size;have lz:=bj.rd;obtain ⟨bY,bZ,iq,eU,eX,jV,bg,bn,dK,ar,hG2,jW,dA,kQ,lg,lG,iO,bK⟩:=dL lz;subst ar;clear hG2 lz;go_wp2_with fail
 refine (qM x _ _ _ (aZ h bA) HW.out).mono ?_;rw [HC.out];rintro e w3 ⟨rfl,az⟩;obtain ⟨cw,hf3⟩:=ay az;have CW:w.heap.size < w3.heap.size:=sq az.size;have CX:w.heap.size+1 < w3.heap.size:=sq az.size;have CY:w.heap.size+1+1 < w3.heap.size:=sq az.size;have CZ:w1.heap.size < w3.heap.size:=sq az.size;have C0:w2.heap.size < w3.heap.size:=sq az.size;have lj:Hid (ai w3 (w.heap.size+1+1+1) x [.slice dG x.O.length bV,.slice dS x.M.length dJ,.int .i64 x.next,.int .i64 x.weights.pack,.int .i64 x.weights.spread,.int .i64 x.weights.soft] G1):=I (((((jX.mono S').alloc _).ext am).alloc _).ext az);clear jX bj hRM;go_wp2_with fail
 try dsimp only
 iterate 60 (first | go_step | skip)
 refine bodyPost_ret (v:=.tuple #[.agg #[.slice dG x.O.length bV,.slice dS x.M.length dJ,.int .i64 x.next,.int .i64 x.weights.pack,.int .i64 x.weights.spread,.int .i64 x.weights.soft],.int .i64 1]) (by simp [results,Tryz.results81,go_sem, *]) rfl ?_
 exact Kl):P:=h
theorem Kp {P:Prop} (h:P:=by
 exact CA):P:=h
theorem Kr {P:Prop} (h:P:=by
 exact CC):P:=h
theorem Ks {P:Prop} (h:P:=by
 have HC:=I hc;have HN:=I hn;clear hc hn;go_wp2_with fail
 refine (x5 x _ _ _ (aZ h bA) HW.out).mono ?_;rintro e w1 ⟨gM,G1,rfl,jX,aR,hRM⟩;obtain ⟨cU,ek⟩:=ay aR;have CL:w.heap.size < w1.heap.size:=sq aR.size;have CM:w.heap.size+1 < w1.heap.size:=sq aR.size;have CN:w.heap.size+1+1 < w1.heap.size:=sq aR.size;have bO:=jX.rd;obtain ⟨dG,bV,xq,dS,dJ,Bz,ar,hG1,oO,tq,wI,iV,gI,iW⟩:=aO bO;subst ar;clear hG1 bO;go_wp2_with fail
 refine (Rf u _ _ _ (aZ h' bA) HU.out).mono ?_;rw [HN.out];rintro e w2 ⟨CP,G2,rfl,bj,am⟩;obtain ⟨bM,cB⟩:=ay am;have CR:w.heap.size < w2.heap.size:=sq am.size;have CS:w.heap.size+1 < w2.heap.size:=sq am.size;have CT:w.heap.size+1+1 < w2.heap.size:=sq am.size;have CU:w1.heap.size < w2.heap.size:=sq am.size;have lz:=bj.rd;obtain ⟨bY,bZ,iq,wP,wQ,Qe,ar,hG2,jW,dA,kQ,lg,Nh,Bd⟩:=iy lz;subst ar;clear hG2 lz;go_wp2_with fail
 refine (qM x _ _ _ (aZ h bA) HW.out).mono ?_;rw [HC.out];rintro e w3 ⟨rfl,az⟩;obtain ⟨cw,hf3⟩:=ay az;have CW:w.heap.size < w3.heap.size:=sq az.size;have CX:w.heap.size+1 < w3.heap.size:=sq az.size;have CY:w.heap.size+1+1 < w3.heap.size:=sq az.size;have CZ:w1.heap.size < w3.heap.size:=sq az.size;have C0:w2.heap.size < w3.heap.size:=sq az.size;have lj:Hid (ai w3 (w.heap.size+1+1+1) x [.slice dG x.O.length bV,.slice dS x.M.length dJ,.int .i64 x.next,.int .i64 x.weights.pack,.int .i64 x.weights.spread,.int .i64 x.weights.soft] G1):=I (((((jX.mono S').alloc _).ext am).alloc _).ext az);clear jX bj hRM;go_wp2_with fail
 try dsimp only
 iterate 60 (first | go_step | skip)
 refine bodyPost_ret (v:=.tuple #[.agg #[.slice dG x.O.length bV,.slice dS x.M.length dJ,.int .i64 x.next,.int .i64 x.weights.pack,.int .i64 x.weights.spread,.int .i64 x.weights.soft],.int .i64 1]) (by simp [results,Tryz.results82,go_sem, *]) rfl ?_;rw [HF.out];refine ⟨[.slice dG x.O.length bV,.slice dS x.M.length dJ,.int .i64 x.next,.int .i64 x.weights.pack,.int .i64 x.weights.spread,.int .i64 x.weights.soft],G1,rfl,?_,?_⟩
 ·exact C6
 ·exact m'):P:=h
theorem Kt {P:Prop} (h:P:=by
 have HC:=I hc;have HN:=I hn;clear hc hn;go_wp2_with fail
 refine (cQ u _ _ _ (aZ h' bA) HU.out).mono ?_;rw [HN.out];rintro e w1 ⟨gM,G1,rfl,jX,aR⟩;obtain ⟨cU,ek⟩:=ay aR;have zO:w.heap.size < w1.heap.size:=sq aR.size;have CO:w.heap.size+1 < w1.heap.size:=sq aR.size;have AH:w.heap.size+1+1 < w1.heap.size:=sq aR.size;have bO:=jX.rd;obtain ⟨dU,dV,Ba,mJ,mM,Vb,fK,fM,Fz,ar,hG1,hname1,jr,IQ,IU,Sj,Bv,qc⟩:=dL bO;subst ar;clear hG1 bO;go_wp2_with fail
 refine (qL x _ _ _ (aZ h bA) HW.out).mono ?_;rw [HC.out];rintro e w2 ⟨rfl,am⟩;obtain ⟨bM,cB⟩:=ay am;have AI:w.heap.size < w2.heap.size:=sq am.size;have oz:w.heap.size+1 < w2.heap.size:=sq am.size;have oA:w.heap.size+1+1 < w2.heap.size:=sq am.size;have gp:w1.heap.size < w2.heap.size:=sq am.size;go_wp2_with fail
 refine (uo x _ _ _ (aZ h bA) HW.out).mono ?_;rintro e w3 ⟨C7,G9,rfl,SY,az⟩;obtain ⟨cw,hf3⟩:=ay az;have oB:w.heap.size < w3.heap.size:=sq az.size;have mn:w.heap.size+1 < w3.heap.size:=sq az.size;have oC:w.heap.size+1+1 < w3.heap.size:=sq az.size;have lE:=SY.rd;obtain ⟨Pe,Pg,Ph,Vo,Vp,Vq,ar,hG9,Pj,Vr,Vs,zF,wB,zG⟩:=aO lE;subst ar;clear hG9 lE;have lj:=I (SY.mono (B':=w.heap.size+1+1+1) (by have:=am.size;(try simp at this |-);omega));clear SY;go_wp2_with fail
 try dsimp only
 iterate 60 (first | go_step | skip)
 refine bodyPost_ret (v:=.tuple #[.agg #[.slice Pe x.O.length Pg,.slice Vo x.M.length Vp,.int .i64 x.next,.int .i64 x.weights.pack,.int .i64 x.weights.spread,.int .i64 x.weights.soft],.int .i64 1]) (by simp [results,Tryz.results17,go_sem, *]) rfl ?_
 exact Ku):P:=h
theorem Kv {P:Prop} (h:P:=by
 have bE:(eV k (dd x n) x.M).length = x.M.length+1:=by rw [xf]
 obtain ⟨A9,c9,F9,hv9,SY,hF9⟩:=ai.Kw (xs:=eV k (dd x n) x.M) Rg (nW.out.keep (λy hy=>sf.out y (kt.out y hy).1) J) (λq hq hm=>by have:=(oD.out.lt q hq).1;have:=(kt.out q hm).1;omega);rw [bE] at hv9 SY;simp only [Value.slice.injEq,true_and] at hv9;obtain ⟨rfl,rfl⟩:=hv9
 have si:=I (ai.Hz (oE.out.keep (λy hy=>sf.out y (by have:=j8.out y hy;omega)) J) SY (λy hm hy=>by
  rcases hF9 y hy with h9 | h9
  ·exact (kt.out y h9).2.2 hm
  ·have:=(oD.out.lt y h9).1;have:=j8.out y hm;omega) (show bt (x.next+1) by unfold bt;omega) iV gI iW)
 have nX:=I (show ∀y∈Gh++F9,y≠w1.heap.size from λy hy=>by
  rcases List.mem_append.1 hy with hy | hy
  ·have:=j8.out y hy;omega
  ·rcases hF9 y hy with h9 | h9
   ·exact (kt.out y h9).2.1
   ·have:=(oD.out.lt y h9).1;omega)
 have XA:=pC.out;clear SY hF9;try dsimp only
 iterate 90 (first | go_step | skip)
 refine bodyPost_ret (v:=.tuple #[.agg #[.slice dG x.O.length bV,.slice (some ⟨g8,0,none⟩) (x.M.length+1) p8,.int .i64 (x.next+1),.int .i64 x.weights.pack,.int .i64 x.weights.spread,.int .i64 x.weights.soft],.int .i64 0]) (by simp [results,Tryz.results81,go_sem, *]) rfl ?_;rw [HF.out,<- mo.out];first | refine ⟨[.slice dG x.O.length bV,.slice (some ⟨g8,0,none⟩) (x.M.length+1) p8,.int .i64 (x.next+1),.int .i64 x.weights.pack,.int .i64 x.weights.spread,.int .i64 x.weights.soft],Gh++F9,rfl,?_,?_⟩ | refine ⟨[.slice dG x.O.length bV,.slice (some ⟨g8,0,none⟩) (x.M.length+1) p8,.int .i64 (x.next+1),.int .i64 x.weights.pack,.int .i64 x.weights.spread,.int .i64 x.weights.soft],rfl,⟨Gh++F9,?_⟩,?_⟩
 ·exact sj
 ·exact m'):P:=h
theorem Kx {P:Prop} (h:P:=by
 have HF:=I (show setW x u = (x,1) by unfold setW;rw [hc,ie];simp);have HC:=I hc;have Du:=I ie;clear hc ie;go_enter Tryz.func53,Tryz.ntmps53;go_wp2_with fail
 refine (BO x _ _ _ (aZ h bA) HW.out).mono ?_;rintro e w1 ⟨gM,G1,rfl,jX,aR⟩;have bO:=jX.rd;obtain ⟨dG,bV,xq,dS,dJ,Bz,ar,hG1,oO,tq,wI,iV,gI,iW⟩:=aO bO;subst ar;clear hG1 bO;obtain ⟨cU,ek⟩:=ay aR;have VQ:w.heap.size < w1.heap.size:=sq aR.size;have iN:w.heap.size+1 < w1.heap.size:=sq aR.size;have ZF:w.heap.size+1+1 < w1.heap.size:=sq aR.size;have dy:=jX.lt;go_wp2_with fail
 refine (qM x _ _ _ (aZ h bA) HW.out).mono ?_;rw [HC.out];rintro e w2 ⟨rfl,am⟩;obtain ⟨bM,cB⟩:=ay am;have VR:w.heap.size < w2.heap.size:=sq am.size;have iP:w.heap.size+1 < w2.heap.size:=sq am.size;have ZG:w.heap.size+1+1 < w2.heap.size:=sq am.size;have VT:w1.heap.size < w2.heap.size:=sq am.size;have bj:ai w2 (w.heap.size+1+1+1) x [.slice dG x.O.length bV,.slice dS x.M.length dJ,.int .i64 x.next,.int .i64 x.weights.pack,.int .i64 x.weights.spread,.int .i64 x.weights.soft] G1:=((jX.mono S').alloc _).ext am
 exact KA):P:=h
theorem KJ {P:Prop} (h:P:=by
 have HC:=I hc;have HN:=I hn;clear hc hn;go_wp2_with fail
 refine (cX u _ _ _ (aZ h' bA) HU.out).mono ?_;rw [HN.out];rintro e w1 ⟨gM,G1,rfl,jX,aR⟩;obtain ⟨cU,ek⟩:=ay aR;have zO:w.heap.size < w1.heap.size:=sq aR.size;have CO:w.heap.size+1 < w1.heap.size:=sq aR.size;have AH:w.heap.size+1+1 < w1.heap.size:=sq aR.size;have bO:=jX.rd;obtain ⟨dU,dV,Ba,kY,kZ,NR,ar,hG1,hname1,jr,IQ,IU,KD,yO⟩:=iy bO;subst ar;clear hG1 bO;go_wp2_with fail
 refine (qL x _ _ _ (aZ h bA) HW.out).mono ?_;rw [HC.out];rintro e w2 ⟨rfl,am⟩;obtain ⟨bM,cB⟩:=ay am;have AI:w.heap.size < w2.heap.size:=sq am.size;have oz:w.heap.size+1 < w2.heap.size:=sq am.size;have oA:w.heap.size+1+1 < w2.heap.size:=sq am.size;have gp:w1.heap.size < w2.heap.size:=sq am.size;go_wp2_with fail
 refine (uo x _ _ _ (aZ h bA) HW.out).mono ?_;rintro e w3 ⟨C7,G9,rfl,SY,az⟩;obtain ⟨cw,hf3⟩:=ay az;have oB:w.heap.size < w3.heap.size:=sq az.size;have mn:w.heap.size+1 < w3.heap.size:=sq az.size;have oC:w.heap.size+1+1 < w3.heap.size:=sq az.size;have lE:=SY.rd;obtain ⟨Pe,Pg,Ph,Vo,Vp,Vq,ar,hG9,Pj,Vr,Vs,zF,wB,zG⟩:=aO lE;subst ar;clear hG9 lE;have lj:=I (SY.mono (B':=w.heap.size+1+1+1) (by have:=am.size;(try simp at this |-);omega));clear SY;go_wp2_with fail
 try dsimp only
 iterate 60 (first | go_step | skip)
 refine bodyPost_ret (v:=.tuple #[.agg #[.slice Pe x.O.length Pg,.slice Vo x.M.length Vp,.int .i64 x.next,.int .i64 x.weights.pack,.int .i64 x.weights.spread,.int .i64 x.weights.soft],.int .i64 1]) (by simp [results,Tryz.results18,go_sem, *]) rfl ?_;rw [HF.out];refine ⟨[.slice Pe x.O.length Pg,.slice Vo x.M.length Vp,.int .i64 x.next,.int .i64 x.weights.pack,.int .i64 x.weights.spread,.int .i64 x.weights.soft],G9,rfl,?_,?_⟩
 ·exact C6
 ·exact m'):P:=h
theorem KM {P:Prop} (h:P:=by
 exact Ku):P:=h
theorem KQ {P:Prop} (h:P:=by
 rintro e w1 ⟨ds,G,rfl,hO,aR⟩;have hR:=hO.rd;obtain ⟨kM,kN,ND,ny,nC,TD,ar,hGr,NG,TF,TG,xI,uD,xJ⟩:=aO hR;subst ar;clear hGr hR;have cI:=aR.size;simp at cI;have XB:oG w1 (w.heap.size+1+1) [.slice none 0 0,.slice none 0 0,.int .i64 0,.int .i64 0,.int .i64 0,.int .i64 0]:=oG.ext (oG.tf w _ _ [.slice none 0 0,.slice none 0 0,.int .i64 0,.int .i64 0,.int .i64 0,.int .i64 0] 29) aR;have HO:=I (hO.mono (B':=w.heap.size+1+1+1) S');have am:Below w.heap.size w w1:=ah bA aR;clear hO aR h;try dsimp only
 iterate 8 go_step
 refine ly 29 _ _ rfl (w.heap.size+1+1) 0 [.slice kM R.O.length kN,.slice ny R.M.length nC,.int .i64 R.next,.int .i64 R.weights.pack,.int .i64 R.weights.spread,.int .i64 R.weights.soft] [.slice none 0 0,.slice none 0 0,.int .i64 0,.int .i64 0,.int .i64 0,.int .i64 0] rfl rfl XB S' U' fm ?_;intro w2 YB OB;replace YB:oG w2 (w.heap.size+1+1) [.slice kM R.O.length kN,.slice ny R.M.length nC,.int .i64 R.next,.int .i64 R.weights.pack,.int .i64 R.weights.spread,.int .i64 R.weights.soft]:=YB;try dsimp only [Act.put]
 go_wp2;refine bodyPost_ret (v:=.tuple #[.agg #[.slice kM R.O.length kN,.slice ny R.M.length nC,.int .i64 R.next,.int .i64 R.weights.pack,.int .i64 R.weights.spread,.int .i64 R.weights.soft],.int .i64 cd]) (xc Tryz.results48 _ (w.heap.size+1+1) [.slice kM R.O.length kN,.slice ny R.M.length nC,.int .i64 R.next,.int .i64 R.weights.pack,.int .i64 R.weights.spread,.int .i64 R.weights.soft] _ _ rfl rfl YB Tryz.underlying29 rfl U') rfl ?_
 exact CF):P:=h
theorem Tm {P:Prop} (h:P:=by
 exact CF):P:=h
theorem KS {P:Prop} (h:P:=by
 have x6:oG w6 (w.heap.size+1+1) [.slice none 0 0,.slice none 0 0,.int .i64 0,.int .i64 0,.int .i64 0,.int .i64 0]:=(iX.out.ext (ak (aj _) _)).keep (hU6.block _ (by (try simp);omega) (λhm=>by have:=iw.out _ hm;omega));have hB6:Below w.heap.size w w6:=(ak nd.out _).trans (hU6.below (λy hy=>by have:=iw.out y hy;omega) (by (try simp);omega));obtain ⟨m0,m1,m2,m3,m4,m5⟩:=cK tU;have mf:=tU.fz;have ml:=tU.lt;obtain ⟨r0,r1,r2,r3,r4,r5⟩:=cK x6;have rf:=x6.fz;have rl:=x6.lt;have si:=I (ai.Hz pD iD (λy hy eI=>(nf y eI).2 hy) (show bt (x.next+1) by unfold bt;omega) zF wB zG);have nX:=I (show ∀y∈Gh++F6,y≠w4.heap.size from λy hy=>by rcases List.mem_append.1 hy with hy | hy;have:=j8.out y hy;omega;exact (nf y hy).1);clear iD pD hF6 nf hU6 tU x6;go_wp2_with fail
 try dsimp only
 iterate 90 (first | go_step | skip)
 refine bodyPost_ret (v:=.tuple #[.agg #[.slice Pe x.O.length Pg,.slice A6 (x.M.length+1) c6,.int .i64 (x.next+1),.int .i64 x.weights.pack,.int .i64 x.weights.spread,.int .i64 x.weights.soft],.int .i64 0]) (by simp [results,Tryz.results17,go_sem, *]) rfl ?_;rw [HF.out];first | refine ⟨[.slice Pe x.O.length Pg,.slice A6 (x.M.length+1) c6,.int .i64 (x.next+1),.int .i64 x.weights.pack,.int .i64 x.weights.spread,.int .i64 x.weights.soft],Gh++F6,rfl,?_,?_⟩ | refine ⟨[.slice Pe x.O.length Pg,.slice A6 (x.M.length+1) c6,.int .i64 (x.next+1),.int .i64 x.weights.pack,.int .i64 x.weights.spread,.int .i64 x.weights.soft],rfl,⟨Gh++F6,?_⟩,?_⟩
 ·exact sj
 ·exact m'):P:=h
theorem KU {P:Prop} (h:P:=by
 have bE:(eV k n x.O).length = x.O.length+1:=by rw [xf]
 obtain ⟨A9,c9,F9,hv9,SY,hF9⟩:=ai.Kw (xs:=eV k n x.O) Rg (nW.out.keep (λy hy=>sf.out y (kt.out y hy).1) J) (λq hq hm=>by have:=(oD.out.lt q hq).1;have:=(kt.out q hm).1;omega);rw [bE] at hv9 SY;simp only [Value.slice.injEq,true_and] at hv9;obtain ⟨rfl,rfl⟩:=hv9
 have si:=I (ai.Hz SY (oE.out.keep (λy hy=>sf.out y (by have:=iw.out y hy;omega)) J) (λy hy=>by
  rcases hF9 y hy with h9 | h9
  ·exact (kt.out y h9).2.2
  ·have:=(oD.out.lt y h9).1;exact λhm=>by have:=iw.out y hm;omega) wI iV gI iW)
 have nX:=I (show ∀y∈F9++Gp,y≠w1.heap.size from λy hy=>by
  rcases List.mem_append.1 hy with hy | hy
  ·exact KV
  ·have:=iw.out y hy;omega)
 have XA:=pC.out;clear SY hF9;try dsimp only
 iterate 60 (first | go_step | skip)
 refine bodyPost_ret (v:=.tuple #[.agg #[.slice (some ⟨g8,0,none⟩) (x.O.length+1) p8,.slice dS x.M.length dJ,.int .i64 x.next,.int .i64 x.weights.pack,.int .i64 x.weights.spread,.int .i64 x.weights.soft],.int .i64 0]) (by simp [results,Tryz.results82,go_sem, *]) rfl ?_;rw [HF.out,<- mo.out];refine ⟨[.slice (some ⟨g8,0,none⟩) (x.O.length+1) p8,.slice dS x.M.length dJ,.int .i64 x.next,.int .i64 x.weights.pack,.int .i64 x.weights.spread,.int .i64 x.weights.soft],F9++Gp,rfl,?_,?_⟩
 ·exact sj
 ·exact m'):P:=h
theorem x7 {P:Prop} (h:P:=by
 refine aN ?_;intro wn hn;replace hn:=hn.out;go_wp2;refine ⟨⟨s1++[z],s2,jj+1,I C8,N',I ZH,I (λz' hz=>?_),ah bC hn⟩,by simp [intOf];omega⟩;rcases List.mem_append.1 hz with hz | hz
 ·exact HN.out z' hz
 ·rw [List.mem_singleton.1 hz];exact HL.out):P:=h
theorem x8 {P:Prop} (h:P:=by
 rw [HF.out]
 first
  | refine ⟨[.slice dG x.O.length bV,.slice dS x.M.length dJ,.int .i64 x.next,.int .i64 x.weights.pack,.int .i64 x.weights.spread,.int .i64 x.weights.soft],G1,rfl,?_,?_⟩
  | refine ⟨[.slice dG x.O.length bV,.slice dS x.M.length dJ,.int .i64 x.next,.int .i64 x.weights.pack,.int .i64 x.weights.spread,.int .i64 x.weights.soft],rfl,⟨G1,?_⟩,?_⟩
 ·try dsimp only
  refine ai.mono (B:=w.heap.size+1+1) ?_ J;have hO:=HO.out;exact ZJ
 ·have hB:=HB.out
  exact ZP):P:=h
theorem KW {P:Prop} (h:P:=by
 have x6:oG w6 (w.heap.size+1+1) [.slice none 0 0,.slice none 0 0,.int .i64 0,.int .i64 0,.int .i64 0,.int .i64 0]:=(iX.out.ext (ak (aj _) _)).keep (hU6.block _ (by (try simp);omega) (λhm=>by have:=j8.out _ hm;omega));have hB6:Below w.heap.size w w6:=(ak nd.out _).trans (hU6.below (λy hy=>by have:=j8.out y hy;omega) (by (try simp);omega));obtain ⟨m0,m1,m2,m3,m4,m5⟩:=cK tU;have mf:=tU.fz;have ml:=tU.lt;obtain ⟨r0,r1,r2,r3,r4,r5⟩:=cK x6;have rf:=x6.fz;have rl:=x6.lt;have si:=I (ai.Hz iD pD (λy hy=>(nf y hy).2) Vs zF wB zG);have nX:=I (show ∀y∈F6++Gp,y≠w4.heap.size from λy hy=>by rcases List.mem_append.1 hy with hy | hy;exact (nf y hy).1;have:=iw.out y hy;omega);clear iD pD hF6 nf hU6 tU x6;go_wp2_with fail
 try dsimp only
 iterate 60 (first | go_step | skip)
 refine bodyPost_ret (v:=.tuple #[.agg #[.slice A6 (x.O.length+1) c6,.slice Vo x.M.length Vp,.int .i64 x.next,.int .i64 x.weights.pack,.int .i64 x.weights.spread,.int .i64 x.weights.soft],.int .i64 0]) (by simp [results,Tryz.results18,go_sem, *]) rfl ?_;rw [HF.out];refine ⟨[.slice A6 (x.O.length+1) c6,.slice Vo x.M.length Vp,.int .i64 x.next,.int .i64 x.weights.pack,.int .i64 x.weights.spread,.int .i64 x.weights.soft],F6++Gp,rfl,?_,?_⟩
 ·exact sj
 ·exact m'):P:=h
theorem Tn {P:Prop} (h:P:=by
 refine aN ?_;intro wn hn;replace hn:=hn.out;obtain ⟨kq,mZ⟩:=ay hn;have kr:w.heap.size < wn.heap.size:=sq hn.size;have te:b' < wn.heap.size:=sq hn.size;try (have tT:wr.heap.size < wn.heap.size:=sq hn.size)
 have zq:=((aw.alloc (.cells #[.string x.M[j+1].aS.name,.slice fC x.M[j+1].aS.labels.length fD,.int .i64 x.M[j+1].aS.aq,.int .i64 x.M[j+1].aS.mem,.int .i64 x.M[j+1].aS.av,.slice gB x.M[j+1].aS.af.length gG,.slice bT x.M[j+1].aS.ae.length bU,.string x.M[j+1].on,.int .i64 x.M[j+1].seq] 47)).kept (grown_of hn) S')
 go_wp2_with (at_mapUpdate
              refine wpList_mapUpdate_own _ J' _ _ _ 75 J' 3 4 Oy Tryz.underlying75 _ wp.heap.size _ _ J' zq pE _ _ _ J' J' (Maps.keyOf_int_mk Tryz.underlying3 (WalkArith.wf_i64 Ue)) _ [] (plainElem_bool Tryz.underlying4 true) ?_
              intro w5 bc JJ)
 exact ⟨⟨j+1+1,J,N',HN.out,Gn.out,ZQ,(Below.grown (ah (ak U3 _) hn) JJ ZS (λk hk=>by cases hk;exact Nat.le_refl _))⟩,by simp [intOf];omega⟩):P:=h
theorem x9 {P:Prop} (h:P:=by
 go_enter Tryz.func54,Tryz.ntmps54;go_wp2_with fail
 rw [oF.out]
 go_wp2_with (first
  | (go_at_call 86;refine (kH x.next 1 1000000000 _).mono ?_;rw [Jf.out];rintro e w1 ⟨rfl,mH⟩;simp only [<- mH];clear mH w1)
  | (go_at_call 85;refine (pW x.weights.pack x.weights.spread x.weights.soft _).mono ?_;rw [Du.out];rintro e w2 ⟨rfl,am⟩;obtain ⟨bM,cB⟩:=ay am;have ca:w.heap.size < w2.heap.size:=(sq am.size)))
 go_ret
 exact ⟨by rw [HF.out];rfl,bJ⟩):P:=h
theorem ya {P:Prop} (h:P:=by
 go_enter Tryz.func15,Tryz.ntmps15;go_wp2_with fail
 rw [oF.out]
 go_wp2_with (first
  | (go_at_call 31;refine (jc x.next 1 1000000000 _).mono ?_;rw [Jf.out];rintro e w1 ⟨rfl,mH⟩;simp only [<- mH];clear mH w1)
  | (go_at_call 32;refine (pU x.weights.pack x.weights.spread x.weights.soft _).mono ?_;rw [Du.out];rintro e w2 ⟨rfl,am⟩;obtain ⟨bM,cB⟩:=ay am;have ca:w.heap.size < w2.heap.size:=(sq am.size)))
 go_ret
 exact ⟨by rw [HF.out];rfl,bJ⟩):P:=h
theorem To {P:Prop} (h:P:=by
 refine aN ?_;intro wn hn;replace hn:=hn.out;obtain ⟨kq,mZ⟩:=ay hn;have kr:w.heap.size < wn.heap.size:=sq hn.size;have te:b < wn.heap.size:=sq hn.size;try (have tT:wr.heap.size < wn.heap.size:=sq hn.size)
 have zq:=((aw.alloc (.cells #[.string x.M[0].aS.name,.slice fC x.M[0].aS.labels.length fD,.int .i64 x.M[0].aS.aq,.int .i64 x.M[0].aS.mem,.int .i64 x.M[0].aS.av,.slice gB x.M[0].aS.af.length gG,.slice bT x.M[0].aS.ae.length bU,.string x.M[0].on,.int .i64 x.M[0].seq] 47)).kept (grown_of hn) S')
 go_wp2_with (at_mapUpdate
              refine wpList_mapUpdate_own _ J' _ _ _ 75 J' 3 4 Oy Tryz.underlying75 _ wp.heap.size _ _ J' zq pE _ _ _ J' J' (Maps.keyOf_int_mk Tryz.underlying3 (WalkArith.wf_i64 Ue)) _ [] (plainElem_bool Tryz.underlying4 true) ?_
              intro w5 bc JJ)
 exact ⟨⟨0+1,J,N',HN.out,Gn.out,ZQ,(Below.grown (ah (ak U3 _) hn) JJ ZS (λk hk=>by cases hk;exact Nat.le_refl _))⟩,by simp [intOf];omega⟩):P:=h
theorem KX {P:Prop} (h:P:=by
 try dsimp only [Act.put]
 iterate 5 go_step
 refine ly 29 _ _ rfl (w.heap.size+1+1) 0 [.slice kM R.O.length kN,.slice ny R.M.length nC,.int .i64 R.next,.int .i64 R.weights.pack,.int .i64 R.weights.spread,.int .i64 R.weights.soft] [.slice none 0 0,.slice none 0 0,.int .i64 0,.int .i64 0,.int .i64 0,.int .i64 0] rfl rfl ZT S' U' fm ?_;intro w3 ZB OZ;replace ZB:oG w3 (w.heap.size+1+1) [.slice kM R.O.length kN,.slice ny R.M.length nC,.int .i64 R.next,.int .i64 R.weights.pack,.int .i64 R.weights.spread,.int .i64 R.weights.soft]:=ZB;try dsimp only [Act.put]
 go_wp2;refine bodyPost_ret (v:=.tuple #[.agg #[.slice kM R.O.length kN,.slice ny R.M.length nC,.int .i64 R.next,.int .i64 R.weights.pack,.int .i64 R.weights.spread,.int .i64 R.weights.soft],.int .i64 cd]) (xc Tryz.results25 _ (w.heap.size+1+1) [.slice kM R.O.length kN,.slice ny R.M.length nC,.int .i64 R.next,.int .i64 R.weights.pack,.int .i64 R.weights.spread,.int .i64 R.weights.soft] _ _ rfl rfl ZB Tryz.underlying29 rfl U') rfl ?_
 exact ⟨[.slice kM R.O.length kN,.slice ny R.M.length nC,.int .i64 R.next,.int .i64 R.weights.pack,.int .i64 R.weights.spread,.int .i64 R.weights.soft],G,rfl,(((HO.out.only OB (λb hb=>by have:=H9.out b hb;omega))).only OZ (λb hb=>by have:=HO.out.base b hb;omega)).mono (B':=w.heap.size) J,C' (C' HB.out OB J) OZ J⟩):P:=h
theorem yb {P:Prop} (h:P:=by
 intro wq hq;have et:=(aB hq).1;have lJ:=(aB hq).2;go_simp
 first
  | exact ⟨hq,rfl⟩
  | exact ⟨aQ hq _,rfl⟩
  | (first | (refine (Rh.out _ xh).mono ?_;rintro e w2 ⟨rfl,am⟩;exact ⟨rfl,aI hq am⟩) | (refine (pk.out _ xh).mono ?_;rintro e w2 ⟨rfl,am⟩;exact ⟨rfl,aI hq am⟩))
  | (simp only [↓IntWalk.iteOmega];exact ⟨hq,rfl⟩)):P:=h
theorem Da {P:Prop} (h:P:=by
 intro wq hq;have et:=(aB hq).1;have lJ:=(aB hq).2;go_simp
 first
  | exact ⟨hq,rfl⟩
  | (refine (Kq x p _ _ _ _ z _ (aJ ZU.out (ah ti.out hq)) (aJ ZV.out (ah ti.out hq)) HW.out Uc.out).mono ?_;rintro e wz ⟨rfl,ij⟩;rw [KY.out];exact ⟨rfl,aI hq ij⟩)
  | (simp only [↓IntWalk.iteOmega];exact ⟨hq,rfl⟩)):P:=h
theorem KZ {P:Prop} (h:P:=by
 have HF:=I (show oH nm x p = 3 by rw [xi.out,if_neg (by simp [hS]),if_neg hu,if_pos ek]);have HS:=I hS;clear hS;have H1:=I he1;clear he1;go_wp2_with fail
 refine (Q6.out _ bJ).mono ?_;rw [HS.out];rintro e w4 ⟨rfl,bm⟩;obtain ⟨ee,hf4⟩:=ay bm;have Wy:w.heap.size < w4.heap.size:=(sq bm.size);have Q3:w.heap.size+1 < w4.heap.size:=(sq bm.size);have Tf:w3.heap.size < w4.heap.size:=(sq bm.size);go_wp2_with fail
 refine (Ra.out _ bJ).mono ?_;rintro e w5 ⟨rfl,bu⟩;obtain ⟨pA,ow⟩:=ay bu;have Es:w.heap.size < w5.heap.size:=(sq bu.size);have IV:w.heap.size+1 < w5.heap.size:=(sq bu.size);have xb:w3.heap.size < w5.heap.size:=(sq bu.size);go_wp2_with fail
 refine (oQ a p.aq _ ha kQ).mono ?_;rw [H1.out];rintro e w6 ⟨rfl,ev⟩;obtain ⟨Rb,Xe⟩:=ay ev;have tg:w.heap.size < w6.heap.size:=(sq ev.size);have hy6:w.heap.size+1 < w6.heap.size:=(sq ev.size);have hx6:w3.heap.size < w6.heap.size:=(sq ev.size)
 exact CK):P:=h
theorem sk {P:Prop} (h:P:=by
 exact ⟨[.slice kM x.O.length kN,.slice ny x.M.length nC,.int .i64 x.next,.int .i64 x.weights.pack,.int .i64 x.weights.spread,.int .i64 x.weights.soft],G,rfl,(HO.out.only OB (λb hb=>by have:=HO.out.base b hb;omega)).mono (B':=w.heap.size) J,C' am OB J⟩):P:=h
theorem Db {P:Prop} (h:P:=by
 obtain ⟨u,b⟩:=R;rintro e w5 ⟨A6,c6,G6,rfl,iD,ev,Jg⟩;have mh:=I (j9.out.ext ev);have tj:=I (ng.out.ext ev);have K0:=I (AJ.out.ext ev);replace Jg:=I Jg;have xj:=I (pF.out.sl ev J);replace iD:=I (iD.mono (B':=w.heap.size) J);have Tp:(k:Int)+1<=2:=by omega
 exact K1):P:=h
theorem K2 {P:Prop} (h:P:=by
 have fo:∀y,y < wn.heap.size->w8.heap[y]? = wn.heap[y]?:=λy hy=>(da.block y J (λe=>by have:=(nK.lt y e.symm).1;omega)).trans (bw.block y hy);have Dd:=da.size;obtain ⟨FI,hOI,hFI⟩:=De.out.ins Dg.out HDJ.out jj (by have:=cW.out;omega);have K3:∀y∈FI,y < wn.heap.size:=λy hy=>by
  rcases hFI y hy with h9 | h9
  ·exact De.out.lt y h9
  ·exact Dg.out.lt y h9
 refine ⟨⟨k+1,N+1,g8,p8,_,FI,J,J,N',rfl,I ?_,I ?_,I (vP Le (B':=w.heap.size) kd.out.size),I ?_,I ?_,?_⟩,by simp [intOf];omega⟩
 ·rw [Jf.out,HI.out,xf,cW.out]
 ·intro j hj rp;exact K4
 ·rw [Jf.out,HI.out];exact hOI.keep (λy hy=>fo y (K3 y hy)) J
 ·exact λhm=>by have:=K3 g8 hm;omega
 ·exact Below.grown (kd.out.trans (bw.mono kd.out.size)) da (by have:=kd.out.size;omega) (λq hq=>by have:=(nK.lt q hq).1;have:=kd.out.size;omega)):P:=h
theorem yd {P:Prop} (h:P:=by
 intro wq hq;have et:=(aB hq).1;have lJ:=(aB hq).2;go_simp
 first
  | exact ⟨hq,rfl⟩
  | exact ⟨aQ hq _,rfl⟩
  | ((refine (Di.out wq hq).mono ?_;rw [HV.out];rintro e wz ⟨rfl,ij⟩;exact ⟨rfl,aI hq ij⟩))
  | (simp only [↓IntWalk.iteOmega];exact ⟨hq,rfl⟩)):P:=h
theorem K5 {P:Prop} (h:P:=by
 have rr:=HS.out.box.lt;go_wp2_with fail
 refine (Tq x _ _ v2 (AF HX.out HS.out.below) fu cA).mono ?_;rintro e w8 ⟨C3,G8,rfl,sV,d8⟩;have T8:=HS.out.ext d8;have SY:=sV;obtain ⟨lA,aHA,aJp,aIQ,aIR,aCm,ayd,hF9,aye,aJq,aAR,aAS,aDQ,aCn⟩:=iy sV.rd;subst ayd;clear hF9 sV;obtain ⟨r0,r1,r2,r3,r4,r5⟩:=cK T8.rb;have rf:=T8.rb.fz;have rl:=T8.rb.lt;have lj:=I SY;have xe:=I T8;have C4:w.heap.size+1 < v2.heap.size:=HS.out.rb.lt;clear SY T8 d8;go_wp2_with fail
 try dsimp only
 iterate 60 (first | go_step | skip)
 refine bodyPost_ret (v:=.tuple #[.agg #[.string x.name,.slice lA x.labels.length aHA,.int .i64 x.aq,.int .i64 x.mem,.int .i64 x.slots,.slice aIQ x.aT.length aIR],.bool false]) (by simp [results,Tryz.results133,go_sem, *]) rfl ⟨[.string x.name,.slice lA x.labels.length aHA,.int .i64 x.aq,.int .i64 x.mem,.int .i64 x.slots,.slice aIQ x.aT.length aIR],G8,by rw [j7.out];try rfl,?_,?_⟩
 ·rw [j7.out];refine ai.mono (B:=v2.heap.size) ?_ J;exact Hy
 ·exact AG):P:=h
theorem K6 {P:Prop} (h:P:=by
 have rr:=HS.out.box.lt;go_wp2_with fail
 refine (Tr x _ _ v2 (AF HX.out HS.out.below) fu cA).mono ?_;rintro e w8 ⟨C3,G8,rfl,sV,d8⟩;have T8:=HS.out.ext d8;have SY:=sV;obtain ⟨lA,aHA,aJp,aIQ,aIR,aCm,ayd,hF9,aye,aJq,aAR,aAS,aDQ,aCn⟩:=iy sV.rd;subst ayd;clear hF9 sV;obtain ⟨r0,r1,r2,r3,r4,r5⟩:=cK T8.rb;have rf:=T8.rb.fz;have rl:=T8.rb.lt;have lj:=I SY;have xe:=I T8;have C4:w.heap.size+1 < v2.heap.size:=HS.out.rb.lt;clear SY T8 d8;go_wp2_with fail
 try dsimp only
 iterate 60 (first | go_step | skip)
 refine bodyPost_ret (v:=.tuple #[.agg #[.string x.name,.slice lA x.labels.length aHA,.int .i64 x.aq,.int .i64 x.mem,.int .i64 x.slots,.slice aIQ x.aT.length aIR],.bool false]) (by simp [results,Tryz.results40,go_sem, *]) rfl ⟨[.string x.name,.slice lA x.labels.length aHA,.int .i64 x.aq,.int .i64 x.mem,.int .i64 x.slots,.slice aIQ x.aT.length aIR],G8,by rw [j7.out];try rfl,?_,?_⟩
 ·rw [j7.out];refine ai.mono (B:=v2.heap.size) ?_ J;exact Hy
 ·exact AG):P:=h
theorem K7 {P:Prop} (h:P:=by
 rcases h0 with ⟨hl,⟨rfl,hn⟩ | ⟨g,cap,cj,rfl,hb,hh,eW,hm,dC,ht⟩⟩
 ·obtain rfl:xs = []:=List.eq_nil_of_length_eq_zero hn;exact ⟨none,0,[],rfl,⟨Sl.nil w none 0 (Nat.zero_le _),List.nodup_nil,(λb hb=>by cases hb),(λb hb=>by cases hb)⟩,(λb hb=>by cases hb)⟩
 ·have hg:g < w.heap.size:=by
   exact K8
  refine ⟨_,cap,g :: F,rfl,⟨⟨_,cap,F,ds,rfl,eW,hm,h.rd,.inr ⟨g,0,rfl,rfl,hg,λj u hu=>?_⟩⟩,?_,?_,?_⟩,λy hy=>?_⟩
  ·rw [Nat.zero_add,cell_of_row w g j cj e (0,0) hh];exact Dj
  ·rw [List.nodup_cons];exact ⟨bI g rfl,h.nodup⟩
  ·exact K9
  ·exact K'
  ·rcases List.mem_cons.1 hy with rfl | hy
   ·exact .inr rfl
   ·exact .inl hy):P:=h
theorem Lb {P:Prop} (h:P:=by
 have gU:∀y∈F',w'.heap[y]? = w.heap[y]?:=λy hy=>hg.block y (hOI.lt y hy) (λe=>by
  rcases hF' y hy with h9 | h9
  ·exact bI y e.symm h9
  ·exact hd y (Dk y e.symm) h9)
 have Ts:=hOI.keep gU hg.size;have Tt:∀g,v'.ownBlock = some g->g∉F':=λg ye hm=>by
  rcases cF with e | e
  ·rw [e] at ye;rcases hF' g hm with h9 | h9
   ·exact bI g ye h9
   ·exact hd g (Dk g ye) h9
  ·rw [e] at ye;have:=hOI.lt g hm;simp only [Option.some.injEq] at ye;omega
 have bE:=xf i x xs;obtain ⟨A',c',F2,tk,bj,mI⟩:=ai.Kw (xs:=eV i x xs) (by rw [bE];exact hr) Ts Tt;rw [bE] at tk bj;refine ⟨A',c',F2,tk,bj,λy hy=>?_,⟨hg.os,hg.tape,hg.output,hg.size,λk hk hkF=>hg.block k hk (λe=>hkF (Dk k e.symm))⟩⟩;rcases mI y hy with h9 | h9
 ·rcases hF' y h9 with h8 | h8
  ·exact .inl (hG0 y h8)
  ·exact .inr (.inl h8)
 ·rcases cF with e | e
  ·rw [e] at h9;exact .inl (Dk y h9)
  ·rw [e] at h9;simp only [Option.some.injEq] at h9
   exact .inr (.inr J)):P:=h
theorem Dl {P:Prop} (h:P:=by
 exact C6):P:=h
theorem Dm {P:Prop} (h:P:=by
 rw [HF.out]
 first
  | refine ⟨[.slice dG x.O.length bV,.slice dS x.M.length dJ,.int .i64 x.next,.int .i64 x.weights.pack,.int .i64 x.weights.spread,.int .i64 x.weights.soft],G1,rfl,?_,?_⟩
  | refine ⟨[.slice dG x.O.length bV,.slice dS x.M.length dJ,.int .i64 x.next,.int .i64 x.weights.pack,.int .i64 x.weights.spread,.int .i64 x.weights.soft],rfl,⟨G1,?_⟩,?_⟩
 ·try dsimp only
  refine ai.mono (B:=w.heap.size+1+1) ?_ J;have hO:=iY.out;exact ZW
 ·have hB:=Tu.out
  exact ZY):P:=h
theorem Dn {P:Prop} (h:P:=by
 simp only [Value.slice.injEq,true_and] at mK;obtain ⟨Tv,cw⟩:=mK;subst Tv cw;have gN:=I hO3;clear hO3;go_wp2_with fail
 refine en.out.mono ?_;rw [ik.out];rintro e w4 ⟨rfl,bm⟩;have gY:=I bm;clear bm;go_wp2;go_ret2
 exact ⟨A2,c2,G3,by rw [HR.out];try rfl,by rw [HR.out];exact (gN.out.ext Ia.out).ext gY.out,xl.out.trans (gY.out.mono xl.out.size),λhh=>absurd hh Lc⟩):P:=h
theorem tW {P:Prop} (h:P:=by
 exact Below.grown (ah nZ.out bw) da awR (λq hq=>by have:=(nK.lt q hq).1;have:=nZ.out.size;omega)):P:=h
theorem Ld {P:Prop} (h:P:=by
 rw [ik.out];rintro e w4 ⟨rfl,bm⟩;have gY:=I bm;clear bm;go_wp2;go_ret2
 exact ⟨some ⟨g,0,none⟩,cap,G4,by rw [HR.out,cW.out];try rfl,by rw [HR.out];exact ng.out.ext gY.out,xl.out.trans (gY.out.mono xl.out.size),λ_=>n9.out.ext gY.out⟩):P:=h
theorem yf {P:Prop} (h:P:=by
 have hl7:yR.length = 7:=ax.len kG;have h2:List.take 7 (yR++don) = yR:=by rw [List.take_append_of_le_length J,List.take_of_length_le J]
 have h3:=congrArg (List.take 7) hdc;rw [h2] at h3;rw [<- h3] at kG
 exact kG):P:=h
theorem t6 {P:Prop} (h:P:=by
 obtain ⟨A',c',G,ds,e0,_,_,_,h0⟩:=h;simp only [List.cons.injEq,Value.slice.injEq,and_true,true_and] at e0;rcases h0 with h0 | ⟨b,o,hA,_⟩
 ·exact h0.1
 ·rw [<- e0.1] at hA;cases hA):P:=h
theorem Lf {P:Prop} (h:P:=by
 have fx:=EW.ob.fz 0;have lx:=EW.ob.lt;refine hK _ _ x0 ?_;try simp only [Act.put,pz]
 clear hK K;replace x0:=x0.1;refine yG ?_;go_wp2;obtain ⟨Fb,Jl⟩:=aY.Ri (v':=.slice A7 (k+1) c7) AK.out Lg.out Dr.out Lh.out J (λg hg=>by have:=Y6.out g hg;omega) (λy hy=>by have:=il.out y hy;omega) DV Uf;rw [<- List.take_succ_eq_append_getElem ap] at Fb;have Tw:=EJ (c:=w.heap.size+1+1) (i:=0) (u:=.slice A7 (k+1) c7) ug (λg hg=>by have:=(ug.lt g hg).1;omega)
 refine ⟨⟨k+1,_,_,.slice A7 (k+1) c7,J,I (λh0=>by omega),N',Tw,Fb.setCell (p:=⟨w.heap.size+1+1,0,none⟩) Tx _,Jl,EW.put 0 (.slice A7 (k+1) c7),by have:=DV.size;simp only [World.setCell,Array.size_modify] at *;omega⟩,by simp [intOf];omega⟩):P:=h
theorem Ty {P:Prop} (h:P:=by
 obtain rfl:q = j+1:=by omega
 have xd:seenIn (x.M.take (j+1)) x.M[j+1].seq = false:=by exact Kb
 have Gn:=I (gq hfresh.out (show DN x.M (j+1) = true by rw [sG ap,xd];rfl));clear xd;go_wp2
 exact ⟨⟨j+1+1,J,N',HN.out,Gn.out,ah aM Fp⟩,by simp [intOf];omega⟩):P:=h
theorem Li {P:Prop} (h:P:=by
 rw [HK.out];rintro e w2 ⟨rfl,am⟩;obtain ⟨bM,cB⟩:=ay am;have ca:w.heap.size < w2.heap.size:=by have:=am.size;simp at this;omega
 have x3:w2.cell? ⟨w.heap.size,1,none⟩ = some (.int .i64 x.op):=by rw [bM _ _ S',cell_of_row _ _ _ _ _ _ (heap_alloc_new w _)];rfl
 have pB:w2.cell? ⟨w.heap.size,2,none⟩ = some (.slice jy x.values.length ji):=by rw [bM _ _ S',cell_of_row _ _ _ _ _ _ (heap_alloc_new w _)];rfl
 have gL:Below w.heap.size w w2:=bJ;clear bM cB;have ZZ:((x.values.length:Int) == 0) = true:=by simp [H0.out]
 go_wp2;go_ret
 exact ⟨by rw [HF.out];first | rfl | simp_all,gL⟩):P:=h
theorem Ds {P:Prop} (h:P:=by
 refine ⟨⟨c1,c2,F1,F2,rfl,rfl,h1.rd,h2.rd⟩,?_,?_,?_⟩
 ·rw [List.nodup_append];exact ⟨h1.nodup,h2.nodup,λa ha b hb e=>hd a ha (e ▸ hb)⟩
 ·intro b hb;rcases List.mem_append.1 hb with hb | hb
  ·exact h1.base b hb
  ·exact h2.base b hb
 ·exact Lj):P:=h
theorem Lk {P:Prop} (h:P:=by
 rw [HF.out]
 first
  | refine ⟨[.slice A9 (x.O.length - 1) c9,.slice dS x.M.length dJ,.int .i64 x.next,.int .i64 x.weights.pack,.int .i64 x.weights.spread,.int .i64 x.weights.soft],F'++Gp,rfl,?_,?_⟩
  | refine ⟨[.slice A9 (x.O.length - 1) c9,.slice dS x.M.length dJ,.int .i64 x.next,.int .i64 x.weights.pack,.int .i64 x.weights.spread,.int .i64 x.weights.soft],rfl,⟨F'++Gp,?_⟩,?_⟩
 ·try dsimp only
  refine ai.mono (B:=w.heap.size+1+1) ?_ J;exact (by repeat (first | with_reducible exact si.out | with_reducible refine ai.setCell ?_ bx _ | with_reducible refine TA ?_ nX.out))
 ·exact m'):P:=h
theorem Ll {P:Prop} (h:P:=by
 obtain ⟨Fb,Jl⟩:=aY.Ri (v':=.slice A7 (k+1) c7) AK.out Lg.out Dr.out Lh.out J (λg hg=>by have:=Y6.out g hg;omega) (λy hy=>by have:=il.out y hy;omega) DV Uf;rw [<- List.take_succ_eq_append_getElem ap] at Fb;have Tw:=EJ (c:=w.heap.size+1+1) (i:=1) (u:=.slice A7 (k+1) c7) ug (λg hg=>by have:=(ug.lt g hg).1;omega)
 refine ⟨⟨k+1,_,_,.slice A7 (k+1) c7,J,I (λh0=>by omega),N',Tw,Fb.setCell (p:=⟨w.heap.size+1+1,1,none⟩) Tx _,Jl,Z0.setCell (p:=⟨w.heap.size+1+1,1,none⟩) Tx _,EW.put 1 (.slice A7 (k+1) c7),by have:=DV.size;simp only [World.setCell,Array.size_modify] at *;omega⟩,by simp [intOf];omega⟩):P:=h
theorem Dy {P:Prop} (h:P:=by
 simpa only [List.map_append,List.map_cons,List.map_nil,List.append_assoc,List.cons_append,List.nil_append] using this):P:=h
theorem Lm {P:Prop} (h:P:=by
 intro wq hq;have et:=(aB hq).1;have lJ:=(aB hq).2;go_simp
 first
  | exact ⟨hq,rfl⟩
  | exact ⟨aQ hq _,rfl⟩
  | ((refine (TN y z _ _ _ _ wq (aJ t7.out (ah ti.out hq)) (aJ Ib.out (ah ti.out hq)) Z1.out Z2.out).mono ?_;rw [HL.out];rintro e wz ⟨rfl,ij⟩;exact ⟨rfl,aI hq ij⟩))
  | (simp only [↓IntWalk.iteOmega];exact ⟨hq,rfl⟩)):P:=h
theorem Dz {P:Prop} (h:P:=by
 exact CK):P:=h
theorem Ln {P:Prop} (h:P:=by
 intro wq hq;have et:=(aB hq).1;have lJ:=(aB hq).2;go_simp
 first
  | exact ⟨hq,rfl⟩
  | exact ⟨aQ hq _,rfl⟩
  | ((refine (TN z y _ _ _ _ wq (aJ Ib.out (ah ti.out hq)) (aJ t7.out (ah ti.out hq)) Z2.out Z1.out).mono ?_;rw [HL.out];rintro e wz ⟨rfl,ij⟩;exact ⟨rfl,aI hq ij⟩))
  | (simp only [↓IntWalk.iteOmega];exact ⟨hq,rfl⟩)):P:=h
theorem sn {P:Prop} (h:P:=by
 go_wp2
 all_goals
  go_ret
  exact ⟨by first | rfl | simp_all,bJ⟩):P:=h
theorem yh {P:Prop} (h:P:=by
 rw [t7.out,HN.out];refine ai.mono (B:=w.heap.size+1+1+1) ?_ J
 exact (by repeat (first | with_reducible exact AM.out | with_reducible refine ai.setCell ?_ bx _))):P:=h
theorem Lo {P:Prop} (h:P:=by
 intro wq hq;have et:=(aB hq).1;have lJ:=(aB hq).2;go_simp
 first
  | exact ⟨hq,rfl⟩
  | exact ⟨aQ hq _,rfl⟩
  | ((refine (Z3 z y _ _ _ _ wq (TB t8.out Rj.out wq) (TB t8.out Rk.out wq)).mono ?_;rw [HL.out];rintro e wz ⟨rfl,ij⟩;exact ⟨rfl,aI hq ij⟩))
  | (simp only [↓IntWalk.iteOmega];exact ⟨hq,rfl⟩)):P:=h
theorem Lp {P:Prop} (h:P:=by
 intro wq hq;have et:=(aB hq).1;have lJ:=(aB hq).2;go_simp
 first
  | exact ⟨hq,rfl⟩
  | exact ⟨aQ hq _,rfl⟩
  | ((refine (Z4 z y _ _ _ _ wq (TC t8.out Rj.out wq) (TC t8.out Rk.out wq)).mono ?_;rw [HL.out];rintro e wz ⟨rfl,ij⟩;exact ⟨rfl,aI hq ij⟩))
  | (simp only [↓IntWalk.iteOmega];exact ⟨hq,rfl⟩)):P:=h
theorem Lq {P:Prop} (h:P:=by
 intro wq hq;have et:=(aB hq).1;have lJ:=(aB hq).2;go_simp
 first
  | exact ⟨hq,rfl⟩
  | exact ⟨aQ hq _,rfl⟩
  | (refine (Oa x p _ _ _ _ x.O[k].name _ (aJ h Z5) (aJ h' Z5) HW.out Uc.out).mono ?_;rw [Rl.out];rintro e w2 ⟨rfl,am⟩;exact ⟨rfl,aI hq am⟩)
  | (simp only [↓IntWalk.iteOmega];exact ⟨hq,rfl⟩)):P:=h
theorem Ls {P:Prop} (h:P:=by
 rw [Nat.zero_add,cell_of_row w g j cj e (0,0) hh]
 exact Dj):P:=h
theorem Lt {P:Prop} (h:P:=by
 intro wq hq;have et:=(aB hq).1;have lJ:=(aB hq).2;go_simp
 first
  | exact ⟨hq,rfl⟩
  | exact ⟨aQ hq _,rfl⟩
  | (refine Ic (v:=.bool (!(Aq p.x q.x))) ?_ hq;unfold Aq;repeat' split;all_goals simp [*])
  | (simp only [↓IntWalk.iteOmega];exact ⟨hq,rfl⟩)):P:=h
theorem Lu {P:Prop} (h:P:=by
 intro wq hq;have et:=(aB hq).1;have lJ:=(aB hq).2;go_simp
 first
  | exact ⟨hq,rfl⟩
  | exact ⟨aQ hq _,rfl⟩
  | (refine Ic (v:=.bool (!(oP p.x q.x))) ?_ hq;unfold oP;repeat' split;all_goals simp [*])
  | (simp only [↓IntWalk.iteOmega];exact ⟨hq,rfl⟩)):P:=h
theorem Lv {P:Prop} (h:P:=by
 intro wq hq;have et:=(aB hq).1;have lJ:=(aB hq).2;go_simp
 first
  | exact ⟨hq,rfl⟩
  | exact ⟨aQ hq _,rfl⟩
  | (refine Ic (v:=.bool (Aq z y)) ?_ hq;unfold Aq;repeat' split;all_goals simp [*])
  | (simp only [↓IntWalk.iteOmega];exact ⟨hq,rfl⟩)):P:=h
theorem Lw {P:Prop} (h:P:=by
 intro wq hq;have et:=(aB hq).1;have lJ:=(aB hq).2;go_simp
 first
  | exact ⟨hq,rfl⟩
  | exact ⟨aQ hq _,rfl⟩
  | (refine Ic (v:=.bool (oP z y)) ?_ hq;unfold oP;repeat' split;all_goals simp [*])
  | (simp only [↓IntWalk.iteOmega];exact ⟨hq,rfl⟩)):P:=h
theorem DA {P:Prop} (h:P:=by
 simp only [Value.slice.injEq,true_and] at mK;obtain ⟨Tv,cw⟩:=mK;subst Tv cw;have HO:=I hO3;clear hO3 aw cH tm;go_wp2;go_ret2
 exact ⟨A2,c2,G3,by rw [HR.out];try rfl,by rw [HR.out];exact HO.out,am,λhh=>absurd hh Lc⟩):P:=h
theorem yi {P:Prop} (h:P:=by
 rw [Jf.out,HI.out,List.length_append,List.length_cons,HJ.out];have:=lH.out;omega):P:=h
theorem yj {P:Prop} (h:P:=by
 rintro e w5 ⟨A5,c5,F5,rfl,fH,bu⟩;go_wp2;go_ret2
 exact ⟨A5,c5,F5,by rw [HR.out];try rfl,by rw [HR.out];exact fH.mono gY.out.size,ah gY.out bu⟩):P:=h
theorem Lx {P:Prop} (h:P:=by
 intro wq hq;have et:=(aB hq).1;have lJ:=(aB hq).2;go_simp
 first
  | exact ⟨hq,rfl⟩
  | exact ⟨aQ hq _,rfl⟩
  | (first | (refine (Z6.out _ (ah gL hq)).mono ?_;rintro e w3 ⟨rfl,az⟩;exact ⟨rfl,aI hq az⟩) | (refine (acy _ _ J J).mono ?_;rw [HM.out];rintro e w3 ⟨rfl,rfl⟩;exact ⟨rfl,hq⟩))
  | (simp only [↓IntWalk.iteOmega];exact ⟨hq,rfl⟩)):P:=h
theorem DB {P:Prop} (h:P:=by
 intro j u hu;rw [Addr.add];have hc:=cell_of_row (w.alloc (.cells cs.toArray e)) w.heap.size j cs.toArray e (0,0) (heap_alloc_new w _);split
 ·rename_i hj;subst hj;rw [hc];simpa using hu
 ·simp only [Nat.zero_add];rw [hc];simpa using hu):P:=h
theorem oI {P:Prop} (h:P:=by
 rw [Addr.add_lit,Nat.zero_add,cell_of_row w vb q _ tv (0,0) hv]
 simpa using hu):P:=h
theorem Ly {P:Prop} (h:P:=by
 refine ⟨0,[],[],Nat.zero_le _,rfl,?_,⟨rfl,rfl⟩,?_,ak (ak (aj _) _) _⟩
 ·have:=World.ownsRow_made (base:=w.heap.size+1) (e:=35) (size:=7) (w.alloc (.cells #[.slice bG x.O.length bD,.slice dn x.M.length bW,.int .i64 x.next,.int .i64 x.weights.pack,.int .i64 x.weights.spread,.int .i64 x.weights.soft] 29)) #[] 0 S' pE rfl;simpa [F7] using this
 ·exact LA):P:=h
theorem LB {P:Prop} (h:P:=by
 have HF:=I (agS ap hb);clear hb;rcases hr with hr | ⟨hr,eT⟩ | ⟨hr,eT⟩ | ⟨hr,eT⟩ | ⟨hr,eT⟩ | hr
 all_goals
  have bI:((s[k].toNat:Int) != 45) = true:=(by simp;omega);have ua:((s[k].toNat:Int) == 45) = false:=(by simp;omega);go_wp2
  all_goals first
   | (go_ret;exact ⟨by rw [HF.out];rfl,bJ⟩)
   | (exfalso;rename_i hx;simp at hx;omega)):P:=h
theorem LC {P:Prop} (h:P:=by
 intro wq hq;have et:=(aB hq).1;have lJ:=(aB hq).2;go_simp
 first
  | exact ⟨hq,rfl⟩
  | exact ⟨aQ hq _,rfl⟩
  | (refine Ic (v:=.bool ((Aq p.x q.x))) ?_ hq;unfold Aq;repeat' split;all_goals simp [*])
  | (simp only [↓IntWalk.iteOmega];exact ⟨hq,rfl⟩)):P:=h
theorem LD {P:Prop} (h:P:=by
 intro wq hq;have et:=(aB hq).1;have lJ:=(aB hq).2;go_simp
 first
  | exact ⟨hq,rfl⟩
  | exact ⟨aQ hq _,rfl⟩
  | (refine Ic (v:=.bool ((oP p.x q.x))) ?_ hq;unfold oP;repeat' split;all_goals simp [*])
  | (simp only [↓IntWalk.iteOmega];exact ⟨hq,rfl⟩)):P:=h
theorem LF {P:Prop} (h:P:=by
 intro wq hq;have et:=(aB hq).1;have lJ:=(aB hq).2;go_simp
 first
  | exact ⟨hq,rfl⟩
  | (refine (ajp y r _).mono ?_;rw [HL.out];rintro e wz ⟨rfl,ij⟩;exact ⟨rfl,aI hq ij⟩)
  | (simp only [↓IntWalk.iteOmega];exact ⟨hq,rfl⟩)):P:=h
theorem ub {P:Prop} (h:P:=by
 go_wp2;go_ret
 exact ⟨none,0,[],[],rfl,World.ownsRow_nil w _ _ _,⟨rfl,rfl⟩,(λb hb=>by cases hb),aj _⟩):P:=h
theorem TE {P:Prop} (h:P:=by
 refine aN ?_;intro wn hn;replace hn:=hn.out;go_wp2
 exact ⟨⟨k+1,If,N',ah bC hn⟩,by simp [intOf];omega⟩):P:=h
theorem LG {P:Prop} (h:P:=by
 exact ((((((((((((((U3.out.new (Nat.le_refl _) 0 _).new (Nat.le_refl _) 1 _).new (Nat.le_refl _) 2 _).new (Nat.le_refl _) 3 _).new (Nat.le_refl _) 4 _).new (Nat.le_refl _) 5 _).new (Nat.le_refl _) 6 _).new (Nat.le_refl _) 7 _).new (Nat.le_refl _) 8 _).new (Nat.le_refl _) 9 _).new (Nat.le_refl _) 10 _).new (Nat.le_refl _) 11 _).new (Nat.le_refl _) 12 _).new (Nat.le_refl _) 13 _)):P:=h
theorem LH {P:Prop} (h:P:=by
 refine ⟨Ah,ch,Ap,cp,Gh,Gp,_,rfl,ai.rd (B:=w.heap.size+1+1+1) ?_,ai.rd (B:=w.heap.size+1+1+1) ?_⟩
 ·exact (by repeat (first | with_reducible exact Z7.out | with_reducible refine ai.setCell ?_ bx _))
 ·exact (by repeat (first | with_reducible exact Z8.out.mono yk | with_reducible refine ai.setCell ?_ bx _))):P:=h
theorem LI {P:Prop} (h:P:=by
 rcases h.rd.2 with ⟨_,he⟩ | ⟨g',c',cj,G',_,he,hF,_⟩
 ·simp only [List.cons.injEq,Value.slice.injEq,and_true] at he;rw [he.1] at hg;cases hg
 ·simp only [List.cons.injEq,Value.slice.injEq,and_true] at he;rw [he.1] at hg;simp only [Value.ownBlock,Option.some.injEq] at hg
  rw [hF,<- hg];exact List.mem_cons_self ..):P:=h
theorem LK {P:Prop} (h:P:=by
 have ik:=I hr;clear hr;go_wp2_with fail
 refine en.out.mono ?_;rw [ik.out];rintro e w4 ⟨rfl,bm⟩;have gY:=I bm;clear bm;go_wp2;go_ret2
 exact ⟨A1,c1,F3,by rw [HR.out];try rfl,by rw [HR.out];exact gN.out.ext gY.out,oL.out.trans (gY.out.mono oL.out.size)⟩):P:=h
theorem DC {P:Prop} (h:P:=by
 refine ⟨k+1,J,J,Nat.le_refl _,N',hS.ext hn,I (λj hj=>?_)⟩;by_cases e:j = k
 ·subst e;rw [HK.out,HV.out];rfl
 ·exact HA.out j J):P:=h
theorem LL {P:Prop} (h:P:=by
 go_wp2
 exact ⟨⟨k+1,N,g,cap,J,J,N',rfl,I Z',by rw [Jf.out,HI.out];exact mG jD.out (ah bC hn),ah fv.out (ah bC hn)⟩,by simp [intOf];omega⟩):P:=h
theorem LN {P:Prop} (h:P:=by
 exact K8):P:=h
theorem LO {P:Prop} (h:P:=by
 have aaa:=yl.out.cell (i:=1) (u:=.slice Apodsz z.M.length cpodsz) rfl;have aab:=yl.out.fz 1;have rq:=uc.out.cell (i:=1) (u:=.slice Apodsy y.M.length cpodsy) rfl;have ru:=uc.out.fz 1
 exact DD):P:=h
theorem pG {P:Prop} (h:P:=by
 rw [List.length_eq_zero_iff.1 h0] at hu
 simp at hu):P:=h
theorem DE {P:Prop} (h:P:=by
 rw [e]
 exact ⟨g :: D.flatMap El.F,by rw [List.length_map],ht.own R rfl lI hcap2,ht.ce.below (λb hb=>by rw [List.mem_singleton.1 hb];exact AN) hB⟩):P:=h
theorem LR {P:Prop} (h:P:=by
 intro wq hq;have et:=(aB hq).1;have lJ:=(aB hq).2;go_simp
 first
  | exact ⟨hq,rfl⟩
  | fail
  | (simp only [↓IntWalk.iteOmega];exact ⟨hq,rfl⟩)):P:=h
theorem LS {P:Prop} (h:P:=by
 rcases List.mem_append.1 hz with hz | hz
 ·exact HIS.out z (by rw [HE.out];exact List.mem_append_left _ hz)
 ·rcases List.mem_cons.1 hz with rfl | hz
  ·exact ap
  ·exact HIS.out z (by rw [HE.out];exact List.mem_append_right _ hz)):P:=h
theorem LV {P:Prop} (h:P:=by
 rcases hF6 y hy with h9 | h9 | h9
 ·exact ⟨by have:=iw.out y h9;omega,λhm=>ud.out y hm h9⟩
 ·exact ⟨by have:=ym.out y h9;omega,λhm=>by have:=ym.out y h9;have:=j8.out y hm;omega⟩
 ·(try simp at h9)
  exact ⟨J,λhm=>by have:=j8.out y hm;omega⟩):P:=h
theorem LW {P:Prop} (h:P:=by
 refine ⟨0,Nat.zero_le _,rfl,?_,?_,?_,ak (ak (aj _) _) _⟩
 ·exact (World.ownsRow_made w #[] 0 (Nat.le_refl _) pE rfl).alloc _
 ·have:=World.ownsRow_made (base:=w.heap.size) (e:=3) (size:=1) (w.alloc (.cells #[] 3)) #[] 0 S' pE rfl;simpa [iv] using this
 ·right;simp [Value.ownBlock]):P:=h
theorem LX {P:Prop} (h:P:=by
 go_wp2;go_ret
 exact ⟨_,rfl,hb.size,⟨⟨0,q,_,heap_alloc_new _ _,J,by unfold bt;omega⟩,λk hk=>(by
  obtain ⟨g,o,v,e,hg,hv,ic⟩:=cC k hk
  exact ⟨g,o,v,e,Nat.lt_of_lt_of_le hg hb.size,((ak hb _).cell (p:=⟨g,o+k,none⟩) hg).trans hv,ic⟩),hn⟩,ak hb _⟩):P:=h
theorem TH {P:Prop} (h:P:=by
 refine aN ?_;intro wz hz;replace hz:=hz.out;go_wp2
 exact ⟨⟨q+1,J,N',HQ2.out,bJ⟩,by simp [intOf];omega⟩):P:=h
theorem LZ {P:Prop} (h:P:=by
 rcases hF6 y hy with h9 | h9 | h9
 ·exact ⟨by have:=j8.out y h9;omega,ud.out y h9⟩
 ·exact ⟨by have:=ym.out y h9;omega,λhm=>by have:=ym.out y h9;have:=iw.out y hm;omega⟩
 ·(try simp at h9)
  exact ⟨J,λhm=>by have:=iw.out y hm;omega⟩):P:=h
theorem DG {P:Prop} (h:P:=by
 refine ai.up (B':=B) (λx:rZ=>(x.pack,x.spread,x.soft)) ?_ (Nat.le_refl _)
 exact ai.cons (jL w p hp) (ai.cons (jL w q hq) (ai.flat (jL w f hf)))):P:=h
theorem ue {P:Prop} (h:P:=by
 rw [Bool.eq_iff_iff,decide_eq_true_eq,Wx,ByteArray.toList_eq,ByteArray.toList_eq]):P:=h
theorem DH {P:Prop} (h:P:=by
 have:k = D.length:=by omega
 subst this;have HS:=I hS;clear hS;go_wp2;go_ret
 exact HF.out wr HS.out HA.out):P:=h
theorem DJ {P:Prop} (h:P:=by
 have e:GX a b = none:=by unfold GX;rw [if_pos J]
 rw [e];go_enter Tryz.func146,Tryz.ntmps146;go_wp2;go_returns
 exact ⟨rfl,aj _⟩):P:=h
theorem DM {P:Prop} (h:P:=by
 have e:GX a b = none:=by unfold GX;rw [if_pos J]
 rw [e];go_enter Tryz.func219,Tryz.ntmps219;go_wp2;go_returns
 exact ⟨rfl,aj _⟩):P:=h
theorem L4 {P:Prop} (h:P:=by
 exact LA):P:=h
theorem L5 {P:Prop} (h:P:=by
 go_wp2
 all_goals
  go_ret
  refine ⟨?_,rfl⟩;refine congrArg (λb=>Ending.returned (Value.bool b)) ?_;show (_:Bool) = _;unfold GL;rw [Bool.eq_iff_iff];simp only [Bool.or_eq_true,Bool.and_eq_true,decide_eq_true_eq,Bool.false_eq_true,true_iff,false_iff]
  omega):P:=h
theorem yn {P:Prop} (h:P:=by
 exact (by repeat (first | with_reducible exact eu.out.below | with_reducible refine aC ?_ bx _))):P:=h
theorem ui {P:Prop} (h:P:=by
 rw [J5,<- ByteArray.toList_eq,<- ByteArray.toList_eq] at e
 simp [e] at h):P:=h
theorem yo {P:Prop} (h:P:=by
 rintro (h1 | h1 | h1)
 ·exact .inr (.inl h1)
 ·exact .inl h1
 ·exact .inr (.inr h1)):P:=h
theorem L6 {P:Prop} (h:P:=by
 rw [<- hW.out] at e2
 exact ⟨e1.1.trans e2.1,e1.2.1.trans e2.2.1,e1.2.2.trans e2.2.2,by rw [bk,hW.out,bk];exact Nat.le_refl _,λk _ hk=>by have Rm:k≠b:=(by rintro rfl;exact hk o9);rw [vV b Rm,hW.out,vV b Rm];rfl⟩):P:=h
theorem DO {P:Prop} (h:P:=by
 rintro e w1 ⟨A1,c1,F1,rfl,jX,aR⟩;go_wp2;go_ret2
 exact ⟨A1,c1,F1,by rw [HR.out];try rfl,by rw [HR.out];exact jX,aR⟩):P:=h
theorem DP {P:Prop} (h:P:=by
 obtain ⟨g,o,v,e,hg,hc,hv⟩:=h3 k hk
 exact ⟨g,o,v,e,hg,(World.cell?_of_block (Below.heap_setCell _ _ _ _ bx)).trans hc,hv⟩):P:=h
theorem uk {P:Prop} (h:P:=by
 have h1:=H.out.lt b (bi b hb);simp [Value.ownBlock] at e
 omega):P:=h
theorem DQ {P:Prop} (h:P:=by
 go_wp2;go_ret
 exact ⟨by rw [HF.out];first | rfl | simp_all,aM⟩):P:=h
theorem L7 {P:Prop} (h:P:=by
 rw [getElem!_pos gv t J,getElem!_pos ds t J];simp only [hROW];rw [Array.getElem_append_left (by simp only [Array.size_append,List.size_toArray,gg];omega),Array.getElem_append_left (by rw [List.size_toArray,gg];exact ht)]
 simp):P:=h
theorem yp {P:Prop} (h:P:=by
 exact ⟨⟨g,0,none⟩,by simp [hc],rfl,λq u hu=>by simp at hu⟩):P:=h
theorem yq {P:Prop} (h:P:=by
 go_wp2;go_ret
 exact ⟨xs,A',c',G,rfl,iY.out,Du.out,hJ.out,tp.out,tt.out⟩):P:=h
theorem yr {P:Prop} (h:P:=by
 rw [j7.out];refine ai.mono (B:=w7.heap.size) ?_ J
 exact Hy):P:=h
theorem L8 {P:Prop} (h:P:=by
 rcases aw.2 with ⟨h,_⟩ | ⟨g',c',cj,h1,h2,h3,h4,h5,h6,h7⟩
 ·cases h
 ·simp only [Value.slice.injEq,Option.some.injEq,Addr.mk.injEq,and_true,true_and] at h1;obtain ⟨rfl,rfl⟩:=h1
  exact ⟨cj,h3,h6,h7⟩):P:=h
theorem L9 {P:Prop} (h:P:=by
 have h1:=hall e he hb;have h0:=(mem_ready.1 hr).1;rw [DS] at h1;rcases Nat.lt_or_ge i listed.size with h' | h'
 ·simp [h'] at h0 h1;rw [h0] at h1;cases h1
 ·simp [Array.getElem?_eq_none h'] at h1):P:=h
theorem TI {P:Prop} (h:P:=by
 rw [Jf.out,HI.out];have:=vP Le (B':=w2.heap.size) nZ.out.size
 simpa only [List.flatMap_append,List.flatMap_cons,List.append_assoc,List.cons_append,List.nil_append,iZ] using this):P:=h
theorem TJ {P:Prop} (h:P:=by
 rw [Jf.out,HI.out];have:=vP Le (B':=w2.heap.size) nZ.out.size
 simpa only [List.flatMap_append,List.flatMap_cons,List.append_assoc,List.cons_append,List.nil_append,ix] using this):P:=h
theorem L' {P:Prop} (h:P:=by
 exact ((((((((((((((iA.out.bL ap 0 _).bL ap 1 _).bL ap 2 _).bL ap 3 _).bL ap 4 _).bL ap 5 _).bL ap 6 _).bL ap 7 _).bL ap 8 _).bL ap 9 _).bL ap 10 _).bL ap 11 _).bL ap 12 _).bL ap 13 _)):P:=h
theorem TK {P:Prop} (h:P:=by
 rw [Jf.out,HI.out];have:=vP Le (B':=w2.heap.size) nZ.out.size
 simpa only [List.flatMap_append,List.flatMap_cons,List.append_assoc,List.cons_append,List.nil_append,cE] using this):P:=h
theorem Ma {P:Prop} (h:P:=by
 have bz:k = xs.length:=by omega
 subst bz;have hf:GZ xs 0 = some s:=by rw [HS.out,List.drop_length];rfl
 have HF:=I hf;clear hf;go_wp2;go_returns
 exact ⟨by rw [HF.out];rfl,aM⟩):P:=h
theorem Mb {P:Prop} (h:P:=by
 rw [Jf.out,<- HMAP.out,HE.out,List.map_append,List.map_append,List.map_cons,TL.out]
 exact (PY _ _ (λz hz=>by obtain ⟨z0,bX,rfl⟩:=List.mem_map.1 hz;exact HN.out z0 bX) asT.out).symm):P:=h
theorem DW {P:Prop} (h:P:=by
 rcases Nat.lt_or_ge g w.heap.size with h5 | h5
 ·exact h5
 ·rw [Array.getElem?_eq_none h5] at h3;cases h3):P:=h
theorem TO {P:Prop} (h:P:=by
 unfold seenIn;rw [List.any_eq_true]
 exact ⟨x.M[q],by rw [List.mem_take_iff_getElem];exact ⟨q,J,rfl⟩,xm⟩):P:=h
theorem Mc {P:Prop} (h:P:=by
 rintro e w' ⟨v',rfl,hr,hg,cF⟩;obtain ⟨A',c',F2,rfl,h3,h4,h5⟩:=fin v' w' (by rw [<- cM,List.take_length,List.drop_length,List.append_nil];exact hr) hg cF
 exact ⟨A',c',F2,rfl,h3,h4,h5⟩):P:=h
theorem DX {P:Prop} (h:P:=by
 unfold Lib.compareInt;rw [Bool.eq_iff_iff,decide_eq_true_eq,decide_eq_true_eq];repeat' split
 all_goals omega):P:=h
theorem Md {P:Prop} (h:P:=by
 have bz:k = xs.length:=by omega
 subst bz;have hn:=Hn.out;rw [List.take_length] at hn;have HI:=I (F5 hn);clear hn;go_wp2;go_ret
 exact ⟨by rw [HI.out];rfl,aM⟩):P:=h
theorem TP {P:Prop} (h:P:=by
 refine aN ?_;intro wn hn;replace hn:=hn.out;go_wp2
 refine ⟨⟨k+1,v,t+1,j0,J,hv,N',rfl,I QZ,HJ,I (DY.out nP),HN,HS.out.ext hn⟩,by simp [intOf];omega⟩):P:=h
theorem TQ {P:Prop} (h:P:=by
 rcases Nat.lt_or_ge k (fS n.name x.O) with h9 | h9
 ·exact h9
 ·have he:k = fS n.name x.O:=by omega
  subst he
  rw [TS ap] at hs;cases hs):P:=h
theorem Me {P:Prop} (h:P:=by
 rw [List.pairwise_append,List.pairwise_cons];refine ⟨h0.1,⟨hb,h0.2.1⟩,λa Mf b dP=>?_⟩;rcases List.mem_cons.1 dP with rfl | dP
 ·exact ha a Mf
 ·exact h0.2.2 a Mf b dP):P:=h
theorem TT {P:Prop} (h:P:=by
 rcases Nat.lt_or_ge k (fh n.name x.M) with h9 | h9
 ·exact h9
 ·have he:k = fh n.name x.M:=by omega
  subst he
  rw [TU ap] at hs;cases hs):P:=h
theorem yt {P:Prop} (h:P:=by
 exact ⟨⟨λe=>(by cases e),λe=>by omega⟩,λe=>by cases e⟩):P:=h
theorem TW {P:Prop} (h:P:=by
 refine aN ?_;intro wn hn;replace hn:=hn.out;go_wp2
 refine ⟨⟨u,k,i0,t,J,J,rfl,rfl,HI,HK,HY,I (Gn.out nP),HS.out.ext hn⟩,by simp [intOf];omega⟩):P:=h
theorem ul {P:Prop} (h:P:=by
 go_wp2;go_ret
 exact ⟨by rw [HN.out];rfl,rfl⟩):P:=h
theorem Mg {P:Prop} (h:P:=by
 go_wp2;refine bodyPost_ret (results_none rfl _ _ _) rfl ?_;refine ⟨rfl,?_⟩;rw [HM.out]
 simpa only [List.append_assoc,List.cons_append] using bS):P:=h
theorem DZ {P:Prop} (h:P:=by
 have h8:=j8.out y (Ie.out y h9)
 exact ⟨J,J,λhm=>ud.out y (Ie.out y h9) hm⟩):P:=h
theorem D0 {P:Prop} (h:P:=by
 have h8:=iw.out y (Ie.out y h9)
 exact ⟨J,J,λhm=>ud.out y hm (Ie.out y h9)⟩):P:=h
theorem D1 {P:Prop} (h:P:=by
 split
 ·rename_i h2;first | exact h2 | exact h2.2
 ·rename_i h2;rw [if_neg h2] at h;cases h):P:=h
theorem D2 {P:Prop} (h:P:=by
 go_enter Tryz.func238,Tryz.ntmps238;go_wp2;go_ret
 exact ⟨by rw [hs.out];rfl,aj _⟩):P:=h
theorem Mh {P:Prop} (h:P:=by
 obtain ⟨k,hk,rfl⟩:=List.getElem_of_mem hy
 exact Xl.ur _ (by have:=rM (f:=ag.wt) hk;have e:ag.wt x.M[k] = nI.wt x.M[k].aS+x.M[k].on.size:=rfl;omega)):P:=h
theorem Mi {P:Prop} (h:P:=by
 rcases Nat.lt_or_gt_of_ne mW with h1 | h1
 ·exact aJ1 (List.pairwise_iff_getElem.1 h i j hi hj h1)
 ·exact (aJ1 (List.pairwise_iff_getElem.1 h j i hj hi h1)).symm):P:=h
theorem D3 {P:Prop} (h:P:=by
 refine Or.inl ⟨rfl,λwq hq=>?_⟩;have et:=(aB hq).1;go_simp
 try rfl):P:=h
theorem Mj {P:Prop} (h:P:=by
 have so:k = 0∨k = 1∨k = 2∨k = 3∨k = 4∨k = 5:=by omega
 rcases so with rfl | rfl | rfl | rfl | rfl | rfl <;> exact ⟨_,Mk _ _ _ _ _ rfl,by decide⟩):P:=h
theorem yv {P:Prop} (h:P:=by
 exact (bs.cell (p:=⟨g,q,none⟩) bx).trans (xn.out q u hu)):P:=h
theorem Ml {P:Prop} (h:P:=by
 rw [List.getElem?_append_left Cz,List.getElem?_take,if_pos TX] at hq;rw [World.cell?_setCells_out b _ _ _ _ (λ_ _=>Or.inl bx)]
 exact bv q u hq):P:=h
theorem D4 {P:Prop} (h:P:=by
 go_wp2;go_ret
 exact ⟨by rw [HG.out];first | rfl | simp_all,aM⟩):P:=h
theorem D5 {P:Prop} (h:P:=by
 go_enter Tryz.func197,Tryz.ntmps197;go_wp2;go_ret
 exact ⟨rfl,rfl⟩):P:=h
theorem Mm {P:Prop} (h:P:=by
 have hn:=Hn.out;rw [bz,List.take_length] at hn;have HI:=I (F5 hn);clear hn bz;go_wp2;go_ret
 exact ⟨by rw [HI.out];rfl,bJ⟩):P:=h
theorem Mn {P:Prop} (h:P:=by
 split
 ·rename_i hw;rw [if_pos hw] at h;exact .inl (Oper.wp_mono next h)
 ·rename_i hw;rw [if_neg hw] at h
  exact next _ _ h):P:=h
theorem Mo {P:Prop} (h:P:=by
 simp at h;subst h;rw [List.flatMap_cons,Nat.zero_mul,Nat.zero_add,List.getElem?_append_left (List.getElem?_eq_some_iff.1 hj).1]
 exact hj):P:=h
theorem Mp {P:Prop} (h:P:=by
 rintro e w' ⟨rfl,hr,hg⟩;obtain ⟨A',c',F2,h2,h3,h4,h5⟩:=fin _ w' hr hg (.inl rfl);rw [h2]
 exact ⟨A',c',F2,rfl,h3,h4,h5⟩):P:=h
theorem yz {P:Prop} (h:P:=by
 simp only [Bool.and_eq_true,decide_eq_true_eq] at h
 omega):P:=h
theorem Mq {P:Prop} (h:P:=by
 rintro e w' ⟨v',rfl,hr,hg,cF⟩;obtain ⟨A',c',F2,rfl,h3,h4,h5⟩:=fin v' w' (by simpa using hr) hg cF
 exact ⟨A',c',F2,rfl,h3,h4,h5⟩):P:=h
theorem Mr {P:Prop} (h:P:=by
 rintro e w' ⟨v',rfl,hr,hg,cF⟩;obtain ⟨A',c',F2,rfl,h3,h4,h5⟩:=fin v' w' hr hg (.inr cF)
 exact ⟨A',c',F2,rfl,h3,h4,h5⟩):P:=h
theorem D6 {P:Prop} (h:P:=by
 go_wp2;go_ret
 exact HF.out w (.start R) (λj hj=>ft _ _ j J)):P:=h
theorem yI {P:Prop} (h:P:=by
 simp only [Value.slice.injEq,true_and] at h9
 exact h9):P:=h
theorem Ms {P:Prop} (h:P:=by
 rw [if_pos ((yJ x).2 G),if_neg J];obtain ⟨hk,_,_⟩:=D8 (Ig h);refine ⟨rfl,?_⟩;dsimp only;rw [List.length_eraseIdx,if_pos hk]
 omega):P:=h
theorem tL {P:Prop} (h:P:=by
 simp only [List.map_cons,List.sum_cons];omega):P:=h
theorem Mt {P:Prop} (h:P:=by
 obtain ⟨g,o,v,e,hg,hv,ic⟩:=HS.out k hk
 exact ⟨g,o,v,e,by simp;omega,((ak (aj w) _).cell (p:=⟨g,o+k,none⟩) hg).trans hv,ic⟩):P:=h
theorem Mu {P:Prop} (h:P:=by
 rintro e w2 ⟨rfl,hw⟩;rw [hw];clear hw w2;go_wp2;go_ret
 exact ⟨by rw [HF.out];rfl,aj _⟩):P:=h
theorem Mv {P:Prop} (h:P:=by
 rw [<- List.append_assoc,show (i+1) * ax.size α = (d1++ck).length by rw [List.length_append,ke,Ea,Nat.succ_mul],List.drop_left]):P:=h
theorem Mw {P:Prop} (h:P:=by
 rw [xK] at h;rcases MK h with h | h
 ·exact .inl h
 ·rw [List.mem_singleton.1 h];exact .inr (List.mem_cons_self ..)):P:=h
theorem Ef {P:Prop} (h:P:=by
 go_wp2
 exact ⟨⟨k+1,J,N',Gn.out,bJ⟩,by simp [intOf];omega⟩):P:=h
theorem Mx {P:Prop} (h:P:=by
 refine ⟨⟨k+1,J,N',by rw [ae7 _ _ _ ap];exact cP,by rw [ae7 _ _ _ ap];exact mK,My.symm,az⟩,by simp [intOf];omega⟩):P:=h
theorem Mz {P:Prop} (h:P:=by
 have h1:=cN x hx;have h2:aL.wt x = x.key.size+kL ByteArray.size x.values:=rfl;have h3:=gJ ByteArray.size x.values
 omega):P:=h
theorem MA {P:Prop} (h:P:=by
 rw [hROW];simp only [Builtin.zeroCells,Array.size_append,Array.size_map,Array.size_range,List.size_toArray,gg,yK]
 omega):P:=h
theorem MB {P:Prop} (h:P:=by
 clear hp;have HI:=I (Fj ap Hn.out HP.out);go_wp2;go_ret
 exact ⟨by rw [HI.out];rfl,bJ⟩):P:=h
theorem MD {P:Prop} (h:P:=by
 obtain ⟨j,oM,rfl⟩:=List.getElem_of_mem hz;rw [List.getElem_take];rw [List.length_take] at oM
 exact hN j J J):P:=h
theorem Eg {P:Prop} (h:P:=by
 simp only [List.map_nil,List.sum_nil,List.length_nil] at h hl;omega):P:=h
theorem ME {P:Prop} (h:P:=by
 exact ai.oJ h ⟨cH D hr,List.nodup_nil,(λb hb=>by cases hb),(λb hb=>by cases hb)⟩ (λg hg hm=>by cases hm)):P:=h
theorem MG {P:Prop} (h:P:=by
 have h3:s.data.toList.length = 0:=by rw [<- ByteArray.toList_eq,h1];rfl
 rw [Array.length_toList] at h3
 exact h3):P:=h
theorem Eh {P:Prop} (h:P:=by
 rw [h,if_neg J,hs,Int.toNat_natCast,List.getElem?_eq_getElem hk]):P:=h
theorem MH {P:Prop} (h:P:=by
 rcases Nat.lt_or_ge g w.heap.size with ap | rv
 ·exact ap
 ·rw [Array.getElem?_eq_none rv] at h3;cases h3):P:=h
theorem MI {P:Prop} (h:P:=by
 cases j with
 | zero=>rwa [bR hj] at this
 | succ i=>rw [yS hj,Bool.and_eq_true] at this;exact this.1):P:=h
theorem MJ {P:Prop} (h:P:=by
 exact h.ce.trans ⟨e.1,e.2.1,e.2.2,by rw [bk];exact Nat.le_refl _,λk _ hk=>vV g Ih _ _ _⟩):P:=h
theorem Ei {P:Prop} (h:P:=by
 rw [HR.out,List.length_map,<- kt.out.at_]
 rfl):P:=h
theorem MM {P:Prop} (h:P:=by
 rcases Nat.lt_or_ge g w.heap.size with ap | rv
 ·exact ap
 ·rw [Array.getElem?_eq_none rv] at h;cases h):P:=h
theorem MN {P:Prop} (h:P:=by
 rw [show Nat.min (n+1 - i) (n - i) = n - i by simp only [Nat.min_def];split <;> omega] at this
 exact this):P:=h
theorem I5 {P:Prop} (h:P:=by
 exact ⟨λh=>by rcases h with h | h | h <;> simp [h],λh=>by rcases h with h | h | h <;> simp [h]⟩):P:=h
theorem MP {P:Prop} (h:P:=by
 rw [show Nat.min (c - i) (c - i) = c - i by simp only [Nat.min_def];split <;> rfl] at this
 exact this):P:=h
theorem MQ {P:Prop} (h:P:=by
 clear hp;go_wp2
 exact ⟨⟨k+1,J,N',yQ ap Hn.out HP.out⟩,by simp [intOf];omega⟩):P:=h
theorem Ej {P:Prop} (h:P:=by
 simp only [if_neg (show ¬c x z = 0 by omega)]
 omega):P:=h
theorem MR {P:Prop} (h:P:=by
 obtain ⟨k,hk,rfl⟩:=List.getElem_of_mem hy
 exact U6.ur _ (by have:=rM (f:=ba.wt) hk;omega)):P:=h
theorem Ek {P:Prop} (h:P:=by
 rw [HR.out];exact HZ.out.yL R kt.out zs lI hcap2):P:=h
theorem En {P:Prop} (h:P:=by
 exact ⟨⟨k+1,J,N',HN.out⟩,by simp [intOf];omega⟩):P:=h
theorem MS {P:Prop} (h:P:=by
 rw [hW1,World.cell?_alloc_at (w:=w.drew) gv _ w.heap.size j rfl,Array.getElem?_eq_getElem J];rfl):P:=h
theorem MT {P:Prop} (h:P:=by
 intro HK;have bo:Below wn.heap.size wn wn.drew:=aA (aj _);refine aX 1 _ J' U' H' bo W' ?_;try simp only [Act.put,pz]
 refine aX 2 _ J' U' H' bo W' ?_;try simp only [Act.put,pz]
 refine aX 3 _ J' U' H' bo W' ?_;try simp only [Act.put,pz]
 refine aX 5 _ J' U' H' bo W' ?_;try simp only [Act.put,pz]
 refine aX 6 _ J' U' H' bo W' ?_;try simp only [Act.put,pz]
 refine aX 7 _ J' U' H' bo W' ?_;try simp only [Act.put,pz]
 refine aX 8 _ J' U' H' bo W' ?_;try simp only [Act.put,pz]
 refine D7 0 9 J' J' U' J' J' (λK hK=>?_) (λK hK=>?_)
 ·go_simp;refine hK _ _ (ak bo (.cells #[] 120)) ?_;try simp only [Act.put,pz]
  clear hK K;have Qz:=ak bo (.cells #[] 120);have KI:=D9 wn.drew 120 4 wn.heap.size rfl;refine D7 4 9 J' J' U' J' J' (λK hK=>?_) (λK hK=>?_)
  ·refine qQ ut _ _ J' (wn.drew.alloc (.cells #[] 120)) wn.heap.size _ 0 [] KI J' ⟨g,0,none⟩ jj cap ((s1.flatMap ix)) J' TZ (λq u hu=>(Qz.cell (p:=(⟨g,0,none⟩:Addr).add q) li).trans (eK.out q u hu)) (pH AP s1) J J gb ?_;intro v5 w5 bc cg gd;have bu:Below wn.heap.size wn w5:=Below.grown (Qz) cg gb (λq hq=>(KI.lt q hq).1);refine hK _ _ bu ?_;try simp only [Act.put,pz]
   clear hK K;refine bP 9 J' U' J' (λK hK=>?_);go_simp;refine hK _ _ (ak bu (.cells #[.string y.key,.bool y.equal,.string y.value,.int .i64 y.effect] 120)) ?_;try simp only [Act.put,pz]
   clear hK K;have cL:=ak bu (.cells #[.string y.key,.bool y.equal,.string y.value,.int .i64 y.effect] 120);refine bP 10 J' U' J' (λK hK=>?_);refine qQ ut _ _ J' (w5.alloc (.cells #[.string y.key,.bool y.equal,.string y.value,.int .i64 y.effect] 120)) wn.heap.size v5 _ _ (mG bc (ak (aj _) _)) J' ⟨w5.heap.size,0,none⟩ 1 1 [.string y.key,.bool y.equal,.string y.value,.int .i64 y.effect] J' J' (DI w5 120 [.string y.key,.bool y.equal,.string y.value,.int .i64 y.effect] w5.heap.size rfl) (AP y) J J gn ?_;exact yM
  ·go_simp;refine hK _ _ (ak Qz (.cells #[.string y.key,.bool y.equal,.string y.value,.int .i64 y.effect] 120)) ?_;try simp only [Act.put,pz]
   clear hK K;have cL:=ak Qz (.cells #[.string y.key,.bool y.equal,.string y.value,.int .i64 y.effect] 120);replace KI:=mG KI (ak (aj _) (.cells #[.string y.key,.bool y.equal,.string y.value,.int .i64 y.effect] 120));refine bP 4 J' U' J' (λK hK=>?_);refine qQ ut _ _ J' ((wn.drew.alloc (.cells #[] 120)).alloc (.cells #[.string y.key,.bool y.equal,.string y.value,.int .i64 y.effect] 120)) wn.heap.size _ 0 [] KI J' ⟨g,0,none⟩ jj cap ((s1.flatMap ix)) J' TZ (λq u hu=>(cL.cell (p:=(⟨g,0,none⟩:Addr).add q) li).trans (eK.out q u hu)) (pH AP s1) J J gn ?_;intro v5 w5 bc cg gd;have bu:Below wn.heap.size wn w5:=Below.grown (cL) cg gn (λq hq=>(KI.lt q hq).1);refine hK _ _ bu ?_;try simp only [Act.put,pz]
   clear hK K;refine bP 10 J' U' J' (λK hK=>?_);refine qQ ut _ _ J' w5 wn.heap.size v5 _ _ bc J' ⟨wn.heap.size+1,0,none⟩ 1 1 [.string y.key,.bool y.equal,.string y.value,.int .i64 y.effect] J' J' (λq u hu=>(World.cell?_of_block wX).trans ((DI (wn.drew.alloc (.cells #[] 120)) 120 [.string y.key,.bool y.equal,.string y.value,.int .i64 y.effect] (wn.heap.size+1) S') q u hu)) (AP y) J J j6 ?_;exact ou
 ·go_simp;refine hK _ _ (ak bo (.cells #[.string y.key,.bool y.equal,.string y.value,.int .i64 y.effect] 120)) ?_;try simp only [Act.put,pz]
  clear hK K;have cL:=ak bo (.cells #[.string y.key,.bool y.equal,.string y.value,.int .i64 y.effect] 120);refine bP 0 J' U' J' (λK hK=>?_);go_simp;refine hK _ _ (ak cL (.cells #[] 120)) ?_;try simp only [Act.put,pz]
  clear hK K;have Qz:=ak cL (.cells #[] 120);have KI:=vP (D9 (wn.drew.alloc (.cells #[.string y.key,.bool y.equal,.string y.value,.int .i64 y.effect] 120)) 120 4 (wn.heap.size+1) S') (B':=wn.heap.size) J;refine bP 4 J' U' J' (λK hK=>?_);refine qQ ut _ _ J' ((wn.drew.alloc (.cells #[.string y.key,.bool y.equal,.string y.value,.int .i64 y.effect] 120)).alloc (.cells #[] 120)) wn.heap.size _ 0 [] KI J' ⟨g,0,none⟩ jj cap ((s1.flatMap ix)) J' TZ (λq u hu=>(Qz.cell (p:=(⟨g,0,none⟩:Addr).add q) li).trans (eK.out q u hu)) (pH AP s1) J J gb ?_;intro v5 w5 bc cg gd;have bu:Below wn.heap.size wn w5:=Below.grown (Qz) cg gb (λq hq=>(KI.lt q hq).1);refine hK _ _ bu ?_;try simp only [Act.put,pz]
  clear hK K;refine bP 10 J' U' J' (λK hK=>?_);refine qQ ut _ _ J' w5 wn.heap.size v5 _ _ bc J' ⟨wn.heap.size,0,none⟩ 1 1 [.string y.key,.bool y.equal,.string y.value,.int .i64 y.effect] J' J' (λq u hu=>(World.cell?_of_block xa).trans ((DI wn.drew 120 [.string y.key,.bool y.equal,.string y.value,.int .i64 y.effect] wn.heap.size rfl) q u hu)) (AP y) J J j6 ?_
  exact ou):P:=h
theorem MU {P:Prop} (h:P:=by
 try simp only [Bool.and_false,Bool.and_true,Bool.false_and,Bool.and_self] at hp
 have HN:=I (gq hall.out hp);clear hp;go_wp2_with fail
 skip
 refine aF _ U' U' (aj _) ?_
 repeat ((first | refine aG J' ?_ | refine aH _ J' Kd ?_);simp only [Act.put,pz])
 refine aN ?_;intro wn hn;replace hn:=hn.out;obtain ⟨kq,mZ⟩:=ay hn;have kr:w.heap.size < wn.heap.size:=sq hn.size;have te:b' < wn.heap.size:=sq hn.size;try (have tT:wr.heap.size < wn.heap.size:=sq hn.size)
 have Tg:Below wr.heap.size wr wn:=bJ;have Ka:wn.cell? ⟨wr.heap.size,8,none⟩ = some (.int .i64 x.M[j+1].seq):=by rw [kq _ _ S',cell_of_row _ _ _ _ _ _ (heap_alloc_new wr _)];rfl
 have anN:(j+1:Nat) < 12:=by omega
 obtain ⟨wo,hwo⟩:∃wo,wo = wr:=⟨_,rfl⟩;subst hwo;go_wp2_with fail
 go_loopw [5] (λi2 wi=>∃q:Nat,q<=j+1/\i2 = .int .i64 q/\Hid (∀u∈x.M.take q,(u.seq == x.M[j+1].seq) = false)/\Below wn.heap.size wn wi) (λi2 _=>j+1 - (intOf i2).toNat)
 case atStart=>exact ⟨0,Nat.zero_le _,rfl,by show ∀_,_;simp,aj _⟩
 case round =>
  obtain ⟨q,hq,rfl,HQ,hbi⟩:=hrel;have Fp:Below wo.heap.size wo wr:=ah Tg hbi;have Th:Below w.heap.size w wr:=ah bF Fp;have ci0:=(ay Fp).1 _ 0 tX |>.trans c0;have ci1:=(ay Fp).1 _ 1 tX |>.trans c1;have ci2:=(ay Fp).1 _ 2 tX |>.trans c2;have ci3:=(ay Fp).1 _ 3 tX |>.trans c3;have ci4:=(ay Fp).1 _ 4 tX |>.trans c4;have ci5:=(ay Fp).1 _ 5 tX |>.trans c5;replace Ka:=r' hbi Ka J;have hzi:w.heap.size < wr.heap.size:=by have:=Fp.size;omega
  have hxi:wo.heap.size < wr.heap.size:=by have:=hbi.size;omega
  by_cases hqk:q < j+1
  ·obtain ⟨b6,o6,ck6,Fk6,e,hbF6,LU,hr6,aqC,Rb⟩:=Sl.get (α:=ag) (c:=bW) dM (show q < x.M.length by omega);have afi:=hr6;obtain ⟨Ho,Hq,Xm,JK,JL,aan,AL,AO,Oz,anO,anP,acM,Xn,afj,afk,acN,aao,OA,hon6,aqD⟩:=kE afi;subst anO;obtain ⟨rfl,rfl⟩:b6 = b'/\o6 = o':=by simpa using e.symm
   clear e;obtain ⟨m0,m1,m2,m3,m4,m5,m6,m7,m8⟩:=uu 9 Rb;clear Rb afi anP;replace m8:=r' Th m8 LU;have hyi:b6 < wr.heap.size:=(by have:=Th.size;omega);have TX:(q:Int) < ((j+1:Nat):Int):=J;have sr:q < x.M.length:=J;cases xm:(x.M[q].seq == x.M[j+1].seq) with
   | true =>
     have xd:seenIn (x.M.take (j+1)) x.M[j+1].seq = true:=by exact TO
     have HF:=I (DR ap av2);go_wp2_with fail
     refine aF _ U' U' (aj _) ?_
     repeat ((first | refine aG J' ?_ | refine aH _ J' cZ ?_);simp only [Act.put,pz])
     refine aN ?_;intro wz hz;replace hz:=hz.out;exact fg
   | false =>
     have HQ2:=I (yQ (p:=λu:ag=>u.seq == x.M[j+1].seq) sr HQ.out xm);go_wp2_with fail
     refine aF _ U' U' (aj _) ?_
     repeat ((first | refine aG J' ?_ | refine aH _ J' cZ ?_);simp only [Act.put,pz])
     exact TH
  ·exact Ty):P:=h
theorem MW {P:Prop} (h:P:=by
 intro HK;have bo:Below wn.heap.size wn wn.drew:=aA (aj _);refine aX 1 _ J' U' H' bo W' ?_;try simp only [Act.put,pz]
 refine aX 2 _ J' U' H' bo W' ?_;try simp only [Act.put,pz]
 refine aX 3 _ J' U' H' bo W' ?_;try simp only [Act.put,pz]
 refine aX 5 _ J' U' H' bo W' ?_;try simp only [Act.put,pz]
 refine aX 6 _ J' U' H' bo W' ?_;try simp only [Act.put,pz]
 refine aX 7 _ J' U' H' bo W' ?_;try simp only [Act.put,pz]
 refine aX 8 _ J' U' H' bo W' ?_;try simp only [Act.put,pz]
 refine D7 0 9 J' J' U' J' J' (λK hK=>?_) (λK hK=>?_)
 ·go_simp;refine hK _ _ (ak bo (.cells #[] 116)) ?_;try simp only [Act.put,pz]
  clear hK K;have Qz:=ak bo (.cells #[] 116);have KI:=D9 wn.drew 116 3 wn.heap.size rfl;refine D7 4 9 J' J' U' J' J' (λK hK=>?_) (λK hK=>?_)
  ·refine qQ uv _ _ J' (wn.drew.alloc (.cells #[] 116)) wn.heap.size _ 0 [] KI J' ⟨g,0,none⟩ jj cap ((s1.flatMap iZ)) J' T0 (λq u hu=>(Qz.cell (p:=(⟨g,0,none⟩:Addr).add q) li).trans (eK.out q u hu)) (pH AR s1) J J gb ?_;intro v5 w5 bc cg gd;have bu:Below wn.heap.size wn w5:=Below.grown (Qz) cg gb (λq hq=>(KI.lt q hq).1);refine hK _ _ bu ?_;try simp only [Act.put,pz]
   clear hK K;refine bP 9 J' U' J' (λK hK=>?_);go_simp;refine hK _ _ (ak bu (.cells #[.string y.key,.string y.value,.int .i64 y.effect] 116)) ?_;try simp only [Act.put,pz]
   clear hK K;have cL:=ak bu (.cells #[.string y.key,.string y.value,.int .i64 y.effect] 116);refine bP 10 J' U' J' (λK hK=>?_);refine qQ uv _ _ J' (w5.alloc (.cells #[.string y.key,.string y.value,.int .i64 y.effect] 116)) wn.heap.size v5 _ _ (mG bc (ak (aj _) _)) J' ⟨w5.heap.size,0,none⟩ 1 1 [.string y.key,.string y.value,.int .i64 y.effect] J' J' (DI w5 116 [.string y.key,.string y.value,.int .i64 y.effect] w5.heap.size rfl) (AR y) J J gn ?_;exact yM
  ·go_simp;refine hK _ _ (ak Qz (.cells #[.string y.key,.string y.value,.int .i64 y.effect] 116)) ?_;try simp only [Act.put,pz]
   clear hK K;have cL:=ak Qz (.cells #[.string y.key,.string y.value,.int .i64 y.effect] 116);replace KI:=mG KI (ak (aj _) (.cells #[.string y.key,.string y.value,.int .i64 y.effect] 116));refine bP 4 J' U' J' (λK hK=>?_);refine qQ uv _ _ J' ((wn.drew.alloc (.cells #[] 116)).alloc (.cells #[.string y.key,.string y.value,.int .i64 y.effect] 116)) wn.heap.size _ 0 [] KI J' ⟨g,0,none⟩ jj cap ((s1.flatMap iZ)) J' T0 (λq u hu=>(cL.cell (p:=(⟨g,0,none⟩:Addr).add q) li).trans (eK.out q u hu)) (pH AR s1) J J gn ?_;intro v5 w5 bc cg gd;have bu:Below wn.heap.size wn w5:=Below.grown (cL) cg gn (λq hq=>(KI.lt q hq).1);refine hK _ _ bu ?_;try simp only [Act.put,pz]
   clear hK K;refine bP 10 J' U' J' (λK hK=>?_);refine qQ uv _ _ J' w5 wn.heap.size v5 _ _ bc J' ⟨wn.heap.size+1,0,none⟩ 1 1 [.string y.key,.string y.value,.int .i64 y.effect] J' J' (λq u hu=>(World.cell?_of_block wX).trans ((DI (wn.drew.alloc (.cells #[] 116)) 116 [.string y.key,.string y.value,.int .i64 y.effect] (wn.heap.size+1) S') q u hu)) (AR y) J J j6 ?_;exact ou
 ·go_simp;refine hK _ _ (ak bo (.cells #[.string y.key,.string y.value,.int .i64 y.effect] 116)) ?_;try simp only [Act.put,pz]
  clear hK K;have cL:=ak bo (.cells #[.string y.key,.string y.value,.int .i64 y.effect] 116);refine bP 0 J' U' J' (λK hK=>?_);go_simp;refine hK _ _ (ak cL (.cells #[] 116)) ?_;try simp only [Act.put,pz]
  clear hK K;have Qz:=ak cL (.cells #[] 116);have KI:=vP (D9 (wn.drew.alloc (.cells #[.string y.key,.string y.value,.int .i64 y.effect] 116)) 116 3 (wn.heap.size+1) S') (B':=wn.heap.size) J;refine bP 4 J' U' J' (λK hK=>?_);refine qQ uv _ _ J' ((wn.drew.alloc (.cells #[.string y.key,.string y.value,.int .i64 y.effect] 116)).alloc (.cells #[] 116)) wn.heap.size _ 0 [] KI J' ⟨g,0,none⟩ jj cap ((s1.flatMap iZ)) J' T0 (λq u hu=>(Qz.cell (p:=(⟨g,0,none⟩:Addr).add q) li).trans (eK.out q u hu)) (pH AR s1) J J gb ?_;intro v5 w5 bc cg gd;have bu:Below wn.heap.size wn w5:=Below.grown (Qz) cg gb (λq hq=>(KI.lt q hq).1);refine hK _ _ bu ?_;try simp only [Act.put,pz]
  clear hK K;refine bP 10 J' U' J' (λK hK=>?_);refine qQ uv _ _ J' w5 wn.heap.size v5 _ _ bc J' ⟨wn.heap.size,0,none⟩ 1 1 [.string y.key,.string y.value,.int .i64 y.effect] J' J' (λq u hu=>(World.cell?_of_block xa).trans ((DI wn.drew 116 [.string y.key,.string y.value,.int .i64 y.effect] wn.heap.size rfl) q u hu)) (AR y) J J j6 ?_
  exact ou):P:=h
theorem MX {P:Prop} (h:P:=by
 intro HK;have bo:Below wn.heap.size wn wn.drew:=aA (aj _);refine aX 1 _ J' U' H' bo W' ?_;try simp only [Act.put,pz]
 refine aX 2 _ J' U' H' bo W' ?_;try simp only [Act.put,pz]
 refine aX 3 _ J' U' H' bo W' ?_;try simp only [Act.put,pz]
 refine aX 5 _ J' U' H' bo W' ?_;try simp only [Act.put,pz]
 refine aX 6 _ J' U' H' bo W' ?_;try simp only [Act.put,pz]
 refine aX 7 _ J' U' H' bo W' ?_;try simp only [Act.put,pz]
 refine aX 8 _ J' U' H' bo W' ?_;try simp only [Act.put,pz]
 refine D7 0 9 J' J' U' J' J' (λK hK=>?_) (λK hK=>?_)
 ·go_simp;refine hK _ _ (ak bo (.cells #[] 113)) ?_;try simp only [Act.put,pz]
  clear hK K;have Qz:=ak bo (.cells #[] 113);have KI:=D9 wn.drew 113 2 wn.heap.size rfl;refine D7 4 9 J' J' U' J' J' (λK hK=>?_) (λK hK=>?_)
  ·refine qQ ux _ _ J' (wn.drew.alloc (.cells #[] 113)) wn.heap.size _ 0 [] KI J' ⟨g,0,none⟩ jj cap ((s1.flatMap cE)) J' T4 (λq u hu=>(Qz.cell (p:=(⟨g,0,none⟩:Addr).add q) li).trans (eK.out q u hu)) (pH AS s1) J J gb ?_;intro v5 w5 bc cg gd;have bu:Below wn.heap.size wn w5:=Below.grown (Qz) cg gb (λq hq=>(KI.lt q hq).1);refine hK _ _ bu ?_;try simp only [Act.put,pz]
   clear hK K;refine bP 9 J' U' J' (λK hK=>?_);go_simp;refine hK _ _ (ak bu (.cells #[.string y.key,.string y.value] 113)) ?_;try simp only [Act.put,pz]
   clear hK K;have cL:=ak bu (.cells #[.string y.key,.string y.value] 113);refine bP 10 J' U' J' (λK hK=>?_);refine qQ ux _ _ J' (w5.alloc (.cells #[.string y.key,.string y.value] 113)) wn.heap.size v5 _ _ (mG bc (ak (aj _) _)) J' ⟨w5.heap.size,0,none⟩ 1 1 [.string y.key,.string y.value] J' J' (DI w5 113 [.string y.key,.string y.value] w5.heap.size rfl) (AS y) J J gn ?_;exact yM
  ·go_simp;refine hK _ _ (ak Qz (.cells #[.string y.key,.string y.value] 113)) ?_;try simp only [Act.put,pz]
   clear hK K;have cL:=ak Qz (.cells #[.string y.key,.string y.value] 113);replace KI:=mG KI (ak (aj _) (.cells #[.string y.key,.string y.value] 113));refine bP 4 J' U' J' (λK hK=>?_);refine qQ ux _ _ J' ((wn.drew.alloc (.cells #[] 113)).alloc (.cells #[.string y.key,.string y.value] 113)) wn.heap.size _ 0 [] KI J' ⟨g,0,none⟩ jj cap ((s1.flatMap cE)) J' T4 (λq u hu=>(cL.cell (p:=(⟨g,0,none⟩:Addr).add q) li).trans (eK.out q u hu)) (pH AS s1) J J gn ?_;intro v5 w5 bc cg gd;have bu:Below wn.heap.size wn w5:=Below.grown (cL) cg gn (λq hq=>(KI.lt q hq).1);refine hK _ _ bu ?_;try simp only [Act.put,pz]
   clear hK K;refine bP 10 J' U' J' (λK hK=>?_);refine qQ ux _ _ J' w5 wn.heap.size v5 _ _ bc J' ⟨wn.heap.size+1,0,none⟩ 1 1 [.string y.key,.string y.value] J' J' (λq u hu=>(World.cell?_of_block wX).trans ((DI (wn.drew.alloc (.cells #[] 113)) 113 [.string y.key,.string y.value] (wn.heap.size+1) S') q u hu)) (AS y) J J j6 ?_;exact ou
 ·go_simp;refine hK _ _ (ak bo (.cells #[.string y.key,.string y.value] 113)) ?_;try simp only [Act.put,pz]
  clear hK K;have cL:=ak bo (.cells #[.string y.key,.string y.value] 113);refine bP 0 J' U' J' (λK hK=>?_);go_simp;refine hK _ _ (ak cL (.cells #[] 113)) ?_;try simp only [Act.put,pz]
  clear hK K;have Qz:=ak cL (.cells #[] 113);have KI:=vP (D9 (wn.drew.alloc (.cells #[.string y.key,.string y.value] 113)) 113 2 (wn.heap.size+1) S') (B':=wn.heap.size) J;refine bP 4 J' U' J' (λK hK=>?_);refine qQ ux _ _ J' ((wn.drew.alloc (.cells #[.string y.key,.string y.value] 113)).alloc (.cells #[] 113)) wn.heap.size _ 0 [] KI J' ⟨g,0,none⟩ jj cap ((s1.flatMap cE)) J' T4 (λq u hu=>(Qz.cell (p:=(⟨g,0,none⟩:Addr).add q) li).trans (eK.out q u hu)) (pH AS s1) J J gb ?_;intro v5 w5 bc cg gd;have bu:Below wn.heap.size wn w5:=Below.grown (Qz) cg gb (λq hq=>(KI.lt q hq).1);refine hK _ _ bu ?_;try simp only [Act.put,pz]
  clear hK K;refine bP 10 J' U' J' (λK hK=>?_);refine qQ ux _ _ J' w5 wn.heap.size v5 _ _ bc J' ⟨wn.heap.size,0,none⟩ 1 1 [.string y.key,.string y.value] J' J' (λq u hu=>(World.cell?_of_block xa).trans ((DI wn.drew 113 [.string y.key,.string y.value] wn.heap.size rfl) q u hu)) (AS y) J J j6 ?_
  exact ou):P:=h
theorem M0 {P:Prop} (h:P:=by
 intro HK;have bo:Below wn.heap.size wn wn.drew:=aA (aj _);refine aX 1 _ J' U' H' bo W' ?_;try simp only [Act.put,pz]
 refine aX 2 _ J' U' H' bo W' ?_;try simp only [Act.put,pz]
 refine aX 3 _ J' U' H' bo W' ?_;try simp only [Act.put,pz]
 refine aX 5 _ J' U' H' bo W' ?_;try simp only [Act.put,pz]
 refine aX 6 _ J' U' H' bo W' ?_;try simp only [Act.put,pz]
 refine aX 7 _ J' U' H' bo W' ?_;try simp only [Act.put,pz]
 refine aX 8 _ J' U' H' bo W' ?_;try simp only [Act.put,pz]
 refine D7 0 9 J' J' U' J' J' (λK hK=>?_) (λK hK=>?_)
 ·go_simp;refine hK _ _ (ak bo (.cells #[] 9)) ?_;try simp only [Act.put,pz]
  clear hK K;have Qz:=ak bo (.cells #[] 9);have KI:=D9 wn.drew 9 1 wn.heap.size rfl;refine D7 4 9 J' J' U' J' J' (λK hK=>?_) (λK hK=>?_)
  ·refine qQ qw _ _ J' (wn.drew.alloc (.cells #[] 9)) wn.heap.size _ 0 [] KI J' ⟨g,0,none⟩ jj cap (((s1).map Value.string)) J' AD (λq u hu=>(Qz.cell (p:=(⟨g,0,none⟩:Addr).add q) li).trans (eK.out q u hu)) (λu hu=>by obtain ⟨z0,_,rfl⟩:=List.mem_map.1 hu;rfl) J J gb ?_;intro v5 w5 bc cg gd;have bu:Below wn.heap.size wn w5:=Below.grown (Qz) cg gb (λq hq=>(KI.lt q hq).1);refine hK _ _ bu ?_;try simp only [Act.put,pz]
   clear hK K;refine bP 9 J' U' J' (λK hK=>?_);go_simp;refine hK _ _ (ak bu (.cells #[.string y] 9)) ?_;try simp only [Act.put,pz]
   clear hK K;have cL:=ak bu (.cells #[.string y] 9);refine bP 10 J' U' J' (λK hK=>?_);refine qQ qw _ _ J' (w5.alloc (.cells #[.string y] 9)) wn.heap.size v5 _ _ (mG bc (ak (aj _) _)) J' ⟨w5.heap.size,0,none⟩ 1 1 [.string y] J' J' (DI w5 9 [.string y] w5.heap.size rfl) (λu hu=>by rw [List.mem_singleton.1 hu];rfl) J J gn ?_;exact yM
  ·go_simp;refine hK _ _ (ak Qz (.cells #[.string y] 9)) ?_;try simp only [Act.put,pz]
   clear hK K;have cL:=ak Qz (.cells #[.string y] 9);replace KI:=mG KI (ak (aj _) (.cells #[.string y] 9));refine bP 4 J' U' J' (λK hK=>?_);refine qQ qw _ _ J' ((wn.drew.alloc (.cells #[] 9)).alloc (.cells #[.string y] 9)) wn.heap.size _ 0 [] KI J' ⟨g,0,none⟩ jj cap (((s1).map Value.string)) J' AD (λq u hu=>(cL.cell (p:=(⟨g,0,none⟩:Addr).add q) li).trans (eK.out q u hu)) (λu hu=>by obtain ⟨z0,_,rfl⟩:=List.mem_map.1 hu;rfl) J J gn ?_;intro v5 w5 bc cg gd;have bu:Below wn.heap.size wn w5:=Below.grown (cL) cg gn (λq hq=>(KI.lt q hq).1);refine hK _ _ bu ?_;try simp only [Act.put,pz]
   clear hK K;refine bP 10 J' U' J' (λK hK=>?_);refine qQ qw _ _ J' w5 wn.heap.size v5 _ _ bc J' ⟨wn.heap.size+1,0,none⟩ 1 1 [.string y] J' J' (λq u hu=>(World.cell?_of_block wX).trans ((DI (wn.drew.alloc (.cells #[] 9)) 9 [.string y] (wn.heap.size+1) S') q u hu)) (λu hu=>by rw [List.mem_singleton.1 hu];rfl) J J j6 ?_;exact ou
 ·go_simp;refine hK _ _ (ak bo (.cells #[.string y] 9)) ?_;try simp only [Act.put,pz]
  clear hK K;have cL:=ak bo (.cells #[.string y] 9);refine bP 0 J' U' J' (λK hK=>?_);go_simp;refine hK _ _ (ak cL (.cells #[] 9)) ?_;try simp only [Act.put,pz]
  clear hK K;have Qz:=ak cL (.cells #[] 9);have KI:=vP (D9 (wn.drew.alloc (.cells #[.string y] 9)) 9 1 (wn.heap.size+1) S') (B':=wn.heap.size) J;refine bP 4 J' U' J' (λK hK=>?_);refine qQ qw _ _ J' ((wn.drew.alloc (.cells #[.string y] 9)).alloc (.cells #[] 9)) wn.heap.size _ 0 [] KI J' ⟨g,0,none⟩ jj cap (((s1).map Value.string)) J' AD (λq u hu=>(Qz.cell (p:=(⟨g,0,none⟩:Addr).add q) li).trans (eK.out q u hu)) (λu hu=>by obtain ⟨z0,_,rfl⟩:=List.mem_map.1 hu;rfl) J J gb ?_;intro v5 w5 bc cg gd;have bu:Below wn.heap.size wn w5:=Below.grown (Qz) cg gb (λq hq=>(KI.lt q hq).1);refine hK _ _ bu ?_;try simp only [Act.put,pz]
  clear hK K;refine bP 10 J' U' J' (λK hK=>?_);refine qQ qw _ _ J' w5 wn.heap.size v5 _ _ bc J' ⟨wn.heap.size,0,none⟩ 1 1 [.string y] J' J' (λq u hu=>(World.cell?_of_block xa).trans ((DI wn.drew 9 [.string y] wn.heap.size rfl) q u hu)) (λu hu=>by rw [List.mem_singleton.1 hu];rfl) J J j6 ?_
  exact ou):P:=h
theorem Er {P:Prop} (h:P:=by
 go_wp2_with fail
 skip
 refine aF _ U' U' (aj _) ?_
 repeat ((first | refine aG J' ?_ | refine aH _ J' Kd ?_);simp only [Act.put,pz])
 exact JR):P:=h
theorem M1 {P:Prop} (h:P:=by
 rintro e w1 ⟨ds,G,rfl,hO,aR⟩;have hR:=hO.rd;obtain ⟨kM,kN,ND,ny,nC,TD,ar,hGr,NG,TF,TG,xI,uD,xJ⟩:=aO hR;subst ar;clear hGr hR;have XB:=X0.ext aR;have HO:=I (hO.mono (B':=w.heap.size+1+1+1) J);have am:Below w.heap.size w w1:=ah i6 aR;clear hO aR h X0;try dsimp only
 iterate 8 go_step
 refine ly 29 _ _ rfl (w.heap.size+1+1) 0 [.slice kM R.O.length kN,.slice ny R.M.length nC,.int .i64 R.next,.int .i64 R.weights.pack,.int .i64 R.weights.spread,.int .i64 R.weights.soft] [.slice none 0 0,.slice none 0 0,.int .i64 0,.int .i64 0,.int .i64 0,.int .i64 0] rfl rfl XB S' U' fm ?_;intro w2 YB OB;replace YB:oG w2 (w.heap.size+1+1) [.slice kM R.O.length kN,.slice ny R.M.length nC,.int .i64 R.next,.int .i64 R.weights.pack,.int .i64 R.weights.spread,.int .i64 R.weights.soft]:=YB;try dsimp only [Act.put]
 go_wp2;refine bodyPost_ret (v:=.tuple #[.agg #[.slice kM R.O.length kN,.slice ny R.M.length nC,.int .i64 R.next,.int .i64 R.weights.pack,.int .i64 R.weights.spread,.int .i64 R.weights.soft],.int .i64 cd]) (xc Tryz.results7 _ (w.heap.size+1+1) [.slice kM R.O.length kN,.slice ny R.M.length nC,.int .i64 R.next,.int .i64 R.weights.pack,.int .i64 R.weights.spread,.int .i64 R.weights.soft] _ _ rfl rfl YB Tryz.underlying29 rfl U') rfl ?_
 exact Tm):P:=h
theorem M2 {P:Prop} (h:P:=by
 try simp only [Bool.and_false,Bool.and_true,Bool.false_and,Bool.and_self] at hp
 have HN:=I (gq hall.out hp);have Gn:=I (gq hfresh.out Eu);clear hp;go_wp2_with fail
 clear q0 q1 q2 q3 q4 q5 q6 q7 q8;refine aF _ U' U' (aj _) ?_
 repeat ((first | refine aG J' ?_ | refine aH _ J' Te ?_);simp only [Act.put,pz])
 exact Tn):P:=h
theorem Cx {P:Prop} (h:P:=by
 refine hK _ _ bw ?_;try simp only [Act.put,pz]
 clear hK K;refine bP 11 J' U' J' (λK hK=>?_);go_simp;refine hK _ _ bw ?_;try simp only [Act.put,pz]
 clear hK K;refine nR U' ?_
 exact HK _ _ ⟨g9,p9,_,_,_,_,_,_,_,_,_,_,Ii,bw,nK⟩):P:=h
theorem Ev {P:Prop} (h:P:=by
 go_wp2_with fail
 skip
 refine aF _ U' U' (aj _) ?_
 repeat ((first | refine aG J' ?_ | refine aH _ J' Tj ?_);simp only [Act.put,pz])
 exact J0):P:=h
theorem M3 {P:Prop} (h:P:=by
 have HN:=I (gq hall.out hp);have Gn:=I (gq hfresh.out Eu);clear hp;go_wp2_with fail
 clear q0 q1 q2 q3 q4 q5 q6 q7 q8;refine aF _ U' U' (aj _) ?_
 repeat ((first | refine aG J' ?_ | refine aH _ J' Ti ?_);simp only [Act.put,pz])
 exact To):P:=h
theorem M4 {P:Prop} (h:P:=by
 clear hs;go_wp2_with fail
 refine aF wr U' U' (aj _) ?_
 repeat ((first | refine aG J' ?_ | refine aH _ J' cZ ?_);simp only [Act.put,pz])
 exact TE):P:=h
theorem KA {P:Prop} (h:P:=by
 have RZ:=I bj;clear jX bj h h';go_wp2_with fail
 try dsimp only
 iterate 60 (first | go_step | skip)
 refine bodyPost_ret (v:=.tuple #[.agg #[.slice dG x.O.length bV,.slice dS x.M.length dJ,.int .i64 x.next,.int .i64 x.weights.pack,.int .i64 x.weights.spread,.int .i64 x.weights.soft],.int .i64 1]) (by simp [results,Tryz.results53,go_sem, *]) rfl ?_;rw [HF.out]
 first
  | refine ⟨[.slice dG x.O.length bV,.slice dS x.M.length dJ,.int .i64 x.next,.int .i64 x.weights.pack,.int .i64 x.weights.spread,.int .i64 x.weights.soft],G1,rfl,?_,?_⟩
  | refine ⟨[.slice dG x.O.length bV,.slice dS x.M.length dJ,.int .i64 x.next,.int .i64 x.weights.pack,.int .i64 x.weights.spread,.int .i64 x.weights.soft],rfl,⟨G1,?_⟩,?_⟩
 ·try dsimp only
  refine ai.mono (B:=w.heap.size+1+1+1) ?_ J;exact ZE
 ·exact m'):P:=h
theorem M6 {P:Prop} (h:P:=by
 refine (uo x _ _ _ (aZ h bA) HW.out).mono ?_;rintro e w4 ⟨C7,G9,rfl,SY,bm⟩;obtain ⟨ee,hf4⟩:=ay bm;have uy:w.heap.size < w4.heap.size:=sq bm.size;have uz:w.heap.size+1 < w4.heap.size:=sq bm.size;have uA:w.heap.size+1+1 < w4.heap.size:=sq bm.size;have lE:=SY.rd;obtain ⟨Pe,Pg,Ph,Vo,Vp,Vq,ar,hG9,Pj,Vr,Vs,zF,wB,zG⟩:=aO lE;subst ar;clear hG9 lE;have lj:=I (SY.mono (B':=w.heap.size+1+1+1) (by have:=az.size;(try simp at this |-);omega));clear SY;go_wp2_with fail
 try dsimp only
 iterate 60 (first | go_step | skip)
 refine bodyPost_ret (v:=.tuple #[.agg #[.slice Pe x.O.length Pg,.slice Vo x.M.length Vp,.int .i64 x.next,.int .i64 x.weights.pack,.int .i64 x.weights.spread,.int .i64 x.weights.soft],.int .i64 4]) (by simp [results,Tryz.results17,go_sem, *]) rfl ?_
 exact KM):P:=h
theorem CA {P:Prop} (h:P:=by
 refine hK _ _ bw ?_;try simp only [Act.put,pz]
 clear hK K;refine bP 12 J' U' J' (λK hK=>?_);go_simp;refine hK _ _ bw ?_;try simp only [Act.put,pz]
 clear hK K;refine nR U' ?_
 exact HK _ _ ⟨g9,p9,_,_,_,_,_,_,_,_,_,_,_,Ii,bw,nK⟩):P:=h
theorem CC {P:Prop} (h:P:=by
 refine hK _ _ bw ?_;try simp only [Act.put,pz]
 clear hK K;refine bP 9 J' U' J' (λK hK=>?_);go_simp;refine hK _ _ bw ?_;try simp only [Act.put,pz]
 clear hK K;refine nR U' ?_
 exact HK _ _ ⟨g9,p9,_,_,_,_,_,_,_,_,Ii,bw,nK⟩):P:=h
theorem M7 {P:Prop} (h:P:=by
 try simp only [Bool.and_false,Bool.and_true,Bool.false_and,Bool.and_self] at hp
 have HF:=I (dW ap hp);clear hp;go_wp2_with fail
 refine aF _ U' U' (aj _) ?_
 repeat ((first | refine aG J' ?_ | refine aH _ J' Ke ?_);simp only [Act.put,pz])
 exact JR):P:=h
theorem JP {P:Prop} (h:P:=by
 intro wq hq;have et:=(aB hq).1;have lJ:=(aB hq).2;have M8:=M9.out wq hq;go_simp
 first
  | exact ⟨hq,rfl⟩
  | exact ⟨aQ hq _,rfl⟩
  | (first | (refine (vw x.M[j+1].aS _ _ _ (aJ ku th) cV.ns cV.ll cV.ls cV.nl cV.Rc cV.tl cV.ts).mono ?_;rw [H1.out];rintro e w2 ⟨rfl,am⟩;exact ⟨rfl,aI hq am⟩) | (refine (jc x.M[j+1].seq 1 (x.next - 1) _).mono ?_;rw [LQ.out];rintro e w2 ⟨rfl,rfl⟩;exact ⟨rfl,hq⟩) | (refine (gK x _ _ x.M[j+1].on _ (aJ h th) NV.out).mono ?_;rw [Hg.out];rintro e w2 ⟨rfl,am⟩;exact ⟨rfl,aI hq am⟩))
  | (simp only [↓IntWalk.iteOmega];exact ⟨hq,rfl⟩)):P:=h
theorem JU {P:Prop} (h:P:=by
 intro wq hq;have et:=(aB hq).1;have lJ:=(aB hq).2;have M8:=M9.out wq hq;go_simp
 first
  | exact ⟨hq,rfl⟩
  | exact ⟨aQ hq _,rfl⟩
  | (first | (refine (vw x.M[0].aS _ _ _ (aJ ku th) cV.ns cV.ll cV.ls cV.nl cV.Rc cV.tl cV.ts).mono ?_;rw [H1.out];rintro e w2 ⟨rfl,am⟩;exact ⟨rfl,aI hq am⟩) | (refine (jc x.M[0].seq 1 (x.next - 1) _).mono ?_;rw [LQ.out];rintro e w2 ⟨rfl,rfl⟩;exact ⟨rfl,hq⟩) | (refine (gK x _ _ x.M[0].on _ (aJ h th) NV.out).mono ?_;rw [Hg.out];rintro e w2 ⟨rfl,am⟩;exact ⟨rfl,aI hq am⟩))
  | (simp only [↓IntWalk.iteOmega];exact ⟨hq,rfl⟩)):P:=h
theorem Cv {P:Prop} (h:P:=by
 intro wq hq;have et:=(aB hq).1;have lJ:=(aB hq).2;go_simp
 first
  | exact ⟨hq,rfl⟩
  | (refine (HC.out y x _ (HU.out.trans (nN.lq _ hq))).mono ?_;rintro e w2 ⟨rfl,am⟩;exact ⟨rfl,aI hq am⟩)
  | (simp only [↓IntWalk.iteOmega];exact ⟨hq,rfl⟩)):P:=h
theorem J8 {P:Prop} (h:P:=by
 intro wq hq;have et:=(aB hq).1;have lJ:=(aB hq).2;go_simp
 first
  | exact ⟨hq,rfl⟩
  | exact ⟨aQ hq _,rfl⟩
  | (first | (refine (wM x.M[0].aS _ _ _ (aJ ku th) cV.ns cV.ll cV.ls cV.nl cV.Rc cV.tl cV.ts).mono ?_;rw [H1.out];rintro e w2 ⟨rfl,am⟩;exact ⟨rfl,aI hq am⟩) | (refine (kH x.M[0].seq 1 (x.next - 1) _).mono ?_;rw [LQ.out];rintro e w2 ⟨rfl,rfl⟩;exact ⟨rfl,hq⟩) | (refine (gQ x _ _ x.M[0].on _ (aJ h th) NV.out).mono ?_;rw [Hg.out];rintro e w2 ⟨rfl,am⟩;exact ⟨rfl,aI hq am⟩))
  | (simp only [↓IntWalk.iteOmega];exact ⟨hq,rfl⟩)):P:=h
theorem Jt {P:Prop} (h:P:=by
 intro wq hq;have et:=(aB hq).1;have lJ:=(aB hq).2;go_simp
 first
  | exact ⟨hq,rfl⟩
  | exact ⟨aQ hq _,rfl⟩
  | (refine (sQ x.O[j+1] _ _ _ (aJ gO th) cV.ns cV.ll cV.ls cV.tl cV.ts).mono ?_;rw [H1.out];rintro e w6 ⟨rfl,ev⟩;exact ⟨rfl,aI hq ev⟩)
  | (simp only [↓IntWalk.iteOmega];exact ⟨hq,rfl⟩)):P:=h
theorem JQ {P:Prop} (h:P:=by
 intro wq hq;have et:=(aB hq).1;have lJ:=(aB hq).2;go_simp
 first
  | exact ⟨hq,rfl⟩
  | exact ⟨aQ hq _,rfl⟩
  | (refine (sQ x.O[0] _ _ _ (aJ gO th) cV.ns cV.ll cV.ls cV.tl cV.ts).mono ?_;rw [H1.out];rintro e w6 ⟨rfl,ev⟩;exact ⟨rfl,aI hq ev⟩)
  | (simp only [↓IntWalk.iteOmega];exact ⟨hq,rfl⟩)):P:=h
theorem CB {P:Prop} (h:P:=by
 refine aN ?_;intro wn hn;replace hn:=hn.out;obtain ⟨kq,mZ⟩:=ay hn;have kr:w.heap.size < wn.heap.size:=sq hn.size;have te:b' < wn.heap.size:=sq hn.size;try (have tT:wr.heap.size < wn.heap.size:=sq hn.size)
 exact x2):P:=h
theorem CD {P:Prop} (h:P:=by
 refine aN ?_;intro wn hn;replace hn:=hn.out;obtain ⟨kq,mZ⟩:=ay hn;have kr:w.heap.size < wn.heap.size:=sq hn.size;have te:b < wn.heap.size:=sq hn.size;try (have tT:wr.heap.size < wn.heap.size:=sq hn.size)
 exact x2):P:=h
theorem JF {P:Prop} (h:P:=by
 refine hK _ _ bw ?_;try simp only [Act.put,pz]
 clear hK K;refine bP 8 J' U' J' (λK hK=>?_);go_simp;refine hK _ _ bw ?_;try simp only [Act.put,pz]
 clear hK K;refine nR U' ?_
 exact HK _ _ ⟨g9,p9,_,_,_,_,_,_,_,Ii,bw,nK⟩):P:=h
theorem CF {P:Prop} (h:P:=by
 exact ⟨[.slice kM R.O.length kN,.slice ny R.M.length nC,.int .i64 R.next,.int .i64 R.weights.pack,.int .i64 R.weights.spread,.int .i64 R.weights.soft],G,rfl,(HO.out.only OB (λb hb=>by have:=HO.out.base b hb;omega)).mono (B':=w.heap.size) J,C' am OB J⟩):P:=h
theorem Kl {P:Prop} (h:P:=by
 rw [HF.out];first | refine ⟨[.slice dG x.O.length bV,.slice dS x.M.length dJ,.int .i64 x.next,.int .i64 x.weights.pack,.int .i64 x.weights.spread,.int .i64 x.weights.soft],G1,rfl,?_,?_⟩ | refine ⟨[.slice dG x.O.length bV,.slice dS x.M.length dJ,.int .i64 x.next,.int .i64 x.weights.pack,.int .i64 x.weights.spread,.int .i64 x.weights.soft],rfl,⟨G1,?_⟩,?_⟩
 ·exact Ew
 ·exact m'):P:=h
theorem Ku {P:Prop} (h:P:=by
 rw [HF.out];first | refine ⟨[.slice Pe x.O.length Pg,.slice Vo x.M.length Vp,.int .i64 x.next,.int .i64 x.weights.pack,.int .i64 x.weights.spread,.int .i64 x.weights.soft],G9,rfl,?_,?_⟩ | refine ⟨[.slice Pe x.O.length Pg,.slice Vo x.M.length Vp,.int .i64 x.next,.int .i64 x.weights.pack,.int .i64 x.weights.spread,.int .i64 x.weights.soft],rfl,⟨G9,?_⟩,?_⟩
 ·exact Ew
 ·exact m'):P:=h
theorem M' {P:Prop} (h:P:=by
 go_wp2_with fail
 refine aF wr U' U' (aj _) ?_
 repeat ((first | refine aG J' ?_ | refine aH _ J' Da ?_);simp only [Act.put,pz])
 exact x7):P:=h
theorem Ex {P:Prop} (h:P:=by
 refine ⟨⟨k+1,g8,p8,J,N',rfl,?_,?_⟩,by simp [intOf];omega⟩
 ·rw [Jf.out,HI.out];have:=vP Le (B':=w1.heap.size) nZ.out.size;exact Dy
 ·exact tW):P:=h
theorem Nd {P:Prop} (h:P:=by
 go_wp2_with fail
 refine aF wr U' U' (aj _) ?_
 repeat ((first | refine aG J' ?_ | refine aH _ J' cZ ?_);simp only [Act.put,pz])
 exact x7):P:=h
theorem JS {P:Prop} (h:P:=by
 intro wq hq;have et:=(aB hq).1;have lJ:=(aB hq).2;go_simp
 first
  | exact ⟨hq,rfl⟩
  | exact ⟨aQ hq _,rfl⟩
  | (refine (rO x.O[j+1] _ _ _ (aJ gO th) cV.ns cV.ll cV.ls cV.tl cV.ts).mono ?_;rw [H1.out];rintro e w6 ⟨rfl,ev⟩;exact ⟨rfl,aI hq ev⟩)
  | (simp only [↓IntWalk.iteOmega];exact ⟨hq,rfl⟩)):P:=h
theorem C6 {P:Prop} (h:P:=by
 exact Ew):P:=h
theorem JT {P:Prop} (h:P:=by
 intro wq hq;have et:=(aB hq).1;have lJ:=(aB hq).2;go_simp
 first
  | exact ⟨hq,rfl⟩
  | exact ⟨aQ hq _,rfl⟩
  | (refine (rO x.O[0] _ _ _ (aJ gO th) cV.ns cV.ll cV.ls cV.tl cV.ts).mono ?_;rw [H1.out];rintro e w6 ⟨rfl,ev⟩;exact ⟨rfl,aI hq ev⟩)
  | (simp only [↓IntWalk.iteOmega];exact ⟨hq,rfl⟩)):P:=h
theorem sj {P:Prop} (h:P:=by
 try dsimp only
 refine ai.mono (B:=w.heap.size+1+1+1) ?_ J
 exact aG0):P:=h
theorem K1 {P:Prop} (h:P:=by
 clear ev j9 ng pF;dsimp only at *;cases b
 ·go_wp2;exact ⟨⟨xs,A',c',G,k+1,rfl,N',J,tj.out,Du,mh.out,xj.out,K0⟩,by simp only [intOf];omega⟩
 ·go_wp2
  exact ⟨⟨u,A6,c6,G6,k+1,rfl,N',J,iD.out,I (en.out rfl),mh.out,xj.out,I ((Jg.out rfl).mono J)⟩,by simp only [intOf];omega⟩):P:=h
theorem yN {P:Prop} (h:P:=by
 go_enter Tryz.func109,Tryz.ntmps109;go_wp2_with fail
 refine (rX x.key _ lL).mono ?_
 exact Kc):P:=h
theorem yP {P:Prop} (h:P:=by
 go_enter Tryz.func167,Tryz.ntmps167;go_wp2_with fail
 refine (qK x.key _ lL).mono ?_
 exact Kc):P:=h
theorem Nf {P:Prop} (h:P:=by
 go_wp2_with fail
 refine aF wr U' U' (aj _) ?_
 repeat ((first | refine aG J' ?_ | refine aH _ J' x4 ?_);simp only [Act.put,pz])
 exact TP):P:=h
theorem Ng {P:Prop} (h:P:=by
 go_wp2_with fail
 refine aF wr U' U' (aj _) ?_
 repeat ((first | refine aG J' ?_ | refine aH _ J' x4 ?_);simp only [Act.put,pz])
 exact TW):P:=h
theorem Ni {P:Prop} (h:P:=by
 intro v7 w7 nK Ua nQ;rw [show 0+0 = 0 by omega,List.nil_append] at nK;obtain ⟨g9,p9,hv7,pj,kp,iJ⟩:=wW nK J;subst hv7;have bw:Below wn.heap.size wn w7:=Below.grown (bu) Ua j6 (λq hq=>(bc.lt q hq).1)
 exact Kr):P:=h
theorem Nn {P:Prop} (h:P:=by
 intro v7 w7 nK Ua nQ;rw [show 0+0 = 0 by omega,List.nil_append] at nK;obtain ⟨g9,p9,hv7,pj,kp,iJ⟩:=wW nK J;subst hv7;have bw:Below wn.heap.size wn w7:=Below.grown (bu) Ua j6 (λq hq=>(bc.lt q hq).1)
 exact Kp):P:=h
theorem Nq {P:Prop} (h:P:=by
 cases he2:GX b p.mem with
 | none =>rw [show qG b p.mem = 9223372036854775807 by unfold qG;rw [he2];rfl] at bS pm;exact Ju
 | some s2 =>
   rw [show qG b p.mem = s2 by unfold qG;rw [he2];rfl] at bS pm
   exact Ju):P:=h
theorem Dj {P:Prop} (h:P:=by
 have hj:=(List.getElem?_eq_some_iff.1 hu).1;rw [<- ht,List.getElem?_take] at hu;split at hu
 ·simpa using hu
 ·cases hu):P:=h
theorem Nr {P:Prop} (h:P:=by
 refine ⟨⟨k+1,N+1,g8,p8,J,J,N',rfl,I ?_,?_,?_⟩,by simp [intOf];omega⟩
 ·exact yi
 ·rw [Jf.out,HI.out];have:=vP Le (B':=w.heap.size) nZ.out.size;exact Dy
 ·exact tW):P:=h
theorem Ns {P:Prop} (h:P:=by
 try simp only [Bool.and_false,Bool.and_true,Bool.false_and,Bool.and_self] at hp
 have HF:=I (jP ap hp);clear hp
 exact xV):P:=h
theorem Nt {P:Prop} (h:P:=by
 rw [HF.out];refine ⟨[.slice dG x.O.length bV,.slice dS x.M.length dJ,.int .i64 x.next,.int .i64 x.weights.pack,.int .i64 x.weights.spread,.int .i64 x.weights.soft],G1,rfl,?_,?_⟩
 ·exact Dl
 ·exact m'):P:=h
theorem Nu {P:Prop} (h:P:=by
 rw [HF.out];refine ⟨[.slice Pe x.O.length Pg,.slice Vo x.M.length Vp,.int .i64 x.next,.int .i64 x.weights.pack,.int .i64 x.weights.spread,.int .i64 x.weights.soft],G9,rfl,?_,?_⟩
 ·exact Dl
 ·exact m'):P:=h
theorem Ey {P:Prop} (h:P:=by
 have ik:=I hr;clear hr;go_wp2_with fail
 refine en.out.mono ?_
 exact Ld):P:=h
theorem Nv {P:Prop} (h:P:=by
 refine ⟨⟨k+1,N+1,g8,p8,J,J,N',rfl,I ?_,?_,?_⟩,by simp [intOf];omega⟩
 ·exact yi
 ·exact TI
 ·exact tW):P:=h
theorem Nw {P:Prop} (h:P:=by
 refine ⟨⟨k+1,N+1,g8,p8,J,J,N',rfl,I ?_,?_,?_⟩,by simp [intOf];omega⟩
 ·exact yi
 ·exact TJ
 ·exact tW):P:=h
theorem Nx {P:Prop} (h:P:=by
 refine ⟨⟨k+1,N+1,g8,p8,J,J,N',rfl,I ?_,?_,?_⟩,by simp [intOf];omega⟩
 ·exact yi
 ·exact TK
 ·exact tW):P:=h
theorem Ny {P:Prop} (h:P:=by
 obtain ⟨R,cd⟩:=RR;dsimp only at HS |-;go_enter Tryz.func25,Tryz.ntmps25;go_wp2_with fail
 refine (HS.out _ _ _ (aZ h bA)).mono ?_
 exact CE):P:=h
theorem Nz {P:Prop} (h:P:=by
 refine aN ?_;intro wn hn;replace hn:=hn.out;simp only [HQ.out]
 exact LL):P:=h
theorem NA {P:Prop} (h:P:=by
 refine ⟨⟨b,o,none⟩,by simp [hc],λt u hu=>?_⟩;have h0:news.length = 0:=by rw [bE,show n - j = 0 by omega,Nat.zero_mul]
 exact pG):P:=h
theorem NB {P:Prop} (h:P:=by
 have HF:=I (show oH nm x p = 4 by rw [xi.out,if_neg (by simp [hS]),if_neg hu,if_neg (by simp [ek]),if_pos cB])
 exact CI):P:=h
theorem K4 {P:Prop} (h:P:=by
 rcases Nat.lt_or_ge j k with h9 | h9
 ·exact HW40.out j hj h9
 ·have:j = k:=by omega
  subst this;exact hv40):P:=h
theorem NC {P:Prop} (h:P:=by
 rw [Il.out];have:=vP Le (B':=w.heap.size+1) (by have:=fv.out.size;have:=kd.out.size;omega)
 exact Dy):P:=h
theorem NE {P:Prop} (h:P:=by
 by_cases hc:cap = jj
 ·exact yp
 ·exact ⟨⟨g,jj,none⟩,by simp [hc],rfl,λq u hu=>by simp at hu⟩):P:=h
theorem yU {P:Prop} (h:P:=by
 go_enter Tryz.func144,Tryz.ntmps144
 exact sn):P:=h
theorem yV {P:Prop} (h:P:=by
 go_enter Tryz.func136,Tryz.ntmps136
 exact fg):P:=h
theorem CK {P:Prop} (h:P:=by
 go_wp2;go_ret
 exact ⟨by rw [HF.out];first | rfl | simp,bJ⟩):P:=h
theorem K8 {P:Prop} (h:P:=by
 rcases Nat.lt_or_ge g w.heap.size with ap | rv
 ·exact ap
 ·rw [Array.getElem?_eq_none rv] at hh;cases hh):P:=h
theorem Ez {P:Prop} (h:P:=by
 clear hs;go_enter Tryz.func215,Tryz.ntmps215
 exact CH):P:=h
theorem EA {P:Prop} (h:P:=by
 clear hs;go_enter Tryz.func216,Tryz.ntmps216
 exact CH):P:=h
theorem EB {P:Prop} (h:P:=by
 clear hs;go_enter Tryz.func237,Tryz.ntmps237
 exact CH):P:=h
theorem K' {P:Prop} (h:P:=by
 intro b dP;rcases List.mem_cons.1 dP with rfl | dP
 ·exact ⟨cj,e,hh⟩
 ·exact h.plain b dP):P:=h
theorem DD {P:Prop} (h:P:=by
 go_wp2;go_ret
 exact ⟨by first | rfl | simp,QX.out⟩):P:=h
theorem KV {P:Prop} (h:P:=by
 rcases hF9 y hy with h9 | h9
 ·exact (kt.out y h9).2.1
 ·have:=(oD.out.lt y h9).1;omega):P:=h
theorem Lj {P:Prop} (h:P:=by
 intro b hb;rcases List.mem_append.1 hb with hb | hb
 ·exact h1.plain b hb
 ·exact h2.plain b hb):P:=h
theorem Kb {P:Prop} (h:P:=by
 unfold seenIn;rw [List.any_eq_false];intro u hu;have:=HQ.out u hu
 simp [this]):P:=h
theorem K9 {P:Prop} (h:P:=by
 intro b dP;rcases List.mem_cons.1 dP with rfl | dP
 ·exact hb
 ·exact h.base b dP):P:=h
theorem NF {P:Prop} (h:P:=by
 have HF:=I (show uh x = true by rw [HI.out,Jy hm hall.out];simp [pn])
 exact DQ):P:=h
theorem LA {P:Prop} (h:P:=by
 rw [World.cell?_of_block (heap_alloc_old _ _ S'),cell_of_row _ _ _ _ _ _ (heap_alloc_new w _)];rfl):P:=h
theorem yM {P:Prop} (h:P:=by
 intro v7 w7 nK Ua nQ;rw [show 0+jj = jj by omega,List.nil_append] at nK;obtain ⟨g9,p9,hv7,pj,kp,iJ⟩:=wW nK J;subst hv7;have bw:Below wn.heap.size wn w7:=Below.grown (cL) Ua gn (λq hq=>(bc.lt q hq).1)
 exact Ta):P:=h
theorem Cy {P:Prop} (h:P:=by
 intro v7 w7 nK Ua nQ;rw [show 0+jj = jj by omega,List.nil_append] at nK;obtain ⟨g9,p9,hv7,pj,kp,iJ⟩:=wW nK J;subst hv7;have bw:Below wn.heap.size wn w7:=Below.grown (bu) Ua j6 (λq hq=>(bc.lt q hq).1)
 exact Cx):P:=h
theorem JN {P:Prop} (h:P:=by
 intro v7 w7 nK Ua nQ;rw [show 0+jj = jj by omega,List.nil_append] at nK;obtain ⟨g9,p9,hv7,pj,kp,iJ⟩:=wW nK J;subst hv7;have bw:Below wn.heap.size wn w7:=Below.grown (bu) Ua j6 (λq hq=>(bc.lt q hq).1)
 exact JF):P:=h
theorem Js {P:Prop} (h:P:=by
 intro v7 w7 nK Ua nQ;rw [show 0+k = k by omega,List.nil_append] at nK;obtain ⟨g9,p9,hv7,pj,kp,iJ⟩:=wW nK J;subst hv7;have bw:Below wn.heap.size wn w7:=Below.grown (bu) Ua j6 (λq hq=>(bc.lt q hq).1)
 exact CA):P:=h
theorem JC {P:Prop} (h:P:=by
 intro v7 w7 nK Ua nQ;rw [show 0+k = k by omega,List.nil_append] at nK;obtain ⟨g9,p9,hv7,pj,kp,iJ⟩:=wW nK J;subst hv7;have bw:Below wn.heap.size wn w7:=Below.grown (bu) Ua j6 (λq hq=>(bc.lt q hq).1)
 exact CC):P:=h
theorem NH {P:Prop} (h:P:=by
 try simp only [Bool.and_false,Bool.and_true,Bool.false_and,Bool.and_self] at hp
 have HF:=I (jP ap hp);clear hp
 exact Er):P:=h
theorem NI {P:Prop} (h:P:=by
 have If:k < fS n.name x.O:=by exact TQ
 have cO:Op.bytesLess x.O[k].name.toList n.name.toList = true:=hs
 exact M4):P:=h
theorem NJ {P:Prop} (h:P:=by
 have If:k < fh n.name x.M:=by exact TT
 have cO:Op.bytesLess x.M[k].aS.name.toList n.name.toList = true:=hs
 exact M4):P:=h
theorem Ew {P:Prop} (h:P:=by
 try dsimp only
 refine ai.mono (B:=w.heap.size+1+1+1) ?_ J
 exact Hy):P:=h
theorem x2 {P:Prop} (h:P:=by
 go_wp2;go_ret
 exact ⟨by rw [HF.out];rfl,bJ⟩):P:=h
theorem EC (S:Nat) {w:World} {b o k:Nat} {a0 a1:Value} {r:List Value} (h:∀(j:Nat) (u:Value),(a0::a1::r)[j]? = some u->w.cell? ⟨b,o+(k * S+j),none⟩ = some u):w.cell? ⟨b,o+k * S,none⟩ = some a0/\w.cell? ⟨b,o+k * S+1,none⟩ = some a1:=⟨h 0 _ rfl,by rw [Nat.add_assoc];exact h 1 _ rfl⟩
theorem oa (S:Nat) {w:World} {b o k:Nat} {a0 a1 a2:Value} {r:List Value} (h:∀(j:Nat) (u:Value),(a0::a1::a2::r)[j]? = some u->w.cell? ⟨b,o+(k * S+j),none⟩ = some u):w.cell? ⟨b,o+k * S,none⟩ = some a0/\w.cell? ⟨b,o+k * S+1,none⟩ = some a1/\w.cell? ⟨b,o+k * S+2,none⟩ = some a2:=⟨h 0 _ rfl,by rw [Nat.add_assoc];exact h 1 _ rfl,by rw [Nat.add_assoc];exact h 2 _ rfl⟩
theorem EE (S:Nat) {w:World} {b o k:Nat} {a0 a1 a2 a3:Value} {r:List Value} (h:∀(j:Nat) (u:Value),(a0::a1::a2::a3::r)[j]? = some u->w.cell? ⟨b,o+(k * S+j),none⟩ = some u):w.cell? ⟨b,o+k * S,none⟩ = some a0/\w.cell? ⟨b,o+k * S+1,none⟩ = some a1/\w.cell? ⟨b,o+k * S+2,none⟩ = some a2/\w.cell? ⟨b,o+k * S+3,none⟩ = some a3:=⟨h 0 _ rfl,by rw [Nat.add_assoc];exact h 1 _ rfl,by rw [Nat.add_assoc];exact h 2 _ rfl,by rw [Nat.add_assoc];exact h 3 _ rfl⟩
theorem ss (S:Nat) {w:World} {b o k:Nat} {a0 a1 a2 a3 a4 a5:Value} {r:List Value} (h:∀(j:Nat) (u:Value),(a0::a1::a2::a3::a4::a5::r)[j]? = some u->w.cell? ⟨b,o+(k * S+j),none⟩ = some u):w.cell? ⟨b,o+k * S,none⟩ = some a0/\w.cell? ⟨b,o+k * S+1,none⟩ = some a1/\w.cell? ⟨b,o+k * S+2,none⟩ = some a2/\w.cell? ⟨b,o+k * S+3,none⟩ = some a3/\w.cell? ⟨b,o+k * S+4,none⟩ = some a4/\w.cell? ⟨b,o+k * S+5,none⟩ = some a5:=⟨h 0 _ rfl,by rw [Nat.add_assoc];exact h 1 _ rfl,by rw [Nat.add_assoc];exact h 2 _ rfl,by rw [Nat.add_assoc];exact h 3 _ rfl,by rw [Nat.add_assoc];exact h 4 _ rfl,by rw [Nat.add_assoc];exact h 5 _ rfl⟩
theorem e'7 (S:Nat) {w:World} {b o k:Nat} {a0 a1 a2 a3 a4 a5 a6:Value} {r:List Value} (h:∀(j:Nat) (u:Value),(a0::a1::a2::a3::a4::a5::a6::r)[j]? = some u->w.cell? ⟨b,o+(k * S+j),none⟩ = some u):w.cell? ⟨b,o+k * S,none⟩ = some a0/\w.cell? ⟨b,o+k * S+1,none⟩ = some a1/\w.cell? ⟨b,o+k * S+2,none⟩ = some a2/\w.cell? ⟨b,o+k * S+3,none⟩ = some a3/\w.cell? ⟨b,o+k * S+4,none⟩ = some a4/\w.cell? ⟨b,o+k * S+5,none⟩ = some a5/\w.cell? ⟨b,o+k * S+6,none⟩ = some a6:=⟨h 0 _ rfl,by rw [Nat.add_assoc];exact h 1 _ rfl,by rw [Nat.add_assoc];exact h 2 _ rfl,by rw [Nat.add_assoc];exact h 3 _ rfl,by rw [Nat.add_assoc];exact h 4 _ rfl,by rw [Nat.add_assoc];exact h 5 _ rfl,by rw [Nat.add_assoc];exact h 6 _ rfl⟩
theorem uu (S:Nat) {w:World} {b o k:Nat} {a0 a1 a2 a3 a4 a5 a6 a7 a8:Value} {r:List Value} (h:∀(j:Nat) (u:Value),(a0::a1::a2::a3::a4::a5::a6::a7::a8::r)[j]? = some u->w.cell? ⟨b,o+(k * S+j),none⟩ = some u):w.cell? ⟨b,o+k * S,none⟩ = some a0/\w.cell? ⟨b,o+k * S+1,none⟩ = some a1/\w.cell? ⟨b,o+k * S+2,none⟩ = some a2/\w.cell? ⟨b,o+k * S+3,none⟩ = some a3/\w.cell? ⟨b,o+k * S+4,none⟩ = some a4/\w.cell? ⟨b,o+k * S+5,none⟩ = some a5/\w.cell? ⟨b,o+k * S+6,none⟩ = some a6/\w.cell? ⟨b,o+k * S+7,none⟩ = some a7/\w.cell? ⟨b,o+k * S+8,none⟩ = some a8:=⟨h 0 _ rfl,by rw [Nat.add_assoc];exact h 1 _ rfl,by rw [Nat.add_assoc];exact h 2 _ rfl,by rw [Nat.add_assoc];exact h 3 _ rfl,by rw [Nat.add_assoc];exact h 4 _ rfl,by rw [Nat.add_assoc];exact h 5 _ rfl,by rw [Nat.add_assoc];exact h 6 _ rfl,by rw [Nat.add_assoc];exact h 7 _ rfl,by rw [Nat.add_assoc];exact h 8 _ rfl⟩
theorem r' {n:Nat} {w w':World} {p:Addr} {u:Value} (h:Below n w w') (k:w.cell? p = some u) (hp:p.block < n):w'.cell? p = some u:=(h.cell hp).trans k
theorem H' {P:Prop} (h:P:=by exact λ_ _ d _ _ h=>by cases d <;> exact h):P:=h
theorem W' {P:Prop} (h:P:=by refine Or.inl ⟨rfl,λwq hq=>?_⟩;have et:=(aB hq).1;go_simp;try rfl):P:=h
theorem sq {a b:Nat} (hs:a<=b) {P:Prop} (h:a<=b->P:=by intro this;(try simp at this);omega):P:=h hs
theorem pz:(∀{α:Type} (a:List α) (i:Nat) (v:α),a.toArray.setIfInBounds i v = (a.set i v).toArray)/\(∀{α:Type} (x y:α) (l:List α),(x :: l).set 0 y = y :: l)/\(∀{α:Type} (x y:α) (l:List α) (n:Nat),(x :: l).set (n+1) y = x :: l.set n y):=⟨λ_ _ _=>List.setIfInBounds_toArray ..,λ_ _ _=>rfl,λ_ _ _ _=>rfl⟩
theorem bJ {P:Prop} (h:P:=by repeat (first | with_reducible exact aj _ | with_reducible assumption | with_reducible refine ak ?_ _ | with_reducible refine ah ?_ (by assumption))) : P := h
theorem bA {P:Prop} (h:P:=by repeat (first | with_reducible exact aj _ | with_reducible assumption | with_reducible refine ak ?_ _ | with_reducible refine aA ?_ | with_reducible refine ah ?_ (by assumption))) : P := h
theorem er {P:Prop} (h:P:=by have f1:=HF.out;have f2:=hm.out;have f3:=hb.out;have f4:=fJ.out;omega) : P := h
theorem atV {P:Prop} (h:P:=by first | exact hq | exact hq.out) : P := h
theorem th {P:Prop} (h:P:=by repeat (first | with_reducible exact hq | with_reducible exact hq.out | with_reducible exact aj _ | with_reducible assumption | with_reducible refine ak ?_ _ | with_reducible refine ah ?_ atV | with_reducible refine ah ?_ (by assumption))) : P := h
theorem bx {P:Prop} (h:P:=by dsimp only;omega) : P := h
theorem atZ {P:Prop} (h:P:=by decide +kernel) : P := h
theorem pE {P:Prop} (h:P:=by unfold maxLen;omega) : P := h
theorem fw {P:Prop} (h:P:=by simp [World.setCell]) : P := h
theorem fm {P:Prop} (h:P:=by simp [Value.oneCell']) : P := h
theorem wV {P:Prop} (h:P:=by have e1:=HN.out;have e2:=fJ.out;simp only [List.length_append,fU];omega) : P := h
theorem sw {P:Prop} (h:P:=by first | exact bo | exact aj _) : P := h
theorem po {P:Prop} (h:P:=by first | rfl | (simp;rfl)) : P := h
theorem auf {P:Prop} (h:P:=by unfold Func.isWrapper;first | (rw [if_pos atZ];kernel_rfl) | (rw [if_neg atZ];exact ⟨rfl,rfl⟩)) : P := h
theorem Q4 {P:Prop} (h:P:=by first | assumption | (unfold bt;omega)) : P := h
theorem m' {P:Prop} (h:P:=by repeat (first | with_reducible exact aj _ | with_reducible assumption | with_reducible refine aC ?_ bx _ | with_reducible refine ak ?_ _ | with_reducible refine aA ?_ | with_reducible refine ah ?_ (by assumption))) : P := h
theorem Hv {P:Prop} (h:P:=by have e3:=TL.out;have e4:=HD.out;have f1:=HF.out;have f2:=hm.out;have f3:=hb.out;have f4:=fJ.out;omega) : P := h
theorem Ii {P:Prop} (h:P:=by simp only [Act.put,pz];rfl) : P := h
theorem Tx {P:Prop} (h:P:=by show w.heap.size+1+1 < _;omega) : P := h
theorem Rn {P:Prop} (h:P:=by intro e;have:=hr _ e.symm;omega) : P := h
theorem ZE {P:Prop} (h:P:=by repeat (first | with_reducible exact RZ.out | with_reducible refine ai.setCell ?_ bx _)) : P := h
theorem xh {P:Prop} (h:P:=by first | exact hq | exact ah (ak (aj _) _) hq) : P := h
theorem Hk {P:Prop} (h:P:=by have:=ha.out;omega) : P := h
theorem Q0 {P:Prop} (h:P:=by simpa only [List.append_assoc] using me) : P := h
theorem Q1 {P:Prop} (h:P:=by rw [List.length_append];have f1:=HF.out;have f2:=hm.out;have f3:=hb.out;have f4:=fJ.out;omega) : P := h
theorem auz {P:Prop} (h:P:=by have:=hd.out;omega) : P := h
theorem xo {P:Prop} (h:P:=by unfold bt;omega) : P := h
theorem gb {P:Prop} (h:P:=by have:=(Qz).size;omega) : P := h
theorem gn {P:Prop} (h:P:=by have:=(cL).size;omega) : P := h
theorem j6 {P:Prop} (h:P:=by have:=(bu).size;omega) : P := h
theorem QZ {P:Prop} (h:P:=by have:=HK.out;omega) : P := h
theorem S7 {P:Prop} (h:P:=by simpa only [List.append_assoc] using cG) : P := h
theorem S9 {P:Prop} (h:P:=by rw [List.length_append,fU];have f1:=HF.out;have f2:=hm.out;have f3:=hb.out;have f4:=fJ.out;omega) : P := h
theorem AD {P:Prop} (h:P:=by rw [List.length_map,HJ.out,Nat.mul_one]) : P := h
theorem auQ {P:Prop} (h:P:=by first | exact Nat.le_refl _ | (dsimp only;omega)) : P := h
theorem Rp {P:Prop} (h:P:=by dsimp only;have:=HS.out.lt;omega) : P := h
theorem Rr {P:Prop} (h:P:=by repeat (first | with_reducible exact bF | with_reducible exact aj _ | with_reducible assumption | with_reducible refine ak ?_ _ | with_reducible refine ah ?_ (by assumption))) : P := h
theorem Z5 {P:Prop} (h:P:=by first | exact ah bF hq | exact ah (ak bF _) hq | exact ah bF hq.out | exact ah (ak bF _) hq.out) : P := h
theorem NL {P:Prop} (h:P:=by rw [List.length_drop];have:=HN.out;omega) : P := h
theorem auW {P:Prop} (h:P:=by obtain ⟨d0,hs⟩:=fF hA;rw [hs];rfl) : P := h
theorem li {P:Prop} (h:P:=by rw [Addr.add_lit];exact fy) : P := h
theorem au0 {P:Prop} (h:P:=by first | rfl | go_num) : P := h
theorem ZQ {P:Prop} (h:P:=by rw [List.take_succ_eq_append_getElem ap,J3];exact bc) : P := h
theorem ZS {P:Prop} (h:P:=by have e1:=U3.size;have e2:=hn.size;(try simp at e2);omega) : P := h
theorem AT {P:Prop} (h:P:=by dsimp only;first | omega | (have:=ju.lt;omega)) : P := h
theorem Im {P:Prop} (h:P:=by repeat (first | with_reducible exact HS.out.below | with_reducible refine aC ?_ auQ _)) : P := h
theorem AU {P:Prop} (h:P:=by first | exact hq | exact hq.out | exact ah (ak (aj _) _) hq) : P := h
theorem T5 {P:Prop} (h:P:=by simp [Value.ownBlock]) : P := h
theorem EG {P:Prop} (h:P:=by have:=hF y hy;dsimp only;omega) : P := h
theorem avp {P:Prop} (h:P:=by simpa using h) : P := h
theorem Io {P:Prop} (h:P:=by first | exact Nat.le_refl _ | (simp [World.setCell];done) | (simp [World.setCell];omega)) : P := h
theorem Ip {P:Prop} (h:P:=by dsimp only;first | omega | (have:=ry.lt;omega)) : P := h
theorem avs {P:Prop} (h:P:=by have:=h.below.size;omega) : P := h
theorem T6 {P:Prop} (h:P:=by unfold jG;with_reducible exact (ak mq _)) : P := h
theorem avv {P:Prop} (h:P:=by simpa using hi) : P := h
theorem C8 {P:Prop} (h:P:=by rw [HE.out];simp) : P := h
theorem T7 {P:Prop} (h:P:=by have:=HS.out;simpa [List.append_assoc] using this) : P := h
theorem ZA {P:Prop} (h:P:=by have:=ha.out;have:=hm.out;omega) : P := h
theorem Ak {P:Prop} (h:P:=by rw [List.length_take];omega) : P := h
theorem avJ {P:Prop} (h:P:=by have:=aM.size;(try simp);omega) : P := h
theorem Rs {P:Prop} (h:P:=by have:=aM.size;simp;omega) : P := h
theorem EH {P:Prop} (h:P:=by rw [List.length_map,HJ.out];omega) : P := h
theorem ni {P:Prop} (h:P:=by have:=bw.size;omega) : P := h
theorem avU {P:Prop} (h:P:=by have:=hg.size;simpa using this) : P := h
theorem avV {P:Prop} (h:P:=by unfold mr;rw [cS,cO]) : P := h
theorem avX {P:Prop} (h:P:=by unfold Em;rw [eh];simp) : P := h
theorem avY {P:Prop} (h:P:=by unfold Em;rw [ie];simp) : P := h
theorem avZ {P:Prop} (h:P:=by unfold Em;simp [hh2]) : P := h
theorem av1 {P:Prop} (h:P:=by unfold Em;simp [hh1]) : P := h
theorem av2 {P:Prop} (h:P:=by rw [sG ap,xd];rfl) : P := h
theorem Rv {P:Prop} (h:P:=by dsimp only;first | omega | (have:=jx.lt;omega)) : P := h
theorem Ry {P:Prop} (h:P:=by repeat (first | with_reducible exact iY.out | with_reducible refine ai.setCell ?_ Rp _)) : P := h
theorem Rz {P:Prop} (h:P:=by repeat (first | with_reducible exact RZ.out | with_reducible refine ai.setCell ?_ Rp _)) : P := h
theorem av6 {P:Prop} (h:P:=by repeat (first | with_reducible exact HO.out | with_reducible refine ai.setCell ?_ bx _)) : P := h
theorem tw {P:Prop} (h:P:=by simp [Act.eval,Act.put]) : P := h
theorem T9 {P:Prop} (h:P:=by unfold KF;rw [iB]) : P := h
theorem RA {P:Prop} (h:P:=by rw [h] at hr;cases hr) : P := h
theorem Iq {P:Prop} (h:P:=by rw [List.length_drop];omega) : P := h
theorem awC {P:Prop} (h:P:=by rw [hu.out,hv.out];exact Nat.le_refl _) : P := h
theorem awD {P:Prop} (h:P:=by have:=hE.out;simpa [List.append_assoc] using this) : P := h
theorem awE {P:Prop} (h:P:=by rw [HR.out,HST.out,List.append_assoc]) : P := h
theorem awF {P:Prop} (h:P:=by rw [List.append_nil];exact hS) : P := h
theorem awG {P:Prop} (h:P:=by rw [cell_of_row _ _ _ _ _ _ (heap_alloc_new wr _)];rfl) : P := h
theorem NM {P:Prop} (h:P:=by rw [List.length_map];exact hl) : P := h
theorem RB {P:Prop} (h:P:=by rw [YC ap HP.out];exact dC) : P := h
theorem RC {P:Prop} (h:P:=by have:=bu.size;simp;omega) : P := h
theorem awM {P:Prop} (h:P:=by intro e;have:=hr _ e.symm;have:=hF y hy;omega) : P := h
theorem awN {P:Prop} (h:P:=by have:=aM.size;have:=bs.size;(try simp);omega) : P := h
theorem eD {P:Prop} (h:P:=by first | exact pI | (dsimp only;omega)) : P := h
theorem wX {P:Prop} (h:P:=by rw [Addr.add_lit];exact cg.block (wn.heap.size+1) (by simp) T5) : P := h
theorem xa {P:Prop} (h:P:=by rw [Addr.add_lit];exact (cg.block wn.heap.size (by simp;omega) T5).trans (heap_alloc_old _ _ (by simp))) : P := h
theorem awR {P:Prop} (h:P:=by have:=nZ.out.size;have:=bw.size;omega) : P := h
theorem ZH {P:Prop} (h:P:=by rw [List.length_append,HJ.out];rfl) : P := h
theorem RE {P:Prop} (h:P:=by rw [List.length_map,pp.out,Nat.mul_one]) : P := h
theorem Hy {P:Prop} (h:P:=by repeat (first | with_reducible exact lj.out | with_reducible refine ai.setCell ?_ bx _)) : P := h
theorem Cz {P:Prop} (h:P:=by rw [List.length_take,cM];omega) : P := h
theorem aGO {P:Prop} (h:P:=by have:=HJ.out;omega) : P := h
theorem uB {P:Prop} (h:P:=by first | exact mL | (dsimp only;omega)) : P := h
theorem Ih {P:Prop} (h:P:=by simpa using hk) : P := h
theorem ZJ {P:Prop} (h:P:=by repeat (first | with_reducible exact hO | with_reducible refine ai.setCell ?_ bx _)) : P := h
theorem ZP {P:Prop} (h:P:=by repeat (first | with_reducible exact hB | with_reducible refine aC ?_ bx _)) : P := h
theorem Lc {P:Prop} (h:P:=by rw [HR.out];simp) : P := h
theorem yW {P:Prop} (h:P:=by rw [List.getElem?_append_right aGO,show jj - s1.length = 0 by have:=HJ.out;omega];rfl) : P := h
theorem ZW {P:Prop} (h:P:=by repeat (first | with_reducible exact hO | with_reducible refine ai.setCell ?_ bx _ | with_reducible refine ai.alloc ?_ _)) : P := h
theorem ZY {P:Prop} (h:P:=by repeat (first | with_reducible exact hB | with_reducible refine aC ?_ bx _ | with_reducible refine ak ?_ _)) : P := h
theorem AG {P:Prop} (h:P:=by repeat (first | with_reducible exact xe.out.below | with_reducible refine aC ?_ bx _)) : P := h
theorem T' {P:Prop} (h:P:=by unfold bt;dsimp only;omega) : P := h
theorem Rg {P:Prop} (h:P:=by rw [bE];exact vP oD.out (B':=w.heap.size+1+1+1) (by omega)) : P := h
theorem aG0 {P:Prop} (h:P:=by repeat (first | with_reducible exact si.out | with_reducible refine ai.setCell ?_ bx _ | with_reducible refine ax7 ?_ nX.out)) : P := h
theorem T4 {P:Prop} (h:P:=by rw [nj (row:=cE) (S:=2) (λ_=>rfl),HJ.out]) : P := h
theorem Tc {P:Prop} (h:P:=by rw [List.length_take,AW.out];omega) : P := h
theorem T0 {P:Prop} (h:P:=by rw [nj (row:=iZ) (S:=3) (λ_=>rfl),HJ.out]) : P := h
theorem TZ {P:Prop} (h:P:=by rw [nj (row:=ix) (S:=4) (λ_=>rfl),HJ.out]) : P := h
theorem QN {P:Prop} (h:P:=by simpa using h2) : P := h
theorem RF {P:Prop} (h:P:=by rw [fG];exact eM) : P := h
theorem AZ {P:Prop} (h:P:=by have:=RG.out;rw [HN.out] at this;exact this) : P := h
theorem RK {P:Prop} (h:P:=by rw [List.length_drop,cM];omega) : P := h
theorem Z' {P:Prop} (h:P:=by rw [Jf.out,HI.out];exact cW.out) : P := h
theorem Ug {P:Prop} (h:P:=by simp [World.setCell,Array.getElem?_modify,h]) : P := h
theorem Uh {P:Prop} (h:P:=by repeat (first | with_reducible exact Gr.refl _ | with_reducible refine Gr.alloc ?_ _ | with_reducible refine Gr.drew ?_)) : P := h
theorem Ui {P:Prop} (h:P:=by unfold jG;with_reducible exact (aC (p:=⟨wr.heap.size,5,none⟩) (aC (p:=⟨wr.heap.size,4,none⟩) (aC (p:=⟨wr.heap.size,3,none⟩) (aC (p:=⟨wr.heap.size,2,none⟩) (aC (p:=⟨wr.heap.size,1,none⟩) (aC (p:=⟨wr.heap.size,0,none⟩) bo pJ (.slice Nj r.O.length Nk)) pJ (.slice SB r.M.length SC)) pJ (.int .i64 r.next)) pJ (.int .i64 r.weights.pack)) pJ (.int .i64 r.weights.spread)) pJ (.int .i64 r.weights.soft))) : P := h
theorem Uj {P:Prop} (h:P:=by rw [HE.out,List.getElem?_map,List.getElem?_append_right aGO,show jj - s1.length = 0 by have:=HJ.out;omega];rfl) : P := h
theorem ay {W w1:World} (hb:Below W.heap.size W w1):(∀b o,b < W.heap.size->w1.cell? ⟨b,o,none⟩ = W.cell? ⟨b,o,none⟩)/\(∀b o,b < W.heap.size->w1.frozen? ⟨b,o,none⟩ = W.frozen? ⟨b,o,none⟩) :=
 ⟨λb o h=>hb.cell (p:=⟨b,o,none⟩) h,λb o h=>hb.frozen (p:=⟨b,o,none⟩) h⟩
theorem aj (w:World):Below w.heap.size w w:=Below.refl _ _
theorem ah {w w1 w2:World} (h:Below w.heap.size w w1) (k:Below w1.heap.size w1 w2):Below w.heap.size w w2:=h.trans (k.mono h.size)
theorem ak {w w1:World} (h:Below w.heap.size w w1) (o:Obj):Below w.heap.size w (w1.alloc o):=h.alloc h.size o
theorem aA {w w1:World} (h:Below w.heap.size w w1):Below w.heap.size w w1.drew:=h.drew
theorem aC {w w1:World} (h:Below w.heap.size w w1) {p:Addr} (hp:w.heap.size<=p.block) (u:Value):Below w.heap.size w (w1.setCell p u):=h.setCell hp u
section
variable {H:Type} {enc:TypeId × Value->H} {P:Program}
theorem Zi {W W':World} (hl:laidOutB P = true) (hb:Below W.heap.size W W'):∀(ts:List TypeId) (vs:List Value) (ds:List (DataW H)) (ps:List MemPlace) (sp:Nat->Bool),
 (∀t∈ts,P.readableRec t = true/\t < P.types.size)->(∀x∈ps,x.block < W.heap.size)->(∀x∈ps,sp x.block = true) ->
 DataW.TrodAll enc P W 0 (λ_=>true) true ts vs ds ps->DataW.TrodAll enc P W' 0 sp true ts vs ds ps
 | [],[],[],ps,sp,_,_,_,h=>h
 | t :: ts,v :: vs,d :: ds,ps,sp,ht,ap,iC,h=>by
   obtain ⟨p,q,h1,h2,rfl⟩:=h;refine ⟨p,q,?_,Zi hl hb ts vs ds q sp (λt' h'=>ht t' (List.mem_cons_of_mem _ h')) (λx hx=>ap x (List.mem_append_right _ hx)) (λx hx=>iC x (List.mem_append_right _ hx)) h2,rfl⟩;obtain ⟨hr,hs⟩:=ht t (List.mem_cons_self ..);exact WideElems.Trod_stays hl hr hs h1 (λx hx=>hb.same (ap x (List.mem_append_left _ hx))) (λx hx=>iC x (List.mem_append_left _ hx))
 | [],_ :: _,_,_,_,_,_,_,h=>by simp [DataW.TrodAll] at h
 | [],[],_ :: _,_,_,_,_,_,h=>by simp [DataW.TrodAll] at h
 | _ :: _,[],_,_,_,_,_,_,h=>by simp [DataW.TrodAll] at h
 | _ :: _,_ :: _,[],_,_,_,_,_,h=>by simp [DataW.TrodAll] at h
theorem nO {f:Func} {s:ChangeSpec} {apart fresh handsOn:Bool} {W W':World} {args:Array Value} {ds gs:List (DataW H)} {before:List MemPlace} {tb:TypeId}
 (hl:laidOutB P = true) (hr:∀t∈f.params.toList,P.readableRec t = true/\t < P.types.size) (htb:f.resultTypes = #[tb]) (RL:P.underlying tb = some .bool)
 (Bb:s.vars = []) (mZ:s.fn H ds = { results:=[.lit (.bool true)],args:=ds,vars:=[] })
 (hW:DataW.Whole enc P f.params.toList s.vars apart W args.toList ds gs before) (hb:Below W.heap.size W W') :
 s.post enc P f apart fresh handsOn false W args (.bool true) W':=by
 have ap:∀p∈before,p.block < W.heap.size:=λp hp=>hW.lt p hp;have nk:=hW;obtain ⟨p,q,hA,hV,rfl,hz,hn⟩:=nk;rw [Bb] at hV;obtain ⟨rfl,rfl⟩:=trodVars_none hV;simp only [List.append_nil] at *;have Uk:∀(b:Nat) (sp:Nat->Bool) (hd:Bool),DataW.TrodAll enc P W' b sp hd f.resultTypes.toList ((Value.bool true).resultList f.resultTypes.size) (s.fn H (ds++[])).results []:=by intro b sp hd;rw [htb,List.append_nil,mZ];exact trodAll_cons_mk (shut_bool RL _) trodAll_mk0
 have Be:∀sp:Nat->Bool,(∀x∈p,sp x.block = true)->DataW.TrodAll enc P W' 0 sp true f.params.toList args.toList (s.fn H (ds++[])).args p:=by intro sp iC;rw [List.append_nil,mZ];exact Zi hl hb _ _ _ _ _ hr ap iC hA
 have uC:∀sp:Nat->Bool,DataW.TrodVars enc P W' sp s.vars (s.fn H (ds++[])).vars []:=by intro sp;rw [List.append_nil,mZ,Bb];rfl
 have hold:∀x∈p,(λb=>decide (b < W.heap.size)) x.block = true:=λx hx=>by simpa using ap x hx
 refine ⟨ds,[],p,[],p,[],hW,Uk _ _ _,Be _ hold,uC _,World.keptBut_mono (λx hx=>⟨hx,by simpa using hx⟩) (hb.frame (·∈p)),λhag=>by cases hag⟩
end
end Go.Proofs.YtdegaofigemegaaGreat
