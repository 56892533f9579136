/- The library's insertion sort, walked at string. No condition. -/
import Derived.Test.YtajbbmembionpaaGreatRoomK
namespace Go.Proofs.YtajbbmembionpaaGreat
open Go.ChangeShapes Go.WideShapes Go.ChangeAt Go.RowKit
set_option linter.unusedVariables false
set_option linter.unusedSimpArgs false
set_option maxHeartbeats 8000000
set_option maxRecDepth 100000
section
variable {β:Type} (nm:β→ByteArray)
def Be (cv:β→β→Int) (q1 q2:Addr) (W0:World) (b:Nat):Prop:=∀(x y:β) (w:World),nN [b] W0 w →
 Calls Tryz.prog 60 #[.string (nm x),.string (nm y),.pointer (some q1),.pointer (some q2)] w fun e w'=>e = .returned (.int .i64 (cv x y))∧Below w.heap.size w w'
theorem Yy (W0 w:World) (b o c N:Nat) (P X Q:List β) (a bb:Nat) (cv:β→β→Int) (q1 q2:Addr) (h:jJ (fun x=>[Value.string (nm x)]) 1 W0 w b o (P++(X++Q))) (hN:(P++(X++Q)).length≤N) (BI:N≤1048576) (ha:Hid (P.length = a)) (hm:Hid (a+X.length = bb)) (W:dm (kS cv)) (hc:Be nm cv q1 q2 W0 b) :
 Calls Tryz.prog 142 #[.slice (some ⟨b,o,none⟩) N c,.int .i64 a,.int .i64 bb,.func (.func 60) #[] #[.pointer (some q1),.pointer (some q2)]] w fun e w'=>e = .returned (.tuple #[])∧jJ (fun x=>[Value.string (nm x)]) 1 W0 w' b o (P++(aL (kS cv) [] X++Q)):=by
 have bR:bb≤N:=by have e1:=ha.out;have e2:=hm.out;simp only [List.length_append] at hN;omega
 have eM:a≤bb:=by have e2:=hm.out;omega
 have HC:=I hc;have HW:=I W;clear hc hN W;go_enter Tryz.func142,Tryz.ntmps142;go_wp2_with fail
 by_cases hX:X = []
 ·subst hX;have so:a = bb:=by simpa using hm.out
  subst so;go_loopw [8] (fun i wr=>i = .int .i64 ((a+1:Nat):Int)∧wr = w) (fun _ _=>0)
  case atStart=>exact ⟨N',rfl⟩
  case round =>
   obtain ⟨rfl,rfl⟩:=hrel;go_wp2;go_end0
   exact ⟨rfl,h⟩
 have Xs:1≤X.length:=by cases X with | nil=>exact absurd rfl hX | cons x X=>simp
 clear hX;go_loopw [8] (fun i wr=>∃k:Nat,1≤k∧k≤X.length∧i = .int .i64 ((a+k:Nat):Int)∧jJ (fun x=>[Value.string (nm x)]) 1 W0 wr b o (P++(aL (kS cv) [] (X.take k)++(X.drop k++Q)))) (fun i _=>bb - (intOf i).toNat)
 case atStart =>
  refine ⟨1,J,Xs,N',?_⟩;have e:aL (kS cv) [] (X.take 1)++(X.drop 1++Q) = X++Q:=by
   cases X with
   | nil=>simp at Xs
   | cons x X=>rfl
  rw [e];exact h
 case round =>
  obtain ⟨k,QB,hk,rfl,hS⟩:=hrel;by_cases aq:k < X.length
  ·obtain ⟨wo,hwo⟩:∃wo,wo = wr:=⟨_,rfl⟩;subst hwo;have Bf:a+k < bb:=(by have e2:=hm.out;omega);obtain ⟨y,hy⟩:∃y,X[k] = y:=⟨_,rfl⟩;have iJ:X.drop k = y :: X.drop (k+1):=(by rw [← hy];exact (List.getElem_cons_drop ..).symm);have fb:aL (kS cv) [] (X.take (k+1)) = OM (kS cv) y (aL (kS cv) [] (X.take k)):=(by rw [List.take_succ_eq_append_getElem aq,hy,V3]);have QD:bL (kS cv) (aL (kS cv) [] (X.take k)):=yc HW.out _ _ List.Pairwise.nil;have ju:(aL (kS cv) [] (X.take k)).length = k:=(by rw [rD,List.length_take];simp;omega);rw [iJ] at hS;have Jf:=I fb;have LJ:=I QD;clear iJ fb QD hy;generalize hSS:aL (kS cv) [] (X.take k) = SS at *;generalize QE:X.drop (k+1)++Q = RR at *;have HSS:=I hSS;have oM:=I QE;have cT:=I ju;clear hSS QE ju;go_wp2_with fail
   go_loopw [9] (fun j wr=>∃(s1 s2:List β) (jj:Nat),Hid (SS = s1++s2)∧j = .int .i64 (jj:Int)∧Hid (a+s1.length = jj)∧Hid (∀x∈s2,kS cv y x = true)∧jJ (fun x=>[Value.string (nm x)]) 1 W0 wr b o (P++(s1++(y :: (s2++RR))))) (fun j _=>(intOf j).toNat)
   case atStart =>refine ⟨SS,[],a+k,I S',rfl,I (by rw [cT.out]),I S',?_⟩;simpa [oM.out] using hS
   case round =>
    obtain ⟨s1,s2,jj,HE,rfl,HJ,HY,ce⟩:=hrel;have HU:=I ce.bI;have ax:b < wr.heap.size:=ce.plain.lt;have DP:jj < bb:=(by have e1:=HJ.out;have e2:=congrArg List.length HE.out;have e3:=cT.out;rw [List.length_append] at e2;omega);rcases List.eq_nil_or_concat s1 with rfl | ⟨s',x,rfl⟩
    ·have hja:jj = a:=(by simpa using HJ.out.symm);subst hja
     have HN:=I (show OM (kS cv) y SS = y :: s2 by
      have e1:SS = s2:=HE.out;rw [e1]
      exact UJ HW.out (y:=y) (s1:=[]) (s2:=s2) (by rw [List.nil_append,← e1];exact LJ.out) HY.out (.inl rfl))
     have HS:=I ce;clear ce;go_wp2_with fail
     refine aF wr U' U' (aj _) ?_
     repeat (first
      | (apply aG
         case hw=>rfl
         simp only [Act.put,pz])
      | (apply aH
         case hw=>rfl
         case h =>
          intro wq hq;have dC:=(aB hq).1;have lJ:=(aB hq).2;go_simp
          first
           | exact ⟨hq,rfl⟩
           | (refine (HC.out y y _ (HU.out.trans (nN.lq _ hq))).mono ?_;rintro e w2 ⟨rfl,ap⟩;exact ⟨rfl,aI hq ap⟩)
           | (simp only [↓IntWalk.iteOmega];exact ⟨hq,rfl⟩)
         simp only [Act.put,pz]))
     refine aN ?_;intro wn hn;replace hn:=hn.out;go_wp2;refine ⟨⟨k+1,J,J,N',?_⟩,by simp [intOf];omega⟩;rw [Jf.out,HN.out,oM.out];exact (HS.out).ext hn
    ·obtain ⟨jk,gh⟩:∃jk,jj = jk+1:=⟨jj - 1,by have:=HJ.out;simp at this;omega⟩;subst gh;have Ni:P.length+s'.length = jk:=(by have e1:=HJ.out;have e2:=ha.out;simp at e1;omega);have mD:a≤jk:=(by have:=ha.out;omega);have dx:jJ (fun x=>[Value.string (nm x)]) 1 W0 wr b o (P++(s'++(x :: y :: (s2++RR)))):=(by simpa only [List.concat_eq_append,List.append_assoc,List.cons_append,List.nil_append] using ce);have g1:=wY P s' (s2++RR) x y Ni;have g2:=wZ P s' (s2++RR) x y Ni;have qx:wr.cell? ⟨b,o+jk,none⟩ = some (.string (nm x)):=(by have:=dx.tab _ x g1 0 _ rfl;simpa using this);have qy:wr.cell? ⟨b,o+(jk+1),none⟩ = some (.string (nm y)):=(by have:=dx.tab _ y g2 0 _ rfl;simpa using this);have qf:=dx.plain.frozen;have HP:=I Ni;have HS:=I dx;clear ce dx g1 g2 Ni;have hdj:decide ((a:Int) < (jk:Int)+1) = true:=(by simp;omega);have wB:IntKind.i64.wrap (jk:Int) = jk:=IntWalk.i64_in _ J;cases hcv:decide (cv y x < 0) with
     | true =>
       go_wp2_with fail
       refine aF wr U' U' (aj _) ?_
       repeat ((first | refine aG O ?_ | refine aH _ O uk ?_);simp only [Act.put,pz])
       refine aN ?_;intro wn hn;replace hn:=hn.out;go_wp2_with fail
       clear qx qy qf HU ax;have Dl:=HS.out.ext hn;have qx:wn.cell? ⟨b,o+jk,none⟩ = some (.string (nm x)):=(by have:=Dl.tab _ x (wY P s' (s2++RR) x y HP.out) 0 _ rfl;simpa using this);have qy:wn.cell? ⟨b,o+(jk+1),none⟩ = some (.string (nm y)):=(by have:=Dl.tab _ y (wZ P s' (s2++RR) x y HP.out) 0 _ rfl;simpa using this);have qf:=Dl.plain.frozen;have ql:=Dl.plain.lt;have HSn:=I Dl;have HCV:=I hcv;clear Dl hcv;go_region
       go_wp2;have h2:=HSn.out.swap_ (fun _=>rfl) (wZ P s' (s2++RR) x y HP.out) (wY P s' (s2++RR) x y HP.out);rw [V7 P s' (s2++RR) x y HP.out,Nat.mul_one,Nat.mul_one] at h2;refine ⟨⟨s',x :: s2,jk,I yL,rfl,I (by rw [← HP.out,ha.out]),I ?_,jJ.ext h2 (aA (aj _))⟩,by simp [intOf]⟩;intro z hz;rcases List.mem_cons.1 hz with rfl | hz
       ·exact HCV.out
       ·exact HY.out z hz
     | false =>
       go_wp2_with fail
       refine aF wr U' U' (aj _) ?_
       repeat ((first | refine aG O ?_ | refine aH _ O uk ?_);simp only [Act.put,pz])
       refine aN ?_;intro wn hn;replace hn:=hn.out;go_wp2;have BI:OM (kS cv) y SS = (s'++[x])++y :: s2:=by have e1:SS = (s'++[x])++s2:=(by rw [HE.out];simp);rw [e1];exact UJ HW.out (by rw [← e1];exact LJ.out) HY.out (.inr ⟨s',x,rfl,hcv⟩)
       refine ⟨⟨k+1,J,J,N',?_⟩,by simp [intOf];omega⟩;rw [Jf.out,BI,oM.out];have h2:=HS.out.ext hn;simpa only [List.append_assoc,List.cons_append,List.nil_append] using h2
  ·have bB:k = X.length:=J;subst bB;rw [hm.out,List.take_length,List.drop_length,List.nil_append] at *;go_wp2;go_end0
   exact ⟨rfl,hS⟩
end
section
variable {β:Type} (nm:β→ByteArray)
theorem aht (W0 w:World) (b o c N:Nat) (P R Q:List β) (x:β) (a bb:Nat) (cv:β→β→Int) (q1 q2:Addr) (h:jJ (fun x=>[Value.string (nm x)]) 1 W0 w b o (P++(x :: (R++Q)))) (hN:(P++(x :: (R++Q))).length≤N) (BI:N≤1048576) (ha:Hid (P.length = a)) (hm:Hid (a+1+R.length = bb)) (W:dm (kS cv)) (hR:bL (kS cv) R) (hc:Be nm cv q1 q2 W0 b) :
 Calls Tryz.prog 143 #[.slice (some ⟨b,o,none⟩) N c,.int .i64 a,.int .i64 ((a+1:Nat):Int),.int .i64 bb,.func (.func 60) #[] #[.pointer (some q1),.pointer (some q2)]] w fun e w'=>e = .returned (.tuple #[])∧jJ (fun x=>[Value.string (nm x)]) 1 W0 w' b o (P++(fO (kS cv) [x] R++Q)):=by
 have bR:bb≤N:=by have e1:=ha.out;have e2:=hm.out;simp only [List.length_append,List.length_cons] at hN;omega
 have eM:a+1≤bb:=by have e2:=hm.out;omega
 have HC:=I hc;have HW:=I W;have HR:=I hR;clear hc hN W hR;go_enter Tryz.func143,Tryz.ntmps143;go_wp2_with fail
 go_loopw [10,11] (fun i j wr=>∃u v i0 j0:Nat,u≤v∧v≤R.length∧i = .int .i64 (i0:Int)∧j = .int .i64 (j0:Int)∧Hid (a+1+u = i0)∧Hid (a+1+v = j0)∧Hid (∀y∈R.take u,kS cv y x = true)∧Hid (∀y∈R.drop v,kS cv y x = false)∧jJ (fun x=>[Value.string (nm x)]) 1 W0 wr b o (P++(x :: (R++Q)))) (fun i j _=>(intOf j - intOf i).toNat)
 case atStart =>have e2:=hm.out;exact ⟨0,R.length,a+1,bb,J,J,rfl,rfl,I rfl,hm,I S',I S',h⟩
 case round =>
  obtain ⟨u,v,i0,j0,huv,hv,rfl,rfl,HI,HJ,HY,HN,hS⟩:=hrel;by_cases aq:u < v
  ·have nE:i0 < j0:=(by have:=HI.out;have:=HJ.out;omega);have DP:j0≤bb:=(by have:=HJ.out;have:=hm.out;omega);have LS:a+1≤i0:=(by have:=HI.out;omega);obtain ⟨t,ht⟩:∃t:Nat,(i0+j0) / 2 = t:=⟨_,rfl⟩;have Tn:i0≤t:=J;have To:t < j0:=J;obtain ⟨k,hk⟩:∃k,a+1+k = t:=⟨t - (a+1),J⟩;have xR:k < R.length:=(by have:=hm.out;omega);have Tp:u≤k:=(by have:=HI.out;omega);have CA:k < v:=(by have:=HJ.out;omega);have cr:R[k]? = some R[k]:=List.getElem?_eq_getElem xR;obtain ⟨y,hy⟩:∃y,R[k] = y:=⟨_,rfl⟩;have MV:(P++(x :: (R++Q)))[t]? = some y:=by
    rw [List.getElem?_append_right CB,show t - P.length = k+1 by have:=ha.out;omega,List.getElem?_cons_succ,List.getElem?_append_left xR,cr,hy]
   have vG:(P++(x :: (R++Q)))[a]? = some x:=by rw [List.getElem?_append_right CB,show a - P.length = 0 by have:=ha.out;omega];rfl
   have qx:wr.cell? ⟨b,o+a,none⟩ = some (.string (nm x)):=(by have:=hS.tab _ x vG 0 _ rfl;simpa using this);have qy:wr.cell? ⟨b,o+t,none⟩ = some (.string (nm y)):=(by have:=hS.tab _ y MV 0 _ rfl;simpa using this);have HU:=I hS.bI;have ax:b < wr.heap.size:=hS.plain.lt;have HS:=I hS;have HK:=I hk;have CC:((i0:Int)+j0) / 2 = t:=J;have eJ:=I (fun h:kS cv y x = true=>acA HW.out HR.out xR (by rw [hy];exact h));have Gn:=I (fun h:kS cv y x = false=>ad7 HW.out HR.out xR (by rw [hy];exact h));clear hS cr MV vG ht hk hy;cases hcv:decide (cv y x < 0) with
   | true =>exact Ia
   | false =>exact Ib
  ·have DQ:v = u:=J;subst DQ;have DS:j0 = i0:=(by have:=HI.out;have:=HJ.out;omega);subst DS;have HM:=I (Yw HY.out HN.out);have LS:a+1≤j0:=(by have:=HI.out;omega);have DP:j0≤bb:=(by have:=HJ.out;have:=hm.out;omega);obtain ⟨wo,hwo⟩:∃wo,wo = wr:=⟨_,rfl⟩;subst hwo;clear HJ HY HN;go_wp2_with fail
   go_loopw [13] (fun k wr=>∃s k0:Nat,s≤v∧k = .int .i64 (k0:Int)∧Hid (a+s = k0)∧jJ (fun x=>[Value.string (nm x)]) 1 W0 wr b o (P++(R.take s++(x :: (R.drop s++Q))))) (fun k _=>j0 - (intOf k).toNat)
   case atStart=>exact ⟨0,a,J,rfl,I rfl,by simpa using hS⟩
   case round =>
    obtain ⟨s,k0,hs,rfl,HK,ce⟩:=hrel;by_cases aq:s < v
    ·have eV:(k0:Int) < j0 - 1:=(by have:=HI.out;have:=HK.out;omega);have hkb:k0+1 < bb:=J;have hsR:s < R.length:=J;obtain ⟨y,hy⟩:∃y,R[s] = y:=⟨_,rfl⟩;have iJ:R.drop s = y :: R.drop (s+1):=(by rw [← hy];exact (List.getElem_cons_drop ..).symm);have qD:R.take (s+1) = R.take s++[y]:=(by rw [← hy];exact List.take_succ_eq_append_getElem hsR);rw [iJ] at ce;have dx:jJ (fun x=>[Value.string (nm x)]) 1 W0 wr b o (P++(R.take s++(x :: y :: (R.drop (s+1)++Q)))):=ce;have tQ:P.length+(R.take s).length = k0:=(by rw [List.length_take];have:=HK.out;have:=ha.out;omega);have g1:=wY P (R.take s) (R.drop (s+1)++Q) x y tQ;have g2:=wZ P (R.take s) (R.drop (s+1)++Q) x y tQ;have qx:wr.cell? ⟨b,o+k0,none⟩ = some (.string (nm x)):=(by have:=dx.tab _ x g1 0 _ rfl;simpa using this);have qy:wr.cell? ⟨b,o+(k0+1),none⟩ = some (.string (nm y)):=(by have:=dx.tab _ y g2 0 _ rfl;simpa using this);have qf:=dx.plain.frozen;have ql:=dx.plain.lt;have h2:=dx.swap_ (fun _=>rfl) g1 g2;rw [ajh P (R.take s) (R.drop (s+1)++Q) x y tQ,Nat.mul_one,Nat.mul_one] at h2;have H2:=I h2;have QF:=I qD;clear ce dx h2 qD iJ tQ g1 g2 hy;go_wp2_with fail
     go_region
     go_wp2;refine ⟨⟨s+1,k0+1,J,N',I LW,?_⟩,by simp [intOf];omega⟩;have h3:=jJ.ext H2.out (aA (aj _));rw [QF.out,show P++((R.take s++[y])++(x :: (R.drop (s+1)++Q))) = P++(R.take s++(y :: x :: (R.drop (s+1)++Q))) by simp only [List.append_assoc,List.cons_append,List.nil_append]];exact h3
    ·have Ag:s = v:=J;subst Ag;have eV:(j0:Int) - 1≤k0:=(by have:=HI.out;have:=HK.out;omega);exact Gx
theorem aeQ (W0 w:World) (b o c N:Nat) (P L Q:List β) (y:β) (a m:Nat) (cv:β→β→Int) (q1 q2:Addr) (h:jJ (fun x=>[Value.string (nm x)]) 1 W0 w b o (P++(L++(y :: Q)))) (hN:(P++(L++(y :: Q))).length≤N) (BI:N≤1048576) (ha:Hid (P.length = a)) (hm:Hid (a+L.length = m)) (h2:2≤L.length) (W:dm (kS cv)) (hL:bL (kS cv) L) (hc:Be nm cv q1 q2 W0 b) :
 Calls Tryz.prog 143 #[.slice (some ⟨b,o,none⟩) N c,.int .i64 a,.int .i64 m,.int .i64 ((m+1:Nat):Int),.func (.func 60) #[] #[.pointer (some q1),.pointer (some q2)]] w fun e w'=>e = .returned (.tuple #[])∧jJ (fun x=>[Value.string (nm x)]) 1 W0 w' b o (P++(fO (kS cv) L [y]++Q)):=by
 have bR:m+1≤N:=by have e1:=ha.out;have e2:=hm.out;simp only [List.length_append,List.length_cons] at hN;omega
 have eM:a+2≤m:=by have e2:=hm.out;omega
 have HC:=I hc;have HW:=I W;have HL:=I hL;have QG:((m:Int) - a == 1) = false:=by simp;omega
 clear hc hN W hL;go_enter Tryz.func143,Tryz.ntmps143;go_wp2_with fail
 go_loopw [14,15] (fun i j wr=>∃u v i0 j0:Nat,u≤v∧v≤L.length∧i = .int .i64 (i0:Int)∧j = .int .i64 (j0:Int)∧Hid (a+u = i0)∧Hid (a+v = j0)∧Hid (∀x∈L.take u,kS cv y x = false)∧Hid (∀x∈L.drop v,kS cv y x = true)∧jJ (fun x=>[Value.string (nm x)]) 1 W0 wr b o (P++(L++(y :: Q)))) (fun i j _=>(intOf j - intOf i).toNat)
 case atStart =>have e2:=hm.out;exact ⟨0,L.length,a,m,J,J,rfl,rfl,I rfl,hm,I S',I S',h⟩
 case round =>
  obtain ⟨u,v,i0,j0,huv,hv,rfl,rfl,HI,HJ,HY,HN,hS⟩:=hrel;by_cases aq:u < v
  ·have nE:i0 < j0:=(by have:=HI.out;have:=HJ.out;omega);have DP:j0≤m:=(by have:=HJ.out;have:=hm.out;omega);have LS:a≤i0:=(by have:=HI.out;omega);obtain ⟨t,ht⟩:∃t:Nat,(i0+j0) / 2 = t:=⟨_,rfl⟩;have Tn:i0≤t:=J;have To:t < j0:=J;obtain ⟨k,hk⟩:∃k,a+k = t:=⟨t - a,J⟩;have xP:k < L.length:=(by have:=hm.out;omega);have Tp:u≤k:=(by have:=HI.out;omega);have CA:k < v:=(by have:=HJ.out;omega);have qm:L[k]? = some L[k]:=List.getElem?_eq_getElem xP;obtain ⟨x,hx⟩:∃x,L[k] = x:=⟨_,rfl⟩;have vG:(P++(L++(y :: Q)))[t]? = some x:=by
    rw [List.getElem?_append_right CB,show t - P.length = k by have:=ha.out;omega,List.getElem?_append_left xP,qm,hx]
   have MV:(P++(L++(y :: Q)))[m]? = some y:=by rw [List.getElem?_append_right CB,List.getElem?_append_right Tr,show m - P.length - L.length = 0 by have:=ha.out;have:=hm.out;omega];rfl
   have qx:wr.cell? ⟨b,o+t,none⟩ = some (.string (nm x)):=(by have:=hS.tab _ x vG 0 _ rfl;simpa using this);have qy:wr.cell? ⟨b,o+m,none⟩ = some (.string (nm y)):=(by have:=hS.tab _ y MV 0 _ rfl;simpa using this);have HU:=I hS.bI;have ax:b < wr.heap.size:=hS.plain.lt;have HS:=I hS;have HK:=I hk;have CC:((i0:Int)+j0) / 2 = t:=J;have eJ:=I (fun h:kS cv y x = false=>acB HW.out HL.out xP (by rw [hx];exact h));have Gn:=I (fun h:kS cv y x = true=>Z9 HW.out HL.out xP (by rw [hx];exact h));clear hS qm MV vG ht hk hx;cases hcv:decide (cv y x < 0) with
   | false =>exact Ia
   | true =>exact Ib
  ·have DQ:v = u:=J;subst DQ;have DS:j0 = i0:=(by have:=HI.out;have:=HJ.out;omega);subst DS;have HM:=I (WR HY.out HN.out);have LS:a≤j0:=(by have:=HI.out;omega);have DP:j0≤m:=(by have:=HJ.out;have:=hm.out;omega);obtain ⟨wo,hwo⟩:∃wo,wo = wr:=⟨_,rfl⟩;subst hwo;clear HJ HY HN;go_wp2_with fail
   go_loopw [17] (fun k wr=>∃s k0:Nat,v≤s∧s≤L.length∧k = .int .i64 (k0:Int)∧Hid (a+s = k0)∧jJ (fun x=>[Value.string (nm x)]) 1 W0 wr b o (P++(L.take s++(y :: (L.drop s++Q))))) (fun k _=>(intOf k).toNat)
   case atStart=>exact ⟨L.length,m,hv,J,rfl,hm,by simpa using hS⟩
   case round =>
    obtain ⟨s,k1,cX,hs,rfl,HK,ce⟩:=hrel;by_cases aq:v < s
    ·obtain ⟨s,rfl⟩:∃s',s = s'+1:=⟨s - 1,J⟩;obtain ⟨k0,rfl⟩:∃k',k1 = k'+1:=⟨k1 - 1,by have:=HK.out;omega⟩;have eV:(j0:Int) < k0+1:=(by have:=HI.out;have:=HK.out;omega);have hkb:k0+1≤m:=(by have:=HK.out;have:=hm.out;omega);have hsL:s < L.length:=J;obtain ⟨x,hx⟩:∃x,L[s] = x:=⟨_,rfl⟩;have iJ:L.drop s = x :: L.drop (s+1):=(by rw [← hx];exact (List.getElem_cons_drop ..).symm);have qD:L.take (s+1) = L.take s++[x]:=(by rw [← hx];exact List.take_succ_eq_append_getElem hsL);rw [qD] at ce;have dx:jJ (fun x=>[Value.string (nm x)]) 1 W0 wr b o (P++(L.take s++(x :: y :: (L.drop (s+1)++Q)))):=by
      have e:P++((L.take s++[x])++(y :: (L.drop (s+1)++Q))) = P++(L.take s++(x :: y :: (L.drop (s+1)++Q))):=(by simp only [List.append_assoc,List.cons_append,List.nil_append]);rw [← e];exact ce
     have tQ:P.length+(L.take s).length = k0:=(by rw [List.length_take];have:=HK.out;have:=ha.out;omega);have g1:=wY P (L.take s) (L.drop (s+1)++Q) x y tQ;have g2:=wZ P (L.take s) (L.drop (s+1)++Q) x y tQ;have qx:wr.cell? ⟨b,o+k0,none⟩ = some (.string (nm x)):=(by have:=dx.tab _ x g1 0 _ rfl;simpa using this);have qy:wr.cell? ⟨b,o+(k0+1),none⟩ = some (.string (nm y)):=(by have:=dx.tab _ y g2 0 _ rfl;simpa using this);have qf:=dx.plain.frozen;have ql:=dx.plain.lt;have h2:=dx.swap_ (fun _=>rfl) g2 g1;rw [V7 P (L.take s) (L.drop (s+1)++Q) x y tQ,Nat.mul_one,Nat.mul_one] at h2;have H2:=I h2;have HDR:=I iJ;clear ce dx h2 qD iJ tQ g1 g2 hx;go_wp2_with fail
     go_region
     go_wp2;refine ⟨⟨s,k0,J,J,N',I LW,?_⟩,by simp [intOf]⟩;have h3:=jJ.ext H2.out (aA (aj _));rw [HDR.out];exact h3
    ·have Ag:s = v:=J;subst Ag;have hkj:k1 = j0:=(by have:=HI.out;have:=HK.out;omega);subst hkj;exact Gx
end
structure Eb where
 name:ByteArray
 la:Option Addr
 ln:Nat
 lc:Nat
 av:Int
 mem:Int
 ar:Int
 na:Option Addr
 nn:Nat
 nc:Nat
 ta:Option Addr
 tn:Nat
 tc:Nat
 on:ByteArray
 seq:Int
def tH (x:Eb):List Value:=[.string x.name,.slice x.la x.ln x.lc,.int .i64 x.av,.int .i64 x.mem,.int .i64 x.ar,.slice x.na x.nn x.nc,.slice x.ta x.tn x.tc,.string x.on,.int .i64 x.seq]
section
end
abbrev Bu:=ByteArray × Int × Int
def Yj (a b:Bu):List Int:=[Lib.compareInt b.2.1 a.2.1,Lib.compareInt a.2.2 b.2.2]
def pT (a b:Bu):Int:=Qa (Yj a b)
def Kh (p:af):Bu:=(p.aS.name,p.aS.ar,p.seq)
def jh (ps:List af):List Bu:=(ps.filter fun p=>p.on.toList == []).map Kh
def GI (ps:List af):List ByteArray:=(aL (kS pT) [] (jh ps)).map fun k=>k.1
theorem alD (a b:Bu):kS pT a b = true↔b.2.1 < a.2.1∨(a.2.1 = b.2.1∧a.2.2 < b.2.2):=by
 unfold kS pT Yj Qa Qa;rw [decide_eq_true_eq];unfold Lib.compareInt;by_cases h1:b.2.1 < a.2.1
 ·simp [h1]
 ·by_cases h2:a.2.1 < b.2.1
  ·simp [h1,h2];omega
  ·have h3:a.2.1 = b.2.1:=J;simp [h3,Qa];by_cases h4:a.2.2 < b.2.2
   ·simp [h4]
   ·by_cases h5:b.2.2 < a.2.2
    ·simp [h4,h5]
    ·simp [h4,h5]
theorem anD {ps:List af} {k:Nat} (h:k < ps.length) (hp:(ps[k].on.toList == []) = true):jh (ps.take (k+1)) = jh (ps.take k)++[Kh ps[k]]:=by
 have e:List.filter (fun p:af=>p.on.toList == []) [ps[k]] = [ps[k]]:=List.filter_eq_self.2 fun a ha=>by rw [List.mem_singleton.1 ha];exact hp
 unfold jh;rw [List.take_succ_eq_append_getElem h,List.filter_append,List.map_append,e];rfl
theorem apO {ps:List af} {k:Nat} (h:k < ps.length) (hp:(ps[k].on.toList == []) = false):jh (ps.take (k+1)) = jh (ps.take k):=by
 have e:List.filter (fun p:af=>p.on.toList == []) [ps[k]] = []:=List.filter_eq_nil_iff.2 fun a ha=>by rw [List.mem_singleton.1 ha,hp];simp
 unfold jh;rw [List.take_succ_eq_append_getElem h,List.filter_append,List.map_append,e];simp
theorem anF (ps:List af):(jh ps).length≤ps.length:=by unfold jh;rw [List.length_map];exact List.length_filter_le _ _
theorem ap3 (ps:List af):(GI ps).length≤ps.length:=by unfold GI;rw [List.length_map,rD];have:=anF ps;simp;omega
section
variable {β:Type} (nm:β→ByteArray)
theorem Xt (K:Nat):∀(W0 w:World) (b o c N:Nat) (P L R Q:List β) (a m bb:Nat) (cv:β→β→Int) (q1 q2:Addr) (h:jJ (fun x=>[Value.string (nm x)]) 1 W0 w b o (P++(L++(R++Q)))) (hN:(P++(L++(R++Q))).length≤N) (BI:N≤1048576) (ha:Hid (P.length = a)) (hm:Hid (a+L.length = m)) (hb:Hid (m+R.length = bb)) (h1:0 < L.length) (h2:0 < R.length) (W:dm (kS cv)) (hL:bL (kS cv) L) (hR:bL (kS cv) R) (hc:Be nm cv q1 q2 W0 b) (hK:L.length+R.length≤K),
 Calls Tryz.prog 143 #[.slice (some ⟨b,o,none⟩) N c,.int .i64 a,.int .i64 m,.int .i64 bb,.func (.func 60) #[] #[.pointer (some q1),.pointer (some q2)]] w fun e w'=>e = .returned (.tuple #[])∧jJ (fun x=>[Value.string (nm x)]) 1 W0 w' b o (P++(fO (kS cv) L R++Q)):=by
 induction K with
 | zero=>intro W0 w b o c N P L R Q a m bb cv q1 q2 h hN BI ha hm hb h1 h2 W hL hR hc hK;omega
 | succ K ih =>
   intro W0 w b o c N P L R Q a m bb cv q1 q2 h hN BI ha hm hb h1 h2 W hL hR hc hK;by_cases qm:L.length = 1
   ·obtain ⟨x,rfl⟩:=List.length_eq_one_iff.1 qm;have e:m = a+1:=(by simpa using hm.out.symm);subst e;exact aht nm W0 w b o c N P R Q x a bb cv q1 q2 h hN BI ha hb W hR hc
   by_cases cr:R.length = 1
   ·obtain ⟨y,rfl⟩:=List.length_eq_one_iff.1 cr;have e:bb = m+1:=(by simpa using hb.out.symm);subst e;exact aeQ nm W0 w b o c N P L Q y a m cv q1 q2 h hN BI ha hm J W hL hc
   have Kc:(P++(L++(R++Q))).length = P.length+L.length+R.length+Q.length:=(by simp only [List.length_append];omega);have HN:=I (show P.length+L.length+R.length+Q.length≤N by omega);have bR:bb≤N:=(by have:=HN.out;have:=ha.out;have:=hm.out;have:=hb.out;omega);have hLL:2≤L.length:=J;have QE:2≤R.length:=J;have ham:a+2≤m:=(by have:=hm.out;omega);have hmb:m+2≤bb:=(by have:=hb.out;omega);have HC:=I hc;have HW:=I W;have cT:=I hL;have CD:=I hR;have Om:=I hK;have CE:=I ih;have QG:((m:Int) - a == 1) = false:=(by simp;omega);have rR:((bb:Int) - m == 1) = false:=(by simp;omega);obtain ⟨eR,hmid⟩:∃eR:Nat,(a+bb) / 2 = eR:=⟨_,rfl⟩;have hmI:((a:Int)+bb) / 2 = eR:=J;obtain ⟨d,hd⟩:∃d,a+d = eR:=⟨eR - a,J⟩;have HD:=I (show a+d = eR∧(2 * d = L.length+R.length∨2 * d+1 = L.length+R.length) by have:=hm.out;have:=hb.out;omega);obtain ⟨lo,HLO⟩:∃lo:Nat,Hid ((eR < m→lo+R.length = d)∧(¬eR < m→lo = 0)):=by
    by_cases tE:eR < m
    ·exact ⟨d - R.length,I ⟨fun _=>by have:=HD.out;have:=hm.out;have:=hb.out;omega,fun h=>absurd tE h⟩⟩
    ·exact ⟨0,I ⟨fun h=>absurd h tE,fun _=>rfl⟩⟩
   obtain ⟨hi,HHI⟩:∃hi:Nat,Hid ((eR < m→hi = d)∧(¬eR < m→hi = L.length)):=by
    by_cases tE:eR < m
    ·exact ⟨d,I ⟨fun _=>rfl,fun h=>absurd tE h⟩⟩
    ·exact ⟨L.length,I ⟨fun h=>absurd h tE,fun _=>rfl⟩⟩
   have QH:a≤eR∧eR≤bb:=J;obtain ⟨Nn,hmbb⟩:=QH;clear hc hN W hL hR hK ih qm cr Kc hmid hd;go_enter Tryz.func143,Tryz.ntmps143;by_cases tE:eR < m
   ·have lv:lo+R.length = d:=(by have:=HLO.out.1 tE;omega);have t6:hi = d:=HHI.out.1 tE;have Ts:=I (show lo = 0∨lo+R.length = d from .inr lv);have Tt:=I (show hi = L.length∨hi = d from .inr t6);exact DM
   ·have lv:lo = 0:=HLO.out.2 J;have t6:hi = L.length:=HHI.out.2 J;have Ts:=I (show lo = 0∨lo+R.length = d from .inl lv);have Tt:=I (show hi = L.length∨hi = d from .inl t6);exact DM
end
section
variable {β:Type} (nm:β→ByteArray)
theorem am6 (W0 w:World) (b o c N:Nat) (D:List β) (cv:β→β→Int) (q1 q2:Addr) (h:jJ (fun x=>[Value.string (nm x)]) 1 W0 w b o (D)) (hN:D.length = N) (BI:N≤1048576) (W:dm (kS cv)) (hc:Be nm cv q1 q2 W0 b) :
 Calls Tryz.prog 97 #[.slice (some ⟨b,o,none⟩) N c,.int .i64 N,.func (.func 60) #[] #[.pointer (some q1),.pointer (some q2)]] w fun e w'=>e = .returned (.tuple #[])∧jJ (fun x=>[Value.string (nm x)]) 1 W0 w' b o (aL (kS cv) [] D):=by
 have HC:=I hc;have HW:=I W;have HN:=I hN;clear hc hN W;go_enter Tryz.func97,Tryz.ntmps97;go_wp2_with fail
 go_loopw [7,8] (fun i j wr=>∃(a0 b0:Nat) (A:List β),i = .int .i64 (a0:Int)∧j = .int .i64 (b0:Int)∧b0 = a0+20∧a0≤N∧Hid (A.length = a0)∧Hid (runs (kS cv) 20 D = A++runs (kS cv) 20 (D.drop a0))∧jJ (fun x=>[Value.string (nm x)]) 1 W0 wr b o (A++D.drop a0)) (fun i _ _=>N - (intOf i).toNat)
 case atStart=>exact ⟨0,20,[],rfl,rfl,rfl,J,I rfl,I S',by simpa using h⟩
 case round =>
  obtain ⟨a0,b0,A,rfl,rfl,fc,Pu,HA,HR,hS⟩:=hrel;by_cases aq:b0≤N
  ·have HB:=I fc;have so:a0 < b0:=J;clear fc;go_wp2_with fail
   have hx:((D.drop a0).take 20).length = 20:=(by rw [List.length_take,List.length_drop];have:=HB.out;have:=HN.out;omega);have iJ:(D.drop a0).drop 20 = D.drop b0:=(by rw [List.drop_drop,HB.out]);have gL:=Ky (lt:=(kS cv)) (s:=20) J (D.drop a0);rw [iJ] at gL;refine (Yy nm W0 _ b o c N A ((D.drop a0).take 20) (D.drop b0) a0 b0 cv q1 q2 (by rw [← iJ,List.take_append_drop];exact hS) (by rw [← iJ,List.take_append_drop,List.length_append,List.length_drop];have:=HA.out;have:=HN.out;omega) BI HA (I (by rw [hx];exact HB.out.symm)) HW.out HC.out).mono ?_;rintro e w2 ⟨rfl,ce⟩;have HX:=I hx;have oW:=I gL;clear hx iJ gL;go_wp2;refine ⟨⟨b0,b0+20,A++aL (kS cv) [] ((D.drop a0).take 20),rfl,N',rfl,aq,I (by rw [List.length_append,rD,HX.out,HA.out,HB.out];simp),I Ur,by simpa only [List.append_assoc] using ce⟩,by simp [intOf];have:=HB.out;omega⟩
  ·go_wp2_with fail
   have hx:(D.drop a0).length≤20:=(by rw [List.length_drop];have:=HN.out;omega);have gL:=zo (lt:=(kS cv)) hx;refine (Yy nm W0 _ b o c N A (D.drop a0) [] a0 N cv q1 q2 Us (by rw [List.append_nil,List.length_append,List.length_drop];have:=HA.out;have:=HN.out;omega) BI HA (I IC) HW.out HC.out).mono ?_;rintro e w2 ⟨rfl,ce⟩;have dx:jJ (fun x=>[Value.string (nm x)]) 1 W0 w2 b o (runs (kS cv) 20 D):=(by rw [HR.out,gL];simpa only [List.append_nil] using ce);clear ce hS hx gL HR HA fc aq;go_wp2_with fail
   go_loopw [6] (fun z wr=>∃s:Nat,0 < s∧s≤2097152∧z = .int .i64 (s:Int)∧jJ (fun x=>[Value.string (nm x)]) 1 W0 wr b o (runs (kS cv) s D)) (fun z _=>N - (intOf z).toNat)
   case atStart=>exact ⟨20,J,J,rfl,dx⟩
   case round =>
    obtain ⟨s,gR,cX,rfl,ng⟩:=hrel;by_cases tp:s < N
    ·obtain ⟨wo,hwo⟩:∃wo,wo = wr:=⟨_,rfl⟩;subst hwo;clear dx;go_wp2_with fail
     go_loopw [7,8] (fun i j wr=>∃(a0 b0:Nat) (A:List β),i = .int .i64 (a0:Int)∧j = .int .i64 (b0:Int)∧b0 = a0+2 * s∧a0≤N∧Hid (A.length = a0)∧Hid (runs (kS cv) (2 * s) D = A++runs (kS cv) (2 * s) (D.drop a0))∧jJ (fun x=>[Value.string (nm x)]) 1 W0 wr b o (A++runs (kS cv) s (D.drop a0))) (fun i _ _=>N - (intOf i).toNat)
     case atStart=>exact ⟨0,2 * s,[],rfl,N',J,J,I rfl,I S',by simpa using ng⟩
     case round =>
      obtain ⟨a0,b0,A,rfl,rfl,fc,Pu,HA,HR,hS⟩:=hrel;by_cases aq:b0≤N
      ·have HB:=I fc;have so:a0+s < b0:=J;clear fc;go_wp2_with fail
       obtain ⟨h1,h2⟩:=am0 HW.out gR (D.drop a0);have iJ:(D.drop a0).drop (2 * s) = D.drop b0:=(by rw [List.drop_drop,HB.out]);have gL:=Ky (lt:=(kS cv)) (s:=2 * s) J (D.drop a0);rw [iJ] at h1 gL;have iY:(aL (kS cv) [] ((D.drop a0).take s)).length = s:=(by rw [rD,List.length_take,List.length_drop];have:=HB.out;have:=HN.out;simp;omega);have cK:(aL (kS cv) [] (((D.drop a0).drop s).take s)).length = s:=(by rw [rD,List.length_take,List.length_drop,List.length_drop];have:=HB.out;have:=HN.out;simp;omega);have tx:(runs (kS cv) s (D.drop b0)).length = N - b0:=(by rw [am3 gR _ _ (Nat.le_refl _),List.length_drop,HN.out]);rw [h1] at hS;have hx:(aL (kS cv) [] ((D.drop a0).take (2 * s))).length = 2 * s:=(by rw [rD,List.length_take,List.length_drop];have:=HB.out;have:=HN.out;simp;omega);rw [show ((a0:Int)+s) = ((a0+s:Nat):Int) by omega];refine (Xt nm (s+s) W0 _ b o c N A _ _ _ a0 (a0+s) b0 cv q1 q2 hS (by simp only [List.length_append,iY,cK,tx];have:=HA.out;have:=HB.out;omega) BI HA (I (by rw [iY])) (I (by rw [cK];have:=HB.out;omega)) J J HW.out (yc HW.out _ _ List.Pairwise.nil) (yc HW.out _ _ List.Pairwise.nil) HC.out (by rw [iY,cK];exact Nat.le_refl _)).mono ?_;rintro e w2 ⟨rfl,ce⟩;rw [h2] at ce;have HX:=I hx;have oW:=I gL;clear h1 h2 iJ gL iY cK tx hx hS;go_wp2;refine ⟨⟨b0,b0+2 * s,A++aL (kS cv) [] ((D.drop a0).take (2 * s)),rfl,N',rfl,aq,I (by rw [List.length_append,HX.out,HA.out,HB.out]),I Ur,by simpa only [List.append_assoc] using ce⟩,by simp [intOf];omega⟩
      ·by_cases hm:a0+s < N
       ·go_wp2_with fail
        obtain ⟨h1,h2⟩:=ajf HW.out gR (ys:=D.drop a0) IC IC;have iY:(aL (kS cv) [] ((D.drop a0).take s)).length = s:=(by rw [rD,List.length_take,List.length_drop];have:=HN.out;simp;omega);have cK:(aL (kS cv) [] ((D.drop a0).drop s)).length = N - a0 - s:=(by rw [rD,List.length_drop,List.length_drop];have:=HN.out;simp;omega);rw [h1] at hS;try rw [show ((a0:Int)+s) = ((a0+s:Nat):Int) by omega]
        refine (Xt nm (s+s) W0 _ b o c N A _ _ [] a0 (a0+s) N cv q1 q2 Us (by simp only [List.length_append,iY,cK,List.length_nil];have:=HA.out;omega) BI HA (I (by rw [iY])) (I (by rw [cK];omega)) J J HW.out (yc HW.out _ _ List.Pairwise.nil) (yc HW.out _ _ List.Pairwise.nil) HC.out (by rw [iY,cK];omega)).mono ?_;rintro e w2 ⟨rfl,ce⟩;rw [h2,List.append_nil,← HR.out] at ce;clear h1 h2 iY cK hS;go_wp2;refine ⟨⟨2 * s,J,J,by first | go_num | (congr 1;omega),ce⟩,by simp [intOf];omega⟩
       ·go_wp2;have e1:=zo (lt:=(kS cv)) (s:=s) (xs:=D.drop a0) IC;have e2:=zo (lt:=(kS cv)) (s:=2 * s) (xs:=D.drop a0) IC;rw [e1,← e2,← HR.out] at hS;refine ⟨⟨2 * s,J,J,by first | go_num | (congr 1;omega),hS⟩,by simp [intOf];omega⟩
    ·go_wp2;go_end0
     refine ⟨rfl,?_⟩;rw [← zo (lt:=(kS cv)) (s:=s) (by have:=HN.out;omega)];exact ng
theorem aeJ (W0 w:World) (b o c N:Nat) (D:List β) (cv:β→β→Int) (q1 q2:Addr) (h:jJ (fun x=>[Value.string (nm x)]) 1 W0 w b o (D)) (hN:D.length = N) (BI:N≤1048576) (W:dm (kS cv)) (hc:Be nm cv q1 q2 W0 b) :
 Calls Tryz.prog 59 #[.slice (some ⟨b,o,none⟩) N c,.func (.func 60) #[] #[.pointer (some q1),.pointer (some q2)]] w fun e w'=>e = .returned (.tuple #[])∧jJ (fun x=>[Value.string (nm x)]) 1 W0 w' b o (aL (kS cv) [] D):=by
 have HN:=I hN;clear hN;go_enter Tryz.func59,Tryz.ntmps59;go_wp2_with fail
 refine (am6 nm W0 _ b o c N D cv q1 q2 h HN.out BI W hc).mono ?_;rintro e w2 ⟨rfl,hS⟩;go_wp2;go_end0
 exact ⟨rfl,hS⟩
theorem ahv (w:World) (A:Option Addr) (c:Nat) (f:Value):Calls Tryz.prog 142 #[.slice A 0 c,.int .i64 0,.int .i64 0,f] w fun e w'=>e = .returned (.tuple #[])∧w' = w:=by
 go_enter Tryz.func142,Tryz.ntmps142;go_wp2_with fail
 go_loopw [8] (fun i wr=>i = .int .i64 1∧wr = w) (fun _ _=>0)
 case atStart=>exact ⟨S',rfl⟩
 case round =>
  obtain ⟨rfl,rfl⟩:=hrel;go_wp2;go_end0
  exact ⟨rfl,rfl⟩
theorem am7 (w:World) (A:Option Addr) (c:Nat) (f:Value):Calls Tryz.prog 97 #[.slice A 0 c,.int .i64 0,f] w fun e w'=>e = .returned (.tuple #[])∧w' = w:=by
 go_enter Tryz.func97,Tryz.ntmps97;go_wp2_with fail
 go_loopw [7,8] (fun i j wr=>i = .int .i64 0∧j = .int .i64 20∧wr = w) (fun _ _ _=>0)
 case atStart=>exact ⟨rfl,rfl,rfl⟩
 case round =>
  obtain ⟨rfl,rfl,hw⟩:=hrel;subst hw;go_wp2_with fail
  refine (ahv _ A c f).mono ?_;rintro e w2 ⟨rfl,om⟩;subst om;go_wp2_with fail
  go_loopw [6] (fun z wz=>z = .int .i64 20∧wz = w2) (fun _ _=>0)
  case atStart=>exact ⟨rfl,rfl⟩
  case round =>
   obtain ⟨rfl,hw⟩:=hrel;subst hw;go_wp2;go_end0
   exact ⟨rfl,rfl⟩
theorem aeI (w:World) (A:Option Addr) (c:Nat) (f:Value):Calls Tryz.prog 59 #[.slice A 0 c,f] w fun e w'=>e = .returned (.tuple #[])∧w' = w:=by
 go_enter Tryz.func59,Tryz.ntmps59;go_wp2_with fail
 refine (am7 _ A c f).mono ?_;rintro e w2 ⟨rfl,hw⟩;subst hw;go_wp2;go_end0
 exact ⟨rfl,rfl⟩
end
end Go.Proofs.YtajbbmembionpaaGreat
