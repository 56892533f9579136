/- The library's insertion sort, walked at Label. No condition. -/
import Derived.Test.YtkbkikggodlbbaaGreatMiStr
import Derived.Test.YtkbkikggodlbbaaGreatStabM
import Derived.Test.YtkbkikggodlbbaaGreatOrdP
namespace Go.Proofs.YtkbkikggodlbbaaGreat
open Go.ChangeShapes Go.WideShapes Go.ChangeAt Go.RowKit
set_option linter.unusedVariables false
set_option linter.unusedSimpArgs false
set_option maxHeartbeats 4000000
set_option maxRecDepth 100000
section
def CmpOkL (cv:Label→Label→Int) (W0:World) (b:Nat):Prop:=∀(x y:Label) (w:World),nN [b] W0 w →
 Calls Tryz.prog 165 #[.agg #[.string x.key,.string x.value],.agg #[.string y.key,.string y.value]] w fun e w'=>e = .returned (.int .i64 (cv x y))∧Below w.heap.size w w'
theorem insertionL_any (W0 w:World) (b o c N:Nat) (P X Q:List Label) (a bb:Nat) (cv:Label→Label→Int) (h:jJ lrow 2 W0 w b o (P++(X++Q))) (hN:(P++(X++Q)).length≤N) (BI:N≤1048576) (ha:Hid (P.length = a)) (hm:Hid (a+X.length = bb)) (W:Weak (kS cv)) (hc:CmpOkL cv W0 b) :
 Calls Tryz.prog 204 #[.slice (some ⟨b,o,none⟩) N c,.int .i64 a,.int .i64 bb,.func (.func 165) #[] #[]] w fun e w'=>e = .returned (.tuple #[])∧jJ lrow 2 W0 w' b o (P++(sortB (kS cv) [] X++Q)):=by
 have hlen:bb≤N:=by have e1:=ha.out;have e2:=hm.out;simp only [List.length_append] at hN;omega
 have hle:a≤bb:=by have e2:=hm.out;omega
 have HC:=I' hc;have HW:=I' W;clear hc hN W;go_enter Tryz.func204,Tryz.ntmps204;go_wp2_with fail
 by_cases hX:X = []
 ·subst hX;have hab:a = bb:=by simpa using hm.out
  subst hab;go_loopw [8] (fun i wr=>i = .int .i64 ((a+1:Nat):Int)∧wr = w) (fun _ _=>0)
  case atStart=>exact ⟨N',rfl⟩
  case round =>
   obtain ⟨rfl,rfl⟩:=hrel;go_wp2;go_end0
   exact ⟨rfl,h⟩
 have hX1:1≤X.length:=by cases X with | nil=>exact absurd rfl hX | cons x X=>simp
 clear hX;go_loopw [8] (fun i wr=>∃k:Nat,1≤k∧k≤X.length∧i = .int .i64 ((a+k:Nat):Int)∧jJ lrow 2 W0 wr b o (P++(sortB (kS cv) [] (X.take k)++(X.drop k++Q)))) (fun i _=>bb - (intOf i).toNat)
 case atStart =>
  refine ⟨1,O',hX1,N',?_⟩;have e:sortB (kS cv) [] (X.take 1)++(X.drop 1++Q) = X++Q:=by
   cases X with
   | nil=>simp at hX1
   | cons x X=>rfl
  rw [e];exact h
 case round =>
  obtain ⟨k,hk1,hk,rfl,hS⟩:=hrel;by_cases hlt:k < X.length
  ·obtain ⟨wo,hwo⟩:∃wo,wo = wr:=⟨_,rfl⟩;subst hwo;have hlt2:a+k < bb:=(by have e2:=hm.out;omega);obtain ⟨y,hy⟩:∃y,X[k] = y:=⟨_,rfl⟩;have hdr:X.drop k = y :: X.drop (k+1):=(by rw [← hy];exact (List.getElem_cons_drop ..).symm);have hnx:sortB (kS cv) [] (X.take (k+1)) = OM (kS cv) y (sortB (kS cv) [] (X.take k)):=(by rw [List.take_succ_eq_append_getElem hlt,hy,V3]);have hso:Sorted (kS cv) (sortB (kS cv) [] (X.take k)):=yc HW.out _ _ List.Pairwise.nil;have hsl:(sortB (kS cv) [] (X.take k)).length = k:=(by rw [rD,List.length_take];simp;omega);rw [hdr] at hS;have Jf:=I' hnx;have LJ:=I' hso;clear hdr hnx hso hy;generalize hSS:sortB (kS cv) [] (X.take k) = SS at *;generalize hRR:X.drop (k+1)++Q = RR at *;have HSS:=I' hSS;have HRR:=I' hRR;have HSL:=I' hsl;clear hSS hRR hsl;go_wp2_with fail
   go_loopw [9] (fun j wr=>∃(s1 s2:List Label) (jj:Nat),Hid (SS = s1++s2)∧j = .int .i64 (jj:Int)∧Hid (a+s1.length = jj)∧Hid (∀x∈s2,kS cv y x = true)∧jJ lrow 2 W0 wr b o (P++(s1++(y :: (s2++RR))))) (fun j _=>(intOf j).toNat)
   case atStart =>refine ⟨SS,[],a+k,I' S',rfl,I' (by rw [HSL.out]),I' S',?_⟩;simpa [HRR.out] using hS
   case round =>
    obtain ⟨s1,s2,jj,HE,rfl,HJ,HY,hS2⟩:=hrel;have HU:=I' hS2.upd;have hbl:b < wr.heap.size:=hS2.plain.lt;have hjb:jj < bb:=(by have e1:=HJ.out;have e2:=congrArg List.length HE.out;have e3:=HSL.out;rw [List.length_append] at e2;omega);rcases List.eq_nil_or_concat s1 with rfl | ⟨s',x,rfl⟩
    ·have hja:jj = a:=(by simpa using HJ.out.symm);subst hja
     have HN:=I' (show OM (kS cv) y SS = y :: s2 by
      have e1:SS = s2:=HE.out;rw [e1]
      exact alh HW.out (y:=y) (s1:=[]) (s2:=s2) (by rw [List.nil_append,← e1];exact LJ.out) HY.out (.inl rfl))
     have HS:=I' hS2;clear hS2;go_wp2_with fail
     refine aF wr U' U' (aj _) ?_
     repeat (first
      | (apply aG
         case hw=>rfl
         simp only [Act.put,pz])
      | (apply aH
         case hw=>rfl
         case h =>
          intro wq hq;have hcq:=(aB hq).1;have lJ:=(aB hq).2;go_simp
          first
           | exact ⟨hq,rfl⟩
           | (refine (HC.out y y _ (HU.out.trans (nN.lq _ hq))).mono ?_;rintro e w2 ⟨rfl,hb2⟩;exact ⟨rfl,aI hq hb2⟩)
           | (simp only [↓IntWalk.iteOmega];exact ⟨hq,rfl⟩)
         simp only [Act.put,pz]))
     refine aN ?_;intro wn hn;replace hn:=hn.out;go_wp2;refine ⟨⟨k+1,O',O',N',?_⟩,by simp [intOf];omega⟩;rw [Jf.out,HN.out,HRR.out];exact (HS.out).ext hn
    ·obtain ⟨jk,hjk⟩:∃jk,jj = jk+1:=⟨jj - 1,by have:=HJ.out;simp at this;omega⟩;subst hjk;have hpj:P.length+s'.length = jk:=(by have e1:=HJ.out;have e2:=ha.out;simp at e1;omega);have hjl:a≤jk:=(by have:=ha.out;omega);have hS3:jJ lrow 2 W0 wr b o (P++(s'++(x :: y :: (s2++RR)))):=(by simpa only [List.concat_eq_append,List.append_assoc,List.cons_append,List.nil_append] using hS2);have g1:=wY P s' (s2++RR) x y hpj;have g2:=wZ P s' (s2++RR) x y hpj;have qx0:wr.cell? ⟨b,o+jk * 2,none⟩ = some (.string x.key):=hS3.tab _ x g1 0 _ rfl;have qx1:wr.cell? ⟨b,o+jk * 2+1,none⟩ = some (.string x.value):=hS3.tab _ x g1 1 _ rfl;have qy0:wr.cell? ⟨b,o+(jk+1) * 2,none⟩ = some (.string y.key):=hS3.tab _ y g2 0 _ rfl;have qy1:wr.cell? ⟨b,o+(jk+1) * 2+1,none⟩ = some (.string y.value):=hS3.tab _ y g2 1 _ rfl;have qf:=hS3.plain.frozen;have HP:=I' hpj;have HS:=I' hS3;clear hS2 hS3 g1 g2 hpj;have hdj:decide ((a:Int) < (jk:Int)+1) = true:=(by simp;omega);have hwj:IntKind.i64.wrap (jk:Int) = jk:=IntWalk.i64_in _ O';cases hcv:decide (cv y x < 0) with
     | true =>
       go_wp2_with fail
       refine aF wr U' U' (aj _) ?_
       repeat (first
        | (apply aG
           case hw=>rfl
           simp only [Act.put,pz])
        | (apply aH
           case hw=>rfl
           case h =>exact Zaa1
           simp only [Act.put,pz]))
       refine aN ?_;intro wn hn;replace hn:=hn.out;go_wp2_with fail
       clear qx0 qx1 qy0 qy1 qf HU hbl;have hSn:=HS.out.ext hn;have qx0:wn.cell? ⟨b,o+jk * 2,none⟩ = some (.string x.key):=hSn.tab _ x (wY P s' (s2++RR) x y HP.out) 0 _ rfl;have qx1:wn.cell? ⟨b,o+jk * 2+1,none⟩ = some (.string x.value):=hSn.tab _ x (wY P s' (s2++RR) x y HP.out) 1 _ rfl;have qy0:wn.cell? ⟨b,o+(jk+1) * 2,none⟩ = some (.string y.key):=hSn.tab _ y (wZ P s' (s2++RR) x y HP.out) 0 _ rfl;have qy1:wn.cell? ⟨b,o+(jk+1) * 2+1,none⟩ = some (.string y.value):=hSn.tab _ y (wZ P s' (s2++RR) x y HP.out) 1 _ rfl;have qf:=hSn.plain.frozen;have ql:=hSn.plain.lt;have HSn:=I' hSn;have HCV:=I' hcv;clear hSn hcv;go_region
       go_wp2;have h2:=HSn.out.swap_ (fun _=>rfl) (wZ P s' (s2++RR) x y HP.out) (wY P s' (s2++RR) x y HP.out);rw [V7 P s' (s2++RR) x y HP.out] at h2;refine ⟨⟨s',x :: s2,jk,I' avz,rfl,I' (by rw [← HP.out,ha.out]),I' ?_,jJ.ext h2 (aA (aj _))⟩,by simp [intOf]⟩;intro z hz;rcases List.mem_cons.1 hz with rfl | hz
       ·exact HCV.out
       ·exact HY.out z hz
     | false =>
       go_wp2_with fail
       refine aF wr U' U' (aj _) ?_
       repeat (first
        | (apply aG
           case hw=>rfl
           simp only [Act.put,pz])
        | (apply aH
           case hw=>rfl
           case h =>exact Zaa1
           simp only [Act.put,pz]))
       refine aN ?_;intro wn hn;replace hn:=hn.out;go_wp2;have BI:OM (kS cv) y SS = (s'++[x])++y :: s2:=by have e1:SS = (s'++[x])++s2:=(by rw [HE.out];simp);rw [e1];exact alh HW.out (by rw [← e1];exact LJ.out) HY.out (.inr ⟨s',x,rfl,hcv⟩)
       refine ⟨⟨k+1,O',O',N',?_⟩,by simp [intOf];omega⟩;rw [Jf.out,BI,HRR.out];have h2:=HS.out.ext hn;simpa only [List.append_assoc,List.cons_append,List.nil_append] using h2
  ·have hkl:k = X.length:=O';subst hkl;rw [hm.out,List.take_length,List.drop_length,List.nil_append] at *;go_wp2;go_end0
   exact ⟨rfl,hS⟩
end
section
theorem symMergeL_left (W0 w:World) (b o c N:Nat) (P R Q:List Label) (x:Label) (a bb:Nat) (cv:Label→Label→Int) (h:jJ lrow 2 W0 w b o (P++(x :: (R++Q)))) (hN:(P++(x :: (R++Q))).length≤N) (BI:N≤1048576) (ha:Hid (P.length = a)) (hm:Hid (a+1+R.length = bb)) (W:Weak (kS cv)) (hR:Sorted (kS cv) R) (hc:CmpOkL cv W0 b) :
 Calls Tryz.prog 205 #[.slice (some ⟨b,o,none⟩) N c,.int .i64 a,.int .i64 ((a+1:Nat):Int),.int .i64 bb,.func (.func 165) #[] #[]] w fun e w'=>e = .returned (.tuple #[])∧jJ lrow 2 W0 w' b o (P++(fO (kS cv) [x] R++Q)):=by
 have hlen:bb≤N:=by have e1:=ha.out;have e2:=hm.out;simp only [List.length_append,List.length_cons] at hN;omega
 have hle:a+1≤bb:=by have e2:=hm.out;omega
 have HC:=I' hc;have HW:=I' W;have HR:=I' hR;clear hc hN W hR;go_enter Tryz.func205,Tryz.ntmps205;go_wp2_with fail
 go_loopw [10,11] (fun i j wr=>∃u v i0 j0:Nat,u≤v∧v≤R.length∧i = .int .i64 (i0:Int)∧j = .int .i64 (j0:Int)∧Hid (a+1+u = i0)∧Hid (a+1+v = j0)∧Hid (∀y∈R.take u,kS cv y x = true)∧Hid (∀y∈R.drop v,kS cv y x = false)∧jJ lrow 2 W0 wr b o (P++(x :: (R++Q)))) (fun i j _=>(intOf j - intOf i).toNat)
 case atStart =>have e2:=hm.out;exact ⟨0,R.length,a+1,bb,O',O',rfl,rfl,I' rfl,hm,I' S',I' S',h⟩
 case round =>
  obtain ⟨u,v,i0,j0,huv,hv,rfl,rfl,HI,HJ,HY,HN,hS⟩:=hrel;by_cases hlt:u < v
  ·have hij:i0 < j0:=(by have:=HI.out;have:=HJ.out;omega);have hjb:j0≤bb:=(by have:=HJ.out;have:=hm.out;omega);have hai:a+1≤i0:=(by have:=HI.out;omega);obtain ⟨t,ht⟩:∃t:Nat,(i0+j0) / 2 = t:=⟨_,rfl⟩;have hti:i0≤t:=O';have htj:t < j0:=O';obtain ⟨k,hk⟩:∃k,a+1+k = t:=⟨t - (a+1),O'⟩;have hkR:k < R.length:=(by have:=hm.out;omega);have huk:u≤k:=(by have:=HI.out;omega);have hkv:k < v:=(by have:=HJ.out;omega);have hR1:R[k]? = some R[k]:=List.getElem?_eq_getElem hkR;obtain ⟨y,hy⟩:∃y,R[k] = y:=⟨_,rfl⟩;have MV:(P++(x :: (R++Q)))[t]? = some y:=by
    rw [List.getElem?_append_right auu,show t - P.length = k+1 by have:=ha.out;omega,List.getElem?_cons_succ,List.getElem?_append_left hkR,hR1,hy]
   have hgx:(P++(x :: (R++Q)))[a]? = some x:=by rw [List.getElem?_append_right auu,show a - P.length = 0 by have:=ha.out;omega];rfl
   have qx0:wr.cell? ⟨b,o+a * 2,none⟩ = some (.string x.key):=hS.tab _ x hgx 0 _ rfl;have qx1:wr.cell? ⟨b,o+a * 2+1,none⟩ = some (.string x.value):=hS.tab _ x hgx 1 _ rfl;have qy0:wr.cell? ⟨b,o+t * 2,none⟩ = some (.string y.key):=hS.tab _ y MV 0 _ rfl;have qy1:wr.cell? ⟨b,o+t * 2+1,none⟩ = some (.string y.value):=hS.tab _ y MV 1 _ rfl;have HU:=I' hS.upd;have hbl:b < wr.heap.size:=hS.plain.lt;have HS:=I' hS;have HK:=I' hk;have htI:((i0:Int)+j0) / 2 = t:=O';have HY2:=I' (fun h:kS cv y x = true=>acA HW.out HR.out hkR (by rw [hy];exact h));have Gn:=I' (fun h:kS cv y x = false=>ad7 HW.out HR.out hkR (by rw [hy];exact h));clear hS hR1 MV hgx ht hk hy;cases hcv:decide (cv y x < 0) with
   | true =>exact Zafi
   | false =>exact Zafj
  ·have aa4:v = u:=O';subst aa4;have hj0:j0 = i0:=(by have:=HI.out;have:=HJ.out;omega);subst hj0;have HM:=I' (Yw HY.out HN.out);have hai:a+1≤j0:=(by have:=HI.out;omega);have hjb:j0≤bb:=(by have:=HJ.out;have:=hm.out;omega);obtain ⟨wo,hwo⟩:∃wo,wo = wr:=⟨_,rfl⟩;subst hwo;clear HJ HY HN;go_wp2_with fail
   go_loopw [13] (fun k wr=>∃s k0:Nat,s≤v∧k = .int .i64 (k0:Int)∧Hid (a+s = k0)∧jJ lrow 2 W0 wr b o (P++(R.take s++(x :: (R.drop s++Q))))) (fun k _=>j0 - (intOf k).toNat)
   case atStart=>exact ⟨0,a,O',rfl,I' rfl,by simpa using hS⟩
   case round =>
    obtain ⟨s,k0,hs,rfl,HK,hS2⟩:=hrel;by_cases hlt:s < v
    ·have hks:(k0:Int) < j0 - 1:=(by have:=HI.out;have:=HK.out;omega);have hkb:k0+1 < bb:=O';have hsR:s < R.length:=O';obtain ⟨y,hy⟩:∃y,R[s] = y:=⟨_,rfl⟩;have hdr:R.drop s = y :: R.drop (s+1):=(by rw [← hy];exact (List.getElem_cons_drop ..).symm);have htk:R.take (s+1) = R.take s++[y]:=(by rw [← hy];exact List.take_succ_eq_append_getElem hsR);rw [hdr] at hS2;have hS3:jJ lrow 2 W0 wr b o (P++(R.take s++(x :: y :: (R.drop (s+1)++Q)))):=hS2;have hpk:P.length+(R.take s).length = k0:=(by rw [List.length_take];have:=HK.out;have:=ha.out;omega);have g1:=wY P (R.take s) (R.drop (s+1)++Q) x y hpk;have g2:=wZ P (R.take s) (R.drop (s+1)++Q) x y hpk;have qx0:wr.cell? ⟨b,o+k0 * 2,none⟩ = some (.string x.key):=hS3.tab _ x g1 0 _ rfl;have qx1:wr.cell? ⟨b,o+k0 * 2+1,none⟩ = some (.string x.value):=hS3.tab _ x g1 1 _ rfl;have qy0:wr.cell? ⟨b,o+(k0+1) * 2,none⟩ = some (.string y.key):=hS3.tab _ y g2 0 _ rfl;have qy1:wr.cell? ⟨b,o+(k0+1) * 2+1,none⟩ = some (.string y.value):=hS3.tab _ y g2 1 _ rfl;have qf:=hS3.plain.frozen;have ql:=hS3.plain.lt;have h2:=hS3.swap_ (fun _=>rfl) g1 g2;rw [ajh P (R.take s) (R.drop (s+1)++Q) x y hpk] at h2;have H2:=I' h2;have HTK:=I' htk;clear hS2 hS3 h2 htk hdr hpk g1 g2 hy;go_wp2_with fail
     go_region
     go_wp2;refine ⟨⟨s+1,k0+1,O',N',I' auL,?_⟩,by simp [intOf];omega⟩;have h3:=jJ.ext H2.out (aA (aj _));rw [HTK.out,show P++((R.take s++[y])++(x :: (R.drop (s+1)++Q))) = P++(R.take s++(y :: x :: (R.drop (s+1)++Q))) by simp only [List.append_assoc,List.cons_append,List.nil_append]];exact h3
    ·have hsv:s = v:=O';subst hsv;have hks:(j0:Int) - 1≤k0:=(by have:=HI.out;have:=HK.out;omega);exact Zady
theorem symMergeL_right (W0 w:World) (b o c N:Nat) (P L Q:List Label) (y:Label) (a m:Nat) (cv:Label→Label→Int) (h:jJ lrow 2 W0 w b o (P++(L++(y :: Q)))) (hN:(P++(L++(y :: Q))).length≤N) (BI:N≤1048576) (ha:Hid (P.length = a)) (hm:Hid (a+L.length = m)) (h2:2≤L.length) (W:Weak (kS cv)) (hL:Sorted (kS cv) L) (hc:CmpOkL cv W0 b) :
 Calls Tryz.prog 205 #[.slice (some ⟨b,o,none⟩) N c,.int .i64 a,.int .i64 m,.int .i64 ((m+1:Nat):Int),.func (.func 165) #[] #[]] w fun e w'=>e = .returned (.tuple #[])∧jJ lrow 2 W0 w' b o (P++(fO (kS cv) L [y]++Q)):=by
 have hlen:m+1≤N:=by have e1:=ha.out;have e2:=hm.out;simp only [List.length_append,List.length_cons] at hN;omega
 have hle:a+2≤m:=by have e2:=hm.out;omega
 have HC:=I' hc;have HW:=I' W;have HL:=I' hL;have hne1:((m:Int) - a == 1) = false:=by simp;omega
 clear hc hN W hL;go_enter Tryz.func205,Tryz.ntmps205;go_wp2_with fail
 go_loopw [14,15] (fun i j wr=>∃u v i0 j0:Nat,u≤v∧v≤L.length∧i = .int .i64 (i0:Int)∧j = .int .i64 (j0:Int)∧Hid (a+u = i0)∧Hid (a+v = j0)∧Hid (∀x∈L.take u,kS cv y x = false)∧Hid (∀x∈L.drop v,kS cv y x = true)∧jJ lrow 2 W0 wr b o (P++(L++(y :: Q)))) (fun i j _=>(intOf j - intOf i).toNat)
 case atStart =>have e2:=hm.out;exact ⟨0,L.length,a,m,O',O',rfl,rfl,I' rfl,hm,I' S',I' S',h⟩
 case round =>
  obtain ⟨u,v,i0,j0,huv,hv,rfl,rfl,HI,HJ,HY,HN,hS⟩:=hrel;by_cases hlt:u < v
  ·have hij:i0 < j0:=(by have:=HI.out;have:=HJ.out;omega);have hjb:j0≤m:=(by have:=HJ.out;have:=hm.out;omega);have hai:a≤i0:=(by have:=HI.out;omega);obtain ⟨t,ht⟩:∃t:Nat,(i0+j0) / 2 = t:=⟨_,rfl⟩;have hti:i0≤t:=O';have htj:t < j0:=O';obtain ⟨k,hk⟩:∃k,a+k = t:=⟨t - a,O'⟩;have hkL:k < L.length:=(by have:=hm.out;omega);have huk:u≤k:=(by have:=HI.out;omega);have hkv:k < v:=(by have:=HJ.out;omega);have hL1:L[k]? = some L[k]:=List.getElem?_eq_getElem hkL;obtain ⟨x,hx⟩:∃x,L[k] = x:=⟨_,rfl⟩;have hgx:(P++(L++(y :: Q)))[t]? = some x:=by
    rw [List.getElem?_append_right auu,show t - P.length = k by have:=ha.out;omega,List.getElem?_append_left hkL,hL1,hx]
   have MV:(P++(L++(y :: Q)))[m]? = some y:=by rw [List.getElem?_append_right auu,List.getElem?_append_right avG,show m - P.length - L.length = 0 by have:=ha.out;have:=hm.out;omega];rfl
   have qx0:wr.cell? ⟨b,o+t * 2,none⟩ = some (.string x.key):=hS.tab _ x hgx 0 _ rfl;have qx1:wr.cell? ⟨b,o+t * 2+1,none⟩ = some (.string x.value):=hS.tab _ x hgx 1 _ rfl;have qy0:wr.cell? ⟨b,o+m * 2,none⟩ = some (.string y.key):=hS.tab _ y MV 0 _ rfl;have qy1:wr.cell? ⟨b,o+m * 2+1,none⟩ = some (.string y.value):=hS.tab _ y MV 1 _ rfl;have HU:=I' hS.upd;have hbl:b < wr.heap.size:=hS.plain.lt;have HS:=I' hS;have HK:=I' hk;have htI:((i0:Int)+j0) / 2 = t:=O';have HY2:=I' (fun h:kS cv y x = false=>acB HW.out HL.out hkL (by rw [hx];exact h));have Gn:=I' (fun h:kS cv y x = true=>Z9 HW.out HL.out hkL (by rw [hx];exact h));clear hS hL1 MV hgx ht hk hx;cases hcv:decide (cv y x < 0) with
   | false =>exact Zafi
   | true =>exact Zafj
  ·have aa4:v = u:=O';subst aa4;have hj0:j0 = i0:=(by have:=HI.out;have:=HJ.out;omega);subst hj0;have HM:=I' (WR HY.out HN.out);have hai:a≤j0:=(by have:=HI.out;omega);have hjb:j0≤m:=(by have:=HJ.out;have:=hm.out;omega);obtain ⟨wo,hwo⟩:∃wo,wo = wr:=⟨_,rfl⟩;subst hwo;clear HJ HY HN;go_wp2_with fail
   go_loopw [17] (fun k wr=>∃s k0:Nat,v≤s∧s≤L.length∧k = .int .i64 (k0:Int)∧Hid (a+s = k0)∧jJ lrow 2 W0 wr b o (P++(L.take s++(y :: (L.drop s++Q))))) (fun k _=>(intOf k).toNat)
   case atStart=>exact ⟨L.length,m,hv,O',rfl,hm,by simpa using hS⟩
   case round =>
    obtain ⟨s,k1,hs1,hs,rfl,HK,hS2⟩:=hrel;by_cases hlt:v < s
    ·obtain ⟨s,rfl⟩:∃s',s = s'+1:=⟨s - 1,O'⟩;obtain ⟨k0,rfl⟩:∃k',k1 = k'+1:=⟨k1 - 1,by have:=HK.out;omega⟩;have hks:(j0:Int) < k0+1:=(by have:=HI.out;have:=HK.out;omega);have hkb:k0+1≤m:=(by have:=HK.out;have:=hm.out;omega);have hsL:s < L.length:=O';obtain ⟨x,hx⟩:∃x,L[s] = x:=⟨_,rfl⟩;have hdr:L.drop s = x :: L.drop (s+1):=(by rw [← hx];exact (List.getElem_cons_drop ..).symm);have htk:L.take (s+1) = L.take s++[x]:=(by rw [← hx];exact List.take_succ_eq_append_getElem hsL);rw [htk] at hS2;have hS3:jJ lrow 2 W0 wr b o (P++(L.take s++(x :: y :: (L.drop (s+1)++Q)))):=by
      have e:P++((L.take s++[x])++(y :: (L.drop (s+1)++Q))) = P++(L.take s++(x :: y :: (L.drop (s+1)++Q))):=(by simp only [List.append_assoc,List.cons_append,List.nil_append]);rw [← e];exact hS2
     have hpk:P.length+(L.take s).length = k0:=(by rw [List.length_take];have:=HK.out;have:=ha.out;omega);have g1:=wY P (L.take s) (L.drop (s+1)++Q) x y hpk;have g2:=wZ P (L.take s) (L.drop (s+1)++Q) x y hpk;have qx0:wr.cell? ⟨b,o+k0 * 2,none⟩ = some (.string x.key):=hS3.tab _ x g1 0 _ rfl;have qx1:wr.cell? ⟨b,o+k0 * 2+1,none⟩ = some (.string x.value):=hS3.tab _ x g1 1 _ rfl;have qy0:wr.cell? ⟨b,o+(k0+1) * 2,none⟩ = some (.string y.key):=hS3.tab _ y g2 0 _ rfl;have qy1:wr.cell? ⟨b,o+(k0+1) * 2+1,none⟩ = some (.string y.value):=hS3.tab _ y g2 1 _ rfl;have qf:=hS3.plain.frozen;have ql:=hS3.plain.lt;have h2:=hS3.swap_ (fun _=>rfl) g2 g1;rw [V7 P (L.take s) (L.drop (s+1)++Q) x y hpk] at h2;have H2:=I' h2;have HDR:=I' hdr;clear hS2 hS3 h2 htk hdr hpk g1 g2 hx;go_wp2_with fail
     go_region
     go_wp2;refine ⟨⟨s,k0,O',O',N',I' auL,?_⟩,by simp [intOf]⟩;have h3:=jJ.ext H2.out (aA (aj _));rw [HDR.out];exact h3
    ·have hsv:s = v:=O';subst hsv;have hkj:k1 = j0:=(by have:=HI.out;have:=HK.out;omega);subst hkj;exact Zady
end
end Go.Proofs.YtkbkikggodlbbaaGreat
