/- The library's stable sort, walked at Placed: swapRange. No condition. -/
import Derived.Test.YtkjeocdobidadaaGreatStabM
import Derived.Deep.RegionLaw
import Derived.Deep.RegionWith
import Derived.Test.YtkjeocdobidadaaGreatData
namespace Go.Proofs.YtkjeocdobidadaaGreat
open Go.ChangeShapes Go.WideShapes Go.ChangeAt Go.RowKit
set_option linter.unusedVariables false
set_option linter.unusedSimpArgs false
set_option maxHeartbeats 2000000
set_option maxRecDepth 100000
structure Eb where
 name:ByteArray
 la:Option Addr
 ln:Nat
 lc:Nat
 cpu:Int
 mem:Int
 rank:Int
 na:Option Addr
 nn:Nat
 nc:Nat
 ta:Option Addr
 tn:Nat
 tc:Nat
 on:ByteArray
 seq:Int
def tH (x:Eb):List Value:=[.string x.name,.slice x.la x.ln x.lc,.int .i64 x.cpu,.int .i64 x.mem,.int .i64 x.rank,.slice x.na x.nn x.nc,.slice x.ta x.tn x.tc,.string x.on,.int .i64 x.seq]
section
theorem QH (W0 w:World) (b o c N:Nat) (p u m v q:List Eb) (a bb n:Nat) (f:Value) (h:jJ tH 9 W0 w b o (p++(u++(m++(v++q))))) (hN:(p++(u++(m++(v++q)))).length≤N) (BI:N≤1048576) (ha:Hid (p.length = a)) (hu:Hid (u.length = n)) (hv:Hid (v.length = n)) (hm:Hid (p.length+u.length+m.length = bb)) :
 Calls Tryz.prog 217 #[.slice (some ⟨b,o,none⟩) N c,.int .i64 a,.int .i64 bb,.int .i64 n,f] w fun e w'=>e = .returned (.tuple #[])∧jJ tH 9 W0 w' b o (p++(v++(m++(u++q)))):=by
 have hlen:a+n+m.length+n≤N:=by have e1:=ha.out;have e2:=hu.out;have e3:=hv.out;simp only [List.length_append] at hN;omega
 have hbb:bb = a+n+m.length:=by have e1:=ha.out;have e2:=hu.out;have e3:=hm.out;omega
 have HBB:=I' hbb;have hb1:a+n≤bb:=by omega
 have hb2:bb+n≤N:=by omega
 clear hbb;go_enter Tryz.func217,Tryz.ntmps217;go_wp2_with fail
 go_loopw [10] (fun i wr=>∃k:Nat,k≤n∧i = .int .i64 k∧jJ tH 9 W0 wr b o (p++(v.take k++(u.drop k++(m++(u.take k++(v.drop k++q))))))) (fun i _=>n - (intOf i).toNat)
 case atStart=>exact ⟨0,Nat.zero_le _,rfl,by simpa using h⟩
 case round =>
  obtain ⟨k,hk,rfl,hS⟩:=hrel;by_cases hlt:k < n
  ·have hku:k < u.length:=(by have:=hu.out;omega);have hkv:k < v.length:=(by have:=hv.out;omega);have alj:u.length = v.length:=(by rw [hu.out,hv.out]);have gl:=am2 p u m v q k hku alj;have gr:=ajg p u m v q k hkv alj;have sg:=am1 p u m v q k hku alj;rw [hm.out] at gr sg;rw [ha.out] at gl sg;generalize u[k] = x at gl;generalize v[k] = y at gr;have HS:=I' hS;have qx0:wr.cell? ⟨b,o+(a+k) * 9,none⟩ = some (.string x.name):=hS.tab _ x gl 0 _ rfl;have qx1:wr.cell? ⟨b,o+(a+k) * 9+1,none⟩ = some (.slice x.la x.ln x.lc):=hS.tab _ x gl 1 _ rfl;have qx2:wr.cell? ⟨b,o+(a+k) * 9+2,none⟩ = some (.int .i64 x.cpu):=hS.tab _ x gl 2 _ rfl;have qx3:wr.cell? ⟨b,o+(a+k) * 9+3,none⟩ = some (.int .i64 x.mem):=hS.tab _ x gl 3 _ rfl;have qx4:wr.cell? ⟨b,o+(a+k) * 9+4,none⟩ = some (.int .i64 x.rank):=hS.tab _ x gl 4 _ rfl;have qx5:wr.cell? ⟨b,o+(a+k) * 9+5,none⟩ = some (.slice x.na x.nn x.nc):=hS.tab _ x gl 5 _ rfl;have qx6:wr.cell? ⟨b,o+(a+k) * 9+6,none⟩ = some (.slice x.ta x.tn x.tc):=hS.tab _ x gl 6 _ rfl;have qx7:wr.cell? ⟨b,o+(a+k) * 9+7,none⟩ = some (.string x.on):=hS.tab _ x gl 7 _ rfl;have qx8:wr.cell? ⟨b,o+(a+k) * 9+8,none⟩ = some (.int .i64 x.seq):=hS.tab _ x gl 8 _ rfl;have qy0:wr.cell? ⟨b,o+(bb+k) * 9,none⟩ = some (.string y.name):=hS.tab _ y gr 0 _ rfl;have qy1:wr.cell? ⟨b,o+(bb+k) * 9+1,none⟩ = some (.slice y.la y.ln y.lc):=hS.tab _ y gr 1 _ rfl;have qy2:wr.cell? ⟨b,o+(bb+k) * 9+2,none⟩ = some (.int .i64 y.cpu):=hS.tab _ y gr 2 _ rfl;have qy3:wr.cell? ⟨b,o+(bb+k) * 9+3,none⟩ = some (.int .i64 y.mem):=hS.tab _ y gr 3 _ rfl;have qy4:wr.cell? ⟨b,o+(bb+k) * 9+4,none⟩ = some (.int .i64 y.rank):=hS.tab _ y gr 4 _ rfl;have qy5:wr.cell? ⟨b,o+(bb+k) * 9+5,none⟩ = some (.slice y.na y.nn y.nc):=hS.tab _ y gr 5 _ rfl;have qy6:wr.cell? ⟨b,o+(bb+k) * 9+6,none⟩ = some (.slice y.ta y.tn y.tc):=hS.tab _ y gr 6 _ rfl;have qy7:wr.cell? ⟨b,o+(bb+k) * 9+7,none⟩ = some (.string y.on):=hS.tab _ y gr 7 _ rfl;have qy8:wr.cell? ⟨b,o+(bb+k) * 9+8,none⟩ = some (.int .i64 y.seq):=hS.tab _ y gr 8 _ rfl;have qf:=hS.plain.frozen;have ql:=hS.plain.lt;have HGL:=I' gl;have HGR:=I' gr;have HSG:=I' sg;clear hS gl gr sg alj;go_wp2_with fail
   go_region
   go_wp2;have h2:=HS.out.swap_ (fun _=>rfl) HGL.out HGR.out;rw [HSG.out] at h2;exact ⟨⟨k+1,O',N',jJ.ext h2 (aA (aj _))⟩,by simp [intOf];omega⟩
  ·have hkl:k = n:=O';subst hkl;rw [← hu.out,List.take_of_length_le awC,List.drop_length,List.take_length,List.drop_of_length_le awC,List.nil_append,List.nil_append] at hS;go_wp2;go_end0
   exact ⟨rfl,hS⟩
theorem Fg (W0 w:World) (b o c N:Nat) (p u v q:List Eb) (a mm bb:Nat) (f:Value) (h:jJ tH 9 W0 w b o (p++(u++(v++q)))) (hN:(p++(u++(v++q))).length≤N) (BI:N≤1048576) (ha:Hid (p.length = a)) (hm:Hid (a+u.length = mm)) (hb:Hid (mm+v.length = bb)) (hu0:0 < u.length) (hv0:0 < v.length) :
 Calls Tryz.prog 208 #[.slice (some ⟨b,o,none⟩) N c,.int .i64 a,.int .i64 mm,.int .i64 bb,f] w fun e w'=>e = .returned (.tuple #[])∧jJ tH 9 W0 w' b o (p++(v++(u++q))):=by
 have hlen:a+u.length+v.length≤N:=by have e1:=ha.out;simp only [List.length_append] at hN;omega
 have hmm:a+u.length = mm:=hm.out;have hbb:mm+v.length = bb:=hb.out;have HM:=I' hmm;have HB:=I' hbb;have h1:a≤mm:=by omega
 have h2:mm≤bb:=by omega
 have h3:bb≤N:=by omega
 have MO:=I' hN;clear hmm hbb hN;go_enter Tryz.func208,Tryz.ntmps208;go_wp2_with fail
 go_loopw [10,11] (fun i j wr=>∃A U V B:List Eb,i = .int .i64 U.length∧j = .int .i64 V.length∧0 < U.length∧0 < V.length∧Hid (v++u = A++(V++(U++B)))∧Hid (p.length+A.length+U.length = mm)∧jJ tH 9 W0 wr b o (p++(A++(U++(V++(B++q)))))) (fun i j _=>(intOf i).toNat+(intOf j).toNat)
 case atStart =>have e1:=ha.out;have e2:=HM.out;have e3:=HB.out;exact ⟨[],u,v,[],by simp;omega,by simp;omega,hu0,hv0,I' S',I' (by simp;omega),by simpa using h⟩
 case round =>
  obtain ⟨A,U,V,B,rfl,rfl,hU,hV,hE,hP,hS⟩:=hrel;have hle:A.length+U.length+V.length+B.length = u.length+v.length:=by have:=congrArg List.length hE.out;simp only [List.length_append] at this;omega
  have hpa:p.length+A.length+U.length = mm:=hP.out;have hUm:U.length≤mm:=by omega
  have hbn:mm+V.length≤N:=by have e1:=ha.out;have e2:=HM.out;omega
  have HLE:=I' hle;have HPA:=I' hpa;have HS:=I' hS;clear hle hpa hS;have hlq:(p++(u++(v++q))).length = p.length+u.length+v.length+q.length:=by simp only [List.length_append];omega
  have HLQ:=I' hlq;clear hlq;rcases Nat.lt_trichotomy U.length V.length with hlt | heq | hgt
  ·have hne:((U.length:Int) != V.length) = true:=(by simp;omega);go_wp2_with fail
   obtain ⟨V1,V2,rfl,hV2⟩:∃V1 V2,V = V1++V2∧V2.length = U.length:=⟨V.take (V.length - U.length),V.drop (V.length - U.length),(List.take_append_drop ..).symm,by rw [List.length_drop];omega⟩;have hpa:=HPA.out;have hle:=HLE.out;have hl:(V1++V2).length = V1.length+V2.length:=List.length_append ..;rw [show (mm:Int) - U.length = ((p.length+A.length:Nat):Int) by omega,show (mm:Int)+(V1++V2).length - U.length = ((mm+V1.length:Nat):Int) by omega];refine (QH W0 wr b o c N (p++A) U V1 V2 (B++q) (p.length+A.length) (mm+V1.length) U.length f avF ?_ BI (I' S') (I' rfl) (I' hV2) (I' ?_)).mono ?_
   ·have:=MO.out;have:=HLQ.out;simp only [List.length_append] at *;omega
   ·simp only [List.length_append];omega
   rintro e w2 ⟨rfl,hS2⟩;clear hpa hle;go_wp2;refine ⟨⟨A,V2,V1,U++B,by rw [hV2],by first | rfl | (congr 1;omega),O',O',I' awD,I' (by have:=HPA.out;omega),by simpa [List.append_assoc] using hS2⟩,by simp only [intOf];omega⟩
  ·have hne:((U.length:Int) != V.length) = false:=(by simp;omega);go_wp2_with fail
   have hpa:=HPA.out;have hle:=HLE.out;rw [show (mm:Int) - V.length = ((p.length+A.length:Nat):Int) by omega];refine (QH W0 wr b o c N (p++A) U [] V (B++q) (p.length+A.length) mm V.length f avF ?_ BI (I' S') (I' heq) (I' rfl) (I' ?_)).mono ?_
   ·have:=MO.out;have:=HLQ.out;simp only [List.length_append,List.length_nil] at *;omega
   ·simp only [List.length_append,List.length_nil];omega
   rintro e w2 ⟨rfl,hS2⟩;clear hpa hle heq;go_wp2;go_end0
   refine ⟨rfl,?_⟩;have e9:p++(v++(u++q)) = (p++A)++(V++([]++(U++(B++q)))):=(by rw [← List.append_assoc v u q,hE.out];simp [List.append_assoc]);rw [e9];exact hS2
  ·have hne:((U.length:Int) != V.length) = true:=(by simp;omega);go_wp2_with fail
   obtain ⟨U1,U2,rfl,hU1⟩:∃U1 U2,U = U1++U2∧U1.length = V.length:=⟨U.take V.length,U.drop V.length,(List.take_append_drop ..).symm,by rw [List.length_take];omega⟩;have hpa:=HPA.out;have hle:=HLE.out;have hl:(U1++U2).length = U1.length+U2.length:=List.length_append ..;rw [show (mm:Int) - (U1++U2).length = ((p.length+A.length:Nat):Int) by omega];refine (QH W0 wr b o c N (p++A) U1 U2 V (B++q) (p.length+A.length) mm V.length f avF ?_ BI (I' S') (I' hU1) (I' rfl) (I' ?_)).mono ?_
   ·have:=MO.out;have:=HLQ.out;simp only [List.length_append] at *;omega
   ·simp only [List.length_append];omega
   rintro e w2 ⟨rfl,hS2⟩;clear hpa hle;go_wp2;refine ⟨⟨A++V,U2,U1,B,by first | rfl | (congr 1;omega),by rw [hU1],O',O',I' awD,I' (by have:=HPA.out;simp only [List.length_append] at *;omega),by simpa [List.append_assoc] using hS2⟩,by simp only [intOf];omega⟩
end
section
def ads (cv:Eb→Eb→Int) (W0:World) (b:Nat):Prop:=∀(x y:Eb) (w:World),nN [b] W0 w →
 Calls Tryz.prog 92 #[.agg #[.string x.name,.slice x.la x.ln x.lc,.int .i64 x.cpu,.int .i64 x.mem,.int .i64 x.rank,.slice x.na x.nn x.nc,.slice x.ta x.tn x.tc,.string x.on,.int .i64 x.seq],.agg #[.string y.name,.slice y.la y.ln y.lc,.int .i64 y.cpu,.int .i64 y.mem,.int .i64 y.rank,.slice y.na y.nn y.nc,.slice y.ta y.tn y.tc,.string y.on,.int .i64 y.seq]] w fun e w'=>e = .returned (.int .i64 (cv x y))∧Below w.heap.size w w'
theorem Yx (W0 w:World) (b o c N:Nat) (P X Q:List Eb) (a bb:Nat) (cv:Eb→Eb→Int) (h:jJ tH 9 W0 w b o (P++(X++Q))) (hN:(P++(X++Q)).length≤N) (BI:N≤1048576) (ha:Hid (P.length = a)) (hm:Hid (a+X.length = bb)) (W:Weak (kS cv)) (hc:ads cv W0 b) :
 Calls Tryz.prog 190 #[.slice (some ⟨b,o,none⟩) N c,.int .i64 a,.int .i64 bb,.func (.func 92) #[] #[]] w fun e w'=>e = .returned (.tuple #[])∧jJ tH 9 W0 w' b o (P++(sortB (kS cv) [] X++Q)):=by
 have hlen:bb≤N:=by have e1:=ha.out;have e2:=hm.out;simp only [List.length_append] at hN;omega
 have hle:a≤bb:=by have e2:=hm.out;omega
 have HC:=I' hc;have HW:=I' W;clear hc hN W;go_enter Tryz.func190,Tryz.ntmps190;go_wp2_with fail
 by_cases hX:X = []
 ·subst hX;have hab:a = bb:=by simpa using hm.out
  subst hab;go_loopw [8] (fun i wr=>i = .int .i64 ((a+1:Nat):Int)∧wr = w) (fun _ _=>0)
  case atStart=>exact ⟨N',rfl⟩
  case round =>
   obtain ⟨rfl,rfl⟩:=hrel;go_wp2;go_end0
   exact ⟨rfl,h⟩
 have hX1:1≤X.length:=by cases X with | nil=>exact absurd rfl hX | cons x X=>simp
 clear hX;go_loopw [8] (fun i wr=>∃k:Nat,1≤k∧k≤X.length∧i = .int .i64 ((a+k:Nat):Int)∧jJ tH 9 W0 wr b o (P++(sortB (kS cv) [] (X.take k)++(X.drop k++Q)))) (fun i _=>bb - (intOf i).toNat)
 case atStart =>
  refine ⟨1,O',hX1,N',?_⟩;have e:sortB (kS cv) [] (X.take 1)++(X.drop 1++Q) = X++Q:=by
   cases X with
   | nil=>simp at hX1
   | cons x X=>rfl
  rw [e];exact h
 case round =>
  obtain ⟨k,hk1,hk,rfl,hS⟩:=hrel;by_cases hlt:k < X.length
  ·obtain ⟨wo,hwo⟩:∃wo,wo = wr:=⟨_,rfl⟩;subst hwo;have hlt2:a+k < bb:=(by have e2:=hm.out;omega);obtain ⟨y,hy⟩:∃y,X[k] = y:=⟨_,rfl⟩;have hdr:X.drop k = y :: X.drop (k+1):=(by rw [← hy];exact (List.getElem_cons_drop ..).symm);have hnx:sortB (kS cv) [] (X.take (k+1)) = OM (kS cv) y (sortB (kS cv) [] (X.take k)):=(by rw [List.take_succ_eq_append_getElem hlt,hy,V3]);have hso:Sorted (kS cv) (sortB (kS cv) [] (X.take k)):=yc HW.out _ _ List.Pairwise.nil;have hsl:(sortB (kS cv) [] (X.take k)).length = k:=(by rw [rD,List.length_take];simp;omega);rw [hdr] at hS;have Jf:=I' hnx;have LJ:=I' hso;clear hdr hnx hso hy;generalize hSS:sortB (kS cv) [] (X.take k) = SS at *;generalize hRR:X.drop (k+1)++Q = RR at *;have HSS:=I' hSS;have HRR:=I' hRR;have HSL:=I' hsl;clear hSS hRR hsl;go_wp2_with fail
   go_loopw [9] (fun j wr=>∃(s1 s2:List Eb) (jj:Nat),Hid (SS = s1++s2)∧j = .int .i64 (jj:Int)∧Hid (a+s1.length = jj)∧Hid (∀x∈s2,kS cv y x = true)∧jJ tH 9 W0 wr b o (P++(s1++(y :: (s2++RR))))) (fun j _=>(intOf j).toNat)
   case atStart =>refine ⟨SS,[],a+k,I' S',rfl,I' (by rw [HSL.out]),I' S',?_⟩;simpa [HRR.out] using hS
   case round =>
    obtain ⟨s1,s2,jj,HE,rfl,HJ,HY,hS2⟩:=hrel;have HU:=I' hS2.upd;have hbl:b < wr.heap.size:=hS2.plain.lt;have hjb:jj < bb:=(by have e1:=HJ.out;have e2:=congrArg List.length HE.out;have e3:=HSL.out;rw [List.length_append] at e2;omega);rcases List.eq_nil_or_concat s1 with rfl | ⟨s',x,rfl⟩
    ·have hja:jj = a:=(by simpa using HJ.out.symm);subst hja
     have HN:=I' (show OM (kS cv) y SS = y :: s2 by
      have e1:SS = s2:=HE.out;rw [e1]
      exact alh HW.out (y:=y) (s1:=[]) (s2:=s2) (by rw [List.nil_append,← e1];exact LJ.out) HY.out (.inl rfl))
     have HS:=I' hS2;clear hS2;go_wp2_with fail
     refine aF wr U' U' (aj _) ?_
     repeat (first
      | (apply aG
         case hw=>rfl
         simp only [Act.put,pz])
      | (apply aH
         case hw=>rfl
         case h =>
          intro wq hq;have hcq:=(aB hq).1;have lJ:=(aB hq).2;go_simp
          first
           | exact ⟨hq,rfl⟩
           | (refine (HC.out y y _ (HU.out.trans (nN.lq _ hq))).mono ?_;rintro e w2 ⟨rfl,hb2⟩;exact ⟨rfl,aI hq hb2⟩)
           | (simp only [↓IntWalk.iteOmega];exact ⟨hq,rfl⟩)
         simp only [Act.put,pz]))
     refine aN ?_;intro wn hn;replace hn:=hn.out;go_wp2;refine ⟨⟨k+1,O',O',N',?_⟩,by simp [intOf];omega⟩;rw [Jf.out,HN.out,HRR.out];exact (HS.out).ext hn
    ·obtain ⟨jk,hjk⟩:∃jk,jj = jk+1:=⟨jj - 1,by have:=HJ.out;simp at this;omega⟩;subst hjk;have hpj:P.length+s'.length = jk:=(by have e1:=HJ.out;have e2:=ha.out;simp at e1;omega);have hjl:a≤jk:=(by have:=ha.out;omega);have hS3:jJ tH 9 W0 wr b o (P++(s'++(x :: y :: (s2++RR)))):=(by simpa only [List.concat_eq_append,List.append_assoc,List.cons_append,List.nil_append] using hS2);have g1:=wY P s' (s2++RR) x y hpj;have g2:=wZ P s' (s2++RR) x y hpj;have qx0:wr.cell? ⟨b,o+jk * 9,none⟩ = some (.string x.name):=hS3.tab _ x g1 0 _ rfl;have qx1:wr.cell? ⟨b,o+jk * 9+1,none⟩ = some (.slice x.la x.ln x.lc):=hS3.tab _ x g1 1 _ rfl;have qx2:wr.cell? ⟨b,o+jk * 9+2,none⟩ = some (.int .i64 x.cpu):=hS3.tab _ x g1 2 _ rfl;have qx3:wr.cell? ⟨b,o+jk * 9+3,none⟩ = some (.int .i64 x.mem):=hS3.tab _ x g1 3 _ rfl;have qx4:wr.cell? ⟨b,o+jk * 9+4,none⟩ = some (.int .i64 x.rank):=hS3.tab _ x g1 4 _ rfl;have qx5:wr.cell? ⟨b,o+jk * 9+5,none⟩ = some (.slice x.na x.nn x.nc):=hS3.tab _ x g1 5 _ rfl;have qx6:wr.cell? ⟨b,o+jk * 9+6,none⟩ = some (.slice x.ta x.tn x.tc):=hS3.tab _ x g1 6 _ rfl;have qx7:wr.cell? ⟨b,o+jk * 9+7,none⟩ = some (.string x.on):=hS3.tab _ x g1 7 _ rfl;have qx8:wr.cell? ⟨b,o+jk * 9+8,none⟩ = some (.int .i64 x.seq):=hS3.tab _ x g1 8 _ rfl;have qy0:wr.cell? ⟨b,o+(jk+1) * 9,none⟩ = some (.string y.name):=hS3.tab _ y g2 0 _ rfl;have qy1:wr.cell? ⟨b,o+(jk+1) * 9+1,none⟩ = some (.slice y.la y.ln y.lc):=hS3.tab _ y g2 1 _ rfl;have qy2:wr.cell? ⟨b,o+(jk+1) * 9+2,none⟩ = some (.int .i64 y.cpu):=hS3.tab _ y g2 2 _ rfl;have qy3:wr.cell? ⟨b,o+(jk+1) * 9+3,none⟩ = some (.int .i64 y.mem):=hS3.tab _ y g2 3 _ rfl;have qy4:wr.cell? ⟨b,o+(jk+1) * 9+4,none⟩ = some (.int .i64 y.rank):=hS3.tab _ y g2 4 _ rfl;have qy5:wr.cell? ⟨b,o+(jk+1) * 9+5,none⟩ = some (.slice y.na y.nn y.nc):=hS3.tab _ y g2 5 _ rfl;have qy6:wr.cell? ⟨b,o+(jk+1) * 9+6,none⟩ = some (.slice y.ta y.tn y.tc):=hS3.tab _ y g2 6 _ rfl;have qy7:wr.cell? ⟨b,o+(jk+1) * 9+7,none⟩ = some (.string y.on):=hS3.tab _ y g2 7 _ rfl;have qy8:wr.cell? ⟨b,o+(jk+1) * 9+8,none⟩ = some (.int .i64 y.seq):=hS3.tab _ y g2 8 _ rfl;have qf:=hS3.plain.frozen;have HP:=I' hpj;have HS:=I' hS3;clear hS2 hS3 g1 g2 hpj;have hdj:decide ((a:Int) < (jk:Int)+1) = true:=(by simp;omega);have hwj:IntKind.i64.wrap (jk:Int) = jk:=IntWalk.i64_in _ O';cases hcv:decide (cv y x < 0) with
     | true =>
       go_wp2_with fail
       refine aF wr U' U' (aj _) ?_
       repeat (first
        | (apply aG
           case hw=>rfl
           simp only [Act.put,pz])
        | (apply aH
           case hw=>rfl
           case h =>exact Zaa4
           simp only [Act.put,pz]))
       refine aN ?_;intro wn hn;replace hn:=hn.out;go_wp2_with fail
       clear qx0 qx1 qx2 qx3 qx4 qx5 qx6 qx7 qx8 qy0 qy1 qy2 qy3 qy4 qy5 qy6 qy7 qy8 qf HU hbl;have hSn:=HS.out.ext hn;have qx0:wn.cell? ⟨b,o+jk * 9,none⟩ = some (.string x.name):=hSn.tab _ x (wY P s' (s2++RR) x y HP.out) 0 _ rfl;have qx1:wn.cell? ⟨b,o+jk * 9+1,none⟩ = some (.slice x.la x.ln x.lc):=hSn.tab _ x (wY P s' (s2++RR) x y HP.out) 1 _ rfl;have qx2:wn.cell? ⟨b,o+jk * 9+2,none⟩ = some (.int .i64 x.cpu):=hSn.tab _ x (wY P s' (s2++RR) x y HP.out) 2 _ rfl;have qx3:wn.cell? ⟨b,o+jk * 9+3,none⟩ = some (.int .i64 x.mem):=hSn.tab _ x (wY P s' (s2++RR) x y HP.out) 3 _ rfl;have qx4:wn.cell? ⟨b,o+jk * 9+4,none⟩ = some (.int .i64 x.rank):=hSn.tab _ x (wY P s' (s2++RR) x y HP.out) 4 _ rfl;have qx5:wn.cell? ⟨b,o+jk * 9+5,none⟩ = some (.slice x.na x.nn x.nc):=hSn.tab _ x (wY P s' (s2++RR) x y HP.out) 5 _ rfl;have qx6:wn.cell? ⟨b,o+jk * 9+6,none⟩ = some (.slice x.ta x.tn x.tc):=hSn.tab _ x (wY P s' (s2++RR) x y HP.out) 6 _ rfl;have qx7:wn.cell? ⟨b,o+jk * 9+7,none⟩ = some (.string x.on):=hSn.tab _ x (wY P s' (s2++RR) x y HP.out) 7 _ rfl;have qx8:wn.cell? ⟨b,o+jk * 9+8,none⟩ = some (.int .i64 x.seq):=hSn.tab _ x (wY P s' (s2++RR) x y HP.out) 8 _ rfl;have qy0:wn.cell? ⟨b,o+(jk+1) * 9,none⟩ = some (.string y.name):=hSn.tab _ y (wZ P s' (s2++RR) x y HP.out) 0 _ rfl;have qy1:wn.cell? ⟨b,o+(jk+1) * 9+1,none⟩ = some (.slice y.la y.ln y.lc):=hSn.tab _ y (wZ P s' (s2++RR) x y HP.out) 1 _ rfl;have qy2:wn.cell? ⟨b,o+(jk+1) * 9+2,none⟩ = some (.int .i64 y.cpu):=hSn.tab _ y (wZ P s' (s2++RR) x y HP.out) 2 _ rfl;have qy3:wn.cell? ⟨b,o+(jk+1) * 9+3,none⟩ = some (.int .i64 y.mem):=hSn.tab _ y (wZ P s' (s2++RR) x y HP.out) 3 _ rfl;have qy4:wn.cell? ⟨b,o+(jk+1) * 9+4,none⟩ = some (.int .i64 y.rank):=hSn.tab _ y (wZ P s' (s2++RR) x y HP.out) 4 _ rfl;have qy5:wn.cell? ⟨b,o+(jk+1) * 9+5,none⟩ = some (.slice y.na y.nn y.nc):=hSn.tab _ y (wZ P s' (s2++RR) x y HP.out) 5 _ rfl;have qy6:wn.cell? ⟨b,o+(jk+1) * 9+6,none⟩ = some (.slice y.ta y.tn y.tc):=hSn.tab _ y (wZ P s' (s2++RR) x y HP.out) 6 _ rfl;have qy7:wn.cell? ⟨b,o+(jk+1) * 9+7,none⟩ = some (.string y.on):=hSn.tab _ y (wZ P s' (s2++RR) x y HP.out) 7 _ rfl;have qy8:wn.cell? ⟨b,o+(jk+1) * 9+8,none⟩ = some (.int .i64 y.seq):=hSn.tab _ y (wZ P s' (s2++RR) x y HP.out) 8 _ rfl;have qf:=hSn.plain.frozen;have ql:=hSn.plain.lt;have HSn:=I' hSn;have HCV:=I' hcv;clear hSn hcv;go_region
       go_wp2;have h2:=HSn.out.swap_ (fun _=>rfl) (wZ P s' (s2++RR) x y HP.out) (wY P s' (s2++RR) x y HP.out);rw [V7 P s' (s2++RR) x y HP.out] at h2;refine ⟨⟨s',x :: s2,jk,I' avz,rfl,I' (by rw [← HP.out,ha.out]),I' ?_,jJ.ext h2 (aA (aj _))⟩,by simp [intOf]⟩;intro z hz;rcases List.mem_cons.1 hz with rfl | hz
       ·exact HCV.out
       ·exact HY.out z hz
     | false =>
       go_wp2_with fail
       refine aF wr U' U' (aj _) ?_
       repeat (first
        | (apply aG
           case hw=>rfl
           simp only [Act.put,pz])
        | (apply aH
           case hw=>rfl
           case h =>exact Zaa4
           simp only [Act.put,pz]))
       refine aN ?_;intro wn hn;replace hn:=hn.out;go_wp2;have BI:OM (kS cv) y SS = (s'++[x])++y :: s2:=by have e1:SS = (s'++[x])++s2:=(by rw [HE.out];simp);rw [e1];exact alh HW.out (by rw [← e1];exact LJ.out) HY.out (.inr ⟨s',x,rfl,hcv⟩)
       refine ⟨⟨k+1,O',O',N',?_⟩,by simp [intOf];omega⟩;rw [Jf.out,BI,HRR.out];have h2:=HS.out.ext hn;simpa only [List.append_assoc,List.cons_append,List.nil_append] using h2
  ·have hkl:k = X.length:=O';subst hkl;rw [hm.out,List.take_length,List.drop_length,List.nil_append] at *;go_wp2;go_end0
   exact ⟨rfl,hS⟩
end
end Go.Proofs.YtkjeocdobidadaaGreat
